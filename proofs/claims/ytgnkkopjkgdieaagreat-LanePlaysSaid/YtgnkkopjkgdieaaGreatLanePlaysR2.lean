/- A part of the proof. -/
import Derived.Test.YtgnkkopjkgdieaaGreatLanePlaysR1
set_option linter.unusedVariables false
set_option linter.unusedSimpArgs false
set_option maxRecDepth 100000
set_option maxHeartbeats 4000000
namespace Go.Proofs.YtgnkkopjkgdieaaGreat
open Go Go.V
open _root_.Go.Proofs.Tryz IntKind
variable {w0 w:World} {I:HL} {R:SP}
attribute [local irreducible] wpList Code.wp wpQuiet Calls bodyPost Oper.wp wpS Nx gE YieldsIn
theorem tq {a0:(Option cO)} {p0:Value} {a1:Nat} {a2:aT} {M:Value} (c4:Rd (cg .u8) R I M a2.Val) (b:St w0 w I [cE cI p0 a0] R) {r:((Option cO))} (c:hH a0 a1 a2=some r) :
  Calls prog 123 #[p0,F6 a1,.agg #[U6 a2.Epoch,U6 a2.Index,.bool a2.Del,M]] w fun e w'=>∃ (I':HL),e = .returned (.tuple #[])∧I.le I'∧St w0 w' I' [cE cI p0 r] R:=by {
 rcases a0 with _ | K
 {
 dsimp only [hH] at c
 cases c
}
 {
 replace b:=bD b
 dsimp only [hH] at c
 refine c0 func123 z ntmps123 ?_
 have C:=HL.le.refl I
 refine ww ?_
 obtain ⟨j,h8,c5,c6,b⟩:=b.box [U6 a2.Epoch,U6 a2.Index,.bool a2.Del,M] 214
 refine wa c5 c6 (nt (wp_seq (ww (mv (p0) z ?_))))
 obtain ⟨k,h9,rfl,c7⟩:=ef b.ab
 have b:=c7
 refine mk (.bool false) (nt (bT z (wp_skip (tn (ww (mf z underlying214 z sizeOf22 (ml z isAgg22 (b.bc2 z) ?_)))))))
 obtain ⟨c8,c9,c⟩:=bn c
 refine wc call143 [M] z z z (kcb (jg (c4.mono (cy _)) b.to0 c9) fun b1 i0 b=>?_)
 replace b:=b.of1
 refine mf z underlying214 z sizeOf22 ?_
 replace b:=b.ap
 refine b1k b1 b z (oS b.sv1) sizeOf22 fun i1 b=>nt ?_
 obtain ⟨i2,c,b2⟩:=bn c
 refine cQ (fun a w=>∃ (q:(List Int)) (g:Value),(lB a1 K a2) q=some r∧fz 93 [0,1,5] [Pt k 0,F6 a1,Pt j 0] a∧St w0 w I [cI (Pt k 0) K,cells j [U6 a2.Epoch,U6 a2.Index,.bool a2.Del,g],aZ (cg .u8) g q] R) ?_ ?_
 {
 refine ww (mf z underlying214 z sizeOf4 (ml z isAgg4 (b.bc0 z) (nt (bw c z ?_ ?_))))
 {
 intro d0 c
 refine wrl (mf z underlying214 z sizeOf22 (byk (.slice none 0 0) b z sizeOf22 (oC z oN) fun i3 b=>nt ?_))
 cases c
 exact ⟨([]),Zs,b2,fy z,(cM (Pt k 0) K (b.aX (cg .u8)).aY.aY z).ab.ay.ay.dC⟩
}
 {
 intro d0 c
 refine wp_skip (tn ?_)
 cases c
 exact ⟨c8,b1,b2,fy z,(cM (Pt k 0) K b.ap.ap z).ay.ay.ay.dC⟩
}
}
 {
 rintro _ i4 ⟨q,g,c,⟨i5,rfl⟩,b⟩
 dsimp only [lB] at c
 refine ww (mp z (mv (F6 _) z ?_))
 obtain ⟨d1,d2,c⟩:=bn c
 refine wc call118 [F6 a1] z z z (kca (ez b.to0 d2) fun i6 b=>?_)
 replace b:=aJ b.of0
 obtain ⟨m,d3,c⟩:=bn c
 refine wc call146 [Pt k 0,U6 d1] z z z (kca (mx b.to1 d3) fun i7 b=>?_)
 replace b:=bD b.of1
 refine mv (.tuple #[I6 m.1,.bool m.2]) z (mi z (mb z (mi z (mb z (nt ?_)))))
 obtain ⟨i8,c,b3⟩:=bn c
 refine cQ (fun a w=>∃ (A:cO),(jE m a2 q) A=some r∧fz 93 [0,5,6] [Pt k 0,Pt j 0,I6 m.1] a∧St w0 w I [cI (Pt k 0) A,cells j [U6 a2.Epoch,U6 a2.Index,.bool a2.Del,g],aZ (cg .u8) g q] R) ?_ ?_
 {
 refine ww (mb z (mb z (nt (bw c z ?_ ?_))))
 {
 intro d4 c
 obtain ⟨i9,d5,Q,d6⟩:=ef b
 replace Q:=dF Q
 subst Q
 have b:=d6
 refine rg b 14 [0,0,2,6,14,0,0,64,192,448,1022,2047,4095,8191] [] mixed (sp 0 z z (sp 1 z z (sp 2 z z (sf 3 z z underlying201 z sizeOf199 (sl 4 z z isAgg199 (fun w b=>b.bc0 z) (si 5 z z (sz (F6 _) 6 z z (e1 7 z z fun w b=>?_))))))))
 obtain ⟨b4,d7,c⟩:=bn c
 refine wec call118 [F6 a1] z z (kca (ez b.to0 d7) fun j0 b=>?_)
 replace b:=b.of0
 refine wn [5,4,3,2,1,0] b (pz (pkr z z (fun w b=>ao z isAgg199 (b.bc0 z)) (pf z z underlying201 z sizeOf199 (pz (pz (pz bu)))))) (sk (.agg #[U6 b4,Zs]) 8 z (e1 9 z z fun w b=>?_))
 replace b:=b.aX cm
 obtain ⟨b5,d8,d9,e0,b⟩:=b.Dd (N:=cj) (x:=({rank:=b4,l:=[]}:bR)) 240
 refine bS (v:=(.slice (some ⟨b5,0,none⟩) 1 1)) (w':=d8) z (di (by kernel_rfl) d9 e0) (wn [5,4,3,2,1,0] b (pz (pkr z z (fun w b=>ao z isAgg199 (b.bc1 z)) (pf z z underlying201 z sizeOf199 (pz (pz (pz bu)))))) (e1 10 z z fun w b=>?_))
 replace b:=b.ay
 obtain ⟨e2,e3,c⟩:=bn c
 refine wec call183 [d5,I6 m.1,(.slice (some ⟨b5,0,none⟩) 1 1)] z z (kcb (mL b.to2 e3) fun e4 j1 b=>?_)
 replace b:=b.of1
 refine wn [0] b (pz bu) (sp 11 z z (sf 12 z z underlying201 z sizeOf199 (e1 13 z z fun w b=>?_)))
 replace b:=b.ab
 refine b1e e4 b z (oS (b.pN 1 z)) sizeOf199 fun j2 b=>w0n b (bi ?_)
 intro w b
 refine tn ?_
 cases c
 exact ⟨_,b3,fy z,(cM (Pt k 0) (({rows:=e2}:cO)) b.ab.ab z).ay.ay.ay.dC⟩
}
 {
 intro d4 c
 refine wp_skip (tn ?_)
 cases c
 exact ⟨K,b3,fy z,b.ay.ay.ay.dC⟩
}
}
 {
 rintro _ j3 ⟨A,c,⟨j4,rfl⟩,b⟩
 dsimp only [jE] at c
 refine ww (mp z ?_)
 obtain ⟨j5,D,S,e5⟩:=ef b
 replace S:=dF S
 subst S
 have b:=e5
 refine mp z (mf z underlying201 z sizeOf199 (ml z isAgg199 (b.bc0 z) (mi z ?_)))
 obtain ⟨s,e6,c⟩:=bn c
 obtain ⟨b6,b7,L⟩:=aK e6
 refine mz (az z z underlying199 sizeOf240 (b.pN 1 z) b6 b7) (mz (aR z underlying240 z sizeOf238 z) ?_)
 replace b:=b.ab
 obtain ⟨p,b⟩:=b.tL L
 refine ml z isAgg238 ((b.xt (N:=cj) (i:=m.1.toNat) 1 z L) 1 _ z) ?_
 obtain ⟨u,j6,e7,e8,b⟩:=b.box [Zs] 238
 refine wa e7 e8 (b1k p b z (oS b.sv1) sizeOf238 fun j7 b=>nt (ww (ml z isAgg238 (b.bc0 z) (mz (bW z underlying238 b.sv1) (mk (.func (.func 184) #[] #[Pt u 0,Pt j 0]) ?_)))))
 obtain ⟨b8,e9,c⟩:=bn c
 refine de z z (dE call179 (caps:=[]) z (vs:=[I6 ((s.l).length:Int),.func (.func 184) #[] #[Pt u 0,Pt j 0]]) z) (Calls.mono (show Calls prog 179 #[I6 ((s.l).length:Int),.func (.func 184) #[] #[Pt u 0,Pt j 0]] _ (fun e w'=>∃ (G:Int),G=b8∧e = .returned (.int .i64 G)∧St w0 w' I [cells k [D],aZ cm p s.l,qi cj D A.rows m.1.toNat p,cells j [U6 a2.Epoch,U6 a2.Index,.bool a2.Del,g],aZ (cg .u8) g q,cells u [p]] R) from ?_) ?_)
 {
 clear c; have c:=e9
 refine c0 func179 z ntmps179 (ww (mi z (nt (ww (mi z (mi z (mi z (nt (wp_seq (wp_block ?_))))))))))
 obtain ⟨f0,c⟩:=aS c
 refine bf (fun n a w=>∃ (B:Int) (F:Int),cP (ic s a2) n (B,F)=some b8∧fz 26 [1,5,6] [.func (.func 184) #[] #[Pt u 0,Pt j 0],I6 B,I6 F] a∧St w0 w I [cells u [p],aZ cm p s.l,qi cj D A.rows m.1.toNat p,cells k [D],cells j [U6 a2.Epoch,U6 a2.Index,.bool a2.Del,g],aZ (cg .u8) g q] R) f0 ⟨0,((s.l).length:Int),c,fy z,b⟩ ?_
 rintro j8 _ j9 ⟨B,F,c,⟨k0,rfl⟩,b⟩
 obtain ⟨k1,k2,rfl,c,T⟩:=aV c
 dsimp only [ic] at c
 refine wp_seq (ww (mi z (mi z (mb z (nt (bw c z ?_ ?_))))))
 {
 intro f1 c
 refine wp_skip (tn (wp_block (ww (mi z (mi z (mi z (mk (.int .u64 (u64.wrap (i64.wrap (B+F)))) (mi (tP (by decide) z z) (mk (.int .i64 (i64.wrap (iI .u64 (u64.wrap (i64.wrap (B+F))) 1))) (mi z (nt (ww (mv (.func (.func 184) #[] #[Pt u 0,Pt j 0]) z (mi z ?_))))))))))))))
 obtain ⟨f2,f3,c⟩:=bn c
 refine de z z (dE call184 (caps:=[Pt u 0,Pt j 0]) z (vs:=[I6 (i64.wrap (iI .u64 (u64.wrap (i64.wrap (B+F))) 1))]) z) (Calls.mono (show Calls prog 184 #[I6 (i64.wrap (iI .u64 (u64.wrap (i64.wrap (B+F))) 1)),Pt u 0,Pt j 0] _ (fun e w'=>∃ (U:Bool),U=f2∧e = .returned (.bool U)∧St w0 w' I [cells k [D],aZ cm p s.l,qi cj D A.rows m.1.toNat p,cells j [U6 a2.Epoch,U6 a2.Index,.bool a2.Del,g],aZ (cg .u8) g q,cells u [p]] R) from ?_) ?_)
 {
 clear c; have c:=f3
 refine c0 func184 z ntmps184 (ww (mb z (nt (wp_seq ?_))))
 replace b:=b.ab
 obtain ⟨k3,V,b⟩:=b.cx
 refine rg b 11 [0,0,3,7,0,16,0,64,255,511,1023] [] mixed (sl 0 z z isAgg238 (fun w b=>b.bc1 z) (si 1 z z ?_))
 obtain ⟨J,f4,c⟩:=bn c
 obtain ⟨f5,f6,f7⟩:=aK f4
 refine sh _ 2 z (fun w b=>az z z underlying238 sizeOf214 (b.rsv 0 z V) f5 f6) ?_
 obtain ⟨k4,f8,f9⟩:=bz.get V f7
 obtain ⟨b9,rfl,g0,-⟩:=f9
 refine sh _ 3 z (fun w b=>av (cs:=[U6 J.Epoch,U6 J.Index,.bool J.Del,b9]) z isAgg214 sizeOf214 (dO (o:=0) (b.uJ 0 z f8) z)) (sf 4 z z underlying214 z sizeOf26 (sl 5 z z isAgg26 (fun w b=>b.bc4 z) (sf 6 z z underlying214 z sizeOf26 (sl 7 z z isAgg26 (fun w b=>b.bc4 z) (e1 8 z z fun w b=>?_)))))
 obtain ⟨g1,g2,c⟩:=bn c
 refine wec call185 [.agg #[U6 J.Epoch,U6 J.Index,.bool J.Del,b9],U6 a2.Epoch,U6 a2.Index] z z (kca (vj (g0.mono cz) b.to0 g2) fun k5 b=>?_)
 replace b:=b.of0
 refine w0n b (sb 9 z z (sb 10 z z (bi ?_)))
 intro w b
 replace b:=b.ba V
 refine tn (wp_ret (aU [.bool (!g1)] results184 (rc z ah) ?_))
 cases c
 exact ⟨_,z,z,b.ab.aW.aW.aY.aY.aW.km⟩
}
 rintro _ k6 ⟨U,rfl,rfl,b⟩
 refine ⟨_,z,?_⟩
 try dsimp only at c
 refine mb z (nt (bw c z ?_ ?_))
 {
 intro g3 c
 refine wrl (mi z (mi z (mi z (dk (bB (tn ?_))))))
 cases c
 exact ⟨_,nls,_,F,T,fy z,b.aY.aY.ay.aY.aY.aW.km⟩
}
 {
 intro g3 c
 refine wrl (mi z (mi z (dk (bB (tn ?_)))))
 cases c
 exact ⟨_,nls,B,_,T,fy z,b.aY.aY.ay.aY.aY.aW.km⟩
}
}
 {
 intro f1 c
 refine wp_exit (aQ (aQ ?_))
 replace c:=bg c T
 refine cZ (tn (ww (mi z (mi z (nt (wp_ret (aU [I6 B] results179 (rc z ah) ?_)))))))
 obtain rfl:=sj c
 exact ⟨B,z,z,b.aW.aW.aY.aY.aW.km⟩
}
}
 rintro _ k7 ⟨G,rfl,rfl,b⟩
 refine ⟨_,z,?_⟩
 try dsimp only at c
 refine mi z (nt ?_)
 obtain ⟨k8,c,O⟩:=dY c
 refine cQ (fun a w=>∃ (I598:HL),(jM s G a2 q A m) ()=some r∧fz 93 [0,5,6,8,9] [Pt k 0,Pt j 0,I6 m.1,Pt u 0,I6 G] a∧I.le I598∧St w0 w I598 [cells k [D],aZ cm p s.l,qi cj D A.rows m.1.toNat p,cells j [U6 a2.Epoch,U6 a2.Index,.bool a2.Del,g],aZ (cg .u8) g q,cells u [p]] R) ?_ ?_
 {
 have W:=HL.le.refl I
 refine wp_seq ?_
 replace b:=b.ab
 obtain ⟨k9,H,b⟩:=b.cx
 refine dL b mixed (by kernel_rfl) (qz (I6 _) z (qh _ (fun w b=>ao z isAgg238 (b.bc5 z)) (qh _ (fun w b=>bW z underlying238 (b.rsv 0 z H)) (qz (.bool _) z (qz (.bool _) z (bs c ?_ ?_))))))
 {
 intro d c
 refine qg _ d (fun w b=>ao z isAgg238 (b.bc5 z)) (qgz (I6 _) d z ?_)
 obtain ⟨l0,g4,c⟩:=bn c
 obtain ⟨X,Y,Z⟩:=aK g4
 refine qg _ d (fun w b=>az z z underlying238 sizeOf214 (b.rsv 0 z H) X Y) (qg _ d (fun w b=>aR z underlying214 z sizeOf26 z) ?_)
 obtain ⟨l1,c1,g5⟩:=bz.get H Z
 obtain ⟨l2,rfl,l3,-⟩:=g5
 refine qg _ d (fun w b=>ao z isAgg26 ((b.uJ 0 z c1) 0 _ z)) (qg _ d (fun w b=>aO z underlying214 z sizeOf26 z) (qg _ d (fun w b=>ao z isAgg26 (b.bc3 z)) (qgz (.bool _) d z (qh (.bool _) (fun w b=>aM d z z) (qz (.bool _) z (bs c ?_ ?_))))))
 {
 intro f c
 refine qg _ f (fun w b=>ao z isAgg238 (b.bc5 z)) (qgz (I6 _) f z (qg _ f (fun w b=>az z z underlying238 sizeOf214 (b.rsv 0 z H) X Y) (qg _ f (fun w b=>aR z underlying214 z sizeOf26 z) (qg _ f (fun w b=>ao z isAgg26 ((b.uJ 0 z c1) 1 _ z)) (qg _ f (fun w b=>aO z underlying214 z sizeOf26 z) (qg _ f (fun w b=>ao z isAgg26 (b.bc3 z)) (qgz (.bool _) f z (qh (.bool _) (fun w b=>aM f z z) (fK ?_)))))))))
 intro w b
 replace b:=b.ba H
 refine tn (bw c z ?_ ?_)
 {
 intro g6 c
 refine ww (ml z isAgg238 (b.bc5 z) (mi z (mz (av (cs:=[U6 a2.Epoch,U6 a2.Index,.bool a2.Del,g]) z isAgg214 sizeOf214 (b.rU 0 z)) (mz (az z z underlying238 sizeOf214 b.sv0 X Y) ?_))))
 obtain ⟨l4,g7,l5⟩:=b.og0 Z
 obtain ⟨l6,rfl,l7,-⟩:=g7
 replace b:=b.aY
 obtain ⟨I591,g8,b0,b⟩:=b.cK
 replace C:=C.trans g8
 obtain ⟨l8,g9,b⟩:=b.nW (P:=prog) (t:=214) (y:=({a2 with Val:=q}:aT)) Z 0 (.agg #[U6 a2.Epoch,U6 a2.Index,.bool a2.Del,g]) sizeOf214 (Nat.le_of_ble_eq_true z) (oJ 3 z (oC (oS (ag b0)) oN)) (fun cs h=>⟨_,uL (cm.len h) z,b0,oS (ag b0)⟩)
 refine ub z z (oa g9) (nt (wp_ret (aI ?_)))
 replace c:=bg c O
 cases c
 exact aU [] results123 ah ⟨_,z,C,(aJ (cM (Pt k 0) (({rows:=(A.rows.set m.1.toNat ({rank:=s.rank,l:=(s.l.set G.toNat ({a2 with Val:=q}:aT))}:bR))}:cO)) (St.tt (N:=cj) b.ay.ab L).ab z)).bo⟩
}
 {
 intro g6 c
 refine wp_skip (tn ?_)
 cases c
 exact ⟨_,O,fy z,W,b.aW.aW.aW.aW.aY.aW.km⟩
}
}
 {
 intro f c
 refine qo f (qo f (qo f (qo f (qo f (qo f (qo f (qo f (qh (.bool _) (fun w b=>aE f z z) (fK ?_)))))))))
 intro w b
 replace b:=b.ba H
 refine tn (bT z (wp_skip (tn ?_)))
 cases c
 exact ⟨_,O,fy z,W,b.aW.aW.aW.aW.aY.aW.km⟩
}
}
 {
 intro d c
 refine qo d (qo d (qo d (qo d (qo d (qo d (qo d (qo d (qh (.bool _) (fun w b=>aE d z z) (qz (.bool _) z (qW ((ar z z z z).trans z) z (qW ((ar z z z z).trans z) z (qW ((ar z z z z).trans z) z (qW ((ar z z z z).trans z) z (qW ((ar z z z z).trans z) z (qW ((ar z z z z).trans z) z (qW ((ar z z z z).trans z) z (qW ((ar z z z z).trans z) z (qh (.bool _) (fun w b=>aE z z z) (fK ?_)))))))))))))))))))
 intro w b
 replace b:=b.ba H
 refine tn (bT z (wp_skip (tn ?_)))
 cases c
 exact ⟨_,O,fy z,W,b.aW.aW.aW.aW.aY.aW.km⟩
}
}
 {
 rintro _ l9 ⟨I598,c,⟨m0,rfl⟩,h0,b⟩
 dsimp only [jM] at c
 replace C:=C.trans h0
 refine rg b 13 [0,1,3,7,0,0,0,0,128,480,1023,2047,4095] [] mixed (sp 0 z z (sp 1 z z (sf 2 z z underlying201 z sizeOf199 (sl 3 z z isAgg199 (fun w b=>b.bc0 z) (si 4 z z (sl 5 z z isAgg238 (fun w b=>b.bc5 z) (si 6 z z (sh _ 7 z (fun w b=>av (cs:=[U6 a2.Epoch,U6 a2.Index,.bool a2.Del,g]) z isAgg214 sizeOf214 (b.rU 0 z)) (e1 8 z z fun w b=>?_)))))))))
 replace b:=b.aY
 obtain ⟨I606,h1,c2,b⟩:=b.cK
 replace C:=C.trans h1
 obtain ⟨c3,h2,h3,h4,b⟩:=b.er (E:=cm) (xs:=[({a2 with Val:=q}:aT)]) [[U6 a2.Epoch,U6 a2.Index,.bool a2.Del,g]] 214 1 z (bz.cons ⟨_,z,c2,oS (ag c2)⟩ bz.nil)
 refine bS (v:=(.slice (some ⟨c3,0,none⟩) 1 1)) (w':=h2) z (di (by kernel_rfl) h3 h4) (wn [6,5,4,3,2,1,0] b (pz (pkr z z (fun w b=>ao z isAgg238 (b.bc5 z)) (pz (pkr z z (fun w b=>ao z isAgg199 (b.bc1 z)) (pf z z underlying201 z sizeOf199 (pz (pz bu))))))) (e1 9 z z fun w b=>?_))
 replace b:=b.ay
 obtain ⟨h5,h6,c⟩:=bn c
 refine wec call186 [p,I6 G,(.slice (some ⟨c3,0,none⟩) 1 1)] z z (kcb (kr b.to2 h6) fun m1 m2 b=>?_)
 replace b:=b.of1
 refine wn [4,3,2,1,0] b (pz (pkr z z (fun w b=>ao z isAgg199 (b.bc1 z)) (pf z z underlying201 z sizeOf199 (pz (pz bu))))) (sh _ 10 z (fun w b=>az z z underlying199 sizeOf240 (b.BD 2 z) b6 b7) (sh _ 11 z (fun w b=>aR z underlying240 z sizeOf238 z) (e1 12 z z fun w b=>?_)))
 replace b:=b.ay
 obtain ⟨m3,h7,b⟩:=b.zf (P:=prog) (t:=238) L b.sv1 sizeOf238
 refine qf z (oa h7) (w0n b (bi ?_))
 intro w b
 replace b:=aJ (cM (Pt k 0) (({rows:=(A.rows.set m.1.toNat ({rank:=s.rank,l:=h5}:bR))}:cO)) (St.tt (N:=cj) b.ab L).ab z)
 cases c
 exact vn (vs:=[]) results123 ah ⟨_,z,C,b.bo⟩
}
}
}
}
}
theorem ru {a0:(Option ae)} {p0:Value} {a1:aC} {i j k l g m p q:Value} (c5:Rd bV R I i a1.Hold.Gets) (c6:Rd gn R I j a1.Hold.Scans) (c7:Rd bV R I k a1.Hold.Puts) (c8:Rd (cg .u8) R I l a1.Hold.Data) (s:Rd cG R I g a1.Writes) (c9:Rd aA R I m a1.R.Gots) (d0:Rd (dG aw) R I p a1.R.Scans) (d1:Rd cJ R I q a1.Parts) (b:St w0 w I [cE aD p0 a0] R) {r:(bh×(Option ae))} (c:iq a0 a1=some r) :
  Calls prog 49 #[p0,.agg #[U1 a1.Kind,U6 a1.ID.Session,U6 a1.ID.Seq,U6 a1.Epoch,U6 a1.Index,I6 a1.E,U6 a1.Hold.ID.Session,U6 a1.Hold.ID.Seq,U6 a1.Hold.Epoch,i,j,k,l,g,I6 a1.R.E,U6 a1.R.Epoch,U6 a1.R.Index,m,p,U6 a1.Shards,q,U6 a1.Rule.ID,I6 a1.Rule.From,I6 a1.Rule.To,F6 a1.Rule.Lo,F6 a1.Rule.Hi,U6 a1.Rule.Authority,I6 a1.Rule.Quota,.bool a1.On]] w fun e w'=>∃ (I':HL) (L:Value) (M:Value),e = .returned (.agg #[U1 r.1.Kind,U6 r.1.ID.Session,U6 r.1.ID.Seq,I6 r.1.R.E,U6 r.1.R.Epoch,U6 r.1.R.Index,L,M])∧I.le I'∧St w0 w' I' [aZ aA L r.1.R.Gots,aZ (dG aw) M r.1.R.Scans,cE aD p0 r.2] R:=by {
 rcases a0 with _ | x
 {
 dsimp only [iq] at c
 cases c
}
 {
 replace b:=bD b
 dsimp only [iq] at c
 refine c0 func49 z ntmps49 ?_
 have D:=HL.le.refl I
 refine ww ?_
 obtain ⟨y,d2,O,P,b⟩:=b.box [U1 a1.Kind,U6 a1.ID.Session,U6 a1.ID.Seq,U6 a1.Epoch,U6 a1.Index,I6 a1.E,U6 a1.Hold.ID.Session,U6 a1.Hold.ID.Seq,U6 a1.Hold.Epoch,i,j,k,l,g,I6 a1.R.E,U6 a1.R.Epoch,U6 a1.R.Index,m,p,U6 a1.Shards,q,U6 a1.Rule.ID,I6 a1.Rule.From,I6 a1.Rule.To,F6 a1.Rule.Lo,F6 a1.Rule.Hi,U6 a1.Rule.Authority,I6 a1.Rule.Quota,.bool a1.On] 49
 refine wa O P ?_
 obtain ⟨A,d3,Q,S,b⟩:=b.box [Zb,Zu,Zu,Zi,Zu,Zu,Zs,Zs] 35
 refine wa Q S (nt ?_)
 obtain ⟨T,c,F⟩:=bn c
 refine cQ (fun a w=>∃ (I459:HL) (G:ae),(lR a1) G=some r∧fz 46 [3,4] [Pt y 0,Pt A 0] a∧I.le I459∧St w0 w I459 [cells y [U1 a1.Kind,U6 a1.ID.Session,U6 a1.ID.Seq,U6 a1.Epoch,U6 a1.Index,I6 a1.E,U6 a1.Hold.ID.Session,U6 a1.Hold.ID.Seq,U6 a1.Hold.Epoch,i,j,k,l,g,I6 a1.R.E,U6 a1.R.Epoch,U6 a1.R.Index,m,p,U6 a1.Shards,q,U6 a1.Rule.ID,I6 a1.Rule.From,I6 a1.Rule.To,F6 a1.Rule.Lo,F6 a1.Rule.Hi,U6 a1.Rule.Authority,I6 a1.Rule.Quota,.bool a1.On],cells A [Zb,Zu,Zu,Zi,Zu,Zu,Zs,Zs],aD p0 G] R) ?_ ?_
 {
 have t:=HL.le.refl I
 refine wp_seq ?_
 obtain ⟨h,d4,U,d5,d6,d7,d8,d9,rfl,V⟩:=bc b.ay
 have b:=V
 refine rg b 12 [0,1,3,7,0,16,63,127,255,511,1023,2047] [] mixed (sp 0 z z (sp 1 z z (sf 2 z z underlying111 z sizeOf103 (sl 3 z z isAgg103 (fun w b=>b.bc0 z) (sf 4 z z underlying49 z sizeOf28 (sh _ 5 z (fun w b=>av (cs:=[U6 a1.ID.Session,U6 a1.ID.Seq]) z isAgg28 sizeOf28 (b.vR 1 z)) (e1 6 z z fun w b=>?_)))))))
 replace b:=b.ay
 obtain ⟨B,W,c⟩:=bn c
 refine wec call122 [U,.agg #[U6 a1.ID.Session,U6 a1.ID.Seq]] z z (kca (sn b.to1 W) fun e0 b=>?_)
 replace b:=b.of1
 refine w0n b (sb 7 z z (bs c ?_ ?_))
 {
 intro d c
 refine sg _ 8 z d (fun w b=>aO z underlying49 z sizeOf29 z) (sg _ 9 z d (fun w b=>ao z isAgg29 (b.bc9 z)) (sgz (.bool _) 10 z d z (sh (.bool _) 11 z (fun w b=>aM d z z) (bi ?_))))
 intro w b
 refine tn (bw c z ?_ ?_)
 {
 intro X c
 refine ww (mf z underlying49 z sizeOf42 (ml z isAgg42 (b.bc9 z) (mz (bW z underlying42 (au s)) (mi z (nt (wp_block ?_))))))
 replace b:=aq (Pt h 0) (({x with locks:=B.2}:ae)) b.aG.aG.aG.aG.aG.aW.aG.aG z
 obtain ⟨Y,c⟩:=aS c
 refine bf (fun n a w=>∃ (I407:HL) (u:ae) (H:Int),cP (eQ a1) n (u,H)=some T∧fz 46 [0,3,4,20,21,22] [Pt h 0,Pt y 0,Pt A 0,g,I6 ((a1.Writes).length:Int),I6 H] a∧I.le I407∧St w0 w I407 [aD (Pt h 0) u,cells A [Zb,Zu,Zu,Zi,Zu,Zu,Zs,Zs],cells y [U1 a1.Kind,U6 a1.ID.Session,U6 a1.ID.Seq,U6 a1.Epoch,U6 a1.Index,I6 a1.E,U6 a1.Hold.ID.Session,U6 a1.Hold.ID.Seq,U6 a1.Hold.Epoch,i,j,k,l,g,I6 a1.R.E,U6 a1.R.Epoch,U6 a1.R.Index,m,p,U6 a1.Shards,q,U6 a1.Rule.ID,I6 a1.Rule.From,I6 a1.Rule.To,F6 a1.Rule.Lo,F6 a1.Rule.Hi,U6 a1.Rule.Authority,I6 a1.Rule.Quota,.bool a1.On]] R) Y ⟨_,({x with locks:=B.2}:ae),0,c,fy z,lr,b⟩ ?_
 rintro e2 _ e3 ⟨I407,u,H,c,⟨e4,rfl⟩,v,b⟩
 obtain ⟨e5,e6,rfl,c,N⟩:=aV c
 dsimp only [eQ] at c
 replace s:=s.mono (nj v)
 replace t:=t.trans v
 refine ww (mb z (nt (wp_seq (bw c z ?_ ?_))))
 {
 intro Z c
 refine wp_skip (tn (wp_seq (wp_block (ww ?_))))
 obtain ⟨f,b0,c⟩:=bn c
 obtain ⟨b1,b2,b3⟩:=aK b0
 refine mz (az z z underlying42 sizeOf41 (au s) b1 b2) ?_
 obtain ⟨e7,b4,b5⟩:=Rd.jV s b3
 obtain ⟨C,rfl,J,-⟩:=b4
 refine mz (av (cs:=[F6 f.At,.bool f.Del,C]) z isAgg41 sizeOf41 (dO (o:=0) (b5 lr b) z)) ?_
 obtain ⟨e8,e9,b6,b7,b⟩:=b.box [Zf,.bool false,Zs] 41
 refine wa b6 b7 (bxk b z sizeOf41 (oJ 2 z (oC (oS (au J)) oN)) fun f0 b=>nt ?_)
 obtain ⟨f1,b8,f2,f3,f4,f5,f6,f7,K,b9⟩:=bc b.ab
 replace K:=dF K
 subst K
 have b:=b9
 refine rg b 16 [0,1,3,7,0,16,0,64,0,256,0,1024,0,4096,16320,32767] [] mixed (sp 0 z z (sp 1 z z (sf 2 z z underlying111 z sizeOf101 (sl 3 z z isAgg101 (fun w b=>b.bc0 z) (sf 4 z z underlying41 z sizeOf37 (sl 5 z z isAgg37 (fun w b=>b.bc8 z) (sf 6 z z underlying49 z sizeOf26 (sl 7 z z isAgg26 (fun w b=>b.uz z) (sf 8 z z underlying49 z sizeOf26 (sl 9 z z isAgg26 (fun w b=>b.uz z) (sf 10 z z underlying41 z sizeOf4 (sl 11 z z isAgg4 (fun w b=>b.bc8 z) (sf 12 z z underlying41 z sizeOf22 (wsr (C) 13 rfl rfl rfl (by kernel_rfl) (fun w b=>ao rfl isAgg22 (b.bc8 rfl)) (wsr (.agg #[U6 a1.Epoch,U6 a1.Index,.bool f.Del,C]) 14 rfl rfl rfl (by kernel_rfl) (fun w b=>by obtain ⟨_,_,hv_,_⟩:=(au J); rw [hv_]; kernel_rfl) (e1 15 z z fun w b=>?_))))))))))))))))
 replace b:=b.ab
 obtain ⟨c1,c2,c⟩:=bn c
 refine wec call123 [b8,F6 f.At,.agg #[U6 a1.Epoch,U6 a1.Index,.bool f.Del,C]] z z ((tq (a2:=({a1 with Del:=f.Del,Val:=f.Val}:aT)) (J.mono (cy _)) b.to1 c2).mono ?_)
 rintro _ f8 ⟨I456,rfl,c3,b⟩
 refine ⟨_,z,?_⟩
 replace b:=b.of1
 replace v:=v.trans c3
 refine w0n b (bi ?_)
 intro w b
 refine bB (tn (wrl (mi z (mi z (nt ?_)))))
 cases c
 exact ⟨_,nls,_,_,_,N,fy z,v,(aq (Pt h 0) (({u with store:=c1}:ae)) b.aG.aG.aG.aG.aG.aG.cV.aG z).ap.ap.ay.dC⟩
}
 {
 intro Z c
 refine wp_exit (aQ (aQ ?_))
 replace c:=bg c N
 refine cZ (tn ?_)
 obtain rfl:=sj c
 exact ⟨_,u,F,fy z,t,b.ab.ay.dC⟩
}
}
 {
 intro X c
 refine wp_skip (tn ?_)
 cases c
 exact ⟨_,_,F,fy z,t,(aq (Pt h 0) (({x with locks:=B.2}:ae)) b.aG.aG.aG.aG.aG.aW.aG.aG z).ab.ay.dC⟩
}
}
 {
 intro d c
 refine so 8 z d (so 9 z d (so 10 z d (sh (.bool _) 11 z (fun w b=>aE d z z) (bi ?_))))
 intro w b
 refine tn (bT z (wp_skip (tn ?_)))
 cases c
 exact ⟨_,_,F,fy z,t,(aq (Pt h 0) (({x with locks:=B.2}:ae)) b.aG.aG.aG.aG.aG.aW.aG.aG z).ab.ay.dC⟩
}
}
 {
 rintro _ f9 ⟨I459,G,c,⟨g0,rfl⟩,c4,b⟩
 dsimp only [lR] at c
 replace D:=D.trans c4
 refine ww (mf z underlying49 z sizeOf28 (mz (av (cs:=[U6 a1.ID.Session,U6 a1.ID.Seq]) z isAgg28 sizeOf28 (b.eD 1 z)) (mk (.agg #[U1 3,U6 a1.ID.Session,U6 a1.ID.Seq,Zi,Zu,Zu,Zs,Zs]) ?_)))
 replace b:=b.ab
 refine bxk b z sizeOf35 (oJ 8 z oN) fun g1 b=>nt (wp_ret ?_)
 replace b:=aJ (((b.aX aA).aX (dG aw)).aY)
 cases c
 exact aU [.agg #[U1 3,U6 a1.ID.Session,U6 a1.ID.Seq,Zi,Zu,Zu,Zs,Zs]] results49 (bj (bF (cs:=[U1 3,U6 a1.ID.Session,U6 a1.ID.Seq,Zi,Zu,Zu,Zs,Zs]) z isAgg35 sizeOf35 (b.rU 0 z)) ah) ⟨_,Zs,Zs,z,D,b.ab.ay.dC⟩
}
}
}
theorem mM {a0:aN} {c d:Value} {a1:Int} (j:Rd aA R I c a0.r.Gots) (k:Rd (dG aw) R I d a0.r.Scans) (a:St w0 w I [] R) {r:(Int)} (b:fH a0 a1=some r) :
  Calls prog 201 #[.agg #[U6 a0.session,U6 a0.seq,I6 a0.r.E,U6 a0.r.Epoch,U6 a0.r.Index,c,d],U6 a1] w fun e w'=>e = .returned (.int .i64 r)∧St w0 w' I [] R:=by {
 unfold fH at b
 refine c0 func201 z ntmps201 (ww ?_)
 obtain ⟨l,m,f,g,a⟩:=a.box [U6 a0.session,U6 a0.seq,I6 a0.r.E,U6 a0.r.Epoch,U6 a0.r.Index,c,d] 242
 refine wa f g (mi z (nt (ww (mf z underlying242 z sizeOf26 (ml z isAgg26 (a.bc0 z) (mi z ?_))))))
 obtain ⟨h,i,b⟩:=bn b
 refine wc call131 [U6 a0.session,U6 a1] z z z (kca (eX a.to0 i) fun n a=>?_)
 replace a:=a.of0
 refine mi z (nt (wp_ret ?_))
 obtain rfl:=sj b
 exact aU [I6 h] results201 (rc z ah) ⟨z,a.bQ⟩
}
theorem kL {a0:(Option ck)} {p0:Value} {a1:Int} (c:St w0 w I [cE ca p0 a0] R) {r:(Int×Bool)} (b:eP a0 a1=some r) :
  Calls prog 148 #[p0,U6 a1] w fun e w'=>e = .returned (.tuple #[I6 r.1,.bool r.2])∧St w0 w' I [cE ca p0 a0] R:=by {
 rcases a0 with _ | i
 {
 dsimp only [eP] at b
 cases b
}
 {
 replace c:=bD c
 dsimp only [eP] at b
 refine c0 func148 z ntmps148 (ww (mi z (mb z (nt (wp_seq (ww (mv (p0) z ?_)))))))
 obtain ⟨p,f,rfl,C⟩:=dH c
 have c:=C
 refine mk (.bool false) (nt (bT z (wp_skip (tn (ww (mp z (mp z (mf z underlying206 z sizeOf204 (ml z isAgg204 (c.bc0 z) (mi z ?_))))))))))
 obtain ⟨u,D,b⟩:=bn b
 refine de z z (dE call200 (caps:=[]) z (vs:=[f,U6 a1,.func (.func 201) #[] #[]]) z) (Calls.mono (show Calls prog 200 #[f,U6 a1,.func (.func 201) #[] #[]] _ (fun e w'=>∃ (q:Int) (s:Bool),(q,s)=u∧e = .returned (.tuple #[I6 q,.bool s])∧St w0 w' I [cells p [f],aZ cN f i.l] R) from ?_) ?_)
 {
 clear b; have b:=D
 refine c0 func200 z ntmps200 (ww (mi z (mb z (nt (ww (mv (f) z (mz (bW z underlying204 c.sv1) (mi z (nt (ww (mi z (mi z (mi z (nt ?_))))))))))))))
 obtain ⟨F,b,G⟩:=bn b
 refine cQ (fun a w=>∃ (j:Int),(jo i a1) j=some u∧fz 49 [0,1,2,8,9] [f,U6 a1,.func (.func 201) #[] #[],I6 ((i.l).length:Int),I6 j] a∧St w0 w I [aZ cN f i.l,cells p [f]] R) ?_ ?_
 {
 refine wp_block ?_
 obtain ⟨H,b⟩:=aS b
 refine bf (fun n a w=>∃ (m:Int) (k:Int),cP (fk i a1) n (m,k)=some F∧fz 49 [0,1,2,8,9,10] [f,U6 a1,.func (.func 201) #[] #[],I6 ((i.l).length:Int),I6 k,I6 m] a∧St w0 w I [cells p [f],aZ cN f i.l] R) H ⟨((i.l).length:Int),0,b,fy z,c⟩ ?_
 rintro b4 _ b5 ⟨m,k,b,⟨b6,rfl⟩,c⟩
 obtain ⟨b7,b8,rfl,b,t⟩:=aV b
 dsimp only [fk] at b
 refine wp_seq (ww (mi z (mi z (mb z (nt (bw b z ?_ ?_))))))
 {
 intro J b
 refine wp_skip (tn (wp_block (ww (mi z (mi z (mi z (mk (.int .u64 (u64.wrap (i64.wrap (k+m)))) (mi (tP (by decide) z z) (mk (.int .i64 (i64.wrap (iI .u64 (u64.wrap (i64.wrap (k+m))) 1))) (mi z (nt (ww (mv (.func (.func 201) #[] #[]) z (mv (f) z (mi z ?_)))))))))))))))
 obtain ⟨g,K,b⟩:=bn b
 obtain ⟨L,M,N⟩:=aK K
 refine mz (az z z underlying204 sizeOf242 c.sv1 L M) ?_
 obtain ⟨b9,O,P⟩:=c.og1 N
 obtain ⟨v,x,rfl,Q,S,-⟩:=O
 refine mz (av (cs:=[U6 g.session,U6 g.seq,I6 g.r.E,U6 g.r.Epoch,U6 g.r.Index,v,x]) z isAgg242 sizeOf242 (dO (o:=0) P z)) (mi z ?_)
 obtain ⟨c1,T,b⟩:=bn b
 refine de z z (dE call201 (caps:=[]) z (vs:=[.agg #[U6 g.session,U6 g.seq,I6 g.r.E,U6 g.r.Epoch,U6 g.r.Index,v,x],U6 a1]) z) (kca (mM (Q.mono cz) (S.mono cz) c.to0 T) fun c2 c=>?_)
 replace c:=c.of0
 refine mb z (nt (bw b z ?_ ?_))
 {
 intro U b
 refine wrl (mi z (mi z (mi z (dk (bB (tn ?_))))))
 cases b
 exact ⟨_,nls,m,_,t,fy z,c.ab.ab.cd⟩
}
 {
 intro U b
 refine wrl (mi z (mi z (dk (bB (tn ?_)))))
 cases b
 exact ⟨_,nls,_,k,t,fy z,c.ab.ab.cd⟩
}
}
 {
 intro J b
 refine wp_exit (aQ (aQ ?_))
 replace b:=bg b t
 refine cZ (tn ?_)
 obtain rfl:=sj b
 exact ⟨k,G,fy z,c.ab.cd⟩
}
}
 {
 rintro _ c3 ⟨j,b,⟨c4,rfl⟩,c⟩
 dsimp only [jo] at b
 refine ww (mi z (mi z (mi z (mb z (mb z (bs b ?_ ?_))))))
 {
 intro d b
 refine gv (.func (.func 201) #[] #[]) d z (gv (f) d z (gi d z ?_))
 obtain ⟨h,V,b⟩:=bn b
 obtain ⟨W,X,Y⟩:=aK V
 refine gg d (az z z underlying204 sizeOf242 c.sv0 W X) ?_
 obtain ⟨c5,Z,b0⟩:=c.og0 Y
 obtain ⟨y,A,rfl,b1,b2,-⟩:=Z
 refine gg d (av (cs:=[U6 h.session,U6 h.seq,I6 h.r.E,U6 h.r.Epoch,U6 h.r.Index,y,A]) z isAgg242 sizeOf242 (dO (o:=0) b0 z)) (gi d z ?_)
 obtain ⟨B,b3,b⟩:=bn b
 refine de ((ar z z z (cvb d)).trans z) z (dE call201 (caps:=[]) z (vs:=[.agg #[U6 h.session,U6 h.seq,I6 h.r.E,U6 h.r.Epoch,U6 h.r.Index,y,A],U6 a1]) z) (kca (mM (b1.mono cz) (b2.mono cz) c.to0 b3) fun c6 c=>?_)
 replace c:=c.of0
 refine gb d z (mb (aM d z z) (mi z (mb z (nt (wp_ret (aU [I6 j,.bool (B==0)] results200 (rc z (rc z ah)) ?_))))))
 cases b
 exact ⟨j,(B==0),z,z,c.ab.cd⟩
}
 {
 intro d b
 refine go d (go d (go d (go d (go d (go d (go d (go d (mb (aE d z z) (mi z (mb z (nt (wp_ret (aU [I6 j,.bool false] results200 (rc z (rc z ah)) ?_)))))))))))))
 cases b
 exact ⟨j,false,z,z,c.ab.cd⟩
}
}
}
 rintro _ c7 ⟨q,s,rfl,rfl,c⟩
 refine ⟨_,z,?_⟩
 try dsimp only at b
 refine mi z (mb z (mi z (mb z (nt (wp_ret ?_)))))
 cases b
 exact aU [I6 q,.bool s] results148 (rc z (rc z ah)) ⟨z,(aJ (cR (Pt p 0) i c.ab.ab z)).bo⟩
}
}
theorem kR {a0:(List aN)} {d:Value} {a1:Int} {a2:(List aN)} {g:Value} (c:St w0 w I [aZ cN d a0,aZ cN g a2] R) {r:(List aN)} (q:dS a0 a1 a2=some r) :
  Calls prog 187 #[d,I6 a1,g] w fun e w'=>∃ (x:Value),e = .returned (x)∧St w0 w' I [aZ cN x r] R:=by {
 unfold dS at q
 obtain ⟨hg,q⟩:=cw q
 cases q
 obtain ⟨A,S,hrm⟩:=qs hg
 obtain ⟨k,rfl⟩:=Int.eq_ofNat_of_zero_le A
 have hsm:=qG hrm
 have hk:k≤a0.length:=by omega
 have hs:∀ w:World,(sizeOf 242).run prog w = .ok cN.sz w:=sizeOf242
 have y:0<cN.sz:=Nat.le_of_ble_eq_true rfl
 have hov:∀ (args:Array Value) (w:World),(callFunc 209 args).run prog w=(Extern.SlicesOverlaps.overlaps #[204,204] #[4] args >>= fun v=>(pure (.value v):Sem Next)).run prog w:=by intro args w; kernel_rfl
 obtain ⟨css,hr,c⟩:=c.cx
 replace c:=c.ab
 obtain ⟨dss,hq,c⟩:=c.cx
 replace c:=c.ab
 obtain ⟨n,hn⟩:∃ n,css.length=n:=⟨_,rfl⟩
 obtain ⟨m,hm'⟩:∃ m,dss.length=m:=⟨_,rfl⟩
 have hln:a0.length=n:=hr.1.trans hn
 have hlm:a2.length=m:=hq.1.trans hm'
 rw [hln] at hsm hk
 rw [hlm] at hsm
 have hsv:dc d n:=by have:=c.cC.2; rwa [hn] at this
 have hsq:dc g m:=by have:=c.ab.cC.2; rwa [hm'] at this
 have hoc:=hr.tc
 have hoq:=hq.tc
 have s:=wrap_add (a:=n) (b:=m) (by omega)
 have t:=wrap_add (a:=k) (b:=m) (by omega)
 have B:=pE (a:=n+m) (b:=k) (by omega) (by omega)
 have hrb:=cF (b:=88) hrm rfl
 rw [hln,hlm] at hrb
 refine c0 func187 z ntmps187 (ww (mv ((.slice none 0 0)) z (nt (ww (mv (d) z (mi z (mv ((dh cN.sz d k n)) (cA (lo:=(k:Nat)) (hi:=(n:Nat)) underlying204 hs z hsv (by omega) (by omega) (by omega) .i64 .i64 (.inl z) (.inr ⟨z,z⟩)) (nt (ww (mv (g) z (mz (bW z underlying204 hsq) (mi z (nt (wp_seq (ww (mi z (mb z (nt (iB ((m:Int)==0) (fun j=>?_) (fun j=>?_))))))))))))))))))))
 {
 refine dq (cvb j) (ww (mv (d) z (mv (d) z (nt (wp_ret (aI (aU [d] results187 (rc z ah) ?_)))))))
 rw [sG (by rw [hlm]; exact j)]
 exact ⟨_,z,(c.ba hr).bo⟩
}
 {
 refine bT (cvb j) ?_
 have C:m≠0:=fun h=>by rw [h] at j; cases j
 have D:dss≠[]:=fun h=>C (by rw [← hm',h]; rfl)
 refine wp_skip (tn (ww (mv (d) z (mz (bW z underlying204 hsv) (mi z (nt (wp_seq (ww (mi z (mi z (mb z (nt (iB ((k:Int)==(n:Int)) (fun o=>?_) (fun o=>?_))))))))))))))
 {
 refine dq (cvb o) (ww (mv (d) z (mv (g) z ?_)))
 replace c:=((c.ba hr).ab.ba hq).ab
 obtain ⟨f,u,hra,c⟩:=bE yr underlying204 c c.jr (cF hrm z) 204
 refine bY (v:=f) (w':=u) z z (bU z z hra) (mv (f) z (nt (wp_ret (aI (aU [f] results187 (rc z ah) ?_)))))
 rw [sA (by rw [hln]; exact o)]
 exact ⟨_,z,c.bo⟩
}
 {
 refine bT (cvb o) ?_
 have hkn:k≠n:=fun h=>by rw [h] at o; simp at o
 have E:0<n:=by omega
 have F:css≠[]:=fun h=>by rw [h] at hn; simp at hn; omega
 refine wp_skip (tn (wp_seq (ww (mi z (mi z (mi (dv s z) (mv (d) z (mi (wS z underlying204 hsv) (mb z (nt (iB (decide (((n+m:Nat):Int)>(qM d:Int))) (fun p=>?_) (fun p=>?_))))))))))))
 {
 refine dq (cvb p) (ww (mv (d) z (mi z (mv ((dh cN.sz d 0 k)) (cA (lo:=(0:Nat)) (hi:=(k:Nat)) underlying204 hs z hsv (by omega) (by omega) (by omega) .i64 .i64 (.inr ⟨z,z⟩) (.inl z)) (mi z (mi z (mi (dv s z) (mi z (mi (dv B z) ?_)))))))))
 obtain ⟨f,u,hra,i,zss,hzl,c⟩:=qv yr underlying3 c k (n+m - k) (by omega) (by have:=of_decide_eq_true p; omega) (by rw [show k+(n+m - k)=n+m by omega]; exact hrb) y 204
 rw [show k+(n+m - k)=n+m by omega] at i
 refine bY (v:=f) (w':=u) z z (bU z z hra) (mv (f) z (nt (ww (mv (f) z (mi z (mv ((dh cN.sz f k (n+m))) (cA (lo:=(k:Nat)) (hi:=((n+m):Nat)) underlying204 hs z i (by omega) (by omega) (by omega) .i64 .i64 (.inl z) (.inr ⟨z,z⟩)) (mv (g) z ?_)))))))
 obtain ⟨G,H,c⟩:=dg (P:=prog) (t2:=204) (ty:=3) underlying204 hs c c.ay k m (N:=n+m) (by first | omega | (simp only [List.length_append,List.length_take,List.length_drop]; omega)) (by first | omega | (simp only [List.length_append,List.length_take,List.length_drop]; omega)) (by omega) (by first | omega | (simp only [List.length_append,List.length_take,List.length_drop]; omega)) (dT hoq _)
 refine bY (v:=.int .i64 (m:Nat)) (w':=G) z z (iD z z H) (nt (wp_seq (rg c 9 [0,0,0,6,15,0,0,96,255] [] mixed (sz (f) 0 z z (si 1 z z (si 2 z z (sh (I6 _) 3 z (fun w c=>dv t z) (sh ((dh cN.sz f (k+m) (n+m))) 4 z (fun w c=>cA (lo:=((k+m):Nat)) (hi:=((n+m):Nat)) underlying204 hs z i (by omega) (by omega) (by omega) .i64 .i64 (.inl z) (.inr ⟨z,z⟩)) (sz (d) 5 z z (si 6 z z (sh ((dh cN.sz d k n)) 7 z (fun w c=>cA (lo:=(k:Nat)) (hi:=(n:Nat)) underlying204 hs z hsv (by omega) (by omega) (by omega) .i64 .i64 (.inl z) (.inr ⟨z,z⟩)) (e1 8 z z fun w c=>?_))))))))))))
 obtain ⟨J,K,c⟩:=dg (P:=prog) (t2:=204) (ty:=3) underlying204 hs c (c.ab.gY (l:=k) (h:=n) hk (by omega)) (k+m) (n - k) (N:=n+m) (by first | omega | (simp only [List.length_append,List.length_take,List.length_drop]; omega)) (by first | omega | (simp only [List.length_append,List.length_take,List.length_drop]; omega)) (by omega) (by first | omega | (simp only [List.length_append,List.length_take,List.length_drop]; omega)) (dT (iO (dT hoc _) _) _)
 refine bS (v:=.int .i64 ((n - k):Nat)) (w':=J) z (iD z z K) (w0n c (bi ?_))
 intro w c
 refine tn (ww (mv (f) z (mv (f) z (nt (wp_ret (aI (aU [f] results187 (rc z ah) ?_)))))))
 rw [pj hn hm' hk hzl] at c
 exact ⟨_,z,(c.ba ((hr.take k).app (hq.app (hr.drop k)))).bo⟩
}
 {
 refine bT (cvb p) ?_
 have hup:n+m≤qM d:=by have:=of_decide_eq_false p; omega
 obtain ⟨ess,hel,hem,hst'⟩:=c.uf (n+m) (by omega) hup F
 rw [show n+m - css.length=m by omega] at hel
 have i:dc (upV d (n+m)) (n+m):=by have:=hst'.cC.2; rwa [List.length_append,hn,hel] at this
 clear c
 have c:=hst'
 clear hst'
 refine wp_skip (tn (ww (mv (d) z (mi z (mi z (mi (dv s z) (mv ((upV d (n+m))) (pu underlying204 hs z hsv z hup E) (mv ((upV d (n+m))) z (nt (wp_seq (ww (mv (g) z (mv ((upV d (n+m))) z (mi z (mi z (mi (dv t z) (mv ((dh cN.sz (upV d (n+m)) (k+m) (n+m))) (cA (lo:=((k+m):Nat)) (hi:=((n+m):Nat)) underlying204 hs z i (by omega) (by omega) (by omega) .i64 .i64 (.inl z) (.inr ⟨z,z⟩)) (mb (wT z z z (hov _) (lY z underlying204 hs c.ab (k+m) (N:=n+m) (by rw [List.length_append]; omega) (by omega) D y)) (mb z (nt (dq z (wp_seq (rg c 9 [0,0,0,6,15,0,0,96,255] [] mixed (sz ((upV d (n+m))) 0 z z (si 1 z z (si 2 z z (sh (I6 _) 3 z (fun w c=>dv t z) (sh ((dh cN.sz (upV d (n+m)) (k+m) (n+m))) 4 z (fun w c=>cA (lo:=((k+m):Nat)) (hi:=((n+m):Nat)) underlying204 hs z i (by omega) (by omega) (by omega) .i64 .i64 (.inl z) (.inr ⟨z,z⟩)) (sz ((upV d (n+m))) 5 z z (si 6 z z (sh ((dh cN.sz (upV d (n+m)) k (n+m))) 7 z (fun w c=>cA (lo:=(k:Nat)) (hi:=((n+m):Nat)) underlying204 hs z i (by omega) (by omega) (by omega) .i64 .i64 (.inl z) (.inr ⟨z,z⟩)) (e1 8 z z fun w c=>?_))))))))))))))))))))))))))))))))
 obtain ⟨L,M,c⟩:=dg (P:=prog) (t2:=204) (ty:=3) underlying204 hs c (c.gY (l:=k) (h:=n+m) (by omega) (by rw [List.length_append]; omega)) (k+m) (n - k) (N:=n+m) (by first | omega | (simp only [List.length_append,List.length_take,List.length_drop]; omega)) (by first | omega | (simp only [List.length_append,List.length_take,List.length_drop]; omega)) (by omega) (by first | omega | (simp only [List.length_append,List.length_take,List.length_drop]; omega)) (by rw [qH hn hm' hk hel]; exact iO hoc _)
 refine bS (v:=.int .i64 ((n - k):Nat)) (w':=L) z (iD z z M) (w0n c (bi ?_))
 intro w c
 refine tn (ww (mv ((upV d (n+m))) z (mi z (mv ((dh cN.sz (upV d (n+m)) k (n+m))) (cA (lo:=(k:Nat)) (hi:=((n+m):Nat)) underlying204 hs z i (by omega) (by omega) (by omega) .i64 .i64 (.inl z) (.inr ⟨z,z⟩)) (mv (g) z ?_)))))
 obtain ⟨O,Q,c⟩:=dg (P:=prog) (t2:=204) (ty:=3) underlying204 hs c c.ab k m (N:=n+m) (by first | omega | (simp only [List.length_append,List.length_take,List.length_drop]; omega)) (by first | omega | (simp only [List.length_append,List.length_take,List.length_drop]; omega)) (by omega) (by first | omega | (simp only [List.length_append,List.length_take,List.length_drop]; omega)) (dT hoq _)
 refine bY (v:=.int .i64 (m:Nat)) (w':=O) z z (iD z z Q) (nt (ww (mv ((upV d (n+m))) z (mv ((upV d (n+m))) z (nt (wp_ret (aI (aU [(upV d (n+m))] results187 (rc z ah) ?_))))))))
 rw [pt hn hm' hk hel] at c
 exact ⟨_,z,(c.ba ((hr.take k).app (hq.app (hr.drop k)))).bo⟩
}
}
}
}
theorem nR {a0:(Option ck)} {p0:Value} {a1 a2:Int} {a3:bp} {h i:Value} (o:Ro aA I h a3.Gots) (p:Ro (dG aw) I i a3.Scans) (b:St w0 w I [cE ca p0 a0] R) {r:(Int×(Option ck))} (c:fi a0 a1 a2 a3=some r) :
  Calls prog 124 #[p0,U6 a1,U6 a2,.agg #[I6 a3.E,U6 a3.Epoch,U6 a3.Index,h,i]] w fun e w'=>e = .returned (.int .i64 r.1)∧St w0 w' I [cE ca p0 r.2] R:=by {
 rcases a0 with _ | k
 {
 dsimp only [fi] at c
 cases c
}
 {
 replace b:=bD b
 dsimp only [fi] at c
 refine c0 func124 z ntmps124 (ww ?_)
 obtain ⟨m,d2,K,L,b⟩:=b.box [I6 a3.E,U6 a3.Epoch,U6 a3.Index,h,i] 33
 refine wa K L (mi z (nt (wp_seq (wp_block (ww (mv (p0) z ?_))))))
 obtain ⟨f,d3,rfl,M⟩:=dH b.ab
 have b:=M
 refine mk (.bool false) (mb z (nt (bT z (ww (mi z (mb z (mb z (nt (bw c z ?_ ?_)))))))))
 {
 intro N c
 refine ww (mi z (nt (wp_ret (dj (aI ?_)))))
 cases c
 exact aU [I6 1] results124 (rc z ah) ⟨z,(aJ (cR (Pt f 0) k b.ab.ab z)).bo⟩
}
 {
 intro N c
 refine wp_skip (bB (tn (ww (mp z (mi z ?_)))))
 replace b:=aJ (cR (Pt f 0) k b.ab.ab z)
 obtain ⟨g,O,c⟩:=bn c
 refine wc call148 [Pt f 0,U6 a1] z z z (kca (kL b.to1 O) fun d4 b=>?_)
 replace b:=bD b.of1
 refine mv (.tuple #[I6 g.1,.bool g.2]) z (mi z (mb z (mi z (mb z (nt ?_)))))
 obtain ⟨d5,c,q⟩:=dY c
 refine cQ (fun a w =>(hK g k a1 a2 a3) ()=some r∧fz 66 [0,1,2,7,9,10] [Pt f 0,U6 a1,U6 a2,Pt m 0,I6 g.1,.bool g.2] a∧St w0 w I [ca (Pt f 0) k,cells m [I6 a3.E,U6 a3.Epoch,U6 a3.Index,h,i]] R) ?_ ?_
 {
 refine ww (mb z (mb z (bs c ?_ ?_)))
 {
 intro d c
 refine gp d z ?_
 obtain ⟨d6,d7,s,Q⟩:=dH b
 replace s:=dF s
 subst s
 have b:=Q
 refine gp d z (gg d (aO z underlying206 z sizeOf204 z) (gg d (ao z isAgg204 (b.bc0 z)) (gi d z ?_)))
 obtain ⟨d8,S,c⟩:=bn c
 obtain ⟨T,U,V⟩:=aK S
 refine gg d (az z z underlying204 sizeOf242 b.sv1 T U) (gg d (aR z underlying242 z sizeOf26 z) ?_)
 obtain ⟨d9,W,X⟩:=b.og1 V
 obtain ⟨e0,e2,rfl,e3,e4,-⟩:=W
 refine gg d (ao z isAgg26 (X 1 _ z)) (gi d z (gb d z (mb (aM d z z) (nt (bw c z ?_ ?_)))))
 {
 intro Y c
 refine ww (mi z (nt (wp_ret (aI ?_))))
 replace c:=bg c q
 cases c
 exact aU [I6 10] results124 (rc z ah) ⟨z,(aJ (cR (Pt f 0) k b.ab.ab z)).bo⟩
}
 {
 intro Y c
 refine wp_skip (tn ?_)
 cases c
 exact ⟨q,fy z,(cR (Pt f 0) k b.ab.ab z).ab.ab.cd⟩
}
}
 {
 intro d c
 refine go d (go d (go d (go d (go d (go d (go d (go d (go d (go d (mb (aE d z z) (nt (bT z (wp_skip (tn ?_))))))))))))))
 cases c
 exact ⟨q,fy z,b.ab.ab.cd⟩
}
}
 {
 rintro _ e5 ⟨c,⟨e6,rfl⟩,b⟩
 dsimp only [hK] at c
 obtain ⟨e7,c,B⟩:=bn c
 refine cQ (fun a w=>∃ (n:ck),(hY g a2 a3) n=some r∧fz 66 [0,2,7,9] [Pt f 0,U6 a2,Pt m 0,I6 g.1] a∧St w0 w I [ca (Pt f 0) n,cells m [I6 a3.E,U6 a3.Epoch,U6 a3.Index,h,i]] R) ?_ ?_
 {
 refine ww (mb z (mb z (nt (bw c z ?_ ?_))))
 {
 intro Z c
 refine wrl (mp z (mp z ?_))
 obtain ⟨e8,b0,u,b1⟩:=dH b
 replace u:=dF u
 subst u
 have b:=b1
 refine mp z (mf z underlying206 z sizeOf204 (ml z isAgg204 (b.bc0 z) (mi z (mi z (mk (.agg #[U6 a1,Zu,Zi,Zu,Zu,Zs,Zs]) ?_)))))
 have C:Ro aA I (.slice none 0 0) []:=cv
 have D:Ro (dG aw) I (.slice none 0 0) []:=cv
 obtain ⟨F,b2,b3,b4,b⟩:=b.er (E:=cN) (xs:=[({session:=a1,seq:=0,r:=bI}:aN)]) [[U6 a1,Zu,Zi,Zu,Zu,Zs,Zs]] 242 1 z (bz.cons ⟨_,_,z,C,D,oS (ag C),oS (ag D)⟩ bz.nil)
 refine bY (v:=(.slice (some ⟨F,0,none⟩) 1 1)) (w':=b2) z z (di (by kernel_rfl) b3 b4) ?_
 replace b:=b.ay
 obtain ⟨b5,b6,c⟩:=bn c
 refine wc call187 [b0,I6 g.1,(.slice (some ⟨F,0,none⟩) 1 1)] z z z (kcb (kR b.to2 b6) fun b7 e9 b=>?_)
 replace b:=b.of1
 refine mp z (mf z underlying206 z sizeOf204 ?_)
 replace b:=b.ab
 refine b1k b7 b z (oS b.sv1) sizeOf204 fun f0 b=>nt ?_
 cases c
 exact ⟨_,B,fy z,(cR (Pt f 0) (({l:=b5}:ck)) b.ab.ab z).ab.ab.cd⟩
}
 {
 intro Z c
 refine wp_skip (tn ?_)
 cases c
 exact ⟨k,B,fy z,b.ab.ab.cd⟩
}
}
 {
 rintro _ f1 ⟨n,c,⟨f2,rfl⟩,b⟩
 dsimp only [hY] at c
 refine wp_seq ?_
 obtain ⟨f3,f4,x,b8⟩:=dH b
 replace x:=dF x
 subst x
 have b:=b8
 refine rg b 18 [0,1,3,7,0,0,32,96,224,0,0,0,1535,5631,13823,32767,65535,131071] [] mixed (sp 0 z z (sp 1 z z (sf 2 z z underlying206 z sizeOf204 (sl 3 z z isAgg204 (fun w b=>b.bc0 z) (si 4 z z (sp 5 z z (sp 6 z z (sf 7 z z underlying206 z sizeOf204 (sl 8 z z isAgg204 (fun w b=>b.bc0 z) (si 9 z z (si 10 z z (sh _ 11 z (fun w b=>av (cs:=[I6 a3.E,U6 a3.Epoch,U6 a3.Index,h,i]) z isAgg33 sizeOf33 (b.pQ 0 z)) ?_))))))))))))
 obtain ⟨j,b9,c⟩:=bn c
 obtain ⟨G,H,A⟩:=aK b9
 refine sh _ 12 z (fun w b=>az z z underlying204 sizeOf242 b.sv1 G H) (sh _ 13 z (fun w b=>aR z underlying242 z sizeOf26 z) (e1 14 z z fun w b=>?_))
 obtain ⟨f5,c1,f6⟩:=b.og1 A
 obtain ⟨f7,f8,rfl,f9,g0,-⟩:=c1
 replace b:=b.ab
 obtain ⟨g1,c2,b⟩:=b.nW (P:=prog) (t:=26) (y:=({j with seq:=a2}:aN)) A 1 (.int .u64 a2) sizeOf26 (Nat.le_of_ble_eq_true z) (oC z oN) (by rintro _ ⟨c3,c4,rfl,c5,c6,c7,c8⟩; exact ⟨c3,c4,rfl,c5,c6,c7,c8⟩)
 have J:=Ay A ({j with seq:=a2}:aN)
 have c9:=Cc H g.1.toNat ({j with seq:=a2}:aN)
 refine qf z (oa c2) (wn [11,9] b (pkr z z (fun w b=>av (cs:=[I6 a3.E,U6 a3.Epoch,U6 a3.Index,h,i]) z isAgg33 sizeOf33 (b.pQ 0 z)) (pz bu)) (sh _ 15 z (fun w b=>az z z underlying204 sizeOf242 b.sv0 G c9) (sh _ 16 z (fun w b=>aR z underlying242 z sizeOf33 z) (e1 17 z z fun w b=>?_))))
 obtain ⟨g2,d0,g3⟩:=b.og0 J
 obtain ⟨g4,g5,rfl,g6,g7,-⟩:=d0
 obtain ⟨g8,d1,b⟩:=b.nW (P:=prog) (t:=33) (y:=({session:=({j with seq:=a2}:aN).session,seq:=({j with seq:=a2}:aN).seq,r:=a3}:aN)) J 2 (.agg #[I6 a3.E,U6 a3.Epoch,U6 a3.Index,h,i]) sizeOf33 (Nat.le_of_ble_eq_true z) (oJ 3 z (oC (oS (ag o)) (oC (oS (ag p)) oN))) (by rintro _ ⟨g9,h0,rfl,h1,h2,h3,h4⟩; exact ⟨_,_,rfl,o,p,oS (ag o),oS (ag p)⟩)
 refine qf z (oa d1) (w0n b (bi ?_))
 intro w b
 refine tn (ww (mi z (nt (wp_ret ?_))))
 cases c
 exact aU [Zi] results124 (rc z ah) ⟨z,(aJ (cR (Pt f 0) (({l:=((n.l.set g.1.toNat ({j with seq:=a2}:aN)).set g.1.toNat ({session:=({j with seq:=a2}:aN).session,seq:=({j with seq:=a2}:aN).seq,r:=a3}:aN))}:ck)) b.ab z)).bo⟩
}
}
}
}
}
theorem nE {a0:(Option ck)} {p0:Value} {a1:Int} (a:St w0 w I [cE ca p0 a0] R) {r:(Int)} (b:en a0 a1=some r) :
  Calls prog 61 #[p0,U6 a1] w fun e w'=>e = .returned (.int .u64 r)∧St w0 w' I [cE ca p0 a0] R:=by {
 rcases a0 with _ | d
 {
 dsimp only [en] at b
 cases b
}
 {
 replace a:=bD a
 dsimp only [en] at b
 refine c0 func61 z ntmps61 (ww (mi z (nt (ww (mv (p0) z (mi z ?_))))))
 replace a:=aJ a
 obtain ⟨c,f,b⟩:=bn b
 refine wc call148 [p0,U6 a1] z z z (kca (kL a.to1 f) fun q a=>?_)
 replace a:=bD a.of1
 refine mv (.tuple #[I6 c.1,.bool c.2]) z (mi z (mb z (mi z (mb z (nt (wp_seq (ww (mb z (mb z (nt (bw b z ?_ ?_)))))))))))
 {
 intro g b
 refine ww (mi z (nt (wp_ret (aI ?_))))
 cases b
 exact aU [Zu] results61 (rc z ah) ⟨z,(aJ a).bo⟩
}
 {
 intro g b
 refine wp_skip (tn (ww (mv (p0) z ?_)))
 obtain ⟨h,s,rfl,i⟩:=dH a
 have a:=i
 refine mp z (mf z underlying206 z sizeOf204 (ml z isAgg204 (a.bc0 z) (mi z ?_)))
 obtain ⟨j,k,b⟩:=bn b
 obtain ⟨l,m,n⟩:=aK k
 refine mz (az z z underlying204 sizeOf242 a.sv1 l m) (mz (aR z underlying242 z sizeOf26 z) ?_)
 obtain ⟨t,o,p⟩:=a.og1 n
 obtain ⟨u,v,rfl,x,y,-⟩:=o
 refine ml z isAgg26 (p 1 _ z) (mi z (nt (wp_ret ?_)))
 cases b
 exact aU [U6 j.seq] results61 (rc z ah) ⟨z,(aJ (cR (Pt h 0) d a.ab.ab z)).bo⟩
}
}
}
theorem oU {a0:(Option ae)} {p0:Value} {a1:bK} (a:St w0 w I [cE aD p0 a0] R) {r:(bh)} (b:iw a0 a1=some r) :
  Calls prog 125 #[p0,.agg #[U6 a1.Session,U6 a1.Seq]] w fun e w'=>∃ (c:Value) (d:Value),e = .returned (.agg #[U1 r.Kind,U6 r.ID.Session,U6 r.ID.Seq,I6 r.R.E,U6 r.R.Epoch,U6 r.R.Index,c,d])∧St w0 w' I [aZ aA c r.R.Gots,aZ (dG aw) d r.R.Scans,cE aD p0 a0] R:=by {
 rcases a0 with _ | f
 {
 dsimp only [iw] at b
 cases b
}
 {
 replace a:=bD a
 dsimp only [iw] at b
 refine c0 func125 z ntmps125 (ww ?_)
 obtain ⟨p,q,h,i,a⟩:=a.box [U6 a1.Session,U6 a1.Seq] 28
 refine wa h i ?_
 obtain ⟨s,t,j,k,a⟩:=a.box [Zb,Zu,Zu,Zi,Zu,Zu,Zs,Zs] 35
 refine wa j k (nt (wp_seq (wp_seq ?_)))
 obtain ⟨g,u,v,l,x,y,A,B,rfl,m⟩:=bc a.ay
 have a:=m
 refine rg a 10 [0,1,3,7,0,16,63,0,128,511] [] mixed (sp 0 z z (sp 1 z z (sf 2 z z underlying111 z sizeOf105 (sl 3 z z isAgg105 (fun w a=>a.bc0 z) (sf 4 z z underlying28 z sizeOf26 (sl 5 z z isAgg26 (fun w a=>a.bc9 z) (sf 7 z z underlying28 z sizeOf26 (sl 8 z z isAgg26 (fun w a=>a.bc9 z) (e1 6 z z fun w a=>?_)))))))))
 replace a:=a.ap
 obtain ⟨C,n,b⟩:=bn b
 refine wec call61 [l,U6 a1.Session] z z (kca (nE a.to1 n) fun D a=>?_)
 replace a:=a.of1
 refine wn [8,7] a (pkr z z (fun w a=>ao z isAgg26 (a.bc9 z)) (pf z z underlying28 z sizeOf26 bu)) (sb 9 z z (bi ?_))
 intro w a
 refine tn (bw b z ?_ ?_)
 {
 intro o b
 refine ww (mk (.agg #[Zb,Zu,Zu,Zi,Zu,Zu,Zs,Zs]) ?_)
 replace a:=a.bH
 refine bxk a z sizeOf35 (oJ 8 z oN) fun F a=>nt (wp_ret (aI ?_))
 replace a:=aJ (aq (Pt g 0) f ((a.aX aA).aX (dG aw)).bq.bq.bq.bq.aG.bq.bq.bq z)
 cases b
 exact aU [.agg #[Zb,Zu,Zu,Zi,Zu,Zu,Zs,Zs]] results125 (bj (bF (cs:=[Zb,Zu,Zu,Zi,Zu,Zu,Zs,Zs]) z isAgg35 sizeOf35 (a.rU 0 z)) ah) ⟨(.slice none 0 0),Zs,z,a.ab.ay.dC⟩
}
 {
 intro o b
 refine wp_skip (tn (ww (mz (av (cs:=[U6 a1.Session,U6 a1.Seq]) z isAgg28 sizeOf28 (a.vR 0 z)) (mk (.agg #[I6 10,Zu,Zu,Zs,Zs]) (mk (.agg #[U1 4,U6 a1.Session,U6 a1.Seq,I6 10,Zu,Zu,Zs,Zs]) ?_)))))
 replace a:=a.bH
 refine bxk a z sizeOf35 (oJ 8 z oN) fun G a=>nt (wp_ret ?_)
 replace a:=aJ (aq (Pt g 0) f ((a.aX aA).aX (dG aw)).bq.bq.bq.bq.aG.bq.bq.bq z)
 cases b
 exact aU [.agg #[U1 4,U6 a1.Session,U6 a1.Seq,I6 10,Zu,Zu,Zs,Zs]] results125 (bj (bF (cs:=[U1 4,U6 a1.Session,U6 a1.Seq,I6 10,Zu,Zu,Zs,Zs]) z isAgg35 sizeOf35 (a.rU 0 z)) ah) ⟨(.slice none 0 0),Zs,z,a.ab.ay.dC⟩
}
}
}
theorem mX {a0:(List dX)} {c:Value} (h:RdO cJ R I c a0) (a:St w0 w I [] R) {r:(List dX)} (d:dZ a0=some r) :
  Calls prog 126 #[c] w fun e w'=>∃ (i:Value),e = .returned (i)∧St w0 w' I [aZ cJ i r] R:=by {
 unfold dZ at d
 obtain ⟨hg,d⟩:=cw d
 cases d
 have hsv:=tJ h
 refine c0 func126 z ntmps126 (ww (mv ((.slice none 0 0)) z (nt (wp_seq (ww (mv (c) z (mb (tX z hsv z underlying47) (nt (iB (isNil c) (fun f=>?_) (fun f=>?_))))))))))
 {
 refine dq (cvb f) (ww (mv ((.slice none 0 0)) z (nt (wp_ret (aI (aU [Zs] results126 (rc z ah) ?_))))))
 obtain rfl:=List.eq_nil_of_length_eq_zero (qI hsv f)
 exact ⟨_,z,(a.aX cJ).bo⟩
}
 {
 refine bT (cvb f) (wp_skip (tn (ww ?_)))
 obtain ⟨b,j,ew,eb,a⟩:=a.er (E:=cJ) (xs:=[]) [] 156 0 z bz.nil
 refine bY (v:=(.slice (some ⟨b,0,none⟩) 0 0)) (w':=j) z z (di (by kernel_rfl) ew eb) (mv (c) z ?_)
 obtain ⟨g,k,hr,a⟩:=bE Ae underlying47 a (Src.BG a h) (cF hg z) 47
 refine bY (v:=g) (w':=k) z z (bU z z hr) (mv (g) z (nt (wp_ret (aU [g] results126 (rc z ah) ?_))))
 rw [List.nil_append] at a
 exact ⟨_,z,a.bo⟩
}
}
theorem nT {a0:bA} {c:Value} {a1:bK} (u:Rd cJ R I c a0.Parts) (a:St w0 w I [] R) {r:(Int)} (b:il a0 a1=some r) :
  Calls prog 129 #[.agg #[U6 a0.ID.Session,U6 a0.ID.Seq,I6 a0.E,U6 a0.Epoch,U6 a0.Index,U6 a0.Shards,c],.agg #[U6 a1.Session,U6 a1.Seq]] w fun e w'=>e = .returned (.int .i64 r)∧St w0 w' I [] R:=by {
 unfold il at b
 refine c0 func129 z ntmps129 (ww ?_)
 obtain ⟨x,y,i,j,a⟩:=a.box [U6 a0.ID.Session,U6 a0.ID.Seq,I6 a0.E,U6 a0.Epoch,U6 a0.Index,U6 a0.Shards,c] 89
 refine wa i j ?_
 obtain ⟨A,B,k,l,a⟩:=a.box [U6 a1.Session,U6 a1.Seq] 28
 refine wa k l (mi z (nt (wp_seq (rg a 15 [0,1,3,0,8,31,0,64,192,0,512,2047,4095,8191,16383] [] mixed (sf 0 z z underlying89 z sizeOf28 (sf 1 z z underlying28 z sizeOf26 (sl 2 z z isAgg26 (fun w a=>a.bc1 z) (sf 3 z z underlying28 z sizeOf26 (sl 4 z z isAgg26 (fun w a=>a.bc0 z) (sf 6 z z underlying89 z sizeOf28 (sf 7 z z underlying28 z sizeOf26 (sl 8 z z isAgg26 (fun w a=>a.bc1 z) (sf 9 z z underlying28 z sizeOf26 (sl 10 z z isAgg26 (fun w a=>a.bc0 z) (e1 5 z z fun w a=>?_)))))))))))))))
 obtain ⟨d,m,b⟩:=bn b
 refine wec call131 [U6 a0.ID.Session,U6 a1.Session] z z (kca (eX a.to0 m) fun C a=>?_)
 replace a:=a.of0
 refine wn [10,9,8,7,6] a (pkr z z (fun w a=>ao z isAgg26 (a.bc0 z)) (pf z z underlying28 z sizeOf26 (pkr z z (fun w a=>ao z isAgg26 (a.bc1 z)) (pf z z underlying28 z sizeOf26 (pf z z underlying89 z sizeOf28 bu))))) (e1 11 z z fun w a=>?_)
 obtain ⟨f,n,b⟩:=bn b
 refine wec call131 [U6 a0.ID.Seq,U6 a1.Seq] z z (kca (eX a.to0 n) fun D a=>?_)
 replace a:=a.of0
 refine w0n a (e1 12 z z fun w a=>?_)
 obtain ⟨g,o,p,q,a⟩:=a.er (E:=(cg .i64)) (xs:=[d,f]) [[I6 d],[I6 f]] 3 2 z (bz.cons z (bz.cons z bz.nil))
 refine bS (v:=(.slice (some ⟨g,0,none⟩) 2 2)) (w':=o) z (di (by kernel_rfl) p q) (w0n a (e1 13 z z fun w a=>?_))
 obtain ⟨F,h,a⟩:=a.cx
 obtain ⟨s,t,b⟩:=bn b
 refine wec call130 [(.slice (some ⟨g,0,none⟩) 2 2)] z z (kca (sm (a.nf h) a.to0 t) fun G a=>?_)
 replace a:=a.of0.ba h
 refine w0n a (si 14 z z (bi ?_))
 intro w a
 refine tn (wp_ret ?_)
 obtain rfl:=sj b
 exact aU [I6 s] results129 (rc z ah) ⟨z,a.bQ⟩
}
theorem oX {a0:(Option ae)} {p0:Value} {a1:bK} (b:St w0 w I [cE aD p0 a0] R) {r:(Int×Bool)} (c:gC a0 a1=some r) :
  Calls prog 51 #[p0,.agg #[U6 a1.Session,U6 a1.Seq]] w fun e w'=>e = .returned (.tuple #[I6 r.1,.bool r.2])∧St w0 w' I [cE aD p0 a0] R:=by {
 rcases a0 with _ | d
 {
 dsimp only [gC] at c
 cases c
}
 {
 replace b:=bD b
 dsimp only [gC] at c
 refine c0 func51 z ntmps51 (ww ?_)
 obtain ⟨C,c4,L,M,b⟩:=b.box [U6 a1.Session,U6 a1.Seq] 28
 refine wa L M (mi z (mb z (nt (wp_seq ?_))))
 obtain ⟨v,l,m,p,q,g,s,t,rfl,N⟩:=bc b.ab
 have b:=N
 refine rg b 10 [0,1,3,7,0,31,63,63,255,511] [] mixed (sp 0 z z (sp 1 z z (sf 2 z z underlying111 z sizeOf65 (sl 3 z z isAgg65 (fun w b=>b.bc0 z) (sh _ 4 z (fun w b=>av (cs:=[U6 a1.Session,U6 a1.Seq]) z isAgg28 sizeOf28 (b.wG 0 z)) (e1 5 z z fun w b=>?_))))))
 obtain ⟨G,O,c⟩:=bn c
 refine ox z (dE call128 (caps:=[]) z (vs:=[g,.agg #[U6 a1.Session,U6 a1.Seq],.func (.func 129) #[] #[]]) z) (Calls.mono (show Calls prog 128 #[g,.agg #[U6 a1.Session,U6 a1.Seq],.func (.func 129) #[] #[]] _ (fun e w'=>∃ (x:Int) (y:Bool),(x,y)=G∧e = .returned (.tuple #[I6 x,.bool y])∧St w0 w' I [cells v [I6 d.wide,U6 d.epoch,l,m,p,q,g,s,t],cE cI l d.store,cE bP m d.locks,cE ca p d.last,cE cL q d.book,aZ aH g d.open_,aZ cb s d.out,aZ cH t d.used,cells C [U6 a1.Session,U6 a1.Seq]] R) from ?_) ?_)
 {
 clear c; have c:=O
 refine c0 func128 z ntmps128 (ww ?_)
 obtain ⟨A,c5,P,Q,b⟩:=b.box [U6 a1.Session,U6 a1.Seq] 28
 refine wa P Q (mi z (mb z (nt (ww (mv (g) z (mz (bW z underlying65 b.sv6) (mi z (nt (ww (mi z (mi z (mi z (nt ?_)))))))))))))
 obtain ⟨S,c,T⟩:=bn c
 refine cQ (fun a w=>∃ (j:Int),(kK d a1) j=some G∧fz 49 [0,2,4,8,9] [g,.func (.func 129) #[] #[],Pt A 0,I6 ((d.open_).length:Int),I6 j] a∧St w0 w I [aZ aH g d.open_,cells A [U6 a1.Session,U6 a1.Seq],cells v [I6 d.wide,U6 d.epoch,l,m,p,q,g,s,t],cE cI l d.store,cE bP m d.locks,cE ca p d.last,cE cL q d.book,aZ cb s d.out,aZ cH t d.used,cells C [U6 a1.Session,U6 a1.Seq]] R) ?_ ?_
 {
 refine wp_block ?_
 obtain ⟨U,c⟩:=aS c
 refine bf (fun n a w=>∃ (u:Int) (k:Int),cP (gN d a1) n (u,k)=some S∧fz 49 [0,2,4,8,9,10] [g,.func (.func 129) #[] #[],Pt A 0,I6 ((d.open_).length:Int),I6 k,I6 u] a∧St w0 w I [cells A [U6 a1.Session,U6 a1.Seq],cells v [I6 d.wide,U6 d.epoch,l,m,p,q,g,s,t],cE cI l d.store,cE bP m d.locks,cE ca p d.last,cE cL q d.book,aZ aH g d.open_,aZ cb s d.out,aZ cH t d.used,cells C [U6 a1.Session,U6 a1.Seq]] R) U ⟨((d.open_).length:Int),0,c,fy z,b⟩ ?_
 rintro c6 _ c7 ⟨u,k,c,⟨c8,rfl⟩,b⟩
 obtain ⟨c9,d0,rfl,c,D⟩:=aV c
 dsimp only [gN] at c
 refine wp_seq (ww (mi z (mi z (mb z (nt (bw c z ?_ ?_))))))
 {
 intro V c
 refine wp_skip (tn (wp_block (ww (mi z (mi z (mi z (mk (.int .u64 (u64.wrap (i64.wrap (k+u)))) (mi (tP (by decide) z z) (mk (.int .i64 (i64.wrap (iI .u64 (u64.wrap (i64.wrap (k+u))) 1))) (mi z (nt (wp_seq ?_))))))))))))
 replace b:=b.cV
 obtain ⟨d1,F,b⟩:=b.cx
 refine rg b 8 [0,0,0,6,14,0,63,127] [] mixed (sz (.func (.func 129) #[] #[]) 0 z z (sz (g) 1 z z (si 2 z z ?_)))
 obtain ⟨h,W,c⟩:=bn c
 obtain ⟨X,Y,Z⟩:=aK W
 refine sh _ 3 z (fun w b=>az z z underlying65 sizeOf89 (b.rsv 0 z F) X Y) ?_
 obtain ⟨d2,b0,b1⟩:=bz.get F Z
 obtain ⟨H,rfl,b2,-⟩:=b1
 refine sh _ 4 z (fun w b=>av (cs:=[U6 h.ID.Session,U6 h.ID.Seq,I6 h.E,U6 h.Epoch,U6 h.Index,U6 h.Shards,H]) z isAgg89 sizeOf89 (dO (o:=0) (b.uJ 0 z b0) z)) (sh _ 5 z (fun w b=>av (cs:=[U6 a1.Session,U6 a1.Seq]) z isAgg28 sizeOf28 (b.eI 0 z)) (e1 6 z z fun w b=>?_))
 obtain ⟨d3,b3,c⟩:=bn c
 refine ox z (dE call129 (caps:=[]) z (vs:=[.agg #[U6 h.ID.Session,U6 h.ID.Seq,I6 h.E,U6 h.Epoch,U6 h.Index,U6 h.Shards,H],.agg #[U6 a1.Session,U6 a1.Seq]]) z) (kca (nT (b2.mono cz) b.to0 b3) fun d4 b=>?_)
 replace b:=b.of0
 refine w0n b (sb 7 z z (bi ?_))
 intro w b
 replace b:=b.ba F
 refine tn (bw c z ?_ ?_)
 {
 intro b4 c
 refine wrl (mi z (mi z (mi z (dk (bB (tn ?_))))))
 cases c
 exact ⟨_,nls,u,_,D,fy z,b.bO.bO.bO.ap.bO.bO.bO.bO.bO.bO.ur⟩
}
 {
 intro b4 c
 refine wrl (mi z (mi z (dk (bB (tn ?_)))))
 cases c
 exact ⟨_,nls,_,k,D,fy z,b.bO.bO.bO.ap.bO.bO.bO.bO.bO.bO.ur⟩
}
}
 {
 intro V c
 refine wp_exit (aQ (aQ ?_))
 replace c:=bg c D
 refine cZ (tn ?_)
 obtain rfl:=sj c
 exact ⟨k,T,fy z,b.bO.bO.bO.bH.bH.bH.bH.bH.bH.bO.ur⟩
}
}
 {
 rintro _ d5 ⟨j,c,⟨d6,rfl⟩,b⟩
 dsimp only [kK] at c
 refine wp_seq ?_
 obtain ⟨d7,B,b⟩:=b.cx
 refine rg b 16 [0,0,0,6,14,30,30,30,222,478,30,2046,4094,8190,4095,32767] [] mixed (si 0 z z (si 1 z z (si 2 z z (sb 3 z z (sb 4 z z (bs c ?_ ?_))))))
 {
 intro f c
 refine sgz (.func (.func 129) #[] #[]) 5 z f z (sgz g 6 z f z (sgz (I6 _) 7 z f z ?_))
 obtain ⟨i,b5,c⟩:=bn c
 obtain ⟨b6,b7,b8⟩:=aK b5
 refine sg _ 8 z f (fun w b=>az z z underlying65 sizeOf89 (b.rsv 0 z B) b6 b7) ?_
 obtain ⟨d8,b9,c1⟩:=bz.get B b8
 obtain ⟨J,rfl,c2,-⟩:=c1
 refine sg _ 9 z f (fun w b=>av (cs:=[U6 i.ID.Session,U6 i.ID.Seq,I6 i.E,U6 i.Epoch,U6 i.Index,U6 i.Shards,J]) z isAgg89 sizeOf89 (dO (o:=0) (b.uJ 0 z b9) z)) (sg _ 10 z f (fun w b=>av (cs:=[U6 a1.Session,U6 a1.Seq]) z isAgg28 sizeOf28 (b.eI 0 z)) (ia 11 (by kernel_rfl) (nxe [12,13,14,15] (by kernel_rfl) z ((ar z z z (cvb f)).trans z) ?_)))
 clear b
 intro w b
 obtain ⟨K,c3,c⟩:=bn c
 refine ox z (dE call129 (caps:=[]) z (vs:=[.agg #[U6 i.ID.Session,U6 i.ID.Seq,I6 i.E,U6 i.Epoch,U6 i.Index,U6 i.Shards,J],.agg #[U6 a1.Session,U6 a1.Seq]]) z) (kca (nT (c2.mono cz) b.to0 c3) fun d9 b=>?_)
 replace b:=b.of0
 refine wn [0] b (pz bu) (sgz (.bool _) 12 z f z (sh (.bool _) 13 z (fun w b=>aM f z z) (si 14 z z (sb 15 z z (bi ?_)))))
 intro w b
 replace b:=b.ba B
 refine tn (wp_ret (aU [I6 j,.bool (K==0)] results128 (rc z (rc z ah)) ?_))
 cases c
 exact ⟨j,(K==0),z,z,b.bO.bO.bO.ap.bO.bO.bO.bO.bO.ri⟩
}
 {
 intro f c
 refine so 5 z f (so 6 z f (so 7 z f (so 8 z f (so 9 z f (so 10 z f (so 11 z f (so 12 z f (sh (.bool _) 13 z (fun w b=>aE f z z) (si 14 z z (sb 15 z z (bi ?_)))))))))))
 intro w b
 replace b:=b.ba B
 refine tn (wp_ret (aU [I6 j,.bool false] results128 (rc z (rc z ah)) ?_))
 cases c
 exact ⟨j,false,z,z,b.bO.bO.bO.ap.bO.bO.bO.bO.bO.ri⟩
}
}
}
 rintro _ e0 ⟨x,y,rfl,rfl,b⟩
 refine ⟨_,z,?_⟩
 try dsimp only at c
 refine w0n b (si 6 z z (sb 7 z z (si 8 z z (sb 9 z z (bi ?_)))))
 intro w b
 refine tn (wp_ret ?_)
 cases c
 exact aU [I6 x,.bool y] results51 (rc z (rc z ah)) ⟨z,(aJ (aq (Pt v 0) d b.aG.aG.aG.aG.aG.aG.aG.aG z)).bo⟩
}
}
theorem kt {a0:(List bA)} {d:Value} {a1:Int} {a2:(List bA)} {g:Value} (c:St w0 w I [aZ aH d a0,aZ aH g a2] R) {r:(List bA)} (q:dm a0 a1 a2=some r) :
  Calls prog 127 #[d,I6 a1,g] w fun e w'=>∃ (x:Value),e = .returned (x)∧St w0 w' I [aZ aH x r] R:=by {
 unfold dm at q
 obtain ⟨hg,q⟩:=cw q
 cases q
 obtain ⟨A,S,hrm⟩:=qs hg
 obtain ⟨k,rfl⟩:=Int.eq_ofNat_of_zero_le A
 have hsm:=qG hrm
 have hk:k≤a0.length:=by omega
 have hs:∀ w:World,(sizeOf 89).run prog w = .ok aH.sz w:=sizeOf89
 have y:0<aH.sz:=Nat.le_of_ble_eq_true rfl
 have hov:∀ (args:Array Value) (w:World),(callFunc 188 args).run prog w=(Extern.SlicesOverlaps.overlaps #[65,65] #[4] args >>= fun v=>(pure (.value v):Sem Next)).run prog w:=by intro args w; kernel_rfl
 obtain ⟨css,hr,c⟩:=c.cx
 replace c:=c.ab
 obtain ⟨dss,hq,c⟩:=c.cx
 replace c:=c.ab
 obtain ⟨n,hn⟩:∃ n,css.length=n:=⟨_,rfl⟩
 obtain ⟨m,hm'⟩:∃ m,dss.length=m:=⟨_,rfl⟩
 have hln:a0.length=n:=hr.1.trans hn
 have hlm:a2.length=m:=hq.1.trans hm'
 rw [hln] at hsm hk
 rw [hlm] at hsm
 have hsv:dc d n:=by have:=c.cC.2; rwa [hn] at this
 have hsq:dc g m:=by have:=c.ab.cC.2; rwa [hm'] at this
 have hoc:=hr.tc
 have hoq:=hq.tc
 have s:=wrap_add (a:=n) (b:=m) (by omega)
 have t:=wrap_add (a:=k) (b:=m) (by omega)
 have B:=pE (a:=n+m) (b:=k) (by omega) (by omega)
 have hrb:=cF (b:=72) hrm rfl
 rw [hln,hlm] at hrb
 refine c0 func127 z ntmps127 (ww (mv ((.slice none 0 0)) z (nt (ww (mv (d) z (mi z (mv ((dh aH.sz d k n)) (cA (lo:=(k:Nat)) (hi:=(n:Nat)) underlying65 hs z hsv (by omega) (by omega) (by omega) .i64 .i64 (.inl z) (.inr ⟨z,z⟩)) (nt (ww (mv (g) z (mz (bW z underlying65 hsq) (mi z (nt (wp_seq (ww (mi z (mb z (nt (iB ((m:Int)==0) (fun j=>?_) (fun j=>?_))))))))))))))))))))
 {
 refine dq (cvb j) (ww (mv (d) z (mv (d) z (nt (wp_ret (aI (aU [d] results127 (rc z ah) ?_)))))))
 rw [sG (by rw [hlm]; exact j)]
 exact ⟨_,z,(c.ba hr).bo⟩
}
 {
 refine bT (cvb j) ?_
 have C:m≠0:=fun h=>by rw [h] at j; cases j
 have D:dss≠[]:=fun h=>C (by rw [← hm',h]; rfl)
 refine wp_skip (tn (ww (mv (d) z (mz (bW z underlying65 hsv) (mi z (nt (wp_seq (ww (mi z (mi z (mb z (nt (iB ((k:Int)==(n:Int)) (fun o=>?_) (fun o=>?_))))))))))))))
 {
 refine dq (cvb o) (ww (mv (d) z (mv (g) z ?_)))
 replace c:=((c.ba hr).ab.ba hq).ab
 obtain ⟨f,u,hra,c⟩:=bE sx underlying65 c c.jr (cF hrm z) 65
 refine bY (v:=f) (w':=u) z z (bU z z hra) (mv (f) z (nt (wp_ret (aI (aU [f] results127 (rc z ah) ?_)))))
 rw [sA (by rw [hln]; exact o)]
 exact ⟨_,z,c.bo⟩
}
 {
 refine bT (cvb o) ?_
 have hkn:k≠n:=fun h=>by rw [h] at o; simp at o
 have E:0<n:=by omega
 have F:css≠[]:=fun h=>by rw [h] at hn; simp at hn; omega
 refine wp_skip (tn (wp_seq (ww (mi z (mi z (mi (dv s z) (mv (d) z (mi (wS z underlying65 hsv) (mb z (nt (iB (decide (((n+m:Nat):Int)>(qM d:Int))) (fun p=>?_) (fun p=>?_))))))))))))
 {
 refine dq (cvb p) (ww (mv (d) z (mi z (mv ((dh aH.sz d 0 k)) (cA (lo:=(0:Nat)) (hi:=(k:Nat)) underlying65 hs z hsv (by omega) (by omega) (by omega) .i64 .i64 (.inr ⟨z,z⟩) (.inl z)) (mi z (mi z (mi (dv s z) (mi z (mi (dv B z) ?_)))))))))
 obtain ⟨f,u,hra,i,zss,hzl,c⟩:=qv sx underlying3 c k (n+m - k) (by omega) (by have:=of_decide_eq_true p; omega) (by rw [show k+(n+m - k)=n+m by omega]; exact hrb) y 65
 rw [show k+(n+m - k)=n+m by omega] at i
 refine bY (v:=f) (w':=u) z z (bU z z hra) (mv (f) z (nt (ww (mv (f) z (mi z (mv ((dh aH.sz f k (n+m))) (cA (lo:=(k:Nat)) (hi:=((n+m):Nat)) underlying65 hs z i (by omega) (by omega) (by omega) .i64 .i64 (.inl z) (.inr ⟨z,z⟩)) (mv (g) z ?_)))))))
 obtain ⟨G,H,c⟩:=dg (P:=prog) (t2:=65) (ty:=3) underlying65 hs c c.ay k m (N:=n+m) (by first | omega | (simp only [List.length_append,List.length_take,List.length_drop]; omega)) (by first | omega | (simp only [List.length_append,List.length_take,List.length_drop]; omega)) (by omega) (by first | omega | (simp only [List.length_append,List.length_take,List.length_drop]; omega)) (dT hoq _)
 refine bY (v:=.int .i64 (m:Nat)) (w':=G) z z (iD z z H) (nt (wp_seq (rg c 9 [0,0,0,6,15,0,0,96,255] [] mixed (sz (f) 0 z z (si 1 z z (si 2 z z (sh (I6 _) 3 z (fun w c=>dv t z) (sh ((dh aH.sz f (k+m) (n+m))) 4 z (fun w c=>cA (lo:=((k+m):Nat)) (hi:=((n+m):Nat)) underlying65 hs z i (by omega) (by omega) (by omega) .i64 .i64 (.inl z) (.inr ⟨z,z⟩)) (sz (d) 5 z z (si 6 z z (sh ((dh aH.sz d k n)) 7 z (fun w c=>cA (lo:=(k:Nat)) (hi:=(n:Nat)) underlying65 hs z hsv (by omega) (by omega) (by omega) .i64 .i64 (.inl z) (.inr ⟨z,z⟩)) (e1 8 z z fun w c=>?_))))))))))))
 obtain ⟨J,K,c⟩:=dg (P:=prog) (t2:=65) (ty:=3) underlying65 hs c (c.ab.gY (l:=k) (h:=n) hk (by omega)) (k+m) (n - k) (N:=n+m) (by first | omega | (simp only [List.length_append,List.length_take,List.length_drop]; omega)) (by first | omega | (simp only [List.length_append,List.length_take,List.length_drop]; omega)) (by omega) (by first | omega | (simp only [List.length_append,List.length_take,List.length_drop]; omega)) (dT (iO (dT hoc _) _) _)
 refine bS (v:=.int .i64 ((n - k):Nat)) (w':=J) z (iD z z K) (w0n c (bi ?_))
 intro w c
 refine tn (ww (mv (f) z (mv (f) z (nt (wp_ret (aI (aU [f] results127 (rc z ah) ?_)))))))
 rw [pj hn hm' hk hzl] at c
 exact ⟨_,z,(c.ba ((hr.take k).app (hq.app (hr.drop k)))).bo⟩
}
 {
 refine bT (cvb p) ?_
 have hup:n+m≤qM d:=by have:=of_decide_eq_false p; omega
 obtain ⟨ess,hel,hem,hst'⟩:=c.uf (n+m) (by omega) hup F
 rw [show n+m - css.length=m by omega] at hel
 have i:dc (upV d (n+m)) (n+m):=by have:=hst'.cC.2; rwa [List.length_append,hn,hel] at this
 clear c
 have c:=hst'
 clear hst'
 refine wp_skip (tn (ww (mv (d) z (mi z (mi z (mi (dv s z) (mv ((upV d (n+m))) (pu underlying65 hs z hsv z hup E) (mv ((upV d (n+m))) z (nt (wp_seq (ww (mv (g) z (mv ((upV d (n+m))) z (mi z (mi z (mi (dv t z) (mv ((dh aH.sz (upV d (n+m)) (k+m) (n+m))) (cA (lo:=((k+m):Nat)) (hi:=((n+m):Nat)) underlying65 hs z i (by omega) (by omega) (by omega) .i64 .i64 (.inl z) (.inr ⟨z,z⟩)) (mb (wT z z z (hov _) (lY z underlying65 hs c.ab (k+m) (N:=n+m) (by rw [List.length_append]; omega) (by omega) D y)) (mb z (nt (dq z (wp_seq (rg c 9 [0,0,0,6,15,0,0,96,255] [] mixed (sz ((upV d (n+m))) 0 z z (si 1 z z (si 2 z z (sh (I6 _) 3 z (fun w c=>dv t z) (sh ((dh aH.sz (upV d (n+m)) (k+m) (n+m))) 4 z (fun w c=>cA (lo:=((k+m):Nat)) (hi:=((n+m):Nat)) underlying65 hs z i (by omega) (by omega) (by omega) .i64 .i64 (.inl z) (.inr ⟨z,z⟩)) (sz ((upV d (n+m))) 5 z z (si 6 z z (sh ((dh aH.sz (upV d (n+m)) k (n+m))) 7 z (fun w c=>cA (lo:=(k:Nat)) (hi:=((n+m):Nat)) underlying65 hs z i (by omega) (by omega) (by omega) .i64 .i64 (.inl z) (.inr ⟨z,z⟩)) (e1 8 z z fun w c=>?_))))))))))))))))))))))))))))))))
 obtain ⟨L,M,c⟩:=dg (P:=prog) (t2:=65) (ty:=3) underlying65 hs c (c.gY (l:=k) (h:=n+m) (by omega) (by rw [List.length_append]; omega)) (k+m) (n - k) (N:=n+m) (by first | omega | (simp only [List.length_append,List.length_take,List.length_drop]; omega)) (by first | omega | (simp only [List.length_append,List.length_take,List.length_drop]; omega)) (by omega) (by first | omega | (simp only [List.length_append,List.length_take,List.length_drop]; omega)) (by rw [qH hn hm' hk hel]; exact iO hoc _)
 refine bS (v:=.int .i64 ((n - k):Nat)) (w':=L) z (iD z z M) (w0n c (bi ?_))
 intro w c
 refine tn (ww (mv ((upV d (n+m))) z (mi z (mv ((dh aH.sz (upV d (n+m)) k (n+m))) (cA (lo:=(k:Nat)) (hi:=((n+m):Nat)) underlying65 hs z i (by omega) (by omega) (by omega) .i64 .i64 (.inl z) (.inr ⟨z,z⟩)) (mv (g) z ?_)))))
 obtain ⟨O,Q,c⟩:=dg (P:=prog) (t2:=65) (ty:=3) underlying65 hs c c.ab k m (N:=n+m) (by first | omega | (simp only [List.length_append,List.length_take,List.length_drop]; omega)) (by first | omega | (simp only [List.length_append,List.length_take,List.length_drop]; omega)) (by omega) (by first | omega | (simp only [List.length_append,List.length_take,List.length_drop]; omega)) (dT hoq _)
 refine bY (v:=.int .i64 (m:Nat)) (w':=O) z z (iD z z Q) (nt (ww (mv ((upV d (n+m))) z (mv ((upV d (n+m))) z (nt (wp_ret (aI (aU [(upV d (n+m))] results127 (rc z ah) ?_))))))))
 rw [pt hn hm' hk hel] at c
 exact ⟨_,z,(c.ba ((hr.take k).app (hq.app (hr.drop k)))).bo⟩
}
}
}
}
end Go.Proofs.YtgnkkopjkgdieaaGreat
