/- A part of the proof. -/
import Derived.Test.YtgnkkopjkgdieaaGreatLanePlaysR4
set_option linter.unusedVariables false
set_option linter.unusedSimpArgs false
set_option maxRecDepth 100000
set_option maxHeartbeats 4000000
namespace Go.Proofs.YtgnkkopjkgdieaaGreat
open Go Go.V
open _root_.Go.Proofs.Tryz IntKind
variable {w0 w:World} {I:HL} {R:SP}
attribute [local irreducible] wpList Code.wp wpQuiet Calls bodyPost Oper.wp wpS Nx gE YieldsIn
theorem te {a0:ak} {p0:Value} (b:St w0 w I [bC p0 a0] R) {r:(aC×ak)} (c:eU a0=some r) :
  Calls prog 38 #[p0] w fun e w'=>∃ (I':HL) (b4:Value) (b5:Value) (b6:Value) (b7:Value) (b8:Value) (b9:Value) (c1:Value) (c2:Value),e = .returned (.agg #[U1 r.1.Kind,U6 r.1.ID.Session,U6 r.1.ID.Seq,U6 r.1.Epoch,U6 r.1.Index,I6 r.1.E,U6 r.1.Hold.ID.Session,U6 r.1.Hold.ID.Seq,U6 r.1.Hold.Epoch,b4,b5,b6,b7,b8,I6 r.1.R.E,U6 r.1.R.Epoch,U6 r.1.R.Index,b9,c1,U6 r.1.Shards,c2,U6 r.1.Rule.ID,I6 r.1.Rule.From,I6 r.1.Rule.To,F6 r.1.Rule.Lo,F6 r.1.Rule.Hi,U6 r.1.Rule.Authority,I6 r.1.Rule.Quota,.bool r.1.On])∧I.le I'∧St w0 w' I' [aZ bV b4 r.1.Hold.Gets,aZ gn b5 r.1.Hold.Scans,aZ bV b6 r.1.Hold.Puts,aZ (cg .u8) b7 r.1.Hold.Data,aZ cG b8 r.1.Writes,aZ aA b9 r.1.R.Gots,aZ (dG aw) c1 r.1.R.Scans,aZ cJ c2 r.1.Parts,bC p0 r.2] R:=by {
 unfold eU at c
 refine c0 func38 z ntmps38 ?_
 have h:=HL.le.refl I
 refine ww ?_
 obtain ⟨y,j0,c8,c9,b⟩:=b.box [Zb,Zu,Zu,Zu,Zu,Zi,Zu,Zu,Zu,Zs,Zs,Zs,Zs,Zs,Zi,Zu,Zu,Zs,Zs,Zu,Zs,Zu,Zi,Zi,Zf,Zf,Zu,Zi,.bool false] 49
 refine wa c8 c9 (nt (ww (mv (p0) z ?_)))
 replace b:=b.ab
 obtain ⟨d,d0,c⟩:=bn c
 refine wc call64 [p0,I6 7] z z z (kca (aP b.to1 d0) fun j1 b=>?_)
 replace b:=b.of1
 refine mi z (mk (.int .u8 (u8.wrap (i64.wrap (1+d.1)))) (mk (.agg #[U1 (u8.wrap (i64.wrap (1+d.1))),Zu,Zu,Zu,Zu,Zi,Zu,Zu,Zu,Zs,Zs,Zs,Zs,Zs,Zi,Zu,Zu,Zs,Zs,Zu,Zs,Zu,Zi,Zi,Zf,Zf,Zu,Zi,.bool false]) ?_))
 obtain ⟨A,j2,d1,d2,b⟩:=b.box [Zb,Zu,Zu,Zu,Zu,Zi,Zu,Zu,Zu,Zs,Zs,Zs,Zs,Zs,Zi,Zu,Zu,Zs,Zs,Zu,Zs,Zu,Zi,Zi,Zf,Zf,Zu,Zi,.bool false] 49
 refine wa d1 d2 (bxk b z sizeOf49 (oJ 29 z oN) fun j3 b=>nt (wp_seq (ww (mf z underlying49 z sizeOf5 (ml z isAgg5 (b.bc0 z) (nt (wp_block (ww (mb z (mb z (nt (bw c z ?_ ?_))))))))))))
 {
 intro d3 c
 refine wrl (mv (p0) z ?_)
 replace b:=b.ab
 obtain ⟨C,d4,c⟩:=bn c
 refine wc call64 [p0,I6 4] z z z (kca (aP b.to1 d4) fun j4 b=>?_)
 replace b:=b.of1
 refine mi z (mk (.int .u64 (u64.wrap (i64.wrap (1+C.1)))) (mf z underlying49 z sizeOf26 ?_))
 replace b:=b.ab
 refine byk (U6 (u64.wrap (i64.wrap (1+C.1)))) b z sizeOf26 (oC z oN) fun j5 b=>dk (bB (tn (ww (mz (av (cs:=[U1 (u8.wrap (i64.wrap (1+d.1))),Zu,Zu,U6 (u64.wrap (i64.wrap (1+C.1))),Zu,Zi,Zu,Zu,Zu,Zs,Zs,Zs,Zs,Zs,Zi,Zu,Zu,Zs,Zs,Zu,Zs,Zu,Zi,Zi,Zf,Zf,Zu,Zi,.bool false]) z isAgg49 sizeOf49 (b.eD 0 z)) ?_))))
 replace b:=b.ay
 refine bxk b z sizeOf49 (oJ 29 z oN) fun j6 b=>nt (wp_ret ?_)
 replace b:=(((((((b.aX bV).aX gn).aX bV).aX (cg .u8)).aX cG).aX aA).aX (dG aw)).aX cJ
 cases c
 exact aU [.agg #[U1 (u8.wrap (i64.wrap (1+d.1))),Zu,Zu,U6 (u64.wrap (i64.wrap (1+C.1))),Zu,Zi,Zu,Zu,Zu,Zs,Zs,Zs,Zs,Zs,Zi,Zu,Zu,Zs,Zs,Zu,Zs,Zu,Zi,Zi,Zf,Zf,Zu,Zi,.bool false]] results38 (bj (bF (cs:=[U1 (u8.wrap (i64.wrap (1+d.1))),Zu,Zu,U6 (u64.wrap (i64.wrap (1+C.1))),Zu,Zi,Zu,Zu,Zu,Zs,Zs,Zs,Zs,Zs,Zi,Zu,Zu,Zs,Zs,Zu,Zs,Zu,Zi,Zi,Zf,Zf,Zu,Zi,.bool false]) z isAgg49 sizeOf49 (b.wG 0 z)) ah) ⟨_,Zs,Zs,Zs,Zs,Zs,Zs,Zs,Zs,z,h,b.bq.ab.ay.ap.aY.aW.cV.aG.bH.ri⟩
}
 {
 intro d3 c
 refine ww (mb z (mb z (nt (bw c z ?_ ?_))))
 {
 intro d5 c
 refine wrl (mv (p0) z ?_)
 replace b:=b.ab
 obtain ⟨i,d6,c⟩:=bn c
 refine wc call83 [p0] z z z ((sY b.to1 d6).mono ?_)
 rintro _ j7 ⟨D,F,G,H,rfl,b⟩
 refine ⟨_,z,?_⟩
 replace b:=b.of5
 refine mf z underlying49 z sizeOf46 ?_
 replace b:=b.aW
 refine byk (.agg #[U6 i.1.ID.Session,U6 i.1.ID.Seq,U6 i.1.Epoch,D,F,G,H]) b z sizeOf46 (oJ 3 z (oC (oS b.sv1) (oC (oS b.sv2) (oC (oS b.sv3) (oC (oS b.sv4) oN))))) fun j8 b=>dk (bB (tn (ww (mz (av (cs:=[U1 (u8.wrap (i64.wrap (1+d.1))),Zu,Zu,Zu,Zu,Zi,U6 i.1.ID.Session,U6 i.1.ID.Seq,U6 i.1.Epoch,D,F,G,H,Zs,Zi,Zu,Zu,Zs,Zs,Zu,Zs,Zu,Zi,Zi,Zf,Zf,Zu,Zi,.bool false]) z isAgg49 sizeOf49 (b.eD 0 z)) ?_))))
 replace b:=b.cV
 refine bxk b z sizeOf49 (oJ 9 z (oC (oS b.sv2) (oC (oS b.sv3) (oC (oS b.sv4) (oC (oS b.sv5) (oJ 16 z oN)))))) fun j9 b=>nt (wp_ret ?_)
 replace b:=(((b.aX cG).aX aA).aX (dG aw)).aX cJ
 cases c
 exact aU [.agg #[U1 (u8.wrap (i64.wrap (1+d.1))),Zu,Zu,Zu,Zu,Zi,U6 i.1.ID.Session,U6 i.1.ID.Seq,U6 i.1.Epoch,D,F,G,H,Zs,Zi,Zu,Zu,Zs,Zs,Zu,Zs,Zu,Zi,Zi,Zf,Zf,Zu,Zi,.bool false]] results38 (bj (bF (cs:=[U1 (u8.wrap (i64.wrap (1+d.1))),Zu,Zu,Zu,Zu,Zi,U6 i.1.ID.Session,U6 i.1.ID.Seq,U6 i.1.Epoch,D,F,G,H,Zs,Zi,Zu,Zu,Zs,Zs,Zu,Zs,Zu,Zi,Zi,Zf,Zf,Zu,Zi,.bool false]) z isAgg49 sizeOf49 (b.wq 0 z)) ah) ⟨_,D,F,G,H,Zs,Zs,Zs,Zs,z,h,b.bq.ab.ay.ap.aY.bq.bq.bq.bq.ri⟩
}
 {
 intro d5 c
 refine ww (mb z (mb z (nt (bw c z ?_ ?_))))
 {
 intro d7 c
 refine ww (mv (p0) z ?_)
 replace b:=b.ab
 obtain ⟨o,d8,c⟩:=bn c
 refine wc call27 [p0] z z z (kca (jA b.to1 d8) fun k0 b=>?_)
 replace b:=b.of1
 refine mf z underlying49 z sizeOf28 ?_
 replace b:=b.ab
 refine byk (.agg #[U6 o.1.Session,U6 o.1.Seq]) b z sizeOf28 (oC z (oC z oN)) fun k1 b=>nt (ww ?_)
 obtain ⟨d9,e0,e2,e3,b⟩:=b.er (E:=(cg .i64)) (xs:=[0,0,8]) [[Zi],[Zi],[I6 8]] 29 3 z (bz.cons z (bz.cons z (bz.cons z bz.nil)))
 refine bY (v:=(.slice (some ⟨d9,0,none⟩) 3 3)) (w':=e0) z z (di (by kernel_rfl) e2 e3) (mv (p0) z ?_)
 replace b:=b.ay
 obtain ⟨k2,e4,c⟩:=bn c
 refine wc call64 [p0,I6 3] z z z (kca (aP b.to1 e4) fun k3 b=>?_)
 replace b:=b.of1
 obtain ⟨U,e5,c⟩:=bn c
 obtain ⟨e6,e7,e8⟩:=aK e5
 refine mz (az z z underlying150 sizeOf29 b.sv1 e6 e7) (ml z isAgg29 (b.ol1 e8 (by rintro _ rfl; rfl)) (mf z underlying49 z sizeOf29 ?_))
 replace b:=b.ay
 refine byk (I6 U) b z sizeOf29 (oC z oN) fun k4 b=>nt (ww (mv (p0) z ?_))
 replace b:=b.ab
 obtain ⟨J,e9,c⟩:=bn c
 refine wc call64 [p0,I6 4] z z z (kca (aP b.to1 e9) fun k5 b=>?_)
 replace b:=b.of1
 refine mi z (mk (.int .u64 (u64.wrap (i64.wrap (1+J.1)))) (mf z underlying49 z sizeOf26 ?_))
 replace b:=b.ab
 refine byk (U6 (u64.wrap (i64.wrap (1+J.1)))) b z sizeOf26 (oC z oN) fun k6 b=>nt (ww (mv (p0) z ?_))
 replace b:=b.ab
 obtain ⟨K,f0,c⟩:=bn c
 refine wc call64 [p0,I6 20] z z z (kca (aP b.to1 f0) fun k7 b=>?_)
 replace b:=b.of1
 refine mk (.int .u64 (u64.wrap K.1)) (mf z underlying49 z sizeOf26 ?_)
 replace b:=b.ab
 refine byk (U6 (u64.wrap K.1)) b z sizeOf26 (oC z oN) fun k8 b=>nt (wrl (mv (p0) z ?_))
 replace b:=b.ab
 obtain ⟨k9,f1,c⟩:=bn c
 refine wc call29 [p0] z z z ((mS b.to1 f1).mono ?_)
 rintro _ l0 ⟨I530,L,rfl,f2,b⟩
 refine ⟨_,z,?_⟩
 replace b:=b.of2
 replace h:=h.trans f2
 refine mf z underlying49 z sizeOf42 ?_
 replace b:=b.ay
 refine b1k L b z (oS b.sv1) sizeOf42 fun l1 b=>dk (bB (tn (ww (mz (av (cs:=[U1 (u8.wrap (i64.wrap (1+d.1))),U6 o.1.Session,U6 o.1.Seq,U6 (u64.wrap (i64.wrap (1+J.1))),U6 (u64.wrap K.1),I6 U,Zu,Zu,Zu,Zs,Zs,Zs,Zs,L,Zi,Zu,Zu,Zs,Zs,Zu,Zs,Zu,Zi,Zi,Zf,Zf,Zu,Zi,.bool false]) z isAgg49 sizeOf49 (b.eD 0 z)) ?_))))
 replace b:=b.aY
 refine bxk b z sizeOf49 (oJ 13 z (oC (oS b.sv2) (oJ 15 z oN))) fun l2 b=>nt (wp_ret ?_)
 replace b:=((((((b.aX bV).aX gn).aX bV).aX (cg .u8)).aX aA).aX (dG aw)).aX cJ
 cases c
 exact aU [.agg #[U1 (u8.wrap (i64.wrap (1+d.1))),U6 o.1.Session,U6 o.1.Seq,U6 (u64.wrap (i64.wrap (1+J.1))),U6 (u64.wrap K.1),I6 U,Zu,Zu,Zu,Zs,Zs,Zs,Zs,L,Zi,Zu,Zu,Zs,Zs,Zu,Zs,Zu,Zi,Zi,Zf,Zf,Zu,Zi,.bool false]] results38 (bj (bF (cs:=[U1 (u8.wrap (i64.wrap (1+d.1))),U6 o.1.Session,U6 o.1.Seq,U6 (u64.wrap (i64.wrap (1+J.1))),U6 (u64.wrap K.1),I6 U,Zu,Zu,Zu,Zs,Zs,Zs,Zs,L,Zi,Zu,Zu,Zs,Zs,Zu,Zs,Zu,Zi,Zi,Zf,Zf,Zu,Zi,.bool false]) z isAgg49 sizeOf49 (b.FB 0 z)) ah) ⟨_,Zs,Zs,Zs,Zs,L,Zs,Zs,Zs,z,h,b.bq.ab.ay.ap.bq.aW.cV.aG.bH.ri⟩
}
 {
 intro d7 c
 refine ww (mb z (mb z (nt (bw c z ?_ ?_))))
 {
 intro f3 c
 refine ww (mv (p0) z ?_)
 replace b:=b.ab
 obtain ⟨l,f4,c⟩:=bn c
 refine wc call27 [p0] z z z (kca (jA b.to1 f4) fun l3 b=>?_)
 replace b:=b.of1
 refine mf z underlying49 z sizeOf28 ?_
 replace b:=b.ab
 refine byk (.agg #[U6 l.1.Session,U6 l.1.Seq]) b z sizeOf28 (oC z (oC z oN)) fun l4 b=>nt ?_
 obtain ⟨l5,c,c3⟩:=bn c
 refine cQ (fun a w=>∃ (Y:ak) (m:Int),(iZ d l) (Y,m)=some r∧fz 124 [0,2,3] [p0,Pt y 0,Pt A 0] a∧St w0 w I [bC p0 Y,cells y [Zb,Zu,Zu,Zu,Zu,Zi,Zu,Zu,Zu,Zs,Zs,Zs,Zs,Zs,Zi,Zu,Zu,Zs,Zs,Zu,Zs,Zu,Zi,Zi,Zf,Zf,Zu,Zi,.bool false],cells A [U1 (u8.wrap (i64.wrap (1+d.1))),U6 m,U6 l.1.Seq,Zu,Zu,Zi,Zu,Zu,Zu,Zs,Zs,Zs,Zs,Zs,Zi,Zu,Zu,Zs,Zs,Zu,Zs,Zu,Zi,Zi,Zf,Zf,Zu,Zi,.bool false]] R) ?_ ?_
 {
 refine ww (mv (p0) z ?_)
 replace b:=b.ab
 obtain ⟨l6,f5,c⟩:=bn c
 refine wc call64 [p0,I6 6] z z z (kca (aP b.to1 f5) fun l7 b=>?_)
 replace b:=b.of1
 refine mb z (nt (bw c z ?_ ?_))
 {
 intro f6 c
 refine wrl (mf z underlying49 z sizeOf28 (mf z underlying28 z sizeOf26 (ml z isAgg26 (b.bc1 z) (mi z (mf z underlying49 z sizeOf28 (mf z underlying28 z sizeOf26 ?_))))))
 replace b:=b.ab
 refine byk (U6 (u64.wrap (l.1.Session+9223372036854775808))) b z sizeOf26 (oC z oN) fun l8 b=>nt ?_
 cases c
 exact ⟨_,_,c3,fy z,b.ay.ay.dC⟩
}
 {
 intro f6 c
 refine wp_skip (tn ?_)
 cases c
 exact ⟨_,_,c3,fy z,b.ab.ay.ay.dC⟩
}
}
 {
 rintro _ l9 ⟨Y,m,c,⟨m0,rfl⟩,b⟩
 dsimp only [iZ] at c
 refine ww (mv (p0) z ?_)
 obtain ⟨p,f7,c⟩:=bn c
 refine wc call64 [p0,I6 4] z z z (kca (aP b.to1 f7) fun m1 b=>?_)
 replace b:=b.of1
 refine mi z (mk (.int .u64 (u64.wrap (i64.wrap (1+p.1)))) (mf z underlying49 z sizeOf26 ?_))
 replace b:=b.ay
 refine byk (U6 (u64.wrap (i64.wrap (1+p.1)))) b z sizeOf26 (oC z oN) fun m2 b=>nt (ww (mv (p0) z ?_))
 replace b:=b.ab
 obtain ⟨q,f8,c⟩:=bn c
 refine wc call64 [p0,I6 4] z z z (kca (aP b.to1 f8) fun m3 b=>?_)
 replace b:=b.of1
 refine mk (.int .u64 (u64.wrap q.1)) (mf z underlying49 z sizeOf26 ?_)
 replace b:=b.ab
 refine byk (U6 (u64.wrap q.1)) b z sizeOf26 (oC z oN) fun m4 b=>nt (ww (mv (p0) z ?_))
 replace b:=b.ab
 obtain ⟨Z,f9,c⟩:=bn c
 refine wc call64 [p0,I6 3] z z z (kca (aP b.to1 f9) fun m5 b=>?_)
 replace b:=b.of1
 refine mi z (nt ?_)
 obtain ⟨g0,c,g1⟩:=bn c
 refine cQ (fun a w=>∃ (I703:HL) (b0:ak) (b1:(List dX)) (u:Value),(mT d m l p q) (b0,b1)=some r∧fz 124 [0,2,3] [p0,Pt y 0,Pt A 0] a∧I.le I703∧St w0 w I703 [bC p0 b0,cells y [Zb,Zu,Zu,Zu,Zu,Zi,Zu,Zu,Zu,Zs,Zs,Zs,Zs,Zs,Zi,Zu,Zu,Zs,Zs,Zu,Zs,Zu,Zi,Zi,Zf,Zf,Zu,Zi,.bool false],cells A [U1 (u8.wrap (i64.wrap (1+d.1))),U6 m,U6 l.1.Seq,U6 (u64.wrap (i64.wrap (1+p.1))),Zu,Zi,Zu,Zu,Zu,Zs,Zs,Zs,Zs,Zs,Zi,Zu,Zu,Zs,Zs,U6 (u64.wrap q.1),u,Zu,Zi,Zi,Zf,Zf,Zu,Zi,.bool false],aZ cJ u b1] R) ?_ ?_
 {
 have b2:=HL.le.refl I
 refine ww (mi z (nt (wp_block ?_)))
 replace b:=b.aX cJ
 obtain ⟨g2,c⟩:=aS c
 refine bf (fun n a w=>∃ (I665:HL) (M:(List dX)) (V:ak) (x:Int) (W:Value),cP (dP Z) n (M,V,x)=some g0∧fz 124 [0,2,3,4,5] [p0,Pt y 0,Pt A 0,I6 Z.1,I6 x] a∧I.le I665∧St w0 w I665 [aZ cJ W M,bC p0 V,cells A [U1 (u8.wrap (i64.wrap (1+d.1))),U6 m,U6 l.1.Seq,U6 (u64.wrap (i64.wrap (1+p.1))),Zu,Zi,Zu,Zu,Zu,Zs,Zs,Zs,Zs,Zs,Zi,Zu,Zu,Zs,Zs,U6 (u64.wrap q.1),W,Zu,Zi,Zi,Zf,Zf,Zu,Zi,.bool false],cells y [Zb,Zu,Zu,Zu,Zu,Zi,Zu,Zu,Zu,Zs,Zs,Zs,Zs,Zs,Zi,Zu,Zu,Zs,Zs,Zu,Zs,Zu,Zi,Zi,Zf,Zf,Zu,Zi,.bool false]] R) g2 ⟨_,[],Z.2,0,Zs,c,fy z,lr,b⟩ ?_
 rintro m6 _ m7 ⟨I665,M,V,x,W,c,⟨m8,rfl⟩,B,b⟩
 obtain ⟨m9,n0,rfl,c,c4⟩:=aV c
 dsimp only [dP] at c
 replace b2:=b2.trans B
 refine wp_seq (ww (mi z (mi z (mb z (nt (bw c z ?_ ?_))))))
 {
 intro g3 c
 refine wp_skip (tn (wp_seq (wp_block (rg b 10 [0,1,0,0,8,28,60,127,255,511] [] mixed (sf 0 z z underlying49 z sizeOf47 (sl 1 z z isAgg47 (fun w b=>b.bc2 z) (si 2 z z (sz (p0) 3 z z (e1 4 z z fun w b=>?_)))))))))
 replace b:=b.ab
 obtain ⟨c5,g4,c⟩:=bn c
 refine wec call29 [p0] z z ((mS b.to1 g4).mono ?_)
 rintro _ n1 ⟨I678,c6,rfl,g5,b⟩
 refine ⟨_,z,?_⟩
 replace b:=b.of2
 replace B:=B.trans g5
 refine wn [2,1,0] b (pz (pkr z z (fun w b=>ao z isAgg47 (b.bc3 z)) (pf z z underlying49 z sizeOf47 bu))) (wsr (.agg #[I6 x,c6]) 5 rfl rfl rfl (by kernel_rfl) (fun w b=>by obtain ⟨_,_,hv_,_⟩:=b.sv0; rw [hv_]; kernel_rfl) (e1 6 z z fun w b=>?_))
 obtain ⟨I684,g6,c7,b⟩:=b.cK
 replace B:=B.trans g6
 obtain ⟨g7,g8,g9,h0,b⟩:=b.er (E:=cJ) (xs:=[({Shard:=x,Writes:=c5.1}:dX)]) [[I6 x,c6]] 156 1 z (bz.cons ⟨_,z,c7,oS (ag c7)⟩ bz.nil)
 refine bS (v:=(.slice (some ⟨g7,0,none⟩) 1 1)) (w':=g8) z (di (by kernel_rfl) g9 h0) (wn [1,0] b (pkr z z (fun w b=>ao z isAgg47 (b.bc3 z)) (pf z z underlying49 z sizeOf47 bu)) (e1 7 z z fun w b=>?_))
 obtain ⟨h1,c⟩:=cw c
 replace b:=b.ay
 obtain ⟨b3,h2,h3,b⟩:=bE Ae underlying47 b b.jr (cF h1 z) 47
 refine bS (v:=b3) (w':=h2) z (bU z z h3) (w0n b (sf 8 z z underlying49 z sizeOf47 (e1 9 z z fun w b=>?_)))
 replace b:=b.ap
 refine b1e b3 b z (oS b.sv1) sizeOf47 fun n2 b=>w0n b (bi ?_)
 intro w b
 refine bB (tn (wrl (mi z (mi z (mi z (nt ?_))))))
 cases c
 exact ⟨_,nls,_,(M++([({Shard:=x,Writes:=c5.1}:dX)])),_,_,b3,c4,fy z,B,b.aY.ab.aY.ap.eF⟩
}
 {
 intro g3 c
 refine wp_exit (aQ (aQ ?_))
 replace c:=bg c c4
 refine cZ (tn ?_)
 cases c
 exact ⟨_,V,M,W,g1,fy z,b2,b.ay.ap.ap.eF⟩
}
}
 {
 rintro _ n3 ⟨I703,b0,b1,u,c,⟨n4,rfl⟩,h4,b⟩
 dsimp only [mT] at c
 replace h:=h.trans h4
 refine wrl (mv (p0) z ?_)
 obtain ⟨j,h5,c⟩:=bn c
 refine wc call35 [p0] z z z ((pU b.to1 h5).mono ?_)
 rintro _ n5 ⟨I713,N,O,rfl,h6,b⟩
 refine ⟨_,z,?_⟩
 replace b:=b.of3
 replace h:=h.trans h6
 refine mf z underlying49 z sizeOf33 ?_
 replace b:=b.aY
 refine byk (.agg #[I6 j.1.E,U6 j.1.Epoch,U6 j.1.Index,N,O]) b z sizeOf33 (oJ 3 z (oC (oS b.sv1) (oC (oS b.sv2) oN))) fun n6 b=>dk (bB (tn (ww (mz (av (cs:=[U1 (u8.wrap (i64.wrap (1+d.1))),U6 m,U6 l.1.Seq,U6 (u64.wrap (i64.wrap (1+p.1))),Zu,Zi,Zu,Zu,Zu,Zs,Zs,Zs,Zs,Zs,I6 j.1.E,U6 j.1.Epoch,U6 j.1.Index,N,O,U6 (u64.wrap q.1),u,Zu,Zi,Zi,Zf,Zf,Zu,Zi,.bool false]) z isAgg49 sizeOf49 (b.eD 0 z)) ?_))))
 replace b:=b.aY
 refine bxk b z sizeOf49 (oJ 17 z (oC (oS b.sv2) (oC (oS b.sv3) (oC z (oC (oS b.sv5) (oJ 8 z oN)))))) fun n7 b=>nt (wp_ret ?_)
 replace b:=((((b.aX bV).aX gn).aX bV).aX (cg .u8)).aX cG
 cases c
 exact aU [.agg #[U1 (u8.wrap (i64.wrap (1+d.1))),U6 m,U6 l.1.Seq,U6 (u64.wrap (i64.wrap (1+p.1))),Zu,Zi,Zu,Zu,Zu,Zs,Zs,Zs,Zs,Zs,I6 j.1.E,U6 j.1.Epoch,U6 j.1.Index,N,O,U6 (u64.wrap q.1),u,Zu,Zi,Zi,Zf,Zf,Zu,Zi,.bool false]] results38 (bj (bF (cs:=[U1 (u8.wrap (i64.wrap (1+d.1))),U6 m,U6 l.1.Seq,U6 (u64.wrap (i64.wrap (1+p.1))),Zu,Zi,Zu,Zu,Zu,Zs,Zs,Zs,Zs,Zs,I6 j.1.E,U6 j.1.Epoch,U6 j.1.Index,N,O,U6 (u64.wrap q.1),u,Zu,Zi,Zi,Zf,Zf,Zu,Zi,.bool false]) z isAgg49 sizeOf49 (b.xB 0 z)) ah) ⟨_,Zs,Zs,Zs,Zs,Zs,N,O,u,z,h,b.bO.bq.bq.bq.aY.aW.cV.aG.bH.ri⟩
}
}
}
 {
 intro f3 c
 refine ww (mb z (mb z (nt (bw c z ?_ ?_))))
 {
 intro h7 c
 refine wrl (mv (p0) z ?_)
 replace b:=b.ab
 obtain ⟨s,h8,c⟩:=bn c
 refine wc call27 [p0] z z z (kca (jA b.to1 h8) fun n8 b=>?_)
 replace b:=b.of1
 refine mf z underlying49 z sizeOf28 ?_
 replace b:=b.ab
 refine byk (.agg #[U6 s.1.Session,U6 s.1.Seq]) b z sizeOf28 (oC z (oC z oN)) fun n9 b=>dk (bB (tn (ww (mz (av (cs:=[U1 (u8.wrap (i64.wrap (1+d.1))),U6 s.1.Session,U6 s.1.Seq,Zu,Zu,Zi,Zu,Zu,Zu,Zs,Zs,Zs,Zs,Zs,Zi,Zu,Zu,Zs,Zs,Zu,Zs,Zu,Zi,Zi,Zf,Zf,Zu,Zi,.bool false]) z isAgg49 sizeOf49 (b.eD 0 z)) ?_))))
 replace b:=b.ay
 refine bxk b z sizeOf49 (oJ 29 z oN) fun o0 b=>nt (wp_ret ?_)
 replace b:=(((((((b.aX bV).aX gn).aX bV).aX (cg .u8)).aX cG).aX aA).aX (dG aw)).aX cJ
 cases c
 exact aU [.agg #[U1 (u8.wrap (i64.wrap (1+d.1))),U6 s.1.Session,U6 s.1.Seq,Zu,Zu,Zi,Zu,Zu,Zu,Zs,Zs,Zs,Zs,Zs,Zi,Zu,Zu,Zs,Zs,Zu,Zs,Zu,Zi,Zi,Zf,Zf,Zu,Zi,.bool false]] results38 (bj (bF (cs:=[U1 (u8.wrap (i64.wrap (1+d.1))),U6 s.1.Session,U6 s.1.Seq,Zu,Zu,Zi,Zu,Zu,Zu,Zs,Zs,Zs,Zs,Zs,Zi,Zu,Zu,Zs,Zs,Zu,Zs,Zu,Zi,Zi,Zf,Zf,Zu,Zi,.bool false]) z isAgg49 sizeOf49 (b.wG 0 z)) ah) ⟨_,Zs,Zs,Zs,Zs,Zs,Zs,Zs,Zs,z,h,b.bq.ab.ay.ap.aY.aW.cV.aG.bH.ri⟩
}
 {
 intro h7 c
 refine ww (mb z (mb z (nt (bw c z ?_ ?_))))
 {
 intro h9 c
 refine ww (mv (p0) z ?_)
 replace b:=b.ab
 obtain ⟨f,i0,c⟩:=bn c
 refine wc call84 [p0] z z z (kca (qP b.to1 i0) fun o1 b=>?_)
 replace b:=b.of1
 refine mf z underlying49 z sizeOf39 ?_
 replace b:=b.ab
 refine byk (.agg #[U6 f.1.ID,I6 f.1.From,I6 f.1.To,F6 f.1.Lo,F6 f.1.Hi,U6 f.1.Authority,I6 f.1.Quota]) b z sizeOf39 (oJ 7 z oN) fun o2 b=>nt (wrl (mv (p0) z ?_))
 replace b:=b.ab
 obtain ⟨X,i1,c⟩:=bn c
 refine wc call64 [p0,I6 3] z z z (kca (aP b.to1 i1) fun o3 b=>?_)
 replace b:=b.of1
 refine mb z (mf z underlying49 z sizeOf4 ?_)
 replace b:=b.ab
 refine byk (.bool (decide (X.1>0))) b z sizeOf4 (oC z oN) fun o4 b=>dk (bB (tn (ww (mz (av (cs:=[U1 (u8.wrap (i64.wrap (1+d.1))),Zu,Zu,Zu,Zu,Zi,Zu,Zu,Zu,Zs,Zs,Zs,Zs,Zs,Zi,Zu,Zu,Zs,Zs,Zu,Zs,U6 f.1.ID,I6 f.1.From,I6 f.1.To,F6 f.1.Lo,F6 f.1.Hi,U6 f.1.Authority,I6 f.1.Quota,.bool (decide (X.1>0))]) z isAgg49 sizeOf49 (b.eD 0 z)) ?_))))
 replace b:=b.ay
 refine bxk b z sizeOf49 (oJ 29 z oN) fun o5 b=>nt (wp_ret ?_)
 replace b:=(((((((b.aX bV).aX gn).aX bV).aX (cg .u8)).aX cG).aX aA).aX (dG aw)).aX cJ
 cases c
 exact aU [.agg #[U1 (u8.wrap (i64.wrap (1+d.1))),Zu,Zu,Zu,Zu,Zi,Zu,Zu,Zu,Zs,Zs,Zs,Zs,Zs,Zi,Zu,Zu,Zs,Zs,Zu,Zs,U6 f.1.ID,I6 f.1.From,I6 f.1.To,F6 f.1.Lo,F6 f.1.Hi,U6 f.1.Authority,I6 f.1.Quota,.bool (decide (X.1>0))]] results38 (bj (bF (cs:=[U1 (u8.wrap (i64.wrap (1+d.1))),Zu,Zu,Zu,Zu,Zi,Zu,Zu,Zu,Zs,Zs,Zs,Zs,Zs,Zi,Zu,Zu,Zs,Zs,Zu,Zs,U6 f.1.ID,I6 f.1.From,I6 f.1.To,F6 f.1.Lo,F6 f.1.Hi,U6 f.1.Authority,I6 f.1.Quota,.bool (decide (X.1>0))]) z isAgg49 sizeOf49 (b.wG 0 z)) ah) ⟨_,Zs,Zs,Zs,Zs,Zs,Zs,Zs,Zs,z,h,b.bq.ab.ay.ap.aY.aW.cV.aG.bH.ri⟩
}
 {
 intro h9 c
 refine ww (mb z (mb z (nt (bw c z ?_ ?_))))
 {
 intro i2 c
 refine ww (mv (p0) z ?_)
 replace b:=b.ab
 obtain ⟨t,i3,c⟩:=bn c
 refine wc call27 [p0] z z z (kca (jA b.to1 i3) fun o6 b=>?_)
 replace b:=b.of1
 refine mf z underlying49 z sizeOf28 ?_
 replace b:=b.ab
 refine byk (.agg #[U6 t.1.Session,U6 t.1.Seq]) b z sizeOf28 (oC z (oC z oN)) fun o7 b=>nt (ww (mv (p0) z ?_))
 replace b:=b.ab
 obtain ⟨P,i4,c⟩:=bn c
 refine wc call64 [p0,I6 4] z z z (kca (aP b.to1 i4) fun o8 b=>?_)
 replace b:=b.of1
 refine mi z (mk (.int .u64 (u64.wrap (i64.wrap (1+P.1)))) (mf z underlying49 z sizeOf26 ?_))
 replace b:=b.ab
 refine byk (U6 (u64.wrap (i64.wrap (1+P.1)))) b z sizeOf26 (oC z oN) fun o9 b=>nt (ww (mv (p0) z ?_))
 replace b:=b.ab
 obtain ⟨g,i5,c⟩:=bn c
 refine wc call84 [p0] z z z (kca (qP b.to1 i5) fun q0 b=>?_)
 replace b:=b.of1
 refine mf z underlying49 z sizeOf39 ?_
 replace b:=b.ab
 refine byk (.agg #[U6 g.1.ID,I6 g.1.From,I6 g.1.To,F6 g.1.Lo,F6 g.1.Hi,U6 g.1.Authority,I6 g.1.Quota]) b z sizeOf39 (oJ 7 z oN) fun q1 b=>nt (ww (mv (p0) z ?_))
 replace b:=b.ab
 obtain ⟨q2,i6,c⟩:=bn c
 refine wc call29 [p0] z z z ((mS b.to1 i6).mono ?_)
 rintro _ q3 ⟨I775,Q,rfl,i7,b⟩
 refine ⟨_,z,?_⟩
 replace b:=b.of2
 replace h:=h.trans i7
 refine mf z underlying49 z sizeOf42 ?_
 replace b:=b.ay
 refine b1k Q b z (oS b.sv1) sizeOf42 fun q4 b=>nt (wrl (mv (p0) z ?_))
 replace b:=b.ay
 obtain ⟨k,i8,c⟩:=bn c
 refine wc call35 [p0] z z z ((pU b.to1 i8).mono ?_)
 rintro _ q5 ⟨I784,S,T,rfl,i9,b⟩
 refine ⟨_,z,?_⟩
 replace b:=b.of3
 replace h:=h.trans i9
 refine mf z underlying49 z sizeOf33 ?_
 replace b:=b.ap
 refine byk (.agg #[I6 k.1.E,U6 k.1.Epoch,U6 k.1.Index,S,T]) b z sizeOf33 (oJ 3 z (oC (oS b.sv1) (oC (oS b.sv2) oN))) fun q6 b=>dk (bB (tn (ww (mz (av (cs:=[U1 (u8.wrap (i64.wrap (1+d.1))),U6 t.1.Session,U6 t.1.Seq,U6 (u64.wrap (i64.wrap (1+P.1))),Zu,Zi,Zu,Zu,Zu,Zs,Zs,Zs,Zs,Q,I6 k.1.E,U6 k.1.Epoch,U6 k.1.Index,S,T,Zu,Zs,U6 g.1.ID,I6 g.1.From,I6 g.1.To,F6 g.1.Lo,F6 g.1.Hi,U6 g.1.Authority,I6 g.1.Quota,.bool false]) z isAgg49 sizeOf49 (b.eD 0 z)) ?_))))
 replace b:=b.aW
 refine bxk b z sizeOf49 (oJ 13 z (oC (oS b.sv5) (oJ 3 z (oC (oS b.sv2) (oC (oS b.sv3) (oJ 10 z oN)))))) fun q7 b=>nt (wp_ret ?_)
 replace b:=((((b.aX bV).aX gn).aX bV).aX (cg .u8)).aX cJ
 cases c
 exact aU [.agg #[U1 (u8.wrap (i64.wrap (1+d.1))),U6 t.1.Session,U6 t.1.Seq,U6 (u64.wrap (i64.wrap (1+P.1))),Zu,Zi,Zu,Zu,Zu,Zs,Zs,Zs,Zs,Q,I6 k.1.E,U6 k.1.Epoch,U6 k.1.Index,S,T,Zu,Zs,U6 g.1.ID,I6 g.1.From,I6 g.1.To,F6 g.1.Lo,F6 g.1.Hi,U6 g.1.Authority,I6 g.1.Quota,.bool false]] results38 (bj (bF (cs:=[U1 (u8.wrap (i64.wrap (1+d.1))),U6 t.1.Session,U6 t.1.Seq,U6 (u64.wrap (i64.wrap (1+P.1))),Zu,Zi,Zu,Zu,Zu,Zs,Zs,Zs,Zs,Q,I6 k.1.E,U6 k.1.Epoch,U6 k.1.Index,S,T,Zu,Zs,U6 g.1.ID,I6 g.1.From,I6 g.1.To,F6 g.1.Lo,F6 g.1.Hi,U6 g.1.Authority,I6 g.1.Quota,.bool false]) z isAgg49 sizeOf49 (b.xB 0 z)) ah) ⟨_,Zs,Zs,Zs,Zs,Q,S,T,Zs,z,h,b.bO.ab.bO.bO.bq.aW.cV.aG.bH.ri⟩
}
 {
 intro i2 c
 refine wp_skip (bB (tn (ww (mz (av (cs:=[U1 (u8.wrap (i64.wrap (1+d.1))),Zu,Zu,Zu,Zu,Zi,Zu,Zu,Zu,Zs,Zs,Zs,Zs,Zs,Zi,Zu,Zu,Zs,Zs,Zu,Zs,Zu,Zi,Zi,Zf,Zf,Zu,Zi,.bool false]) z isAgg49 sizeOf49 (b.eD 0 z)) ?_))))
 replace b:=b.ay
 refine bxk b z sizeOf49 (oJ 29 z oN) fun q8 b=>nt (wp_ret ?_)
 replace b:=(((((((b.aX bV).aX gn).aX bV).aX (cg .u8)).aX cG).aX aA).aX (dG aw)).aX cJ
 cases c
 exact aU [.agg #[U1 (u8.wrap (i64.wrap (1+d.1))),Zu,Zu,Zu,Zu,Zi,Zu,Zu,Zu,Zs,Zs,Zs,Zs,Zs,Zi,Zu,Zu,Zs,Zs,Zu,Zs,Zu,Zi,Zi,Zf,Zf,Zu,Zi,.bool false]] results38 (bj (bF (cs:=[U1 (u8.wrap (i64.wrap (1+d.1))),Zu,Zu,Zu,Zu,Zi,Zu,Zu,Zu,Zs,Zs,Zs,Zs,Zs,Zi,Zu,Zu,Zs,Zs,Zu,Zs,Zu,Zi,Zi,Zf,Zf,Zu,Zi,.bool false]) z isAgg49 sizeOf49 (b.wG 0 z)) ah) ⟨_,Zs,Zs,Zs,Zs,Zs,Zs,Zs,Zs,z,h,b.bq.ab.ay.ap.aY.aW.cV.aG.bH.ri⟩
}
}
}
}
}
}
}
}
theorem oV {a0:ai} {p0:Value} (c:St w0 w I [aL p0 a0] R) {r:(Bool)} (b:iA a0=some r) :
  Calls prog 67 #[p0] w fun e w'=>e = .returned (.bool r)∧St w0 w' I [aL p0 a0] R:=by {
 unfold iA at b
 refine c0 func67 z ntmps67 (ww (mb z (nt (wp_seq (ww (mi z (nt (wp_block ?_))))))))
 obtain ⟨l,b⟩:=aS b
 refine bf (fun n a w=>∃ (f:Int),cP (gJ a0) n f=some r∧fz 26 [0,3] [p0,I6 f] a∧St w0 w I [aL p0 a0] R) l ⟨0,b,fy z,c⟩ ?_
 rintro y _ A ⟨f,b,⟨B,rfl⟩,c⟩
 obtain ⟨C,D,rfl,b,g⟩:=aV b
 dsimp only [gJ] at b
 refine wp_seq (ww (mi z (mv (p0) z ?_)))
 obtain ⟨h,E,F,G,H,J,K,L,⟨rfl,i,d,j,k⟩,m⟩:=bd c
 have c:=m
 refine mp z (mf z underlying130 z sizeOf125 (ml z isAgg125 (c.bc0 z) (mz (bW z underlying125 (ag d)) (mb z (nt (bw b z ?_ ?_))))))
 {
 intro o b
 refine wp_skip (tn (wp_seq (wp_block (wp_seq (dL c mixed (by kernel_rfl) (qz (Pt _ _) z (qz (Pt _ _) z (qh _ (fun w c=>aO z underlying130 z sizeOf125 z) (qh _ (fun w c=>ao z isAgg125 (c.bc0 z)) (qz (I6 _) z ?_))))))))))
 obtain ⟨M,p,b⟩:=bn b
 obtain ⟨q,s,t⟩:=aK p
 refine qh _ (fun w c=>az z z underlying125 sizeOf46 (ag d) q s) (qh _ (fun w c=>aR z underlying46 z sizeOf26 z) ?_)
 obtain ⟨N,u,v⟩:=Ro.jV d t
 obtain ⟨O,P,Q,S,rfl,T,U,V,W,-⟩:=u
 refine qh _ (fun w c=>ao z isAgg26 ((v lr c) 2 _ z)) (qz (Pt _ _) z (qz (Pt _ _) z (qh _ (fun w c=>aO z underlying130 z sizeOf26 z) (qh _ (fun w c=>ao z isAgg26 (c.bc0 z)) (qz (.bool _) z (fK ?_))))))
 intro w c
 refine tn (bw b z ?_ ?_)
 {
 intro x b
 refine ww (mb z (nt (wp_ret (dj (aI (aI ?_))))))
 replace b:=bg b g
 refine dj (aI ?_)
 cases b
 exact aU [.bool false] results67 (rc z ah) ⟨z,(aj (Pt h 0) a0 c.ap.ap.ap.ap ⟨z,i,d,j,k⟩).bo⟩
}
 {
 intro x b
 refine wp_skip (bB (tn (wrl (mi z (mi z (mi z (nt ?_)))))))
 cases b
 exact ⟨_,nls,_,g,fy z,(aj (Pt h 0) a0 c.ap.ap.ap.ap ⟨z,i,d,j,k⟩).bo⟩
}
}
 {
 intro o b
 refine wp_exit (aQ (aQ ?_))
 replace b:=bg b g
 refine cZ (tn (ww (mb z (nt (wp_ret ?_)))))
 cases b
 exact aU [.bool true] results67 (rc z ah) ⟨z,(aj (Pt h 0) a0 c.ap.ap.ap.ap ⟨z,i,d,j,k⟩).bo⟩
}
}
theorem kc {a0:(List al)} {f:Value} {a1:bK} (g:Ro bm I f a0) (b:St w0 w I [] R) {r:(al×Bool)} (c:kI a0 a1=some r) :
  Calls prog 70 #[f,.agg #[U6 a1.Session,U6 a1.Seq]] w fun e w'=>∃ (I':HL) (p:Value) (q:Value) (s:Value) (t:Value),e = .returned (.tuple #[.agg #[U6 r.1.ID.Session,U6 r.1.ID.Seq,U6 r.1.Epoch,p,q,s,t],.bool r.2])∧I.le I'∧Ro bV I' p r.1.Gets∧Ro gn I' q r.1.Scans∧Ro bV I' s r.1.Puts∧Ro (cg .u8) I' t r.1.Data∧St w0 w' I' [] R:=by {
 unfold kI at c
 refine c0 func70 z ntmps70 ?_
 have u:=HL.le.refl I
 refine ww ?_
 obtain ⟨v,W,G,H,b⟩:=b.box [U6 a1.Session,U6 a1.Seq] 28
 refine wa G H ?_
 obtain ⟨x,X,J,K,b⟩:=b.box [Zu,Zu,Zu,Zs,Zs,Zs,Zs] 46
 refine wa J K (mb z (nt (wp_seq (ww (mi z (nt (wp_block ?_)))))))
 obtain ⟨L,c⟩:=aS c
 refine bf (fun n a w=>∃ (l:Int),cP (lq a0 a1) n l=some r∧fz 25 [0,3,4,6] [f,Pt v 0,Pt x 0,I6 l] a∧St w0 w I [cells x [Zu,Zu,Zu,Zs,Zs,Zs,Zs],cells v [U6 a1.Session,U6 a1.Seq]] R) L ⟨0,c,fy z,b⟩ ?_
 rintro Y _ Z ⟨l,c,⟨b0,rfl⟩,b⟩
 obtain ⟨b1,b2,rfl,c,m⟩:=aV c
 dsimp only [lq] at c
 refine wp_seq (ww (mi z (mv (f) z (mz (bW z underlying125 (ag g)) (mb z (nt (bw c z ?_ ?_)))))))
 {
 intro M c
 refine wp_skip (tn (wp_seq (wp_block (wp_seq (dL b mixed (by kernel_rfl) (qz f z (qz (I6 _) z ?_)))))))
 obtain ⟨d,N,c⟩:=bn c
 obtain ⟨y,A,O⟩:=aK N
 refine qh _ (fun w b=>az z z underlying125 sizeOf46 (ag g) y A) (qh _ (fun w b=>aR z underlying46 z sizeOf28 z) ?_)
 obtain ⟨b3,P,B⟩:=Ro.jV g O
 obtain ⟨h,i,j,k,rfl,C,D,E,F,-⟩:=P
 refine qh _ (fun w b=>av (cs:=[U6 d.ID.Session,U6 d.ID.Seq]) z isAgg28 sizeOf28 (dO (o:=0) (B lr b) z)) (qh _ (fun w b=>av (cs:=[U6 a1.Session,U6 a1.Seq]) z isAgg28 sizeOf28 (b.eI 0 z)) (qh (.bool _) (fun w b=>tQ z z (by kernel_rfl) underlying28 (by kernel_rfl) (by kernel_rfl) (by kernel_rfl) underlying26 underlying26 (fun _ _ _=>by kernel_rfl) (fun _ _ _=>by kernel_rfl)) (fK ?_)))
 intro w b
 refine tn (bw c z ?_ ?_)
 {
 intro Q c
 refine ww (mv (f) z (mi z (mz (az z z underlying125 sizeOf46 (ag g) y A) (mz (av (cs:=[U6 d.ID.Session,U6 d.ID.Seq,U6 d.Epoch,h,i,j,k]) z isAgg46 sizeOf46 (dO (o:=0) (B lr b) z)) (bxk b z sizeOf46 (oJ 3 z (oC (oS (ag C)) (oC (oS (ag D)) (oC (oS (ag E)) (oC (oS (ag F)) oN))))) fun b4 b=>mb z (nt (wp_ret (dj (aI (aI ?_))))))))))
 replace c:=bg c m
 refine dj (aI ?_)
 cases c
 exact aU [.agg #[U6 d.ID.Session,U6 d.ID.Seq,U6 d.Epoch,h,i,j,k],.bool true] results70 (bj (bF (cs:=[U6 d.ID.Session,U6 d.ID.Seq,U6 d.Epoch,h,i,j,k]) z isAgg46 sizeOf46 (b.eD 0 z)) (rc z ah)) ⟨_,h,i,j,k,z,u,C,D,E,F,b.bQ⟩
}
 {
 intro Q c
 refine wp_skip (bB (tn (wrl (mi z (mi z (mi z (nt ?_)))))))
 cases c
 exact ⟨_,nls,_,m,fy z,b.ab.ab.cd⟩
}
}
 {
 intro M c
 refine wp_exit (aQ (aQ ?_))
 replace c:=bg c m
 refine cZ (tn (ww (mk (.agg #[Zu,Zu,Zu,Zs,Zs,Zs,Zs]) (bxk b z sizeOf46 (oJ 7 z oN) fun b5 b=>mb z (nt (wp_ret ?_))))))
 have S:Ro bV I (.slice none 0 0) []:=cv
 have T:Ro gn I (.slice none 0 0) []:=cv
 have U:Ro bV I (.slice none 0 0) []:=cv
 have V:Ro (cg .u8) I (.slice none 0 0) []:=cv
 cases c
 exact aU [.agg #[Zu,Zu,Zu,Zs,Zs,Zs,Zs],.bool false] results70 (bj (bF (cs:=[Zu,Zu,Zu,Zs,Zs,Zs,Zs]) z isAgg46 sizeOf46 (b.eD 0 z)) (rc z ah)) ⟨_,Zs,Zs,Zs,Zs,z,u,S,T,U,V,b.bQ⟩
}
}
theorem qp {a0:Nat} (b:St w0 w I [] R) {r:(Bool)} (a:me a0=some r) :
  Calls prog 145 #[F6 a0] w fun e w'=>e = .returned (.bool r)∧St w0 w' I [] R:=by {
 unfold me at a
 refine c0 func145 z ntmps145 (ww (mb z (nt (ww (mv (F6 _) z (mk (.int .u64 (Int.ofNat a0)) (mk (.int .i64 (i64.wrap (Int.ofNat a0))) (mb z (mb z (nt (wp_ret ?_)))))))))))
 cases a
 exact aU [.bool (decide ((i64.wrap (Int.ofNat a0))<0))] results145 (rc z ah) ⟨z,b.bQ⟩
}
theorem kN {a0 a1:Nat} (c:St w0 w I [] R) {r:(Bool)} (b:jy a0 a1=some r) :
  Calls prog 59 #[F6 a0,F6 a1] w fun e w'=>e = .returned (.bool r)∧St w0 w' I [] R:=by {
 unfold jy at b
 refine c0 func59 z ntmps59 (ww (mb z (nt (wp_seq (ww (mv (F6 _) z (mv (F6 _) z (mb z (nt (bw b z ?_ ?_))))))))))
 {
 intro h b
 refine ww (mb z (nt (wp_ret (aI ?_))))
 cases b
 exact aU [.bool false] results59 (rc z ah) ⟨z,c.bQ⟩
}
 {
 intro h b
 refine wp_skip (tn (wp_seq (ww (mv (F6 _) z (mv (F6 _) z (mb z (nt (bw b z ?_ ?_))))))))
 {
 intro i b
 refine ww (mb z (nt (wp_ret (aI ?_))))
 cases b
 exact aU [.bool true] results59 (rc z ah) ⟨z,c.bQ⟩
}
 {
 intro i b
 refine wp_skip (tn ?_)
 obtain ⟨n,b,g⟩:=dY b
 refine cQ (fun a w =>(nB a0 a1) ()=some r∧fz 27 [0,1] [F6 a0,F6 a1] a∧St w0 w I [] R) ?_ ?_
 {
 refine ww (mv (F6 _) z (mb z (mb z (bs b ?_ ?_))))
 {
 intro f b
 refine gv (F6 _) f z (gb f z (mb (aM f z z) (nt (bw b z ?_ ?_))))
 {
 intro j b
 refine ww (mv (F6 _) z ?_)
 obtain ⟨o,k,b⟩:=bn b
 refine wc call145 [F6 a0] z z z (kca (qp c.to0 k) fun p c=>?_)
 replace c:=c.of0
 refine mb z (bs b ?_ ?_)
 {
 intro d b
 refine gv (F6 _) d z ?_
 obtain ⟨l,m,b⟩:=bn b
 refine de ((ar z z z (cvb d)).trans z) z (js call145 z (vs:=[F6 a1]) z) (kca (qp c.to0 m) fun q c=>?_)
 replace c:=c.of0
 refine gb d z (mb (aM d z z) (mb z (nt (wp_ret (aI ?_)))))
 replace b:=bg b g
 cases b
 exact aU [.bool (!l)] results59 (rc z ah) ⟨z,c.bQ⟩
}
 {
 intro d b
 refine go d (go d (go d (mb (aE d z z) (mb z (nt (wp_ret (aI ?_)))))))
 replace b:=bg b g
 cases b
 exact aU [.bool false] results59 (rc z ah) ⟨z,c.bQ⟩
}
}
 {
 intro j b
 refine wp_skip (tn ?_)
 cases b
 exact ⟨g,fy z,c.bQ⟩
}
}
 {
 intro f b
 refine go f (go f (mb (aE f z z) (nt (bT z (wp_skip (tn ?_))))))
 cases b
 exact ⟨g,fy z,c.bQ⟩
}
}
 {
 rintro _ s ⟨b,⟨t,rfl⟩,c⟩
 dsimp only [nB] at b
 refine ww (mv (F6 _) z (mv (F6 _) z (mb z (mb z (nt (wp_ret ?_))))))
 cases b
 exact aU [.bool (fLt a0 a1)] results59 (rc z ah) ⟨z,c.bQ⟩
}
}
}
}
theorem et {a0 a1:Nat} (b:St w0 w I [] R) {r:(Bool)} (c:eG a0 a1=some r) :
  Calls prog 20 #[F6 a0,F6 a1] w fun e w'=>e = .returned (.bool r)∧St w0 w' I [] R:=by {
 unfold eG at c
 refine c0 func20 z ntmps20 (ww (mb z (nt (ww (mv (F6 _) z (mv (F6 _) z ?_))))))
 obtain ⟨h,d,c⟩:=bn c
 refine wc call59 [F6 a0,F6 a1] z z z (kca (kN b.to0 d) fun i b=>?_)
 replace b:=b.of0
 refine mb z (mb z (bs c ?_ ?_))
 {
 intro a c
 refine gv (F6 _) a z (gv (F6 _) a z ?_)
 obtain ⟨f,g,c⟩:=bn c
 refine de ((ar z z z (cvb a)).trans z) z (js call59 z (vs:=[F6 a1,F6 a0]) z) (kca (kN b.to0 g) fun j b=>?_)
 replace b:=b.of0
 refine gb a z (mb (aM a z z) (mb z (nt (wp_ret ?_))))
 cases c
 exact aU [.bool (!f)] results20 (rc z ah) ⟨z,b.bQ⟩
}
 {
 intro a c
 refine go a (go a (go a (go a (mb (aE a z z) (mb z (nt (wp_ret ?_)))))))
 cases c
 exact aU [.bool false] results20 (rc z ah) ⟨z,b.bQ⟩
}
}
theorem pF {a0:al} {o p q s:Value} {a1:al} {t u v x:Value} (B:Rd bV R I o a0.Gets) (y:Rd gn R I p a0.Scans) (C:Rd bV R I q a0.Puts) (X:Rd (cg .u8) R I s a0.Data) (E:Rd bV R I t a1.Gets) (A:Rd gn R I u a1.Scans) (F:Rd bV R I v a1.Puts) (Y:Rd (cg .u8) R I x a1.Data) (b:St w0 w I [] R) {r:(Bool)} (c:ja a0 a1=some r) :
  Calls prog 89 #[.agg #[U6 a0.ID.Session,U6 a0.ID.Seq,U6 a0.Epoch,o,p,q,s],.agg #[U6 a1.ID.Session,U6 a1.ID.Seq,U6 a1.Epoch,t,u,v,x]] w fun e w'=>e = .returned (.bool r)∧St w0 w' I [] R:=by {
 unfold ja at c
 refine c0 func89 z ntmps89 (ww ?_)
 obtain ⟨l,f3,Z,b0,b⟩:=b.box [U6 a0.ID.Session,U6 a0.ID.Seq,U6 a0.Epoch,o,p,q,s] 46
 refine wa Z b0 ?_
 obtain ⟨m,f4,b1,b2,b⟩:=b.box [U6 a1.ID.Session,U6 a1.ID.Seq,U6 a1.Epoch,t,u,v,x] 46
 refine wa b1 b2 (mb z (nt (wp_seq (ww (mf z underlying46 z sizeOf28 (mz (av (cs:=[U6 a0.ID.Session,U6 a0.ID.Seq]) z isAgg28 sizeOf28 (b.eI 0 z)) (mf z underlying46 z sizeOf28 (mz (av (cs:=[U6 a1.ID.Session,U6 a1.ID.Seq]) z isAgg28 sizeOf28 (b.eD 0 z)) (mb (rJ z z (by kernel_rfl) underlying28 (by kernel_rfl) (by kernel_rfl) (by kernel_rfl) underlying26 underlying26 (fun _ _ _=>by kernel_rfl) (fun _ _ _=>by kernel_rfl)) (mb z (bs c ?_ ?_)))))))))))
 {
 intro k c
 refine go k (go k (go k (go k (go k (mb (aM k z z) (mb z (gz (gz (gz (gz (gz (gz (gz (mb (aM z z z) (mb z (gz (gz (gz (gz (gz (gz (gz (mb (aM z z z) (mb z (gz (gz (gz (gz (gz (gz (gz (mb (aM z z z) (mb z (gz (gz (gz (gz (gz (gz (gz (mb (aM z z z) (nt (dq z (ww (mb z (nt (wp_ret (aI ?_))))))))))))))))))))))))))))))))))))))))))))))))
 cases c
 exact aU [.bool false] results89 (rc z ah) ⟨z,b.bQ⟩
}
 {
 intro k c
 refine gg k (aO z underlying46 z sizeOf26 z) (gg k (ao z isAgg26 (b.bc1 z)) (gg k (aO z underlying46 z sizeOf26 z) (gg k (ao z isAgg26 (b.bc0 z)) (gb k z (mb (aE k z z) (mb z (bs c ?_ ?_)))))))
 {
 intro f c
 refine go f (go f (go f (go f (go f (go f (go f (mb (aM f z z) (mb z (gz (gz (gz (gz (gz (gz (gz (mb (aM z z z) (mb z (gz (gz (gz (gz (gz (gz (gz (mb (aM z z z) (mb z (gz (gz (gz (gz (gz (gz (gz (mb (aM z z z) (nt (dq z (ww (mb z (nt (wp_ret (aI ?_)))))))))))))))))))))))))))))))))))))))))
 cases c
 exact aU [.bool false] results89 (rc z ah) ⟨z,b.bQ⟩
}
 {
 intro f c
 refine gg f (aO z underlying46 z sizeOf43 z) (gg f (ao z isAgg43 (b.bc1 z)) (gg f (bW z underlying43 (au B)) (gg f (aO z underlying46 z sizeOf43 z) (gg f (ao z isAgg43 (b.bc0 z)) (gg f (bW z underlying43 (au E)) (gb f z (mb (aE f z z) (mb z (bs c ?_ ?_)))))))))
 {
 intro g c
 refine go g (go g (go g (go g (go g (go g (go g (mb (aM g z z) (mb z (gz (gz (gz (gz (gz (gz (gz (mb (aM z z z) (mb z (gz (gz (gz (gz (gz (gz (gz (mb (aM z z z) (nt (dq z (ww (mb z (nt (wp_ret (aI ?_))))))))))))))))))))))))))))))))
 cases c
 exact aU [.bool false] results89 (rc z ah) ⟨z,b.bQ⟩
}
 {
 intro g c
 refine gg g (aO z underlying46 z sizeOf44 z) (gg g (ao z isAgg44 (b.bc1 z)) (gg g (bW z underlying44 (au y)) (gg g (aO z underlying46 z sizeOf44 z) (gg g (ao z isAgg44 (b.bc0 z)) (gg g (bW z underlying44 (au A)) (gb g z (mb (aE g z z) (mb z (bs c ?_ ?_)))))))))
 {
 intro h c
 refine go h (go h (go h (go h (go h (go h (go h (mb (aM h z z) (mb z (gz (gz (gz (gz (gz (gz (gz (mb (aM z z z) (nt (dq z (ww (mb z (nt (wp_ret (aI ?_)))))))))))))))))))))))
 cases c
 exact aU [.bool false] results89 (rc z ah) ⟨z,b.bQ⟩
}
 {
 intro h c
 refine gg h (aO z underlying46 z sizeOf43 z) (gg h (ao z isAgg43 (b.bc1 z)) (gg h (bW z underlying43 (au C)) (gg h (aO z underlying46 z sizeOf43 z) (gg h (ao z isAgg43 (b.bc0 z)) (gg h (bW z underlying43 (au F)) (gb h z (mb (aE h z z) (mb z (bs c ?_ ?_)))))))))
 {
 intro j c
 refine go j (go j (go j (go j (go j (go j (go j (mb (aM j z z) (nt (dq z (ww (mb z (nt (wp_ret (aI ?_))))))))))))))
 cases c
 exact aU [.bool false] results89 (rc z ah) ⟨z,b.bQ⟩
}
 {
 intro j c
 refine gg j (aO z underlying46 z sizeOf22 z) (gg j (ao z isAgg22 (b.bc1 z)) (gv (.string (jf a0.Data)) j (qe underlying22 underlying9 underlying5 z (Src.rm b X mO)) (gg j (aO z underlying46 z sizeOf22 z) (gg j (ao z isAgg22 (b.bc0 z)) (gv (.string (jf a1.Data)) j (qe underlying22 underlying9 underlying5 z (Src.rm b Y mO)) (gk (.bool (!(sEq (jf a0.Data) (jf a1.Data)))) j (mb (aE j z z) (nt (bw c z ?_ ?_)))))))))
 {
 intro b3 c
 refine ww (mb z (nt (wp_ret (aI ?_))))
 cases c
 exact aU [.bool false] results89 (rc z ah) ⟨z,b.bQ⟩
}
 {
 intro b3 c
 refine wp_skip (tn ?_)
 obtain ⟨b4,c,N⟩:=dY c
 refine cQ (fun a w =>(lC a0 a1) ()=some r∧fz 131 [2,3] [Pt l 0,Pt m 0] a∧St w0 w I [cells l [U6 a0.ID.Session,U6 a0.ID.Seq,U6 a0.Epoch,o,p,q,s],cells m [U6 a1.ID.Session,U6 a1.ID.Seq,U6 a1.Epoch,t,u,v,x]] R) ?_ ?_
 {
 refine ww (mi z (nt (wp_block ?_)))
 obtain ⟨b5,c⟩:=aS c
 refine bf (fun n a w=>∃ (G:Int),cP (fQ a0 a1) n G=some b4∧fz 131 [2,3,5] [Pt l 0,Pt m 0,I6 G] a∧St w0 w I [cells m [U6 a1.ID.Session,U6 a1.ID.Seq,U6 a1.Epoch,t,u,v,x],cells l [U6 a0.ID.Session,U6 a0.ID.Seq,U6 a0.Epoch,o,p,q,s]] R) b5 ⟨0,c,fy z,b⟩ ?_
 rintro f5 _ f6 ⟨G,c,⟨f7,rfl⟩,b⟩
 obtain ⟨f8,f9,rfl,c,H⟩:=aV c
 dsimp only [fQ] at c
 refine wp_seq (ww (mi z (mf z underlying46 z sizeOf43 (ml z isAgg43 (b.bc1 z) (mz (bW z underlying43 (au B)) (mb z (nt (bw c z ?_ ?_))))))))
 {
 intro b6 c
 refine wp_skip (tn (wp_seq (wp_block (wp_seq (rg b 12 [0,1,0,7,15,0,32,0,224,480,1023,2047] [] mixed (sf 0 z z underlying46 z sizeOf43 (sl 1 z z isAgg43 (fun w b=>b.bc1 z) (si 2 z z ?_))))))))
 obtain ⟨b7,b8,c⟩:=bn c
 obtain ⟨b9,c1,c2⟩:=aK b8
 refine sh _ 3 z (fun w b=>az z z underlying43 sizeOf37 (au B) b9 c1) (sl 4 z z isAgg37 (fun w b=>dR B lr b c2 (by rintro _ rfl; rfl)) (sf 5 z z underlying46 z sizeOf43 (sl 6 z z isAgg43 (fun w b=>b.bc0 z) (si 7 z z ?_))))
 obtain ⟨c3,c4,c⟩:=bn c
 obtain ⟨c5,c6,c7⟩:=aK c4
 refine sh _ 8 z (fun w b=>az z z underlying43 sizeOf37 (au E) c5 c6) (sl 9 z z isAgg37 (fun w b=>dR E lr b c7 (by rintro _ rfl; rfl)) (e1 10 z z fun w b=>?_))
 obtain ⟨g0,c8,c⟩:=bn c
 refine wec call20 [F6 b7,F6 c3] z z (kca (et b.to0 c8) fun g1 b=>?_)
 replace b:=b.of0
 refine w0n b (sb 11 z z (bi ?_))
 intro w b
 refine tn (bw c z ?_ ?_)
 {
 intro c9 c
 refine ww (mb z (nt (wp_ret (dj (aI (aI ?_))))))
 replace c:=bg c H
 refine dj (aI ?_)
 replace c:=bg c N
 cases c
 exact aU [.bool false] results89 (rc z ah) ⟨z,b.bQ⟩
}
 {
 intro c9 c
 refine wp_skip (bB (tn (wrl (mi z (mi z (mi z (nt ?_)))))))
 cases c
 exact ⟨_,nls,_,H,fy z,b.ab.ab.cd⟩
}
}
 {
 intro b6 c
 refine wp_exit (aQ (aQ ?_))
 replace c:=bg c H
 refine cZ (tn ?_)
 cases c
 exact ⟨N,fy z,b.ab.cd⟩
}
}
 {
 rintro _ g2 ⟨c,⟨g3,rfl⟩,b⟩
 dsimp only [lC] at c
 obtain ⟨d0,c,J⟩:=dY c
 refine cQ (fun a w =>(nI a0 a1) ()=some r∧fz 131 [2,3] [Pt l 0,Pt m 0] a∧St w0 w I [cells l [U6 a0.ID.Session,U6 a0.ID.Seq,U6 a0.Epoch,o,p,q,s],cells m [U6 a1.ID.Session,U6 a1.ID.Seq,U6 a1.Epoch,t,u,v,x]] R) ?_ ?_
 {
 refine ww (mi z (nt (wp_block ?_)))
 obtain ⟨d1,c⟩:=aS c
 refine bf (fun n a w=>∃ (K:Int),cP (fM a0 a1) n K=some d0∧fz 131 [2,3,6] [Pt l 0,Pt m 0,I6 K] a∧St w0 w I [cells l [U6 a0.ID.Session,U6 a0.ID.Seq,U6 a0.Epoch,o,p,q,s],cells m [U6 a1.ID.Session,U6 a1.ID.Seq,U6 a1.Epoch,t,u,v,x]] R) d1 ⟨0,c,fy z,b⟩ ?_
 rintro g4 _ g5 ⟨K,c,⟨g6,rfl⟩,b⟩
 obtain ⟨g7,g8,rfl,c,D⟩:=aV c
 dsimp only [fM] at c
 refine wp_seq (ww (mi z (mf z underlying46 z sizeOf44 (ml z isAgg44 (b.bc0 z) (mz (bW z underlying44 (au y)) (mb z (nt (bw c z ?_ ?_))))))))
 {
 intro d2 c
 refine wp_skip (tn (wp_seq (wp_block (wp_seq (rg b 30 [0,1,0,7,15,31,0,64,0,448,960,1984,4095,8191,16383,32767,65535,32767,262143,524287,1048575,32767,2129919,32767,14712831,31490047,65044479,134217727,268435455,536870911] [] mixed (sf 0 z z underlying46 z sizeOf44 (sl 1 z z isAgg44 (fun w b=>b.bc0 z) (si 2 z z ?_))))))))
 obtain ⟨O,d3,c⟩:=bn c
 obtain ⟨P,Q,S⟩:=aK d3
 refine sh _ 3 z (fun w b=>az z z underlying44 sizeOf80 (au y) P Q) (sh (.pointer (some _)) 4 z (fun w b=>iK (i:=0) z z underlying80 sizeOf37 (by decide) (by decide) z) (sl 5 z z isAgg37 (fun w b=>dR y lr b S (by rintro _ rfl; rfl)) (sf 6 z z underlying46 z sizeOf44 (sl 7 z z isAgg44 (fun w b=>b.bc1 z) (si 8 z z ?_)))))
 obtain ⟨T,d4,c⟩:=bn c
 obtain ⟨U,V,W⟩:=aK d4
 refine sh _ 9 z (fun w b=>az z z underlying44 sizeOf80 (au A) U V) (sh (.pointer (some _)) 10 z (fun w b=>iK (i:=0) z z underlying80 sizeOf37 (by decide) (by decide) z) (sl 11 z z isAgg37 (fun w b=>dR A lr b W (by rintro _ rfl; rfl)) (e1 12 z z fun w b=>?_)))
 obtain ⟨g9,d5,c⟩:=bn c
 refine wec call20 [F6 O.1,F6 T.1] z z (kca (et b.to0 d5) fun h0 b=>?_)
 replace b:=b.of0
 refine w0n b (sb 13 z z (sb 14 z z (bs c ?_ ?_)))
 {
 intro d c
 refine so 15 z d (so 16 z d (so 17 z d (so 18 z d (so 19 z d (so 20 z d (so 21 z d (so 22 z d (so 23 z d (so 24 z d (so 25 z d (so 26 z d (so 27 z d (so 28 z d (sh (.bool _) 29 z (fun w b=>aM d z z) (bi ?_)))))))))))))))
 intro w b
 refine tn (dq z (ww (mb z (nt (wp_ret (dj (aI (aI ?_))))))))
 replace c:=bg c D
 refine dj (aI ?_)
 replace c:=bg c J
 cases c
 exact aU [.bool false] results89 (rc z ah) ⟨z,b.bQ⟩
}
 {
 intro d c
 refine sg _ 15 z d (fun w b=>aO z underlying46 z sizeOf44 z) (sg _ 16 z d (fun w b=>ao z isAgg44 (b.bc0 z)) (sgz (I6 _) 17 z d z (sg _ 18 z d (fun w b=>az z z underlying44 sizeOf80 (au y) P Q) (sg (.pointer (some _)) 19 z d (fun w b=>iK (i:=1) z z underlying80 sizeOf37 (by decide) (by decide) z) (sg _ 20 z d (fun w b=>ao z isAgg37 (dR y lr b S (by rintro _ rfl; rfl))) (sg _ 21 z d (fun w b=>aO z underlying46 z sizeOf44 z) (sg _ 22 z d (fun w b=>ao z isAgg44 (b.bc1 z)) (sgz (I6 _) 23 z d z (sg _ 24 z d (fun w b=>az z z underlying44 sizeOf80 (au A) U V) (sg (.pointer (some _)) 25 z d (fun w b=>iK (i:=1) z z underlying80 sizeOf37 (by decide) (by decide) z) (sg _ 26 z d (fun w b=>ao z isAgg37 (dR A lr b W (by rintro _ rfl; rfl))) (ia 27 (by kernel_rfl) (nxe [28,29] (by kernel_rfl) z ((ar z z z (cvb d)).trans z) ?_)))))))))))))
 clear b
 intro w b
 obtain ⟨h1,d6,c⟩:=bn c
 refine wec call20 [F6 O.2,F6 T.2] z z (kca (et b.to0 d6) fun h2 b=>?_)
 replace b:=b.of0
 refine w0n b (sgz (.bool _) 28 z d z (sh (.bool _) 29 z (fun w b=>aE d z z) (bi ?_)))
 intro w b
 refine tn (bw c z ?_ ?_)
 {
 intro d7 c
 refine ww (mb z (nt (wp_ret (dj (aI (aI ?_))))))
 replace c:=bg c D
 refine dj (aI ?_)
 replace c:=bg c J
 cases c
 exact aU [.bool false] results89 (rc z ah) ⟨z,b.bQ⟩
}
 {
 intro d7 c
 refine wp_skip (bB (tn (wrl (mi z (mi z (mi z (nt ?_)))))))
 cases c
 exact ⟨_,nls,_,D,fy z,b.ab.ab.cd⟩
}
}
}
 {
 intro d2 c
 refine wp_exit (aQ (aQ ?_))
 replace c:=bg c D
 refine cZ (tn ?_)
 cases c
 exact ⟨J,fy z,b.ab.ab.cd⟩
}
}
 {
 rintro _ h3 ⟨c,⟨h4,rfl⟩,b⟩
 dsimp only [nI] at c
 refine wp_seq (ww (mi z (nt (wp_block ?_))))
 obtain ⟨d8,c⟩:=aS c
 refine bf (fun n a w=>∃ (L:Int),cP (fL a0 a1) n L=some r∧fz 131 [2,3,7] [Pt l 0,Pt m 0,I6 L] a∧St w0 w I [cells l [U6 a0.ID.Session,U6 a0.ID.Seq,U6 a0.Epoch,o,p,q,s],cells m [U6 a1.ID.Session,U6 a1.ID.Seq,U6 a1.Epoch,t,u,v,x]] R) d8 ⟨0,c,fy z,b⟩ ?_
 rintro h5 _ h6 ⟨L,c,⟨h7,rfl⟩,b⟩
 obtain ⟨h8,h9,rfl,c,M⟩:=aV c
 dsimp only [fL] at c
 refine wp_seq (ww (mi z (mf z underlying46 z sizeOf43 (ml z isAgg43 (b.bc0 z) (mz (bW z underlying43 (au C)) (mb z (nt (bw c z ?_ ?_))))))))
 {
 intro d9 c
 refine wp_skip (tn (wp_seq (wp_block (wp_seq (rg b 12 [0,1,0,7,15,0,32,0,224,480,1023,2047] [] mixed (sf 0 z z underlying46 z sizeOf43 (sl 1 z z isAgg43 (fun w b=>b.bc0 z) (si 2 z z ?_))))))))
 obtain ⟨e0,e2,c⟩:=bn c
 obtain ⟨e3,e4,e5⟩:=aK e2
 refine sh _ 3 z (fun w b=>az z z underlying43 sizeOf37 (au C) e3 e4) (sl 4 z z isAgg37 (fun w b=>dR C lr b e5 (by rintro _ rfl; rfl)) (sf 5 z z underlying46 z sizeOf43 (sl 6 z z isAgg43 (fun w b=>b.bc1 z) (si 7 z z ?_))))
 obtain ⟨e6,e7,c⟩:=bn c
 obtain ⟨e8,e9,f0⟩:=aK e7
 refine sh _ 8 z (fun w b=>az z z underlying43 sizeOf37 (au F) e8 e9) (sl 9 z z isAgg37 (fun w b=>dR F lr b f0 (by rintro _ rfl; rfl)) (e1 10 z z fun w b=>?_))
 obtain ⟨i0,f1,c⟩:=bn c
 refine wec call20 [F6 e0,F6 e6] z z (kca (et b.to0 f1) fun i1 b=>?_)
 replace b:=b.of0
 refine w0n b (sb 11 z z (bi ?_))
 intro w b
 refine tn (bw c z ?_ ?_)
 {
 intro f2 c
 refine ww (mb z (nt (wp_ret (dj (aI (aI ?_))))))
 replace c:=bg c M
 refine dj (aI ?_)
 cases c
 exact aU [.bool false] results89 (rc z ah) ⟨z,b.bQ⟩
}
 {
 intro f2 c
 refine wp_skip (bB (tn (wrl (mi z (mi z (mi z (nt ?_)))))))
 cases c
 exact ⟨_,nls,_,M,fy z,b.ab.ab.cd⟩
}
}
 {
 intro d9 c
 refine wp_exit (aQ (aQ ?_))
 replace c:=bg c M
 refine cZ (tn (ww (mb z (nt (wp_ret ?_)))))
 cases c
 exact aU [.bool true] results89 (rc z ah) ⟨z,b.bQ⟩
}
}
}
}
}
}
}
}
}
}
theorem tp {a0:(List Nat)} {d:Value} {a1:Nat} (f:Rd bV R I d a0) (c:St w0 w I [] R) {r:(Bool)} (b:pp a0 a1=some r) :
  Calls prog 220 #[d,F6 a1] w fun e w'=>e = .returned (.bool r)∧St w0 w' I [] R:=by {
 unfold pp at b
 refine c0 func220 z ntmps220 (ww (mb z (nt (wp_seq (ww (mi z (nt (wp_block ?_))))))))
 obtain ⟨i,b⟩:=aS b
 refine bf (fun n a w=>∃ (g:Int),cP (mj a0 a1) n g=some r∧fz 18 [0,1,5] [d,F6 a1,I6 g] a∧St w0 w I [] R) i ⟨0,b,fy z,c⟩ ?_
 rintro t _ u ⟨g,b,⟨v,rfl⟩,c⟩
 obtain ⟨x,y,rfl,b,h⟩:=aV b
 dsimp only [mj] at b
 refine wp_seq (ww (mi z (mv (d) z (mz (bW z underlying43 (au f)) (mb z (nt (bw b z ?_ ?_)))))))
 {
 intro j b
 refine wp_skip (tn (wp_seq (wp_block (ww (mv (d) z (mi z ?_))))))
 obtain ⟨k,l,b⟩:=bn b
 obtain ⟨m,o,p⟩:=aK l
 refine mz (az z z underlying43 sizeOf37 (au f) m o) (ml z isAgg37 (dR f lr c p (by rintro _ rfl; rfl)) (mv (F6 _) z ?_))
 obtain ⟨A,q,b⟩:=bn b
 refine wc call20 [F6 k,F6 a1] z z z (kca (et c.to0 q) fun B c=>?_)
 replace c:=c.of0
 refine nt (bw b z ?_ ?_)
 {
 intro s b
 refine ww (mb z (nt (wp_ret (dj (aI (aI ?_))))))
 replace b:=bg b h
 refine dj (aI ?_)
 cases b
 exact aU [.bool true] results220 (rc z ah) ⟨z,c.bQ⟩
}
 {
 intro s b
 refine wp_skip (bB (tn (wrl (mi z (mi z (mi z (nt ?_)))))))
 cases b
 exact ⟨_,nls,_,h,fy z,c.bQ⟩
}
}
 {
 intro j b
 refine wp_exit (aQ (aQ ?_))
 replace b:=bg b h
 refine cZ (tn (ww (mb z (nt (wp_ret ?_)))))
 cases b
 exact aU [.bool false] results220 (rc z ah) ⟨z,c.bQ⟩
}
}
theorem qu {a0 a1 a2:Nat} (b:St w0 w I [] R) {r:(Bool)} (c:jN a0 a1 a2=some r) :
  Calls prog 153 #[F6 a0,F6 a1,F6 a2] w fun e w'=>e = .returned (.bool r)∧St w0 w' I [] R:=by {
 unfold jN at c
 refine c0 func153 z ntmps153 (ww (mb z (nt (ww (mv (F6 _) z (mv (F6 _) z ?_))))))
 obtain ⟨h,d,c⟩:=bn c
 refine wc call59 [F6 a0,F6 a1] z z z (kca (kN b.to0 d) fun i b=>?_)
 replace b:=b.of0
 refine mb z (mb z (bs c ?_ ?_))
 {
 intro a c
 refine gv (F6 _) a z (gv (F6 _) a z ?_)
 obtain ⟨f,g,c⟩:=bn c
 refine de ((ar z z z (cvb a)).trans z) z (js call59 z (vs:=[F6 a2,F6 a0]) z) (kca (kN b.to0 g) fun j b=>?_)
 replace b:=b.of0
 refine gb a z (mb (aM a z z) (mb z (nt (wp_ret ?_))))
 cases c
 exact aU [.bool (!f)] results153 (rc z ah) ⟨z,b.bQ⟩
}
 {
 intro a c
 refine go a (go a (go a (go a (mb (aE a z z) (mb z (nt (wp_ret ?_)))))))
 cases c
 exact aU [.bool false] results153 (rc z ah) ⟨z,b.bQ⟩
}
}
theorem rf {a0:al} {d f g h:Value} {a1:Nat} (u:Rd bV R I d a0.Gets) (j:Rd gn R I f a0.Scans) (H:Rd bV R I g a0.Puts) (J:Rd (cg .u8) R I h a0.Data) (b:St w0 w I [] R) {r:(Bool)} (c:nk a0 a1=some r) :
  Calls prog 221 #[.agg #[U6 a0.ID.Session,U6 a0.ID.Seq,U6 a0.Epoch,d,f,g,h],F6 a1] w fun e w'=>e = .returned (.bool r)∧St w0 w' I [] R:=by {
 unfold nk at c
 refine c0 func221 z ntmps221 (ww ?_)
 obtain ⟨k,K,v,x,b⟩:=b.box [U6 a0.ID.Session,U6 a0.ID.Seq,U6 a0.Epoch,d,f,g,h] 46
 refine wa v x (mb z (nt ?_))
 obtain ⟨y,c,o⟩:=dY c
 refine cQ (fun a w =>(lM a0 a1) ()=some r∧fz 31 [1,2] [F6 a1,Pt k 0] a∧St w0 w I [cells k [U6 a0.ID.Session,U6 a0.ID.Seq,U6 a0.Epoch,d,f,g,h]] R) ?_ ?_
 {
 refine ww (mi z (nt (wp_block ?_)))
 obtain ⟨A,c⟩:=aS c
 refine bf (fun n a w=>∃ (l:Int),cP (kb a0 a1) n l=some y∧fz 31 [1,2,5] [F6 a1,Pt k 0,I6 l] a∧St w0 w I [cells k [U6 a0.ID.Session,U6 a0.ID.Seq,U6 a0.Epoch,d,f,g,h]] R) A ⟨0,c,fy z,b⟩ ?_
 rintro L _ M ⟨l,c,⟨N,rfl⟩,b⟩
 obtain ⟨O,P,rfl,c,m⟩:=aV c
 dsimp only [kb] at c
 refine wp_seq (ww (mi z (mf z underlying46 z sizeOf44 (ml z isAgg44 (b.bc0 z) (mz (bW z underlying44 (au j)) (mb z (nt (bw c z ?_ ?_))))))))
 {
 intro B c
 refine wp_skip (tn (wp_seq (wp_block (wp_seq (rg b 14 [0,0,2,0,14,30,62,0,128,0,896,1920,3968,8191] [] mixed (sz (F6 _) 0 z z (sf 1 z z underlying46 z sizeOf44 (sl 2 z z isAgg44 (fun w b=>b.bc0 z) (si 3 z z ?_)))))))))
 obtain ⟨p,C,c⟩:=bn c
 obtain ⟨q,s,t⟩:=aK C
 refine sh _ 4 z (fun w b=>az z z underlying44 sizeOf80 (au j) q s) (sh (.pointer (some _)) 5 z (fun w b=>iK (i:=0) z z underlying80 sizeOf37 (by decide) (by decide) z) (sl 6 z z isAgg37 (fun w b=>dR j lr b t (by rintro _ rfl; rfl)) (sf 7 z z underlying46 z sizeOf44 (sl 8 z z isAgg44 (fun w b=>b.bc0 z) (si 9 z z (sh _ 10 z (fun w b=>az z z underlying44 sizeOf80 (au j) q s) (sh (.pointer (some _)) 11 z (fun w b=>iK (i:=1) z z underlying80 sizeOf37 (by decide) (by decide) z) (sl 12 z z isAgg37 (fun w b=>dR j lr b t (by rintro _ rfl; rfl)) (e1 13 z z fun w b=>?_)))))))))
 obtain ⟨Q,D,c⟩:=bn c
 refine wec call153 [F6 a1,F6 p.1,F6 p.2] z z (kca (qu b.to0 D) fun S b=>?_)
 replace b:=b.of0
 refine w0n b (bi ?_)
 intro w b
 refine tn (bw c z ?_ ?_)
 {
 intro E c
 refine ww (mb z (nt (wp_ret (dj (aI (aI ?_))))))
 replace c:=bg c m
 refine dj (aI ?_)
 replace c:=bg c o
 cases c
 exact aU [.bool true] results221 (rc z ah) ⟨z,b.bQ⟩
}
 {
 intro E c
 refine wp_skip (bB (tn (wrl (mi z (mi z (mi z (nt ?_)))))))
 cases c
 exact ⟨_,nls,_,m,fy z,b.bo⟩
}
}
 {
 intro B c
 refine wp_exit (aQ (aQ ?_))
 replace c:=bg c m
 refine cZ (tn ?_)
 cases c
 exact ⟨o,fy z,b.bo⟩
}
}
 {
 rintro _ T ⟨c,⟨U,rfl⟩,b⟩
 dsimp only [lM] at c
 refine ww (mf z underlying46 z sizeOf43 (ml z isAgg43 (b.bc0 z) (mv (F6 _) z ?_)))
 obtain ⟨F,G,c⟩:=bn c
 refine wc call220 [d,F6 a1] z z z (kca (tp (u.mono (cy _)) b.to0 G) fun V b=>?_)
 replace b:=b.of0
 refine mb z (nt (wp_ret ?_))
 obtain rfl:=sj c
 exact aU [.bool F] results221 (rc z ah) ⟨z,b.bQ⟩
}
}
theorem vI {a0:al} {g h i j:Value} {a1:al} {k l f m:Value} (E:Rd bV R I g a0.Gets) (F:Rd gn R I h a0.Scans) (o:Rd bV R I i a0.Puts) (G:Rd (cg .u8) R I j a0.Data) (H:Rd bV R I k a1.Gets) (J:Rd gn R I l a1.Scans) (s:Rd bV R I f a1.Puts) (K:Rd (cg .u8) R I m a1.Data) (b:St w0 w I [] R) {r:(Bool)} (c:pO a0 a1=some r) :
  Calls prog 202 #[.agg #[U6 a0.ID.Session,U6 a0.ID.Seq,U6 a0.Epoch,g,h,i,j],.agg #[U6 a1.ID.Session,U6 a1.ID.Seq,U6 a1.Epoch,k,l,f,m]] w fun e w'=>e = .returned (.bool r)∧St w0 w' I [] R:=by {
 unfold pO at c
 refine c0 func202 z ntmps202 (ww ?_)
 obtain ⟨p,b6,L,M,b⟩:=b.box [U6 a0.ID.Session,U6 a0.ID.Seq,U6 a0.Epoch,g,h,i,j] 46
 refine wa L M ?_
 obtain ⟨q,b7,N,O,b⟩:=b.box [U6 a1.ID.Session,U6 a1.ID.Seq,U6 a1.Epoch,k,l,f,m] 46
 refine wa N O (mb z (nt ?_))
 obtain ⟨P,c,u⟩:=dY c
 refine cQ (fun a w =>(mH a1 a0) ()=some r∧fz 45 [2,3] [Pt p 0,Pt q 0] a∧St w0 w I [cells p [U6 a0.ID.Session,U6 a0.ID.Seq,U6 a0.Epoch,g,h,i,j],cells q [U6 a1.ID.Session,U6 a1.ID.Seq,U6 a1.Epoch,k,l,f,m]] R) ?_ ?_
 {
 refine ww (mi z (nt (wp_block ?_)))
 obtain ⟨Q,c⟩:=aS c
 refine bf (fun n a w=>∃ (v:Int),cP (lh a0 a1) n v=some P∧fz 45 [2,3,5] [Pt p 0,Pt q 0,I6 v] a∧St w0 w I [cells q [U6 a1.ID.Session,U6 a1.ID.Seq,U6 a1.Epoch,k,l,f,m],cells p [U6 a0.ID.Session,U6 a0.ID.Seq,U6 a0.Epoch,g,h,i,j]] R) Q ⟨0,c,fy z,b⟩ ?_
 rintro b8 _ b9 ⟨v,c,⟨c1,rfl⟩,b⟩
 obtain ⟨c2,c3,rfl,c,t⟩:=aV c
 dsimp only [lh] at c
 refine wp_seq (ww (mi z (mf z underlying46 z sizeOf43 (ml z isAgg43 (b.bc1 z) (mz (bW z underlying43 (au o)) (mb z (nt (bw c z ?_ ?_))))))))
 {
 intro S c
 refine wp_skip (tn (wp_seq (wp_block (wp_seq (rg b 17 [0,1,0,4,0,28,60,127,255,511,511,1535,511,7679,15871,32767,65535] [] mixed (sf 0 z z underlying46 z sizeOf43 (sl 1 z z isAgg43 (fun w b=>b.bc0 z) (sf 2 z z underlying46 z sizeOf43 (sl 3 z z isAgg43 (fun w b=>b.bc1 z) (si 4 z z ?_))))))))))
 obtain ⟨A,T,c⟩:=bn c
 obtain ⟨B,C,D⟩:=aK T
 refine sh _ 5 z (fun w b=>az z z underlying43 sizeOf37 (au o) B C) (sl 6 z z isAgg37 (fun w b=>dR o lr b D (by rintro _ rfl; rfl)) (e1 7 z z fun w b=>?_))
 obtain ⟨c4,U,c⟩:=bn c
 refine wec call220 [f,F6 A] z z (kca (tp (s.mono (cy _)) b.to0 U) fun c5 b=>?_)
 replace b:=b.of0
 refine w0n b (sb 8 z z (bs c ?_ ?_))
 {
 intro d c
 refine so 9 z d (so 10 z d (so 11 z d (so 12 z d (so 13 z d (so 14 z d (so 15 z d (sh (.bool _) 16 z (fun w b=>aM d z z) (bi ?_))))))))
 intro w b
 refine tn (dq z (ww (mb z (nt (wp_ret (dj (aI (aI ?_))))))))
 replace c:=bg c t
 refine dj (aI ?_)
 replace c:=bg c u
 cases c
 exact aU [.bool true] results202 (rc z ah) ⟨z,b.bQ⟩
}
 {
 intro d c
 refine sg _ 9 z d (fun w b=>av (cs:=[U6 a1.ID.Session,U6 a1.ID.Seq,U6 a1.Epoch,k,l,f,m]) z isAgg46 sizeOf46 (b.eD 0 z)) (sg _ 10 z d (fun w b=>aO z underlying46 z sizeOf43 z) (sg _ 11 z d (fun w b=>ao z isAgg43 (b.bc1 z)) (sgz (I6 _) 12 z d z (sg _ 13 z d (fun w b=>az z z underlying43 sizeOf37 (au o) B C) (sg _ 14 z d (fun w b=>ao z isAgg37 (dR o lr b D (by rintro _ rfl; rfl))) (ia 15 (by kernel_rfl) (nxe [16] (by kernel_rfl) z ((ar z z z (cvb d)).trans z) ?_)))))))
 clear b
 intro w b
 obtain ⟨c6,V,c⟩:=bn c
 refine wec call221 [.agg #[U6 a1.ID.Session,U6 a1.ID.Seq,U6 a1.Epoch,k,l,f,m],F6 A] z z (kca (rf (H.mono (cy _)) (J.mono (cy _)) (s.mono (cy _)) (K.mono (cy _)) b.to0 V) fun c7 b=>?_)
 replace b:=b.of0
 refine w0n b (sh (.bool _) 16 z (fun w b=>aE d z z) (bi ?_))
 intro w b
 refine tn (bw c z ?_ ?_)
 {
 intro W c
 refine ww (mb z (nt (wp_ret (dj (aI (aI ?_))))))
 replace c:=bg c t
 refine dj (aI ?_)
 replace c:=bg c u
 cases c
 exact aU [.bool true] results202 (rc z ah) ⟨z,b.bQ⟩
}
 {
 intro W c
 refine wp_skip (bB (tn (wrl (mi z (mi z (mi z (nt ?_)))))))
 cases c
 exact ⟨_,nls,_,t,fy z,b.ab.ab.cd⟩
}
}
}
 {
 intro S c
 refine wp_exit (aQ (aQ ?_))
 replace c:=bg c t
 refine cZ (tn ?_)
 cases c
 exact ⟨u,fy z,b.ab.cd⟩
}
}
 {
 rintro _ c8 ⟨c,⟨c9,rfl⟩,b⟩
 dsimp only [mH] at c
 refine wp_seq (ww (mi z (nt (wp_block ?_))))
 obtain ⟨X,c⟩:=aS c
 refine bf (fun n a w=>∃ (x:Int),cP (lp a1 a0) n x=some r∧fz 45 [2,3,6] [Pt p 0,Pt q 0,I6 x] a∧St w0 w I [cells p [U6 a0.ID.Session,U6 a0.ID.Seq,U6 a0.Epoch,g,h,i,j],cells q [U6 a1.ID.Session,U6 a1.ID.Seq,U6 a1.Epoch,k,l,f,m]] R) X ⟨0,c,fy z,b⟩ ?_
 rintro d0 _ d1 ⟨x,c,⟨d2,rfl⟩,b⟩
 obtain ⟨d3,d4,rfl,c,y⟩:=aV c
 dsimp only [lp] at c
 refine wp_seq (ww (mi z (mf z underlying46 z sizeOf43 (ml z isAgg43 (b.bc1 z) (mz (bW z underlying43 (au s)) (mb z (nt (bw c z ?_ ?_))))))))
 {
 intro Y c
 refine wp_skip (tn (wp_seq (wp_block (wp_seq (rg b 7 [0,0,2,0,14,30,63] [] mixed (sh _ 0 z (fun w b=>av (cs:=[U6 a0.ID.Session,U6 a0.ID.Seq,U6 a0.Epoch,g,h,i,j]) z isAgg46 sizeOf46 (b.eD 0 z)) (sf 1 z z underlying46 z sizeOf43 (sl 2 z z isAgg43 (fun w b=>b.bc1 z) (si 3 z z ?_)))))))))
 obtain ⟨Z,b0,c⟩:=bn c
 obtain ⟨b1,b2,b3⟩:=aK b0
 refine sh _ 4 z (fun w b=>az z z underlying43 sizeOf37 (au s) b1 b2) (sl 5 z z isAgg37 (fun w b=>dR s lr b b3 (by rintro _ rfl; rfl)) (e1 6 z z fun w b=>?_))
 obtain ⟨d5,b4,c⟩:=bn c
 refine wec call221 [.agg #[U6 a0.ID.Session,U6 a0.ID.Seq,U6 a0.Epoch,g,h,i,j],F6 Z] z z (kca (rf (E.mono (cy _)) (F.mono (cy _)) (o.mono (cy _)) (G.mono (cy _)) b.to0 b4) fun d6 b=>?_)
 replace b:=b.of0
 refine w0n b (bi ?_)
 intro w b
 refine tn (bw c z ?_ ?_)
 {
 intro b5 c
 refine ww (mb z (nt (wp_ret (dj (aI (aI ?_))))))
 replace c:=bg c y
 refine dj (aI ?_)
 cases c
 exact aU [.bool true] results202 (rc z ah) ⟨z,b.bQ⟩
}
 {
 intro b5 c
 refine wp_skip (bB (tn (wrl (mi z (mi z (mi z (nt ?_)))))))
 cases c
 exact ⟨_,nls,_,y,fy z,b.ab.ab.cd⟩
}
}
 {
 intro Y c
 refine wp_exit (aQ (aQ ?_))
 replace c:=bg c y
 refine cZ (tn (ww (mb z (nt (wp_ret ?_)))))
 cases c
 exact aU [.bool false] results202 (rc z ah) ⟨z,b.bQ⟩
}
}
}
theorem pJ {a0:(List al)} {g:Value} {a1:bK} (i:Ro bm I g a0) (b:St w0 w I [] R) {r:((List al))} (c:oi a0 a1=some r) :
  Calls prog 71 #[g,.agg #[U6 a1.Session,U6 a1.Seq]] w fun e w'=>∃ (m:Value),e = .returned (m)∧St w0 w' I [aZ bm m r] R:=by {
 unfold oi at c
 refine c0 func71 z ntmps71 (ww ?_)
 obtain ⟨p,X,G,H,b⟩:=b.box [U6 a1.Session,U6 a1.Seq] 28
 refine wa G H (mv ((.slice none 0 0)) z (nt (ww (mv ((.slice none 0 0)) z (nt (wp_seq (ww (mi z (nt (wp_block ?_))))))))))
 replace b:=b.aX bm
 obtain ⟨J,c⟩:=aS c
 refine bf (fun n a w=>∃ (h:(List al)) (j:Int) (f:Value),cP (lv a0 a1) n (h,j)=some r∧fz 28 [0,3,5,6] [g,Pt p 0,f,I6 j] a∧St w0 w I [aZ bm f h,cells p [U6 a1.Session,U6 a1.Seq]] R) J ⟨[],0,Zs,c,fy z,b⟩ ?_
 rintro Y _ Z ⟨h,j,f,c,⟨b0,rfl⟩,b⟩
 obtain ⟨b1,b2,rfl,c,k⟩:=aV c
 dsimp only [lv] at c
 refine wp_seq (ww (mi z (mv (g) z (mz (bW z underlying125 (ag i)) (mb z (nt (bw c z ?_ ?_)))))))
 {
 intro K c
 refine wp_skip (tn (wp_seq (wp_block (wp_seq (dL b mixed (by kernel_rfl) (qz g z (qz (I6 _) z ?_)))))))
 obtain ⟨d,L,c⟩:=bn c
 obtain ⟨q,s,M⟩:=aK L
 refine qh _ (fun w b=>az z z underlying125 sizeOf46 (ag i) q s) (qh _ (fun w b=>aR z underlying46 z sizeOf28 z) ?_)
 obtain ⟨b3,N,t⟩:=Ro.jV i M
 obtain ⟨u,x,y,A,rfl,B,C,D,F,-⟩:=N
 refine qh _ (fun w b=>av (cs:=[U6 d.ID.Session,U6 d.ID.Seq]) z isAgg28 sizeOf28 (dO (o:=0) (t lr b) z)) (qh _ (fun w b=>av (cs:=[U6 a1.Session,U6 a1.Seq]) z isAgg28 sizeOf28 (b.eI 0 z)) (qh (.bool _) (fun w b=>rJ z z (by kernel_rfl) underlying28 (by kernel_rfl) (by kernel_rfl) (by kernel_rfl) underlying26 underlying26 (fun _ _ _=>by kernel_rfl) (fun _ _ _=>by kernel_rfl)) (fK ?_)))
 intro w b
 refine tn (bw c z ?_ ?_)
 {
 intro O c
 refine wrl (mv (f) z (mv (g) z (mi z (mz (az z z underlying125 sizeOf46 (ag i) q s) (mz (av (cs:=[U6 d.ID.Session,U6 d.ID.Seq,U6 d.Epoch,u,x,y,A]) z isAgg46 sizeOf46 (dO (o:=0) (t lr b) z)) ?_)))))
 obtain ⟨P,Q,S,T,b⟩:=b.er (E:=bm) (xs:=[d]) [[U6 d.ID.Session,U6 d.ID.Seq,U6 d.Epoch,u,x,y,A]] 46 1 z (bz.cons ⟨_,_,_,_,z,B,C,D,F,oS (ag B),oS (ag C),oS (ag D),oS (ag F)⟩ bz.nil)
 refine bY (v:=(.slice (some ⟨P,0,none⟩) 1 1)) (w':=Q) z z (di (by kernel_rfl) S T) ?_
 obtain ⟨U,c⟩:=cw c
 replace b:=b.ab
 obtain ⟨l,V,W,b⟩:=bE qx underlying125 b b.jr (cF U z) 125
 refine bY (v:=l) (w':=V) z z (bU z z W) (mv (l) z (dk (bB (tn (wrl (mi z (mi z (mi z (nt ?_)))))))))
 cases c
 exact ⟨_,nls,(h++([d])),_,l,k,fy z,b.ay.ab.cd⟩
}
 {
 intro O c
 refine wp_skip (bB (tn (wrl (mi z (mi z (mi z (nt ?_)))))))
 cases c
 exact ⟨_,nls,h,_,f,k,fy z,b.ab.ab.cd⟩
}
}
 {
 intro K c
 refine wp_exit (aQ (aQ ?_))
 replace c:=bg c k
 refine cZ (tn (ww (mv (f) z (mv (f) z (nt (wp_ret ?_))))))
 cases c
 exact aU [f] results71 (rc z ah) ⟨f,z,b.bo⟩
}
}
end Go.Proofs.YtgnkkopjkgdieaaGreat
