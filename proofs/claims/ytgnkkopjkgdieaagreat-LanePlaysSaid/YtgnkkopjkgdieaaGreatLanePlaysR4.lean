/- A part of the proof. -/
import Derived.Test.YtgnkkopjkgdieaaGreatLanePlaysR3
set_option linter.unusedVariables false
set_option linter.unusedSimpArgs false
set_option maxRecDepth 100000
set_option maxHeartbeats 4000000
namespace Go.Proofs.YtgnkkopjkgdieaaGreat
open Go Go.V
open _root_.Go.Proofs.Tryz IntKind
variable {w0 w:World} {I:HL} {R:SP}
attribute [local irreducible] wpList Code.wp wpQuiet Calls bodyPost Oper.wp wpS Nx gE YieldsIn
theorem oF {a0:(Option ae)} {p0:Value} {a1:Int} {a2:aC} {f g h i j k l m:Value} (u:Ro bV I f a2.Hold.Gets) (v:Ro gn I g a2.Hold.Scans) (x:Ro bV I h a2.Hold.Puts) (y:Ro (cg .u8) I i a2.Hold.Data) (A:Ro cG I j a2.Writes) (B:Ro aA I k a2.R.Gots) (C:Ro (dG aw) I l a2.R.Scans) (D:Ro cJ I m a2.Parts) (a:St w0 w I [cE aD p0 a0] R) {r:(bh×(Option ae))} (b:cn a0 a1 a2=some r) :
  Calls prog 14 #[p0,U6 a1,.agg #[U1 a2.Kind,U6 a2.ID.Session,U6 a2.ID.Seq,U6 a2.Epoch,U6 a2.Index,I6 a2.E,U6 a2.Hold.ID.Session,U6 a2.Hold.ID.Seq,U6 a2.Hold.Epoch,f,g,h,i,j,I6 a2.R.E,U6 a2.R.Epoch,U6 a2.R.Index,k,l,U6 a2.Shards,m,U6 a2.Rule.ID,I6 a2.Rule.From,I6 a2.Rule.To,F6 a2.Rule.Lo,F6 a2.Rule.Hi,U6 a2.Rule.Authority,I6 a2.Rule.Quota,.bool a2.On]] w fun e w'=>∃ (I':HL) (W:Value) (X:Value),e = .returned (.agg #[U1 r.1.Kind,U6 r.1.ID.Session,U6 r.1.ID.Seq,I6 r.1.R.E,U6 r.1.R.Epoch,U6 r.1.R.Index,W,X])∧I.le I'∧Ro aA I' W r.1.R.Gots∧Ro (dG aw) I' X r.1.R.Scans∧St w0 w' I' [cE aD p0 r.2] R:=by {
 rcases a0 with _ | t
 {
 dsimp only [cn] at b
 cases b
}
 {
 replace a:=bD a
 dsimp only [cn] at b
 refine c0 func14 z ntmps14 ?_
 have c:=HL.le.refl I
 refine ww ?_
 obtain ⟨h2,h3,c2,c3,a⟩:=a.box [U1 a2.Kind,U6 a2.ID.Session,U6 a2.ID.Seq,U6 a2.Epoch,U6 a2.Index,I6 a2.E,U6 a2.Hold.ID.Session,U6 a2.Hold.ID.Seq,U6 a2.Hold.Epoch,f,g,h,i,j,I6 a2.R.E,U6 a2.R.Epoch,U6 a2.R.Index,k,l,U6 a2.Shards,m,U6 a2.Rule.ID,I6 a2.Rule.From,I6 a2.Rule.To,F6 a2.Rule.Lo,F6 a2.Rule.Hi,U6 a2.Rule.Authority,I6 a2.Rule.Quota,.bool a2.On] 49
 refine wa c2 c3 ?_
 obtain ⟨h4,h5,c4,c5,a⟩:=a.box [Zb,Zu,Zu,Zi,Zu,Zu,Zs,Zs] 35
 refine wa c4 c5 (nt (wp_seq (ww (mv (p0) z ?_))))
 obtain ⟨d,h6,h7,h8,Y,h9,i0,i1,rfl,c6⟩:=bc a.ay
 have a:=c6
 refine mk (.bool false) (nt (bT z (wp_skip (tn (wp_seq (ww (mf z underlying49 z sizeOf5 (ml z isAgg5 (a.bc9 z) (nt (wp_block (ww (mb z (mb z (nt (bw b z ?_ ?_)))))))))))))))
 {
 intro c7 b
 refine ww (mp z (mz (av (cs:=[U1 a2.Kind,U6 a2.ID.Session,U6 a2.ID.Seq,U6 a2.Epoch,U6 a2.Index,I6 a2.E,U6 a2.Hold.ID.Session,U6 a2.Hold.ID.Seq,U6 a2.Hold.Epoch,f,g,h,i,j,I6 a2.R.E,U6 a2.R.Epoch,U6 a2.R.Index,k,l,U6 a2.Shards,m,U6 a2.Rule.ID,I6 a2.Rule.From,I6 a2.Rule.To,F6 a2.Rule.Lo,F6 a2.Rule.Hi,U6 a2.Rule.Authority,I6 a2.Rule.Quota,.bool a2.On]) z isAgg49 sizeOf49 (a.vR 0 z)) ?_))
 replace a:=aJ (aq (Pt d 0) t a.aG.aG.aG.aG.aG.aG.aG.aG z)
 obtain ⟨n,c8,b⟩:=bn b
 refine wc call47 [Pt d 0,.agg #[U1 a2.Kind,U6 a2.ID.Session,U6 a2.ID.Seq,U6 a2.Epoch,U6 a2.Index,I6 a2.E,U6 a2.Hold.ID.Session,U6 a2.Hold.ID.Seq,U6 a2.Hold.Epoch,f,g,h,i,j,I6 a2.R.E,U6 a2.R.Epoch,U6 a2.R.Index,k,l,U6 a2.Shards,m,U6 a2.Rule.ID,I6 a2.Rule.From,I6 a2.Rule.To,F6 a2.Rule.Lo,F6 a2.Rule.Hi,U6 a2.Rule.Authority,I6 a2.Rule.Quota,.bool a2.On]] z z z ((sM (u.mono cz) (v.mono cz) (x.mono cz) (y.mono cz) (A.mono cz) (B.mono cz) (C.mono cz) (D.mono cz) a.to1 c8).mono ?_)
 rintro _ i2 ⟨G,H,rfl,a⟩
 refine ⟨_,z,?_⟩
 replace a:=a.of3.ay
 rcases Z:n.2 with _ | i3
 · rw [Z] at b; cases b
 rw [Z] at b a; dsimp only at b; replace a:=bD a
 replace a:=a.ap
 refine bxk a z sizeOf35 (oJ 6 z (oC (oS a.sv2) (oC (oS a.sv3) oN))) fun i4 a=>nt (wp_ret (dj (aI ?_)))
 replace a:=a.ay
 obtain ⟨I241,c9,J,a⟩:=a.cK
 replace c:=c.trans c9
 replace a:=a.ay
 obtain ⟨I244,b0,d0,a⟩:=a.cK
 replace J:=J.mono (ro_le b0)
 replace c:=c.trans b0
 replace a:=aJ a.ab
 cases b
 exact aU [.agg #[U1 n.1.Kind,U6 n.1.ID.Session,U6 n.1.ID.Seq,I6 n.1.R.E,U6 n.1.R.Epoch,U6 n.1.R.Index,G,H]] results14 (bj (bF (cs:=[U1 n.1.Kind,U6 n.1.ID.Session,U6 n.1.ID.Seq,I6 n.1.R.E,U6 n.1.R.Epoch,U6 n.1.R.Index,G,H]) z isAgg35 sizeOf35 (a.eI 0 z)) ah) ⟨_,G,H,z,c,J,d0,a.bo⟩
}
 {
 intro c7 b
 refine ww (mb z (mb z (nt (bw b z ?_ ?_))))
 {
 intro d1 b
 refine ww (mp z (mz (av (cs:=[U1 a2.Kind,U6 a2.ID.Session,U6 a2.ID.Seq,U6 a2.Epoch,U6 a2.Index,I6 a2.E,U6 a2.Hold.ID.Session,U6 a2.Hold.ID.Seq,U6 a2.Hold.Epoch,f,g,h,i,j,I6 a2.R.E,U6 a2.R.Epoch,U6 a2.R.Index,k,l,U6 a2.Shards,m,U6 a2.Rule.ID,I6 a2.Rule.From,I6 a2.Rule.To,F6 a2.Rule.Lo,F6 a2.Rule.Hi,U6 a2.Rule.Authority,I6 a2.Rule.Quota,.bool a2.On]) z isAgg49 sizeOf49 (a.vR 0 z)) ?_))
 replace a:=aJ (aq (Pt d 0) t a.aG.aG.aG.aG.aG.aG.aG.aG z)
 obtain ⟨o,d2,b⟩:=bn b
 refine wc call48 [Pt d 0,.agg #[U1 a2.Kind,U6 a2.ID.Session,U6 a2.ID.Seq,U6 a2.Epoch,U6 a2.Index,I6 a2.E,U6 a2.Hold.ID.Session,U6 a2.Hold.ID.Seq,U6 a2.Hold.Epoch,f,g,h,i,j,I6 a2.R.E,U6 a2.R.Epoch,U6 a2.R.Index,k,l,U6 a2.Shards,m,U6 a2.Rule.ID,I6 a2.Rule.From,I6 a2.Rule.To,F6 a2.Rule.Lo,F6 a2.Rule.Hi,U6 a2.Rule.Authority,I6 a2.Rule.Quota,.bool a2.On]] z z z ((qU (u.mono cz) (v.mono cz) (x.mono cz) (y.mono cz) (A.mono cz) (B.mono cz) (C.mono cz) (D.mono cz) a.to1 d2).mono ?_)
 rintro _ i5 ⟨I251,K,L,rfl,d3,a⟩
 refine ⟨_,z,?_⟩
 replace a:=a.of3
 replace c:=c.trans d3
 replace a:=a.ay
 rcases b1:o.2 with _ | i6
 · rw [b1] at b; cases b
 rw [b1] at b a; dsimp only at b; replace a:=bD a
 replace a:=a.ap
 refine bxk a z sizeOf35 (oJ 6 z (oC (oS a.sv2) (oC (oS a.sv3) oN))) fun i7 a=>nt (wp_ret (dj (aI ?_)))
 replace a:=a.ay
 obtain ⟨I261,d4,M,a⟩:=a.cK
 replace c:=c.trans d4
 replace a:=a.ay
 obtain ⟨I264,b2,d5,a⟩:=a.cK
 replace M:=M.mono (ro_le b2)
 replace c:=c.trans b2
 replace a:=aJ a.ab
 cases b
 exact aU [.agg #[U1 o.1.Kind,U6 o.1.ID.Session,U6 o.1.ID.Seq,I6 o.1.R.E,U6 o.1.R.Epoch,U6 o.1.R.Index,K,L]] results14 (bj (bF (cs:=[U1 o.1.Kind,U6 o.1.ID.Session,U6 o.1.ID.Seq,I6 o.1.R.E,U6 o.1.R.Epoch,U6 o.1.R.Index,K,L]) z isAgg35 sizeOf35 (a.eI 0 z)) ah) ⟨_,K,L,z,c,M,d5,a.bo⟩
}
 {
 intro d1 b
 refine ww (mb z (mb z (nt (bw b z ?_ ?_))))
 {
 intro d6 b
 refine ww (mp z (mz (av (cs:=[U1 a2.Kind,U6 a2.ID.Session,U6 a2.ID.Seq,U6 a2.Epoch,U6 a2.Index,I6 a2.E,U6 a2.Hold.ID.Session,U6 a2.Hold.ID.Seq,U6 a2.Hold.Epoch,f,g,h,i,j,I6 a2.R.E,U6 a2.R.Epoch,U6 a2.R.Index,k,l,U6 a2.Shards,m,U6 a2.Rule.ID,I6 a2.Rule.From,I6 a2.Rule.To,F6 a2.Rule.Lo,F6 a2.Rule.Hi,U6 a2.Rule.Authority,I6 a2.Rule.Quota,.bool a2.On]) z isAgg49 sizeOf49 (a.vR 0 z)) ?_))
 replace a:=aJ (aq (Pt d 0) t a.aG.aG.aG.aG.aG.aG.aG.aG z)
 obtain ⟨p,d7,b⟩:=bn b
 refine wc call49 [Pt d 0,.agg #[U1 a2.Kind,U6 a2.ID.Session,U6 a2.ID.Seq,U6 a2.Epoch,U6 a2.Index,I6 a2.E,U6 a2.Hold.ID.Session,U6 a2.Hold.ID.Seq,U6 a2.Hold.Epoch,f,g,h,i,j,I6 a2.R.E,U6 a2.R.Epoch,U6 a2.R.Index,k,l,U6 a2.Shards,m,U6 a2.Rule.ID,I6 a2.Rule.From,I6 a2.Rule.To,F6 a2.Rule.Lo,F6 a2.Rule.Hi,U6 a2.Rule.Authority,I6 a2.Rule.Quota,.bool a2.On]] z z z ((ru (u.mono cz) (v.mono cz) (x.mono cz) (y.mono cz) (A.mono cz) (B.mono cz) (C.mono cz) (D.mono cz) a.to1 d7).mono ?_)
 rintro _ i8 ⟨I271,N,O,rfl,d8,a⟩
 refine ⟨_,z,?_⟩
 replace a:=a.of3
 replace c:=c.trans d8
 replace a:=a.ay
 rcases b3:p.2 with _ | i9
 · rw [b3] at b; cases b
 rw [b3] at b a; dsimp only at b; replace a:=bD a
 replace a:=a.ap
 refine bxk a z sizeOf35 (oJ 6 z (oC (oS a.sv2) (oC (oS a.sv3) oN))) fun j0 a=>nt (wp_ret (dj (aI ?_)))
 replace a:=a.ay
 obtain ⟨I281,d9,P,a⟩:=a.cK
 replace c:=c.trans d9
 replace a:=a.ay
 obtain ⟨I284,b4,e0,a⟩:=a.cK
 replace P:=P.mono (ro_le b4)
 replace c:=c.trans b4
 replace a:=aJ a.ab
 cases b
 exact aU [.agg #[U1 p.1.Kind,U6 p.1.ID.Session,U6 p.1.ID.Seq,I6 p.1.R.E,U6 p.1.R.Epoch,U6 p.1.R.Index,N,O]] results14 (bj (bF (cs:=[U1 p.1.Kind,U6 p.1.ID.Session,U6 p.1.ID.Seq,I6 p.1.R.E,U6 p.1.R.Epoch,U6 p.1.R.Index,N,O]) z isAgg35 sizeOf35 (a.eI 0 z)) ah) ⟨_,N,O,z,c,P,e0,a.bo⟩
}
 {
 intro d6 b
 refine ww (mb z (mb z (nt (bw b z ?_ ?_))))
 {
 intro e2 b
 refine ww (mp z (mi z (mz (av (cs:=[U1 a2.Kind,U6 a2.ID.Session,U6 a2.ID.Seq,U6 a2.Epoch,U6 a2.Index,I6 a2.E,U6 a2.Hold.ID.Session,U6 a2.Hold.ID.Seq,U6 a2.Hold.Epoch,f,g,h,i,j,I6 a2.R.E,U6 a2.R.Epoch,U6 a2.R.Index,k,l,U6 a2.Shards,m,U6 a2.Rule.ID,I6 a2.Rule.From,I6 a2.Rule.To,F6 a2.Rule.Lo,F6 a2.Rule.Hi,U6 a2.Rule.Authority,I6 a2.Rule.Quota,.bool a2.On]) z isAgg49 sizeOf49 (a.vR 0 z)) ?_)))
 replace a:=aJ (aq (Pt d 0) t a.aG.aG.aG.aG.aG.aG.aG.aG z)
 obtain ⟨q,e3,b⟩:=bn b
 refine wc call50 [Pt d 0,U6 a1,.agg #[U1 a2.Kind,U6 a2.ID.Session,U6 a2.ID.Seq,U6 a2.Epoch,U6 a2.Index,I6 a2.E,U6 a2.Hold.ID.Session,U6 a2.Hold.ID.Seq,U6 a2.Hold.Epoch,f,g,h,i,j,I6 a2.R.E,U6 a2.R.Epoch,U6 a2.R.Index,k,l,U6 a2.Shards,m,U6 a2.Rule.ID,I6 a2.Rule.From,I6 a2.Rule.To,F6 a2.Rule.Lo,F6 a2.Rule.Hi,U6 a2.Rule.Authority,I6 a2.Rule.Quota,.bool a2.On]] z z z ((rv u v x y A B C D a.to1 e3).mono ?_)
 rintro _ j1 ⟨I291,Q,S,rfl,e4,b5,b6,a⟩
 refine ⟨_,z,?_⟩
 replace a:=a.of1
 replace c:=c.trans e4
 rcases b7:q.2 with _ | j2
 · rw [b7] at b; cases b
 rw [b7] at b a; dsimp only at b; replace a:=bD a
 replace a:=a.ab
 refine bxk a z sizeOf35 (oJ 6 z (oC (oS (ag b5)) (oC (oS (ag b6)) oN))) fun j3 a=>nt (wp_ret (dj (aI ?_)))
 replace a:=aJ a.ab
 cases b
 exact aU [.agg #[U1 q.1.Kind,U6 q.1.ID.Session,U6 q.1.ID.Seq,I6 q.1.R.E,U6 q.1.R.Epoch,U6 q.1.R.Index,Q,S]] results14 (bj (bF (cs:=[U1 q.1.Kind,U6 q.1.ID.Session,U6 q.1.ID.Seq,I6 q.1.R.E,U6 q.1.R.Epoch,U6 q.1.R.Index,Q,S]) z isAgg35 sizeOf35 (a.eI 0 z)) ah) ⟨_,Q,S,z,c,b5,b6,a.bo⟩
}
 {
 intro e2 b
 refine ww (mb z (mb z (nt (bw b z ?_ ?_))))
 {
 intro e5 b
 refine ww (mp z (mf z underlying49 z sizeOf28 (mz (av (cs:=[U6 a2.ID.Session,U6 a2.ID.Seq]) z isAgg28 sizeOf28 (a.vR 1 z)) ?_)))
 replace a:=aJ (aq (Pt d 0) t a.aG.aG.aG.aG.aG.aG.aG.aG z)
 obtain ⟨F,e6,b⟩:=bn b
 refine wc call51 [Pt d 0,.agg #[U6 a2.ID.Session,U6 a2.ID.Seq]] z z z (kca (oX a.to1 e6) fun j4 a=>?_)
 replace a:=bD a.of1
 refine mv (.tuple #[I6 F.1,.bool F.2]) z (mi z (mb z (mi z (mb z (nt (ww (mb z (nt (bw b z ?_ ?_)))))))))
 {
 intro e7 b
 refine wrl (mp z (mp z ?_))
 obtain ⟨j5,j6,j7,j8,j9,e8,k0,k1,T,e9⟩:=bc a
 replace T:=dF T
 subst T
 have a:=e9
 refine mp z (mf z underlying111 z sizeOf65 (ml z isAgg65 (a.bc0 z) (mi z (mi z (mi z ?_)))))
 replace a:=a.aW
 obtain ⟨f0,f1,b⟩:=bn b
 refine wc call52 [e8,I6 F.1,I6 (i64.wrap (F.1+1))] z z z (kcb (ku a.to1 f1) fun f2 k2 a=>?_)
 replace a:=a.of1
 refine mp z (mf z underlying111 z sizeOf65 ?_)
 replace a:=a.ab
 refine b1k f2 a z (oS a.sv1) sizeOf65 fun k3 a=>dk (bB (tn (ww (mk (.agg #[Zb,Zu,Zu,Zi,Zu,Zu,Zs,Zs]) ?_))))
 replace a:=a.bH
 refine bxk a z sizeOf35 (oJ 8 z oN) fun k4 a=>nt (wp_ret ?_)
 have f3:Ro aA I (.slice none 0 0) []:=cv
 have f4:Ro (dG aw) I (.slice none 0 0) []:=cv
 replace a:=aJ (aq (Pt d 0) (({t with open_:=f0}:ae)) a.bH.bH.aY.bH.bH.bH.bH.bH z)
 cases b
 exact aU [.agg #[Zb,Zu,Zu,Zi,Zu,Zu,Zs,Zs]] results14 (bj (bF (cs:=[Zb,Zu,Zu,Zi,Zu,Zu,Zs,Zs]) z isAgg35 sizeOf35 (a.eI 0 z)) ah) ⟨_,Zs,Zs,z,c,f3,f4,a.bo⟩
}
 {
 intro e7 b
 refine wp_skip (bB (tn (ww (mk (.agg #[Zb,Zu,Zu,Zi,Zu,Zu,Zs,Zs]) ?_))))
 replace a:=a.ab
 refine bxk a z sizeOf35 (oJ 8 z oN) fun k5 a=>nt (wp_ret ?_)
 have f5:Ro aA I (.slice none 0 0) []:=cv
 have f6:Ro (dG aw) I (.slice none 0 0) []:=cv
 replace a:=aJ a.ab
 cases b
 exact aU [.agg #[Zb,Zu,Zu,Zi,Zu,Zu,Zs,Zs]] results14 (bj (bF (cs:=[Zb,Zu,Zu,Zi,Zu,Zu,Zs,Zs]) z isAgg35 sizeOf35 (a.eI 0 z)) ah) ⟨_,Zs,Zs,z,c,f5,f6,a.bo⟩
}
}
 {
 intro e5 b
 refine ww (mb z (mb z (nt (bw b z ?_ ?_))))
 {
 intro f7 b
 refine ww (mf z underlying49 z sizeOf4 (ml z isAgg4 (a.bc9 z) (nt (bw b z ?_ ?_))))
 {
 intro f8 b
 refine rg a 11 [0,1,3,7,0,16,0,64,192,448,1023] [] mixed (sp 0 z z (sp 1 z z (sf 2 z z underlying111 z sizeOf107 (sl 3 z z isAgg107 (fun w a=>a.bc0 z) (sf 4 z z underlying49 z sizeOf39 (sh _ 5 z (fun w a=>av (cs:=[U6 a2.Rule.ID,I6 a2.Rule.From,I6 a2.Rule.To,F6 a2.Rule.Lo,F6 a2.Rule.Hi,U6 a2.Rule.Authority,I6 a2.Rule.Quota]) z isAgg39 sizeOf39 (a.vR 21 z)) (sp 6 z z (sp 7 z z (sf 8 z z underlying111 z sizeOf26 (sl 9 z z isAgg26 (fun w a=>a.bc0 z) (e1 10 z z fun w a=>?_)))))))))))
 replace a:=a.aY
 obtain ⟨f9,g0,b⟩:=bn b
 refine wec call53 [Y,.agg #[U6 a2.Rule.ID,I6 a2.Rule.From,I6 a2.Rule.To,F6 a2.Rule.Lo,F6 a2.Rule.Hi,U6 a2.Rule.Authority,I6 a2.Rule.Quota],U6 t.epoch] z z (kca (rq a.to1 g0) fun k6 a=>?_)
 replace a:=a.of1
 refine w0n a (bi ?_)
 intro w a
 refine bB (tn (ww (mk (.agg #[Zb,Zu,Zu,Zi,Zu,Zu,Zs,Zs]) ?_)))
 replace a:=a.bH
 refine bxk a z sizeOf35 (oJ 8 z oN) fun k7 a=>nt (wp_ret ?_)
 have g1:Ro aA I (.slice none 0 0) []:=cv
 have g2:Ro (dG aw) I (.slice none 0 0) []:=cv
 replace a:=aJ (aq (Pt d 0) (({t with book:=f9}:ae)) a.bH.bH.bH.aY.bH.bH.bH.bH z)
 cases b
 exact aU [.agg #[Zb,Zu,Zu,Zi,Zu,Zu,Zs,Zs]] results14 (bj (bF (cs:=[Zb,Zu,Zu,Zi,Zu,Zu,Zs,Zs]) z isAgg35 sizeOf35 (a.eI 0 z)) ah) ⟨_,Zs,Zs,z,c,g1,g2,a.bo⟩
}
 {
 intro f8 b
 refine rg a 12 [0,1,3,7,0,16,48,0,128,384,896,2047] [] mixed (sp 0 z z (sp 1 z z (sf 2 z z underlying111 z sizeOf107 (sl 3 z z isAgg107 (fun w a=>a.bc0 z) (sf 4 z z underlying49 z sizeOf39 (sf 5 z z underlying39 z sizeOf26 (sl 6 z z isAgg26 (fun w a=>a.bc9 z) (sp 7 z z (sp 8 z z (sf 9 z z underlying111 z sizeOf26 (sl 10 z z isAgg26 (fun w a=>a.bc0 z) (e1 11 z z fun w a=>?_))))))))))))
 replace a:=a.aY
 obtain ⟨g3,g4,b⟩:=bn b
 refine wec call54 [Y,U6 a2.Rule.ID,U6 t.epoch] z z (kca (nN a.to1 g4) fun k8 a=>?_)
 replace a:=a.of1
 refine w0n a (bi ?_)
 intro w a
 refine bB (tn (ww (mk (.agg #[Zb,Zu,Zu,Zi,Zu,Zu,Zs,Zs]) ?_)))
 replace a:=a.bH
 refine bxk a z sizeOf35 (oJ 8 z oN) fun k9 a=>nt (wp_ret ?_)
 have g5:Ro aA I (.slice none 0 0) []:=cv
 have g6:Ro (dG aw) I (.slice none 0 0) []:=cv
 replace a:=aJ (aq (Pt d 0) (({t with book:=g3.2}:ae)) a.bH.bH.bH.aY.bH.bH.bH.bH z)
 cases b
 exact aU [.agg #[Zb,Zu,Zu,Zi,Zu,Zu,Zs,Zs]] results14 (bj (bF (cs:=[Zb,Zu,Zu,Zi,Zu,Zu,Zs,Zs]) z isAgg35 sizeOf35 (a.eI 0 z)) ah) ⟨_,Zs,Zs,z,c,g5,g6,a.bo⟩
}
}
 {
 intro f7 b
 refine ww (mb z (mb z (nt (bw b z ?_ ?_))))
 {
 intro g7 b
 refine ww (mp z (mi z (mz (av (cs:=[U1 a2.Kind,U6 a2.ID.Session,U6 a2.ID.Seq,U6 a2.Epoch,U6 a2.Index,I6 a2.E,U6 a2.Hold.ID.Session,U6 a2.Hold.ID.Seq,U6 a2.Hold.Epoch,f,g,h,i,j,I6 a2.R.E,U6 a2.R.Epoch,U6 a2.R.Index,k,l,U6 a2.Shards,m,U6 a2.Rule.ID,I6 a2.Rule.From,I6 a2.Rule.To,F6 a2.Rule.Lo,F6 a2.Rule.Hi,U6 a2.Rule.Authority,I6 a2.Rule.Quota,.bool a2.On]) z isAgg49 sizeOf49 (a.vR 0 z)) ?_)))
 replace a:=aJ (aq (Pt d 0) t a.aG.aG.aG.aG.aG.aG.aG.aG z)
 obtain ⟨s,g8,b⟩:=bn b
 refine wc call55 [Pt d 0,U6 a1,.agg #[U1 a2.Kind,U6 a2.ID.Session,U6 a2.ID.Seq,U6 a2.Epoch,U6 a2.Index,I6 a2.E,U6 a2.Hold.ID.Session,U6 a2.Hold.ID.Seq,U6 a2.Hold.Epoch,f,g,h,i,j,I6 a2.R.E,U6 a2.R.Epoch,U6 a2.R.Index,k,l,U6 a2.Shards,m,U6 a2.Rule.ID,I6 a2.Rule.From,I6 a2.Rule.To,F6 a2.Rule.Lo,F6 a2.Rule.Hi,U6 a2.Rule.Authority,I6 a2.Rule.Quota,.bool a2.On]] z z z ((sP (u.mono cz) (v.mono cz) (x.mono cz) (y.mono cz) (A.mono cz) (B.mono cz) (C.mono cz) (D.mono cz) a.to1 g8).mono ?_)
 rintro _ l0 ⟨I375,U,V,rfl,g9,b8,b9,a⟩
 refine ⟨_,z,?_⟩
 replace a:=a.of1
 replace c:=c.trans g9
 rcases c1:s.2 with _ | l1
 · rw [c1] at b; cases b
 rw [c1] at b a; dsimp only at b; replace a:=bD a
 replace a:=a.ab
 refine bxk a z sizeOf35 (oJ 6 z (oC (oS (ag b8)) (oC (oS (ag b9)) oN))) fun l2 a=>nt (wp_ret (dj (aI ?_)))
 replace a:=aJ a.ab
 cases b
 exact aU [.agg #[U1 s.1.Kind,U6 s.1.ID.Session,U6 s.1.ID.Seq,I6 s.1.R.E,U6 s.1.R.Epoch,U6 s.1.R.Index,U,V]] results14 (bj (bF (cs:=[U1 s.1.Kind,U6 s.1.ID.Session,U6 s.1.ID.Seq,I6 s.1.R.E,U6 s.1.R.Epoch,U6 s.1.R.Index,U,V]) z isAgg35 sizeOf35 (a.eI 0 z)) ah) ⟨_,U,V,z,c,b8,b9,a.bo⟩
}
 {
 intro g7 b
 refine wp_skip (bB (tn (ww (mk (.agg #[Zb,Zu,Zu,Zi,Zu,Zu,Zs,Zs]) ?_))))
 replace a:=a.bH
 refine bxk a z sizeOf35 (oJ 8 z oN) fun l3 a=>nt (wp_ret ?_)
 have h0:Ro aA I (.slice none 0 0) []:=cv
 have h1:Ro (dG aw) I (.slice none 0 0) []:=cv
 replace a:=aJ (aq (Pt d 0) t a.bH.bH.bH.bH.bH.bH.bH.bH z)
 cases b
 exact aU [.agg #[Zb,Zu,Zu,Zi,Zu,Zu,Zs,Zs]] results14 (bj (bF (cs:=[Zb,Zu,Zu,Zi,Zu,Zu,Zs,Zs]) z isAgg35 sizeOf35 (a.eI 0 z)) ah) ⟨_,Zs,Zs,z,c,h0,h1,a.bo⟩
}
}
}
}
}
}
}
}
}
theorem oE {a0:(Option ae)} {p0:Value} (a:St w0 w I [cE aD p0 a0] R) {r:(Int)} (b:iQ a0=some r) :
  Calls prog 24 #[p0] w fun e w'=>e = .returned (.int .u64 r)∧St w0 w' I [cE aD p0 a0] R:=by {
 rcases a0 with _ | c
 {
 dsimp only [iQ] at b
 cases b
}
 {
 replace a:=bD a
 dsimp only [iQ] at b
 refine c0 func24 z ntmps24 (ww (mi z (nt (wp_seq (ww (mv (p0) z ?_))))))
 obtain ⟨d,g,h,i,j,k,l,m,rfl,f⟩:=bc a
 have a:=f
 refine mk (.bool false) (nt (bT z (wp_skip (tn (ww (mp z (mp z (mf z underlying111 z sizeOf26 (ml z isAgg26 (a.bc0 z) (mi z (nt (wp_ret ?_))))))))))))
 cases b
 exact aU [U6 c.epoch] results24 (rc z ah) ⟨z,(aJ (aq (Pt d 0) c a.aG.aG.aG.aG.aG.aG.aG.aG z)).bo⟩
}
}
theorem oK  (a:St w0 w I [] R) {r:(Bool)} (b:lF=some r) :
  Calls prog 12 #[] w fun e w'=>∃ (I':HL),e = .returned (.bool r)∧I.le I'∧St w0 w' I' [] R:=by {
 unfold lF at b
 refine c0 func12 z ntmps12 ?_
 have f:=HL.le.refl I
 refine ww (mb z (nt (ww ?_)))
 obtain ⟨C,i,b⟩:=bn b
 refine wc call13 [I6 4] z z z (kcb (ua a.to0 i) fun c D a=>?_)
 replace a:=a.of1
 refine mv (c) z (nt (ww (mv (c) z (mk (.agg #[U1 1,Zu,Zu,U6 1,Zu,Zi,Zu,Zu,Zu,Zs,Zs,Zs,Zs,Zs,Zi,Zu,Zu,Zs,Zs,Zu,Zs,Zu,Zi,Zi,Zf,Zf,Zu,Zi,.bool false]) ?_))))
 replace a:=aJ a
 have j:Ro bV I (.slice none 0 0) []:=cv
 have k:Ro gn I (.slice none 0 0) []:=cv
 have l:Ro bV I (.slice none 0 0) []:=cv
 have m:Ro (cg .u8) I (.slice none 0 0) []:=cv
 have n:Ro cG I (.slice none 0 0) []:=cv
 have o:Ro aA I (.slice none 0 0) []:=cv
 have p:Ro (dG aw) I (.slice none 0 0) []:=cv
 have q:Ro cJ I (.slice none 0 0) []:=cv
 obtain ⟨s,t,b⟩:=bn b
 refine wc call14 [c,U6 1,.agg #[U1 1,Zu,Zu,U6 1,Zu,Zi,Zu,Zu,Zu,Zs,Zs,Zs,Zs,Zs,Zi,Zu,Zu,Zs,Zs,Zu,Zs,Zu,Zi,Zi,Zf,Zf,Zu,Zi,.bool false]] z z z ((oF (a2:=({Kind:=1,ID:=({Session:=0,Seq:=0}:bK),Epoch:=1,Index:=0,E:=0,Hold:=ea,Writes:=[],R:=bI,Shards:=0,Parts:=[],Rule:=eB,On:=false}:aC)) j k l m n o p q a.to1 t).mono ?_)
 rintro _ F ⟨I80,G,H,rfl,u,v,x,a⟩
 refine ⟨_,z,?_⟩
 replace a:=a.of1
 replace f:=f.trans u
 rcases g:s.2 with _ | J
 · rw [g] at b; cases b
 rw [g] at b a; dsimp only at b; replace a:=bD a
 obtain ⟨K,L,y,A,a⟩:=a.box [Zb,Zu,Zu,Zi,Zu,Zu,Zs,Zs] 35
 refine wa y A (bxk a z sizeOf35 (oJ 6 z (oC (oS (ag v)) (oC (oS (ag x)) oN))) fun M a=>nt (ww (mf z underlying35 z sizeOf5 (ml z isAgg5 (a.bc0 z) (mb z (mb z (bs b ?_ ?_)))))))
 {
 intro d b
 refine gv (c) d z ?_
 replace a:=aJ a.ab
 obtain ⟨N,B,b⟩:=bn b
 refine de ((ar z z z (cvb d)).trans z) z (js call24 z (vs:=[c]) z) (kca (oE a.to1 B) fun O a=>?_)
 replace a:=bD a.of1
 refine gb d z (mb (aM d z z) (mb z (bs b ?_ ?_)))
 {
 intro h b
 refine mb (aM h z z) (mb z (nt (wp_ret ?_)))
 cases b
 exact aU [.bool true] results12 (rc z ah) ⟨_,z,f,a.bQ⟩
}
 {
 intro h b
 cases b
}
}
 {
 intro d b
 cases b
}
}
theorem wD {a0:Int} (a:St w0 w I [] R) {r:(ai)} (b:sB a0=some r) :
  Calls prog 26 #[I6 a0] w fun e w'=>∃ (c:Value),e = .returned (c)∧St w0 w' I [aL c r] R:=by {
 unfold sB at b
 refine c0 func26 z ntmps26 (ww (mv (.pointer none) z (nt (ww (mi z (mk (.agg #[I6 a0,U6 1,Zs,Zs,Zs,Zs,Zs,Zs,Zs]) ?_))))))
 obtain ⟨d,l,f,g,a⟩:=a.box [I6 a0,U6 1,Zs,Zs,Zs,Zs,Zs,Zs,Zs] 130
 refine wa f g (mp z (nt (wp_ret ?_)))
 have h:Ro cS I (.slice none 0 0) []:=cv
 have i:Ro bm I (.slice none 0 0) []:=cv
 have j:Ro ey I (.slice none 0 0) []:=cv
 have k:Ro dQ I (.slice none 0 0) []:=cv
 cases b
 exact aU [Pt d 0] results26 (rc z ah) ⟨_,z,(aj (Pt d 0) (({Wide:=a0,Epoch:=1,V:=[],H:=[],A:=[],B:=[],Open:=[],Out:=[],Used:=[]}:ai)) (((a.aX aH).aX cb).aX dw).ab.ay.ap ⟨z,h,i,j,k⟩).bo⟩
}
theorem aP {a0:ak} {p0:Value} {a1:Int} (a:St w0 w I [bC p0 a0] R) {r:(Int×ak)} (b:aF a0 a1=some r) :
  Calls prog 64 #[p0,I6 a1] w fun e w'=>e = .returned (.int .i64 r.1)∧St w0 w' I [bC p0 r.2] R:=by {
 unfold aF at b
 refine c0 func64 z ntmps64 (ww (mi z (nt (wp_seq (wp_seq ?_)))))
 obtain ⟨d,n,⟨rfl,c⟩,g⟩:=pP a
 have a:=g
 refine dL a mixed (by kernel_rfl) (qz (Pt _ _) z (qz (Pt _ _) z (qh _ (fun w a=>aO z underlying74 z sizeOf3 z) (qh _ (fun w a=>ao z isAgg3 (a.bc0 z)) (qz (Pt _ _) z (qz (Pt _ _) z (qh _ (fun w a=>aO z underlying74 z sizeOf22 z) (qh _ (fun w a=>ao z isAgg22 (a.bc0 z)) (qh _ (fun w a=>bW z underlying22 (ag c)) (qz (.bool _) z (fK ?_)))))))))))
 intro w a
 refine tn (bw b z ?_ ?_)
 {
 intro h b
 refine ww (mi z (nt (wp_ret (aI ?_))))
 cases b
 exact aU [Zi] results64 (rc z ah) ⟨z,(mn (Pt d 0) a0 a ⟨z,c⟩).bo⟩
}
 {
 intro h b
 refine wp_skip (tn (ww (mp z (mp z (mf z underlying74 z sizeOf3 (ml z isAgg3 (a.bc0 z) (mi z (mp z (mf z underlying74 z sizeOf3 (byk (I6 (i64.wrap (a0.I+1))) a z sizeOf3 (oC z oN) fun o a=>nt (wp_seq (dL a mixed (by kernel_rfl) (qz (Pt _ _) z (qz (Pt _ _) z (qh _ (fun w a=>aO z underlying74 z sizeOf22 z) (qh _ (fun w a=>ao z isAgg22 (a.bc0 z)) (qz (Pt _ _) z (qz (Pt _ _) z (qh _ (fun w a=>aO z underlying74 z sizeOf3 z) (qh _ (fun w a=>ao z isAgg3 (a.bc0 z)) (qz (I6 _) z ?_)))))))))))))))))))))
 obtain ⟨f,i,b⟩:=bn b
 obtain ⟨j,k,l⟩:=aK i
 refine qh _ (fun w a=>az z z underlying22 sizeOf5 (ag c) j k) (qh _ (fun w a=>ao z isAgg5 (DH c a l (by rintro _ rfl; rfl))) (tF (v:=.int .i64 (i64.wrap f)) z z (fun w a=>by kernel_rfl) (qz (I6 _) z ?_)))
 obtain ⟨m,b⟩:=cw b
 refine qh (I6 _) (fun w a=>yM (Fy m) z z) (qz (I6 _) z (fK ?_))
 intro w a
 refine tn (wp_ret ?_)
 cases b
 exact aU [I6 (Int.tmod (i64.wrap f) a1)] results64 (rc z ah) ⟨z,(mn (Pt d 0) (({L:=a0.L,I:=(i64.wrap (a0.I+1))}:ak)) a ⟨z,c⟩).bo⟩
}
}
theorem jA {a0:ak} {p0:Value} (a:St w0 w I [bC p0 a0] R) {r:(bK×ak)} (b:eC a0=some r) :
  Calls prog 27 #[p0] w fun e w'=>e = .returned (.agg #[U6 r.1.Session,U6 r.1.Seq])∧St w0 w' I [bC p0 r.2] R:=by {
 unfold eC at b
 refine c0 func27 z ntmps27 (ww ?_)
 obtain ⟨j,k,f,g,a⟩:=a.box [Zu,Zu] 28
 refine wa f g (nt (ww (mv (p0) z ?_)))
 replace a:=a.ab
 obtain ⟨c,h,b⟩:=bn b
 refine wc call64 [p0,I6 4] z z z (kca (aP a.to1 h) fun l a=>?_)
 replace a:=a.of1
 refine mk (.int .u64 (u64.wrap c.1)) (mv (p0) z ?_)
 obtain ⟨d,i,b⟩:=bn b
 refine wc call64 [p0,I6 4] z z z (kca (aP a.to1 i) fun m a=>?_)
 replace a:=a.of1
 refine mi z (mk (.int .u64 (u64.wrap (i64.wrap (1+d.1)))) (mk (.agg #[U6 (u64.wrap c.1),U6 (u64.wrap (i64.wrap (1+d.1)))]) ?_))
 replace a:=a.ab
 refine bxk a z sizeOf28 (oC z (oC z oN)) fun n a=>nt (wp_ret ?_)
 cases b
 exact aU [.agg #[U6 (u64.wrap c.1),U6 (u64.wrap (i64.wrap (1+d.1)))]] results27 (bj (bF (cs:=[U6 (u64.wrap c.1),U6 (u64.wrap (i64.wrap (1+d.1)))]) z isAgg28 sizeOf28 (a.eD 0 z)) ah) ⟨z,a.ab.bo⟩
}
theorem uT {a0:Int} (a:St w0 w I [] R) {r:(Nat)} (b:qd a0=some r) :
  Calls prog 65 #[U1 a0] w fun e w'=>e = .returned (.float .f64 r)∧St w0 w' I [] R:=by {
 unfold qd at b
 refine c0 func65 z ntmps65 (ww (mv (F6 _) z (nt (ww ?_))))
 obtain ⟨c,d,f,g,a⟩:=a.er (E:=bV) (xs:=[(0:Nat),(4607182418800017408:Nat),(13830554455654793216:Nat),(4612811918334230528:Nat),(9094988921128908188:Nat),(18318360957983683996:Nat),(4602678819172646912:Nat),(4613937818241073152:Nat)]) [[Zf],[F6 (4607182418800017408:Nat)],[F6 (13830554455654793216:Nat)],[F6 (4612811918334230528:Nat)],[F6 (9094988921128908188:Nat)],[F6 (18318360957983683996:Nat)],[F6 (4602678819172646912:Nat)],[F6 (4613937818241073152:Nat)]] 37 8 z (bz.cons z (bz.cons z (bz.cons z (bz.cons z (bz.cons z (bz.cons z (bz.cons z (bz.cons z bz.nil))))))))
 refine bY (v:=(.slice (some ⟨c,0,none⟩) 8 8)) (w':=d) z z (di (by kernel_rfl) f g) (mv ((.slice (some ⟨c,0,none⟩) 8 8)) z (nt (ww (mv ((.slice (some ⟨c,0,none⟩) 8 8)) z (mi z (mi (yM (by decide) z z) ?_))))))
 obtain ⟨h,i,b⟩:=bn b
 obtain ⟨j,k,l⟩:=aK i
 refine mz (az z z underlying43 sizeOf37 a.sv0 j k) (ml z isAgg37 (a.ol0 l (by rintro _ rfl; rfl)) (mv (F6 _) z (nt (wp_ret ?_))))
 obtain rfl:=sj b
 exact aU [F6 h] results65 (rc z ah) ⟨z,a.bQ⟩
}
theorem ec {a0:ak} {p0:Value} (a:St w0 w I [bC p0 a0] R) {r:(Nat×ak)} (b:cU a0=some r) :
  Calls prog 28 #[p0] w fun e w'=>e = .returned (.float .f64 r.1)∧St w0 w' I [bC p0 r.2] R:=by {
 unfold cU at b
 refine c0 func28 z ntmps28 (ww (mv (F6 _) z (nt (ww (mv (p0) z ?_)))))
 obtain ⟨c,d,b⟩:=bn b
 refine wc call64 [p0,I6 8] z z z (kca (aP a.to1 d) fun h a=>?_)
 replace a:=a.of1
 refine mk (.int .u8 (u8.wrap c.1)) ?_
 obtain ⟨f,g,b⟩:=bn b
 refine wc call65 [U1 (u8.wrap c.1)] z z z (kca (uT a.to0 g) fun i a=>?_)
 replace a:=a.of0
 refine mv (F6 _) z (nt (wp_ret ?_))
 cases b
 exact aU [F6 f] results28 (rc z ah) ⟨z,a.bo⟩
}
theorem kG {a0:ak} {p0:Value} (b:St w0 w I [bC p0 a0] R) {r:((List Int)×ak)} (c:eO a0=some r) :
  Calls prog 66 #[p0] w fun e w'=>∃ (l:Value),e = .returned (l)∧St w0 w' I [aZ (cg .u8) l r.1,bC p0 r.2] R:=by {
 unfold eO at c
 refine c0 func66 z ntmps66 (ww (mv ((.slice none 0 0)) z (nt (ww (mv ((.slice none 0 0)) z (nt (ww (mv (p0) z ?_))))))))
 obtain ⟨h,o,c⟩:=bn c
 refine wc call64 [p0,I6 4] z z z (kca (aP b.to1 o) fun D b=>?_)
 replace b:=b.of1
 refine mi z (nt (wp_seq (ww (mi z (nt (wp_block ?_))))))
 replace b:=b.aX (cg .u8)
 obtain ⟨p,c⟩:=aS c
 refine bf (fun n a w=>∃ (i:ak) (f:(List Int)) (j:Int) (d:Value),cP (fY h) n (i,f,j)=some r∧fz 21 [0,3,4,5] [p0,d,I6 h.1,I6 j] a∧St w0 w I [aZ (cg .u8) d f,bC p0 i] R) p ⟨h.2,[],0,Zs,c,fy z,b⟩ ?_
 rintro F _ G ⟨i,f,j,d,c,⟨H,rfl⟩,b⟩
 obtain ⟨J,K,rfl,c,m⟩:=aV c
 dsimp only [fY] at c
 refine wp_seq (ww (mi z (mi z (mb z (nt (bw c z ?_ ?_))))))
 {
 intro q c
 refine wp_skip (tn (wp_seq (wp_block (wrl (mv (d) z (mv (p0) z ?_))))))
 replace b:=b.ab
 obtain ⟨g,s,c⟩:=bn c
 refine wc call64 [p0,I6 26] z z z (kca (aP b.to1 s) fun L b=>?_)
 replace b:=b.of1
 refine mi z (mk (.int .u8 (u8.wrap (i64.wrap (97+g.1)))) ?_)
 obtain ⟨t,u,x,y,b⟩:=b.er (E:=(cg .u8)) (xs:=[(u8.wrap (i64.wrap (97+g.1)))]) [[U1 (u8.wrap (i64.wrap (97+g.1)))]] 5 1 z (bz.cons z bz.nil)
 refine bY (v:=(.slice (some ⟨t,0,none⟩) 1 1)) (w':=u) z z (di (by kernel_rfl) x y) ?_
 obtain ⟨A,c⟩:=cw c
 replace b:=b.ay
 obtain ⟨k,B,C,b⟩:=bE uZ underlying22 b b.jr (cF A z) 22
 refine bY (v:=k) (w':=B) z z (bU z z C) (mv (k) z (dk (bB (tn (wrl (mi z (mi z (mi z (nt ?_)))))))))
 cases c
 exact ⟨_,nls,_,(f++([(u8.wrap (i64.wrap (97+g.1)))])),_,k,m,fy z,b.ay.ab.cd⟩
}
 {
 intro q c
 refine wp_exit (aQ (aQ ?_))
 replace c:=bg c m
 refine cZ (tn (ww (mv (d) z (mv (d) z (nt (wp_ret ?_))))))
 cases c
 exact aU [d] results66 (rc z ah) ⟨d,z,b.ab.ab.cd⟩
}
}
theorem sY {a0:ak} {p0:Value} (b:St w0 w I [bC p0 a0] R) {r:(al×ak)} (c:iv a0=some r) :
  Calls prog 83 #[p0] w fun e w'=>∃ (W:Value) (X:Value) (Y:Value) (Z:Value),e = .returned (.agg #[U6 r.1.ID.Session,U6 r.1.ID.Seq,U6 r.1.Epoch,W,X,Y,Z])∧St w0 w' I [aZ bV W r.1.Gets,aZ gn X r.1.Scans,aZ bV Y r.1.Puts,aZ (cg .u8) Z r.1.Data,bC p0 r.2] R:=by {
 unfold iv at c
 refine c0 func83 z ntmps83 (ww ?_)
 obtain ⟨i,g4,b3,b4,b⟩:=b.box [Zu,Zu,Zu,Zs,Zs,Zs,Zs] 46
 refine wa b3 b4 (nt (ww (mv (p0) z ?_)))
 replace b:=b.ab
 obtain ⟨d,b5,c⟩:=bn c
 refine wc call27 [p0] z z z (kca (jA b.to1 b5) fun g5 b=>?_)
 replace b:=b.of1
 refine mv (p0) z ?_
 obtain ⟨g,b6,c⟩:=bn c
 refine wc call64 [p0,I6 4] z z z (kca (aP b.to1 b6) fun g6 b=>?_)
 replace b:=b.of1
 refine mi z (mk (.int .u64 (u64.wrap (i64.wrap (1+g.1)))) (mk (.agg #[U6 d.1.Session,U6 d.1.Seq,U6 (u64.wrap (i64.wrap (1+g.1))),Zs,Zs,Zs,Zs]) ?_))
 obtain ⟨j,g7,b7,b8,b⟩:=b.box [Zu,Zu,Zu,Zs,Zs,Zs,Zs] 46
 refine wa b7 b8 (bxk b z sizeOf46 (oJ 7 z oN) fun g8 b=>nt (ww (mv (p0) z ?_)))
 replace b:=b.ab
 obtain ⟨F,b9,c⟩:=bn c
 refine wc call64 [p0,I6 3] z z z (kca (aP b.to1 b9) fun g9 b=>?_)
 replace b:=b.of1
 refine mi z (nt ?_)
 obtain ⟨c1,c,c2⟩:=bn c
 refine cQ (fun a w=>∃ (G:ak) (l:(List Nat)) (f:Value),(mW d g) (G,l)=some r∧fz 68 [0,2,3] [p0,Pt i 0,Pt j 0] a∧St w0 w I [bC p0 G,cells i [Zu,Zu,Zu,Zs,Zs,Zs,Zs],cells j [U6 d.1.Session,U6 d.1.Seq,U6 (u64.wrap (i64.wrap (1+g.1))),f,Zs,Zs,Zs],aZ bV f l] R) ?_ ?_
 {
 refine ww (mi z (nt (wp_block ?_)))
 replace b:=b.aX bV
 obtain ⟨c3,c⟩:=aS c
 refine bf (fun n a w=>∃ (o:(List Nat)) (t:ak) (H:Int) (u:Value),cP (fv F) n (o,t,H)=some c1∧fz 68 [0,2,3,4,5] [p0,Pt i 0,Pt j 0,I6 F.1,I6 H] a∧St w0 w I [aZ bV u o,bC p0 t,cells j [U6 d.1.Session,U6 d.1.Seq,U6 (u64.wrap (i64.wrap (1+g.1))),u,Zs,Zs,Zs],cells i [Zu,Zu,Zu,Zs,Zs,Zs,Zs]] R) c3 ⟨[],F.2,0,Zs,c,fy z,b⟩ ?_
 rintro h0 _ h1 ⟨o,t,H,u,c,⟨h2,rfl⟩,b⟩
 obtain ⟨h3,h4,rfl,c,b0⟩:=aV c
 dsimp only [fv] at c
 refine wp_seq (ww (mi z (mi z (mb z (nt (bw c z ?_ ?_))))))
 {
 intro c4 c
 refine wp_skip (tn (wp_seq (wp_block (rg b 8 [0,1,0,4,12,31,63,127] [] mixed (sf 0 z z underlying46 z sizeOf43 (sl 1 z z isAgg43 (fun w b=>b.bc2 z) (sz (p0) 2 z z (e1 3 z z fun w b=>?_))))))))
 replace b:=b.ab
 obtain ⟨J,c5,c⟩:=bn c
 refine wec call28 [p0] z z (kca (ec b.to1 c5) fun h5 b=>?_)
 replace b:=b.of1
 refine wn [1,0] b (pkr z z (fun w b=>ao z isAgg43 (b.bc2 z)) (pf z z underlying46 z sizeOf43 bu)) (e1 4 z z fun w b=>?_)
 obtain ⟨c6,c7,c8,c9,b⟩:=b.er (E:=bV) (xs:=[J.1]) [[F6 J.1]] 37 1 z (bz.cons z bz.nil)
 refine bS (v:=(.slice (some ⟨c6,0,none⟩) 1 1)) (w':=c7) z (di (by kernel_rfl) c8 c9) (wn [1,0] b (pkr z z (fun w b=>ao z isAgg43 (b.bc3 z)) (pf z z underlying46 z sizeOf43 bu)) (e1 5 z z fun w b=>?_))
 obtain ⟨d0,c⟩:=cw c
 replace b:=b.ay
 obtain ⟨K,d1,d2,b⟩:=bE pe underlying43 b b.jr (cF d0 z) 43
 refine bS (v:=K) (w':=d1) z (bU z z d2) (w0n b (sf 6 z z underlying46 z sizeOf43 (e1 7 z z fun w b=>?_)))
 replace b:=b.ap
 refine b1e K b z (oS b.sv1) sizeOf43 fun h6 b=>w0n b (bi ?_)
 intro w b
 refine bB (tn (wrl (mi z (mi z (mi z (nt ?_))))))
 cases c
 exact ⟨_,nls,(o++([J.1])),_,_,K,b0,fy z,b.aY.ab.aY.ap.eF⟩
}
 {
 intro c4 c
 refine wp_exit (aQ (aQ ?_))
 replace c:=bg c b0
 refine cZ (tn ?_)
 cases c
 exact ⟨t,o,u,c2,fy z,b.ay.ap.ap.eF⟩
}
}
 {
 rintro _ h7 ⟨G,l,f,c,⟨h8,rfl⟩,b⟩
 dsimp only [mW] at c
 refine ww (mv (p0) z ?_)
 obtain ⟨L,d3,c⟩:=bn c
 refine wc call64 [p0,I6 3] z z z (kca (aP b.to1 d3) fun h9 b=>?_)
 replace b:=b.of1
 refine mi (Er (by decide) z z) (mi z (nt ?_))
 obtain ⟨d4,c,d5⟩:=bn c
 refine cQ (fun a w=>∃ (M:ak) (m:(List (Nat×Nat))) (h:Value),(mU d g l) (M,m)=some r∧fz 68 [0,2,3] [p0,Pt i 0,Pt j 0] a∧St w0 w I [bC p0 M,cells i [Zu,Zu,Zu,Zs,Zs,Zs,Zs],cells j [U6 d.1.Session,U6 d.1.Seq,U6 (u64.wrap (i64.wrap (1+g.1))),f,h,Zs,Zs],aZ bV f l,aZ gn h m] R) ?_ ?_
 {
 refine ww (mi z (nt (wp_block ?_)))
 replace b:=b.aX gn
 obtain ⟨d6,c⟩:=aS c
 refine bf (fun n a w=>∃ (p:(List (Nat×Nat))) (x:ak) (N:Int) (y:Value),cP (fD L) n (p,x,N)=some d4∧fz 68 [0,2,3,4,6] [p0,Pt i 0,Pt j 0,I6 (i64.wrap (Int.tdiv L.1 2)),I6 N] a∧St w0 w I [aZ gn y p,bC p0 x,cells i [Zu,Zu,Zu,Zs,Zs,Zs,Zs],cells j [U6 d.1.Session,U6 d.1.Seq,U6 (u64.wrap (i64.wrap (1+g.1))),f,y,Zs,Zs],aZ bV f l] R) d6 ⟨[],L.2,0,Zs,c,fy z,b⟩ ?_
 rintro i0 _ i1 ⟨p,x,N,y,c,⟨i2,rfl⟩,b⟩
 obtain ⟨i3,i4,rfl,c,b1⟩:=aV c
 dsimp only [fD] at c
 refine wp_seq (ww (mi z (mi z (mb z (nt (bw c z ?_ ?_))))))
 {
 intro d7 c
 refine wp_skip (tn (wp_seq (wp_block (rg b 11 [0,1,0,4,0,28,60,124,255,511,1023] [] mixed (sf 0 z z underlying46 z sizeOf44 (sl 1 z z isAgg44 (fun w b=>b.bc3 z) (sz (p0) 2 z z (sz (p0) 4 z z (e1 3 z z fun w b=>?_)))))))))
 replace b:=b.ab
 obtain ⟨A,d8,c⟩:=bn c
 refine wec call28 [p0] z z (kca (ec b.to1 d8) fun i5 b=>?_)
 replace b:=b.of1
 refine wn [4,1,0] b (pz (pkr z z (fun w b=>ao z isAgg44 (b.bc3 z)) (pf z z underlying46 z sizeOf44 bu))) (e1 5 z z fun w b=>?_)
 obtain ⟨B,d9,c⟩:=bn c
 refine wec call28 [p0] z z (kca (ec b.to1 d9) fun i6 b=>?_)
 replace b:=b.of1
 refine wn [1,0] b (pkr z z (fun w b=>ao z isAgg44 (b.bc3 z)) (pf z z underlying46 z sizeOf44 bu)) (sk (.agg #[F6 A.1,F6 B.1]) 6 z (e1 7 z z fun w b=>?_))
 obtain ⟨e0,e2,e3,e4,b⟩:=b.er (E:=gn) (xs:=[(A.1,B.1)]) [[F6 A.1,F6 B.1]] 80 1 z (bz.cons z bz.nil)
 refine bS (v:=(.slice (some ⟨e0,0,none⟩) 1 1)) (w':=e2) z (di (by kernel_rfl) e3 e4) (wn [1,0] b (pkr z z (fun w b=>ao z isAgg44 (b.bc4 z)) (pf z z underlying46 z sizeOf44 bu)) (e1 8 z z fun w b=>?_))
 obtain ⟨e5,c⟩:=cw c
 replace b:=b.ay
 obtain ⟨O,e6,e7,b⟩:=bE AE underlying44 b b.jr (cF e5 z) 44
 refine bS (v:=O) (w':=e6) z (bU z z e7) (w0n b (sf 9 z z underlying46 z sizeOf44 (e1 10 z z fun w b=>?_)))
 replace b:=b.aY
 refine b1e O b z (oS b.sv1) sizeOf44 fun i7 b=>w0n b (bi ?_)
 intro w b
 refine bB (tn (wrl (mi z (mi z (mi z (nt ?_))))))
 cases c
 exact ⟨_,nls,(p++([(A.1,B.1)])),_,_,O,b1,fy z,b.aW.ab.aW.aW.aY.oT⟩
}
 {
 intro d7 c
 refine wp_exit (aQ (aQ ?_))
 replace c:=bg c b1
 refine cZ (tn ?_)
 cases c
 exact ⟨x,p,y,d5,fy z,b.aY.aY.aY.aY.oT⟩
}
}
 {
 rintro _ i8 ⟨M,m,h,c,⟨i9,rfl⟩,b⟩
 dsimp only [mU] at c
 refine ww (mv (p0) z ?_)
 obtain ⟨P,e8,c⟩:=bn c
 refine wc call64 [p0,I6 3] z z z (kca (aP b.to1 e8) fun j0 b=>?_)
 replace b:=b.of1
 refine mi z (nt ?_)
 obtain ⟨e9,c,f0⟩:=bn c
 refine cQ (fun a w=>∃ (Q:ak) (S:(List Nat)) (k:Value),(mY d g l m) (Q,S)=some r∧fz 68 [0,2,3] [p0,Pt i 0,Pt j 0] a∧St w0 w I [bC p0 Q,cells i [Zu,Zu,Zu,Zs,Zs,Zs,Zs],cells j [U6 d.1.Session,U6 d.1.Seq,U6 (u64.wrap (i64.wrap (1+g.1))),f,h,k,Zs],aZ bV f l,aZ gn h m,aZ bV k S] R) ?_ ?_
 {
 refine ww (mi z (nt (wp_block ?_)))
 replace b:=b.aX bV
 obtain ⟨f1,c⟩:=aS c
 refine bf (fun n a w=>∃ (q:(List Nat)) (C:ak) (T:Int) (D:Value),cP (fx P) n (q,C,T)=some e9∧fz 68 [0,2,3,4,7] [p0,Pt i 0,Pt j 0,I6 P.1,I6 T] a∧St w0 w I [aZ bV D q,bC p0 C,cells i [Zu,Zu,Zu,Zs,Zs,Zs,Zs],cells j [U6 d.1.Session,U6 d.1.Seq,U6 (u64.wrap (i64.wrap (1+g.1))),f,h,D,Zs],aZ bV f l,aZ gn h m] R) f1 ⟨[],P.2,0,Zs,c,fy z,b⟩ ?_
 rintro j1 _ j2 ⟨q,C,T,D,c,⟨j3,rfl⟩,b⟩
 obtain ⟨j4,j5,rfl,c,b2⟩:=aV c
 dsimp only [fx] at c
 refine wp_seq (ww (mi z (mi z (mb z (nt (bw c z ?_ ?_))))))
 {
 intro f2 c
 refine wp_skip (tn (wp_seq (wp_block (rg b 8 [0,1,0,4,12,31,63,127] [] mixed (sf 0 z z underlying46 z sizeOf43 (sl 1 z z isAgg43 (fun w b=>b.bc3 z) (sz (p0) 2 z z (e1 3 z z fun w b=>?_))))))))
 replace b:=b.ab
 obtain ⟨U,f3,c⟩:=bn c
 refine wec call28 [p0] z z (kca (ec b.to1 f3) fun j6 b=>?_)
 replace b:=b.of1
 refine wn [1,0] b (pkr z z (fun w b=>ao z isAgg43 (b.bc3 z)) (pf z z underlying46 z sizeOf43 bu)) (e1 4 z z fun w b=>?_)
 obtain ⟨f4,f5,f6,f7,b⟩:=b.er (E:=bV) (xs:=[U.1]) [[F6 U.1]] 37 1 z (bz.cons z bz.nil)
 refine bS (v:=(.slice (some ⟨f4,0,none⟩) 1 1)) (w':=f5) z (di (by kernel_rfl) f6 f7) (wn [1,0] b (pkr z z (fun w b=>ao z isAgg43 (b.bc4 z)) (pf z z underlying46 z sizeOf43 bu)) (e1 5 z z fun w b=>?_))
 obtain ⟨f8,c⟩:=cw c
 replace b:=b.ay
 obtain ⟨V,f9,g0,b⟩:=bE pe underlying43 b b.jr (cF f8 z) 43
 refine bS (v:=V) (w':=f9) z (bU z z g0) (w0n b (sf 6 z z underlying46 z sizeOf43 (e1 7 z z fun w b=>?_)))
 replace b:=b.aY
 refine b1e V b z (oS b.sv1) sizeOf43 fun j7 b=>w0n b (bi ?_)
 intro w b
 refine bB (tn (wrl (mi z (mi z (mi z (nt ?_))))))
 cases c
 exact ⟨_,nls,(q++([U.1])),_,_,V,b2,fy z,b.cV.cV.ay.cV.cV.aW.km⟩
}
 {
 intro f2 c
 refine wp_exit (aQ (aQ ?_))
 replace c:=bg c b2
 refine cZ (tn ?_)
 cases c
 exact ⟨C,q,D,f0,fy z,b.aW.aW.aW.aW.aW.km⟩
}
}
 {
 rintro _ j8 ⟨Q,S,k,c,⟨j9,rfl⟩,b⟩
 dsimp only [mY] at c
 refine wp_seq (ww (mv (p0) z ?_))
 obtain ⟨k0,g1,c⟩:=bn c
 refine wc call64 [p0,I6 4] z z z (kca (aP b.to1 g1) fun k1 b=>?_)
 replace b:=b.of1
 refine mb z (nt (bw c z ?_ ?_))
 {
 intro g2 c
 refine wrl (mv (p0) z ?_)
 obtain ⟨k2,g3,c⟩:=bn c
 refine wc call66 [p0] z z z (kcb (kG b.to1 g3) fun s k3 b=>?_)
 replace b:=b.of2
 refine mf z underlying46 z sizeOf22 ?_
 replace b:=b.ap
 refine b1k s b z (oS b.sv1) sizeOf22 fun k4 b=>nt (ww (mz (av (cs:=[U6 d.1.Session,U6 d.1.Seq,U6 (u64.wrap (i64.wrap (1+g.1))),f,h,k,s]) z isAgg46 sizeOf46 (b.eD 0 z)) ?_))
 replace b:=b.ap
 refine bxk b z sizeOf46 (oJ 3 z (oC (oS b.sv4) (oC (oS b.sv5) (oC (oS b.sv6) (oC (oS b.sv2) oN))))) fun k5 b=>nt (wp_ret ?_)
 cases c
 exact aU [.agg #[U6 d.1.Session,U6 d.1.Seq,U6 (u64.wrap (i64.wrap (1+g.1))),f,h,k,s]] results83 (bj (bF (cs:=[U6 d.1.Session,U6 d.1.Seq,U6 (u64.wrap (i64.wrap (1+g.1))),f,h,k,s]) z isAgg46 sizeOf46 (b.eD 0 z)) ah) ⟨f,h,k,s,z,b.ap.ap.cV.cV.cV.oT⟩
}
 {
 intro g2 c
 refine wp_skip (tn (ww (mz (av (cs:=[U6 d.1.Session,U6 d.1.Seq,U6 (u64.wrap (i64.wrap (1+g.1))),f,h,k,Zs]) z isAgg46 sizeOf46 (b.pQ 0 z)) ?_)))
 replace b:=b.ab
 refine bxk b z sizeOf46 (oJ 3 z (oC (oS b.sv3) (oC (oS b.sv4) (oC (oS b.sv5) (oC z oN))))) fun k6 b=>nt (wp_ret ?_)
 replace b:=b.aX (cg .u8)
 cases c
 exact aU [.agg #[U6 d.1.Session,U6 d.1.Seq,U6 (u64.wrap (i64.wrap (1+g.1))),f,h,k,Zs]] results83 (bj (bF (cs:=[U6 d.1.Session,U6 d.1.Seq,U6 (u64.wrap (i64.wrap (1+g.1))),f,h,k,Zs]) z isAgg46 sizeOf46 (b.eI 0 z)) ah) ⟨f,h,k,Zs,z,b.ay.ab.cV.cV.cV.oT⟩
}
}
}
}
}
theorem mS {a0:ak} {p0:Value} (b:St w0 w I [bC p0 a0] R) {r:((List bN)×ak)} (c:fp a0=some r) :
  Calls prog 29 #[p0] w fun e w'=>∃ (I':HL) (t:Value),e = .returned (t)∧I.le I'∧St w0 w' I' [aZ cG t r.1,bC p0 r.2] R:=by {
 unfold fp at c
 refine c0 func29 z ntmps29 ?_
 have p:=HL.le.refl I
 refine ww (mv ((.slice none 0 0)) z (nt (ww (mv ((.slice none 0 0)) z (nt (ww (mv (p0) z ?_)))))))
 obtain ⟨l,C,c⟩:=bn c
 refine wc call64 [p0,I6 3] z z z (kca (aP b.to1 C) fun X b=>?_)
 replace b:=b.of1
 refine mi z (nt (wp_seq (ww (mi z (nt (wp_block ?_))))))
 replace b:=b.aX cG
 obtain ⟨D,c⟩:=aS c
 refine bf (fun n a w=>∃ (I565:HL) (q:ak) (h:(List bN)) (i:Int) (d:Value),cP (fU l) n (q,h,i)=some r∧fz 31 [0,3,4,5] [p0,d,I6 l.1,I6 i] a∧I.le I565∧St w0 w I565 [aZ cG d h,bC p0 q] R) D ⟨_,l.2,[],0,Zs,c,fy z,lr,b⟩ ?_
 rintro Y _ Z ⟨I565,q,h,i,d,c,⟨b0,rfl⟩,m,b⟩
 obtain ⟨b1,F,rfl,c,u⟩:=aV c
 dsimp only [fU] at c
 replace p:=p.trans m
 refine wp_seq (ww (mi z (mi z (mb z (nt (bw c z ?_ ?_))))))
 {
 intro G c
 refine wp_skip (tn (wp_seq (wp_block (ww (mv (p0) z ?_)))))
 replace b:=b.ab
 obtain ⟨f,H,c⟩:=bn c
 refine wc call28 [p0] z z z (kca (ec b.to1 H) fun b2 b=>?_)
 replace b:=b.of1
 refine mv (p0) z ?_
 obtain ⟨g,J,c⟩:=bn c
 refine wc call64 [p0,I6 4] z z z (kca (aP b.to1 J) fun b3 b=>?_)
 replace b:=b.of1
 refine mb z (mk (.agg #[F6 f.1,.bool (g.1==0),Zs]) ?_)
 obtain ⟨x,b4,K,L,b⟩:=b.box [Zf,.bool false,Zs] 41
 refine wa K L (bxk b z sizeOf41 (oJ 3 z oN) fun b5 b=>nt ?_)
 obtain ⟨b6,c,y⟩:=bn c
 refine cQ (fun a w=>∃ (o:ak) (j:(List Int)) (k:Value),(nr h f g i) (o,j)=some F∧fz 31 [0,3,4,5,6] [p0,d,I6 l.1,I6 i,Pt x 0] a∧St w0 w I565 [bC p0 o,aZ cG d h,cells x [F6 f.1,.bool (g.1==0),k],aZ (cg .u8) k j] R) ?_ ?_
 {
 refine ww (mf z underlying41 z sizeOf4 (ml z isAgg4 (b.bc0 z) (mb z (nt (bw c z ?_ ?_)))))
 {
 intro M c
 refine wrl (mv (p0) z ?_)
 replace b:=b.ab
 obtain ⟨b7,N,c⟩:=bn c
 refine wc call66 [p0] z z z (kcb (kG b.to1 N) fun A b8 b=>?_)
 replace b:=b.of2
 refine mf z underlying41 z sizeOf22 ?_
 replace b:=b.ay
 refine b1k A b z (oS b.sv1) sizeOf22 fun b9 b=>nt ?_
 cases c
 exact ⟨_,_,A,y,fy z,b.ab.ab.ap.ap.eF⟩
}
 {
 intro M c
 refine wp_skip (tn ?_)
 cases c
 exact ⟨_,([]),Zs,y,fy z,(b.aX (cg .u8)).ab.ap.ap.eF⟩
}
}
 {
 rintro _ c1 ⟨o,j,k,c,⟨c2,rfl⟩,b⟩
 dsimp only [nr] at c
 refine wrl (mv (d) z (mz (av (cs:=[F6 f.1,.bool (g.1==0),k]) z isAgg41 sizeOf41 (b.pQ 0 z)) ?_))
 replace b:=b.ap
 obtain ⟨I614,O,B,b⟩:=b.cK
 replace m:=m.trans O
 obtain ⟨P,Q,S,T,b⟩:=b.er (E:=cG) (xs:=[({At:=f.1,Del:=(g.1==0),Val:=j}:bN)]) [[F6 f.1,.bool (g.1==0),k]] 41 1 z (bz.cons ⟨_,z,B,oS (ag B)⟩ bz.nil)
 refine bY (v:=(.slice (some ⟨P,0,none⟩) 1 1)) (w':=Q) z z (di (by kernel_rfl) S T) ?_
 obtain ⟨U,c⟩:=cw c
 replace b:=b.ay
 obtain ⟨s,V,W,b⟩:=bE DM underlying42 b b.jr (cF U z) 42
 refine bY (v:=s) (w':=V) z z (bU z z W) (mv (s) z (dk (bB (tn (wrl (mi z (mi z (mi z (nt ?_)))))))))
 cases c
 exact ⟨_,nls,_,o,(h++([({At:=f.1,Del:=(g.1==0),Val:=j}:bN)])),_,s,u,fy z,m,b.ay.ab.cd⟩
}
}
 {
 intro G c
 refine wp_exit (aQ (aQ ?_))
 replace c:=bg c u
 refine cZ (tn (ww (mv (d) z (mv (d) z (nt (wp_ret ?_))))))
 cases c
 exact aU [d] results29 (rc z ah) ⟨_,d,z,p,b.ab.ab.cd⟩
}
}
theorem pU {a0:ak} {p0:Value} (b:St w0 w I [bC p0 a0] R) {r:(bp×ak)} (c:gX a0=some r) :
  Calls prog 35 #[p0] w fun e w'=>∃ (I':HL) (b9:Value) (c1:Value),e = .returned (.agg #[I6 r.1.E,U6 r.1.Epoch,U6 r.1.Index,b9,c1])∧I.le I'∧St w0 w' I' [aZ aA b9 r.1.Gots,aZ (dG aw) c1 r.1.Scans,bC p0 r.2] R:=by {
 unfold gX at c
 refine c0 func35 z ntmps35 ?_
 have x:=HL.le.refl I
 refine ww ?_
 obtain ⟨j,l5,e3,e4,b⟩:=b.box [Zi,Zu,Zu,Zs,Zs] 33
 refine wa e3 e4 (nt (ww ?_))
 obtain ⟨Q,e5,e6,e7,b⟩:=b.er (E:=(cg .i64)) (xs:=[0,0,0,8,9,3]) [[Zi],[Zi],[Zi],[I6 8],[I6 9],[I6 3]] 29 6 z (bz.cons z (bz.cons z (bz.cons z (bz.cons z (bz.cons z (bz.cons z bz.nil))))))
 refine bY (v:=(.slice (some ⟨Q,0,none⟩) 6 6)) (w':=e5) z z (di (by kernel_rfl) e6 e7) (mv ((.slice (some ⟨Q,0,none⟩) 6 6)) z (nt (wp_seq ?_)))
 obtain ⟨l6,c,G⟩:=bn c
 refine qT (fun a w=>∃ (S:ak) (d:Int) (f:Int) (g:Int) (h:Nat),(lZ) (S,d,f,g)=some r∧fz 72 [0,2,4] [p0,Pt j 0,Pt h 0] a∧St w0 w I [bC p0 S,cells j [Zi,Zu,Zu,Zs,Zs],cells h [I6 d,U6 f,U6 g,Zs,Zs]] R) ?_ ?_
 {
 refine rg b 14 [0,0,2,7,15,0,38,102,0,358,870,2047,0,8191] [] mixed (sz ((.slice (some ⟨Q,0,none⟩) 6 6)) 0 z z (sz (p0) 1 z z (sz (p0) 5 z z (sz (p0) 8 z z (pC 2 12 (by kernel_rfl) ?_ ?_)))))
 {
 refine nx z z fun w b=>?_
 replace b:=b.ay
 obtain ⟨l7,e8,c⟩:=bn c
 refine wec call64 [p0,I6 6] z z (kca (aP b.to1 e8) fun l8 b=>?_)
 replace b:=b.of1
 refine wn [8,5,0] b (pz (pz (pz bu))) ?_
 obtain ⟨s,e9,c⟩:=bn c
 obtain ⟨l,m,o⟩:=aK e9
 refine sh _ 3 z (fun w b=>az z z underlying150 sizeOf29 b.sv1 l m) (sl 4 z z isAgg29 (fun w b=>b.ol1 o (by rintro _ rfl; rfl)) (pC 6 12 (by kernel_rfl) ?_ ?_))
 {
 refine nx z z fun w b=>?_
 obtain ⟨T,f0,c⟩:=bn c
 refine wec call64 [p0,I6 4] z z (kca (aP b.to1 f0) fun l9 b=>?_)
 replace b:=b.of1
 refine wn [4,3,8,0] b (pkr z z (fun w b=>ao z isAgg29 (b.ol1 o (by rintro _ rfl; rfl))) (pkr z z (fun w b=>az z z underlying150 sizeOf29 b.sv1 l m) (pz (pz bu)))) (sk (.int .u64 (u64.wrap T.1)) 7 z (pC 9 12 (by kernel_rfl) ?_ ?_))
 {
 refine nx z z fun w b=>?_
 obtain ⟨c2,f1,c⟩:=bn c
 refine wec call64 [p0,I6 9] z z (kca (aP b.to1 f1) fun m0 b=>?_)
 replace b:=b.of1
 refine wn [7,4,3,0] b (pkr z z (fun w b=>by kernel_rfl) (pkr z z (fun w b=>ao z isAgg29 (b.ol1 o (by rintro _ rfl; rfl))) (pkr z z (fun w b=>az z z underlying150 sizeOf29 b.sv1 l m) (pz bu)))) (sk (.int .u64 (u64.wrap c2.1)) 10 z (sk (.agg #[I6 s,U6 (u64.wrap T.1),U6 (u64.wrap c2.1),Zs,Zs]) 11 z (e1 12 z z fun w b=>?_)))
 obtain ⟨c3,f2,f3,f4,b⟩:=b.box [Zi,Zu,Zu,Zs,Zs] 33
 refine bS (v:=Pt c3 0) (w':=f2) z (tO (by kernel_rfl) f3 f4) (wn [11,10,7,4,3,0] b (pkr z z (fun w b=>by kernel_rfl) (pkr z z (fun w b=>by kernel_rfl) (pkr z z (fun w b=>by kernel_rfl) (pkr z z (fun w b=>ao z isAgg29 (b.ol2 o (by rintro _ rfl; rfl))) (pkr z z (fun w b=>az z z underlying150 sizeOf29 b.sv2 l m) (pz bu)))))) (e1 13 z z fun w b=>bxe b z sizeOf33 (oJ 5 z oN) fun m1 b=>w0n b (bi ?_)))
 intro w b
 refine ⟨z,?_⟩
 cases c
 exact ⟨_,s,_,_,c3,G,fy z,b.ap.ay.dC⟩
}
 {
 refine nx z z fun w b=>?_
 obtain ⟨c4,f5,f6,f7,b⟩:=b.box [Zi,Zu,Zu,Zs,Zs] 33
 refine bS (v:=Pt c4 0) (w':=f5) z (tO (by kernel_rfl) f6 f7) (wn [7,4,3,8,0] b (pkr z z (fun w b=>by kernel_rfl) (pkr z z (fun w b=>ao z isAgg29 (b.ol2 o (by rintro _ rfl; rfl))) (pkr z z (fun w b=>az z z underlying150 sizeOf29 b.sv2 l m) (pz (pz bu))))) (e1 9 z z fun w b=>?_))
 replace b:=b.ab
 obtain ⟨c5,f8,c⟩:=bn c
 refine wec call64 [p0,I6 9] z z (kca (aP b.to1 f8) fun m2 b=>?_)
 replace b:=b.of1
 refine wn [7,4,3,0] b (pkr z z (fun w b=>by kernel_rfl) (pkr z z (fun w b=>ao z isAgg29 (b.ol2 o (by rintro _ rfl; rfl))) (pkr z z (fun w b=>az z z underlying150 sizeOf29 b.sv2 l m) (pz bu)))) (sk (.int .u64 (u64.wrap c5.1)) 10 z (sk (.agg #[I6 s,U6 (u64.wrap T.1),U6 (u64.wrap c5.1),Zs,Zs]) 11 z (e1 13 z z fun w b=>?_)))
 replace b:=b.ab
 refine bxe b z sizeOf33 (oJ 5 z oN) fun m3 b=>w0n b (bi ?_)
 intro w b
 refine ⟨z,?_⟩
 cases c
 exact ⟨_,s,_,_,c4,G,fy z,b.ap.ay.dC⟩
}
}
 {
 refine nx z z fun w b=>?_
 obtain ⟨c6,f9,g0,g1,b⟩:=b.box [Zi,Zu,Zu,Zs,Zs] 33
 refine bS (v:=Pt c6 0) (w':=f9) z (tO (by kernel_rfl) g0 g1) (wn [4,3,8,5,0] b (pkr z z (fun w b=>ao z isAgg29 (b.ol2 o (by rintro _ rfl; rfl))) (pkr z z (fun w b=>az z z underlying150 sizeOf29 b.sv2 l m) (pz (pz (pz bu))))) (e1 6 z z fun w b=>?_))
 replace b:=b.ab
 obtain ⟨c7,g2,c⟩:=bn c
 refine wec call64 [p0,I6 4] z z (kca (aP b.to1 g2) fun m4 b=>?_)
 replace b:=b.of1
 refine wn [4,3,8,0] b (pkr z z (fun w b=>ao z isAgg29 (b.ol2 o (by rintro _ rfl; rfl))) (pkr z z (fun w b=>az z z underlying150 sizeOf29 b.sv2 l m) (pz (pz bu)))) (sk (.int .u64 (u64.wrap c7.1)) 7 z (e1 9 z z fun w b=>?_))
 obtain ⟨c8,g3,c⟩:=bn c
 refine wec call64 [p0,I6 9] z z (kca (aP b.to1 g3) fun m5 b=>?_)
 replace b:=b.of1
 refine wn [7,4,3,0] b (pkr z z (fun w b=>by kernel_rfl) (pkr z z (fun w b=>ao z isAgg29 (b.ol2 o (by rintro _ rfl; rfl))) (pkr z z (fun w b=>az z z underlying150 sizeOf29 b.sv2 l m) (pz bu)))) (sk (.int .u64 (u64.wrap c8.1)) 10 z (sk (.agg #[I6 s,U6 (u64.wrap c7.1),U6 (u64.wrap c8.1),Zs,Zs]) 11 z (e1 13 z z fun w b=>?_)))
 replace b:=b.ab
 refine bxe b z sizeOf33 (oJ 5 z oN) fun m6 b=>w0n b (bi ?_)
 intro w b
 refine ⟨z,?_⟩
 cases c
 exact ⟨_,s,_,_,c6,G,fy z,b.ap.ay.dC⟩
}
}
 {
 refine nx z z fun w b=>?_
 obtain ⟨c9,g4,g5,g6,b⟩:=b.box [Zi,Zu,Zu,Zs,Zs] 33
 refine bS (v:=Pt c9 0) (w':=g4) z (tO (by kernel_rfl) g5 g6) (wn [8,5,1,0] b (pz (pz (pz (pz bu)))) (e1 2 z z fun w b=>?_))
 replace b:=b.ap
 obtain ⟨m7,g7,c⟩:=bn c
 refine wec call64 [p0,I6 6] z z (kca (aP b.to1 g7) fun m8 b=>?_)
 replace b:=b.of1
 refine wn [8,5,0] b (pz (pz (pz bu))) ?_
 obtain ⟨d0,g8,c⟩:=bn c
 obtain ⟨U,V,W⟩:=aK g8
 refine sh _ 3 z (fun w b=>az z z underlying150 sizeOf29 b.sv2 U V) (sl 4 z z isAgg29 (fun w b=>b.ol2 W (by rintro _ rfl; rfl)) (e1 6 z z fun w b=>?_))
 obtain ⟨d1,g9,c⟩:=bn c
 refine wec call64 [p0,I6 4] z z (kca (aP b.to1 g9) fun m9 b=>?_)
 replace b:=b.of1
 refine wn [4,3,8,0] b (pkr z z (fun w b=>ao z isAgg29 (b.ol2 W (by rintro _ rfl; rfl))) (pkr z z (fun w b=>az z z underlying150 sizeOf29 b.sv2 U V) (pz (pz bu)))) (sk (.int .u64 (u64.wrap d1.1)) 7 z (e1 9 z z fun w b=>?_))
 obtain ⟨d2,h0,c⟩:=bn c
 refine wec call64 [p0,I6 9] z z (kca (aP b.to1 h0) fun n0 b=>?_)
 replace b:=b.of1
 refine wn [7,4,3,0] b (pkr z z (fun w b=>by kernel_rfl) (pkr z z (fun w b=>ao z isAgg29 (b.ol2 W (by rintro _ rfl; rfl))) (pkr z z (fun w b=>az z z underlying150 sizeOf29 b.sv2 U V) (pz bu)))) (sk (.int .u64 (u64.wrap d2.1)) 10 z (sk (.agg #[I6 d0,U6 (u64.wrap d1.1),U6 (u64.wrap d2.1),Zs,Zs]) 11 z (e1 13 z z fun w b=>?_)))
 replace b:=b.ab
 refine bxe b z sizeOf33 (oJ 5 z oN) fun n1 b=>w0n b (bi ?_)
 intro w b
 refine ⟨z,?_⟩
 cases c
 exact ⟨_,d0,_,_,c9,G,fy z,b.ap.ay.dC⟩
}
}
 {
 rintro _ n2 ⟨S,d,f,g,h,c,⟨n3,rfl⟩,b⟩
 dsimp only [lZ] at c
 refine tn (ww (mv (p0) z ?_))
 obtain ⟨X,h1,c⟩:=bn c
 refine wc call64 [p0,I6 3] z z z (kca (aP b.to1 h1) fun n4 b=>?_)
 replace b:=b.of1
 refine mi z (nt ?_)
 obtain ⟨h2,c,h3⟩:=bn c
 refine cQ (fun a w=>∃ (I1567:HL) (Y:ak) (p:(List cp)) (i:Value),(og d f g) (Y,p)=some r∧fz 72 [0,2,4] [p0,Pt j 0,Pt h 0] a∧I.le I1567∧St w0 w I1567 [bC p0 Y,cells j [Zi,Zu,Zu,Zs,Zs],cells h [I6 d,U6 f,U6 g,i,Zs],aZ aA i p] R) ?_ ?_
 {
 have Z:=HL.le.refl I
 refine ww (mi z (nt (wp_block ?_)))
 replace b:=b.aX aA
 obtain ⟨h4,c⟩:=aS c
 refine bf (fun n a w=>∃ (I1524:HL) (y:(List cp)) (H:ak) (b0:Int) (J:Value),cP (gR X) n (y,H,b0)=some h2∧fz 72 [0,2,4,5,6] [p0,Pt j 0,Pt h 0,I6 X.1,I6 b0] a∧I.le I1524∧St w0 w I1524 [aZ aA J y,bC p0 H,cells j [Zi,Zu,Zu,Zs,Zs],cells h [I6 d,U6 f,U6 g,J,Zs]] R) h4 ⟨_,[],X.2,0,Zs,c,fy z,lr,b⟩ ?_
 rintro n5 _ n6 ⟨I1524,y,H,b0,J,c,⟨n7,rfl⟩,K,b⟩
 obtain ⟨n8,n9,rfl,c,d3⟩:=aV c
 dsimp only [gR] at c
 replace Z:=Z.trans K
 refine wp_seq (ww (mi z (mi z (mb z (nt (bw c z ?_ ?_))))))
 {
 intro h5 c
 refine wp_skip (tn (wp_seq (wp_block (rg b 12 [0,1,0,4,12,0,44,124,252,511,1023,2047] [] mixed (sf 0 z z underlying33 z sizeOf30 (sl 1 z z isAgg30 (fun w b=>b.bc3 z) (sz (p0) 2 z z (sz (p0) 5 z z (e1 3 z z fun w b=>?_)))))))))
 replace b:=b.ab
 obtain ⟨L,h6,c⟩:=bn c
 refine wec call64 [p0,I6 2] z z (kca (aP b.to1 h6) fun o0 b=>?_)
 replace b:=b.of1
 refine wn [5,1,0] b (pz (pkr z z (fun w b=>ao z isAgg30 (b.bc3 z)) (pf z z underlying33 z sizeOf30 bu))) (sb 4 z z (e1 6 z z fun w b=>?_))
 obtain ⟨d4,h7,c⟩:=bn c
 refine wec call66 [p0] z z (kcb (kG b.to1 h7) fun d5 o1 b=>?_)
 replace b:=b.of2
 refine wn [4,1,0] b (pz (pkr z z (fun w b=>ao z isAgg30 (b.bc4 z)) (pf z z underlying33 z sizeOf30 bu))) (wsr (.agg #[.bool (L.1==0),d5]) 7 rfl rfl rfl (by kernel_rfl) (fun w b=>by obtain ⟨_,_,hv_,_⟩:=b.sv0; rw [hv_]; kernel_rfl) (e1 8 z z fun w b=>?_))
 obtain ⟨I1548,h8,d6,b⟩:=b.cK
 replace K:=K.trans h8
 obtain ⟨h9,i0,i1,i2,b⟩:=b.er (E:=aA) (xs:=[({Has:=(L.1==0),Val:=d4.1}:cp)]) [[.bool (L.1==0),d5]] 61 1 z (bz.cons ⟨_,z,d6,oS (ag d6)⟩ bz.nil)
 refine bS (v:=(.slice (some ⟨h9,0,none⟩) 1 1)) (w':=i0) z (di (by kernel_rfl) i1 i2) (wn [1,0] b (pkr z z (fun w b=>ao z isAgg30 (b.bc4 z)) (pf z z underlying33 z sizeOf30 bu)) (e1 9 z z fun w b=>?_))
 obtain ⟨i3,c⟩:=cw c
 replace b:=b.ay
 obtain ⟨b1,i4,i5,b⟩:=bE xM underlying30 b b.jr (cF i3 z) 30
 refine bS (v:=b1) (w':=i4) z (bU z z i5) (w0n b (sf 10 z z underlying33 z sizeOf30 (e1 11 z z fun w b=>?_)))
 replace b:=b.aY
 refine b1e b1 b z (oS b.sv1) sizeOf30 fun o2 b=>w0n b (bi ?_)
 intro w b
 refine bB (tn (wrl (mi z (mi z (mi z (nt ?_))))))
 cases c
 exact ⟨_,nls,_,(y++([({Has:=(L.1==0),Val:=d4.1}:cp)])),_,_,b1,d3,fy z,K,b.aY.aY.ap.eF⟩
}
 {
 intro h5 c
 refine wp_exit (aQ (aQ ?_))
 replace c:=bg c d3
 refine cZ (tn ?_)
 cases c
 exact ⟨_,H,y,J,h3,fy z,Z,b.ap.ap.ap.eF⟩
}
}
 {
 rintro _ o3 ⟨I1567,Y,p,i,c,⟨o4,rfl⟩,i6,b⟩
 dsimp only [og] at c
 replace x:=x.trans i6
 refine ww (mv (p0) z ?_)
 obtain ⟨A,i7,c⟩:=bn c
 refine wc call64 [p0,I6 3] z z z (kca (aP b.to1 i7) fun o5 b=>?_)
 replace b:=b.of1
 refine mi (Er (by decide) z z) (mi z (nt (wp_seq (ww (mi z (nt (wp_block ?_)))))))
 replace b:=b.aX (dG aw)
 obtain ⟨i8,c⟩:=aS c
 refine bf (fun n a w=>∃ (I2084:HL) (q:(List (List bM))) (b2:ak) (t:Int) (k:Value),cP (gS A d f g p) n (q,b2,t)=some r∧fz 72 [0,2,4,5,7] [p0,Pt j 0,Pt h 0,I6 (i64.wrap (Int.tdiv A.1 2)),I6 t] a∧I1567.le I2084∧St w0 w I2084 [aZ (dG aw) k q,bC p0 b2,cells j [Zi,Zu,Zu,Zs,Zs],cells h [I6 d,U6 f,U6 g,i,k],aZ aA i p] R) i8 ⟨_,[],A.2,0,Zs,c,fy z,lr,b⟩ ?_
 rintro o6 _ o7 ⟨I2084,q,b2,t,k,c,⟨o8,rfl⟩,u,b⟩
 obtain ⟨o9,i9,rfl,c,d7⟩:=aV c
 dsimp only [gS] at c
 replace x:=x.trans u
 refine wp_seq (ww (mi z (mi z (mb z (nt (bw c z ?_ ?_))))))
 {
 intro j0 c
 refine wp_skip (tn (wp_seq (wp_block (ww (mv ((.slice none 0 0)) z (nt (ww (mv (p0) z ?_))))))))
 replace b:=b.ab
 obtain ⟨b3,j1,c⟩:=bn c
 refine wc call64 [p0,I6 3] z z z (kca (aP b.to1 j1) fun q0 b=>?_)
 replace b:=b.of1
 refine mi z (nt ?_)
 obtain ⟨j2,c,j3⟩:=bn c
 refine cQ (fun a w=>∃ (I2235:HL) (M:ak) (B:(List bM)) (C:Value),(oe q t) (M,B)=some i9∧fz 72 [0,2,4,5,7,8] [p0,Pt j 0,Pt h 0,I6 (i64.wrap (Int.tdiv A.1 2)),I6 t,C] a∧I2084.le I2235∧St w0 w I2235 [bC p0 M,cells j [Zi,Zu,Zu,Zs,Zs],cells h [I6 d,U6 f,U6 g,i,k],aZ aA i p,aZ (dG aw) k q,aZ aw C B] R) ?_ ?_
 {
 have b4:=HL.le.refl I2084
 refine ww (mi z (nt (wp_block ?_)))
 replace b:=b.aX aw
 obtain ⟨j4,c⟩:=aS c
 refine bf (fun n a w=>∃ (I2194:HL) (N:ak) (b5:Int) (D:(List bM)) (F:Value),cP (gV b3) n (N,b5,D)=some j2∧fz 72 [0,2,4,5,7,8,9,10] [p0,Pt j 0,Pt h 0,I6 (i64.wrap (Int.tdiv A.1 2)),I6 t,F,I6 b3.1,I6 b5] a∧I2084.le I2194∧St w0 w I2194 [aZ aw F D,bC p0 N,aZ (dG aw) k q,cells j [Zi,Zu,Zu,Zs,Zs],cells h [I6 d,U6 f,U6 g,i,k],aZ aA i p] R) j4 ⟨_,b3.2,0,[],Zs,c,fy z,lr,b⟩ ?_
 rintro q1 _ q2 ⟨I2194,N,b5,D,F,c,⟨q3,rfl⟩,O,b⟩
 obtain ⟨q4,q5,rfl,c,d8⟩:=aV c
 dsimp only [gV] at c
 replace b4:=b4.trans O
 refine wp_seq (ww (mi z (mi z (mb z (nt (bw c z ?_ ?_))))))
 {
 intro j5 c
 refine wp_skip (tn (wp_seq (wp_block (wrl (mv (F) z (mv (p0) z ?_))))))
 replace b:=b.ab
 obtain ⟨P,j6,c⟩:=bn c
 refine wc call28 [p0] z z z (kca (ec b.to1 j6) fun q6 b=>?_)
 replace b:=b.of1
 refine mv (p0) z ?_
 obtain ⟨d9,j7,c⟩:=bn c
 refine wc call66 [p0] z z z (kcb (kG b.to1 j7) fun e0 q7 b=>?_)
 replace b:=b.of2
 refine wv (.agg #[F6 P.1,e0]) z z (by obtain ⟨_,_,hv_,_⟩:=b.sv0; rw [hv_]; kernel_rfl) ?_
 obtain ⟨I2218,j8,e2,b⟩:=b.cK
 replace O:=O.trans j8
 obtain ⟨j9,k0,k1,k2,b⟩:=b.er (E:=aw) (xs:=[({At:=P.1,Val:=d9.1}:bM)]) [[F6 P.1,e0]] 152 1 z (bz.cons ⟨_,z,e2,oS (ag e2)⟩ bz.nil)
 refine bY (v:=(.slice (some ⟨j9,0,none⟩) 1 1)) (w':=k0) z z (di (by kernel_rfl) k1 k2) ?_
 obtain ⟨k3,c⟩:=cw c
 replace b:=b.ay
 obtain ⟨b6,k4,k5,b⟩:=bE ya underlying81 b b.jr (cF k3 z) 81
 refine bY (v:=b6) (w':=k4) z z (bU z z k5) (mv (b6) z (dk (bB (tn (wrl (mi z (mi z (mi z (nt ?_)))))))))
 cases c
 exact ⟨_,nls,_,_,_,(D++([({At:=P.1,Val:=d9.1}:bM)])),b6,d8,fy z,O,b.cV.cV.cV.cV.cV.aW.km⟩
}
 {
 intro j5 c
 refine wp_exit (aQ (aQ ?_))
 replace c:=bg c d8
 refine cZ (tn ?_)
 cases c
 exact ⟨_,N,D,F,j3,fy z,b4,b.ay.aW.aW.aW.aW.km⟩
}
}
 {
 rintro _ q8 ⟨I2235,M,B,C,c,⟨q9,rfl⟩,k6,b⟩
 dsimp only [oe] at c
 replace u:=u.trans k6
 refine wrl (mf z underlying33 z sizeOf31 (ml z isAgg31 (b.bc2 z) (mv (C) z ?_)))
 replace b:=b.aW
 obtain ⟨I2243,k7,b7,b⟩:=b.cK
 replace u:=u.trans k7
 obtain ⟨k8,k9,l0,l1,b⟩:=b.er (E:=(dG aw)) (xs:=[B]) [[C]] 81 1 z (bz.cons ⟨_,z,b7,oS (ag b7)⟩ bz.nil)
 refine bY (v:=(.slice (some ⟨k8,0,none⟩) 1 1)) (w':=k9) z z (di (by obtain ⟨_,_,hv_,_⟩:=(ag b7); rw [hv_]; kernel_rfl) l0 l1) ?_
 obtain ⟨l2,c⟩:=cw c
 replace b:=b.aW
 obtain ⟨b8,l3,l4,b⟩:=bE xU underlying31 b b.jr (cF l2 z) 31
 refine bY (v:=b8) (w':=l3) z z (bU z z l4) (mf z underlying33 z sizeOf31 ?_)
 replace b:=b.aY
 refine b1k b8 b z (oS b.sv1) sizeOf31 fun s0 b=>dk (bB (tn (wrl (mi z (mi z (mi z (nt ?_)))))))
 cases c
 exact ⟨_,nls,_,(q++([B])),M,_,b8,d7,fy z,u,b.aW.ab.aW.aW.aY.oT⟩
}
}
 {
 intro j0 c
 refine wp_exit (aQ (aQ ?_))
 replace c:=bg c d7
 refine cZ (tn (ww (mz (av (cs:=[I6 d,U6 f,U6 g,i,k]) z isAgg33 sizeOf33 (b.rU 0 z)) ?_)))
 replace b:=b.ay
 refine bxk b z sizeOf33 (oJ 3 z (oC (oS b.sv4) (oC (oS b.sv1) oN))) fun s1 b=>nt (wp_ret ?_)
 cases c
 exact aU [.agg #[I6 d,U6 f,U6 g,i,k]] results35 (bj (bF (cs:=[I6 d,U6 f,U6 g,i,k]) z isAgg33 sizeOf33 (b.eD 0 z)) ah) ⟨_,i,k,z,x,b.ay.ay.aY.dC⟩
}
}
}
}
theorem qP {a0:ak} {p0:Value} (a:St w0 w I [bC p0 a0] R) {r:(dr×ak)} (b:kH a0=some r) :
  Calls prog 84 #[p0] w fun e w'=>e = .returned (.agg #[U6 r.1.ID,I6 r.1.From,I6 r.1.To,F6 r.1.Lo,F6 r.1.Hi,U6 r.1.Authority,I6 r.1.Quota])∧St w0 w' I [bC p0 r.2] R:=by {
 unfold kH at b
 refine c0 func84 z ntmps84 (ww ?_)
 obtain ⟨u,v,k,l,a⟩:=a.box [Zu,Zi,Zi,Zf,Zf,Zu,Zi] 39
 refine wa k l (nt (ww (mv (p0) z ?_)))
 replace a:=a.ab
 obtain ⟨c,m,b⟩:=bn b
 refine wc call64 [p0,I6 3] z z z (kca (aP a.to1 m) fun x a=>?_)
 replace a:=a.of1
 refine mk (.int .u64 (u64.wrap c.1)) (mv (p0) z ?_)
 obtain ⟨f,n,b⟩:=bn b
 refine wc call64 [p0,I6 4] z z z (kca (aP a.to1 n) fun y a=>?_)
 replace a:=a.of1
 refine mv (p0) z ?_
 obtain ⟨g,o,b⟩:=bn b
 refine wc call64 [p0,I6 4] z z z (kca (aP a.to1 o) fun A a=>?_)
 replace a:=a.of1
 refine mv (p0) z ?_
 obtain ⟨h,p,b⟩:=bn b
 refine wc call28 [p0] z z z (kca (ec a.to1 p) fun B a=>?_)
 replace a:=a.of1
 refine mv (p0) z ?_
 obtain ⟨i,q,b⟩:=bn b
 refine wc call28 [p0] z z z (kca (ec a.to1 q) fun C a=>?_)
 replace a:=a.of1
 refine mv (p0) z ?_
 obtain ⟨d,s,b⟩:=bn b
 refine wc call64 [p0,I6 2] z z z (kca (aP a.to1 s) fun D a=>?_)
 replace a:=a.of1
 refine mk (.int .u64 (u64.wrap d.1)) (mv (p0) z ?_)
 obtain ⟨j,t,b⟩:=bn b
 refine wc call64 [p0,I6 3] z z z (kca (aP a.to1 t) fun E a=>?_)
 replace a:=a.of1
 refine mk (.agg #[U6 (u64.wrap c.1),I6 f.1,I6 g.1,F6 h.1,F6 i.1,U6 (u64.wrap d.1),I6 j.1]) ?_
 replace a:=a.ab
 refine bxk a z sizeOf39 (oJ 7 z oN) fun F a=>nt (wp_ret ?_)
 cases b
 exact aU [.agg #[U6 (u64.wrap c.1),I6 f.1,I6 g.1,F6 h.1,F6 i.1,U6 (u64.wrap d.1),I6 j.1]] results84 (bj (bF (cs:=[U6 (u64.wrap c.1),I6 f.1,I6 g.1,F6 h.1,F6 i.1,U6 (u64.wrap d.1),I6 j.1]) z isAgg39 sizeOf39 (a.eD 0 z)) ah) ⟨z,a.ab.bo⟩
}
end Go.Proofs.YtgnkkopjkgdieaaGreat
