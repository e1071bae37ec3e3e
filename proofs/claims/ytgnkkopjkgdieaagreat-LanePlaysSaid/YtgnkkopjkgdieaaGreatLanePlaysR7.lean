/- A part of the proof. -/
import Derived.Test.YtgnkkopjkgdieaaGreatLanePlaysR6
set_option linter.unusedVariables false
set_option linter.unusedSimpArgs false
set_option maxRecDepth 100000
set_option maxHeartbeats 4000000
namespace Go.Proofs.YtgnkkopjkgdieaaGreat
open Go Go.V
open _root_.Go.Proofs.Tryz IntKind
variable {w0 w:World} {I:HL} {R:SP}
attribute [local irreducible] wpList Code.wp wpQuiet Calls bodyPost Oper.wp wpS Nx gE YieldsIn
theorem rL {a0:(List cq)} {d:Value} {a1 a2:Int} {a3:bp} {j k:Value} (g:Ro ey I d a0) (l:Ro aA I j a3.Gots) (m:Ro (dG aw) I k a3.Scans) (c:St w0 w I [] R) {r:((List cq)×Int)} (b:ng a0 a1 a2 a3=some r) :
  Calls prog 151 #[d,U6 a1,U6 a2,.agg #[I6 a3.E,U6 a3.Epoch,U6 a3.Index,j,k]] w fun e w'=>∃ (I':HL) (y:Value),e = .returned (.tuple #[y,I6 r.2])∧I.le I'∧Ro ey I' y r.1∧St w0 w' I' [] R:=by {
 unfold ng at b
 refine c0 func151 z ntmps151 ?_
 have i:=HL.le.refl I
 refine ww ?_
 obtain ⟨c1,c2,J,K,c⟩:=c.box [I6 a3.E,U6 a3.Epoch,U6 a3.Index,j,k] 33
 refine wa J K (mv ((.slice none 0 0)) z (mi z (nt (wp_seq (ww (mi z (mb z (nt (bw b z ?_ ?_)))))))))
 {
 intro L b
 refine ww (mv (d) z (mv (d) z (mi z (nt (wp_ret (aI ?_))))))
 cases b
 exact aU [d,I6 1] results151 (rc z (rc z ah)) ⟨_,d,z,i,g,c.bQ⟩
}
 {
 intro L b
 refine wp_skip (tn (wp_seq (ww (mv (d) z (mi z ?_)))))
 obtain ⟨M,N,b⟩:=bn b
 refine wc call93 [d,U6 a1] z z z ((lI g c.to0 N).mono ?_)
 rintro _ c3 ⟨I737,c4,c5,rfl,q,O,P,c⟩
 refine ⟨_,z,?_⟩
 replace c:=c.of0
 replace g:=g.mono (ro_le q)
 replace l:=l.mono (ro_le q)
 replace m:=m.mono (ro_le q)
 replace i:=i.trans q
 refine wv (.int .u64 M.Seq) z z (by obtain ⟨_,_,hv_,_⟩:=(ag P); rw [hv_]; obtain ⟨_,_,hv_,_⟩:=(ag O); rw [hv_]; kernel_rfl) (mi z (mb z (nt (bw b z ?_ ?_))))
 {
 intro Q b
 refine ww (mv (d) z (mv (d) z (mi z (nt (wp_ret (aI ?_))))))
 cases b
 exact aU [d,I6 10] results151 (rc z (rc z ah)) ⟨_,d,z,i,g,c.bQ⟩
}
 {
 intro Q b
 refine wp_skip (tn (ww (mi z (mi z (mz (av (cs:=[I6 a3.E,U6 a3.Epoch,U6 a3.Index,j,k]) z isAgg33 sizeOf33 (c.eD 0 z)) (wv (.agg #[U6 a1,U6 a2,I6 a3.E,U6 a3.Epoch,U6 a3.Index,j,k]) z z (by obtain ⟨_,_,hv_,_⟩:=(ag m); rw [hv_]; obtain ⟨_,_,hv_,_⟩:=(ag l); rw [hv_]; kernel_rfl) ?_))))))
 obtain ⟨s,S,T,U,c⟩:=c.er (E:=ey) (xs:=[({Session:=a1,Seq:=a2,R:=a3}:cq)]) [[U6 a1,U6 a2,I6 a3.E,U6 a3.Epoch,U6 a3.Index,j,k]] 164 1 z (bz.cons ⟨_,_,z,l,m,oS (ag l),oS (ag m)⟩ bz.nil)
 refine bY (v:=(.slice (some ⟨s,0,none⟩) 1 1)) (w':=S) z z (di (by kernel_rfl) T U) (mv ((.slice (some ⟨s,0,none⟩) 1 1)) z (nt (wp_seq (ww (mi z (nt (wp_block ?_)))))))
 replace c:=c.ab.sub
 obtain ⟨V,b⟩:=aS b
 refine bf (fun n a w=>∃ (p:(List cq)) (t:Int) (h:Value),cP (iL a0 a1) n (p,t)=some r∧fz 48 [0,1,10,11] [d,U6 a1,h,I6 t] a∧St w0 w I737 [aZ ey h p] R) V ⟨[({Session:=a1,Seq:=a2,R:=a3}:cq)],0,(.slice (some ⟨s,0,none⟩) 1 1),b,fy z,c⟩ ?_
 rintro c6 _ c7 ⟨p,t,h,b,⟨c8,rfl⟩,c⟩
 obtain ⟨c9,d0,rfl,b,u⟩:=aV b
 dsimp only [iL] at b
 refine wp_seq (ww (mi z (mv (d) z (mz (bW z underlying126 (ag g)) (mb z (nt (bw b z ?_ ?_)))))))
 {
 intro W b
 refine wp_skip (tn (wp_seq (wp_block (ww (mv (d) z (mi z ?_))))))
 obtain ⟨f,X,b⟩:=bn b
 obtain ⟨A,B,Y⟩:=aK X
 refine mz (az z z underlying126 sizeOf164 (ag g) A B) (mz (aR z underlying164 z sizeOf26 z) ?_)
 obtain ⟨d1,Z,C⟩:=Ro.jV g Y
 obtain ⟨D,F,rfl,G,H,-⟩:=Z
 refine ml z isAgg26 ((C lr c) 0 _ z) (mi z (mb z (nt (bw b z ?_ ?_))))
 {
 intro b0 b
 refine wrl (mv (h) z (mv (d) z (mi z (mz (az z z underlying126 sizeOf164 (ag g) A B) (mz (av (cs:=[U6 f.Session,U6 f.Seq,I6 f.R.E,U6 f.R.Epoch,U6 f.R.Index,D,F]) z isAgg164 sizeOf164 (dO (o:=0) (C lr c) z)) ?_)))))
 obtain ⟨b1,b2,b3,b4,c⟩:=c.er (E:=ey) (xs:=[f]) [[U6 f.Session,U6 f.Seq,I6 f.R.E,U6 f.R.Epoch,U6 f.R.Index,D,F]] 164 1 z (bz.cons ⟨_,_,z,G,H,oS (ag G),oS (ag H)⟩ bz.nil)
 refine bY (v:=(.slice (some ⟨b1,0,none⟩) 1 1)) (w':=b2) z z (di (by kernel_rfl) b3 b4) ?_
 obtain ⟨b5,b⟩:=cw b
 replace c:=c.ab
 obtain ⟨x,b6,b7,c⟩:=bE Dp underlying126 c c.jr (cF b5 z) 126
 refine bY (v:=x) (w':=b6) z z (bU z z b7) (mv (x) z (dk (bB (tn (wrl (mi z (mi z (mi z (nt ?_)))))))))
 cases b
 exact ⟨_,nls,(p++([f])),_,x,u,fy z,c.bo⟩
}
 {
 intro b0 b
 refine wp_skip (bB (tn (wrl (mi z (mi z (mi z (nt ?_)))))))
 cases b
 exact ⟨_,nls,p,_,h,u,fy z,c.bo⟩
}
}
 {
 intro W b
 refine wp_exit (aQ (aQ ?_))
 replace b:=bg b u
 refine cZ (tn (ww (mv (h) z (mv (h) z (mi z (nt (wp_ret ?_)))))))
 obtain ⟨I855,b8,b9,c⟩:=c.cK
 replace i:=i.trans b8
 cases b
 exact aU [h,Zi] results151 (rc z (rc z ah)) ⟨_,h,z,i,b9,c.bQ⟩
}
}
}
}
theorem nD {a0:ai} {p0:Value} {a1:bK} (b:St w0 w I [aL p0 a0] R) {r:(ai)} (c:fB a0 a1=some r) :
  Calls prog 74 #[p0,.agg #[U6 a1.Session,U6 a1.Seq]] w fun e w'=>e = .returned (.tuple #[])∧St w0 w' I [aL p0 r] R:=by {
 unfold fB at c
 refine c0 func74 z ntmps74 (ww ?_)
 obtain ⟨x,b7,F,G,b⟩:=b.box [U6 a1.Session,U6 a1.Seq] 28
 refine wa F G (nt (ww (mv ((.slice none 0 0)) z (nt ?_))))
 obtain ⟨H,c,J⟩:=bn c
 refine cQ (fun a w=>∃ (i:(List bA)) (h:Value),(jq a0) i=some r∧fz 39 [0,4] [p0,h] a∧St w0 w I [aL p0 a0,aZ aH h i] R) ?_ ?_
 {
 refine ww (mi z (nt (wp_block ?_)))
 replace b:=b.aX aH
 obtain ⟨K,c⟩:=aS c
 refine bf (fun n a w=>∃ (f:(List bA)) (j:Int) (g:Value),cP (fj a0 a1) n (f,j)=some H∧fz 39 [0,3,4,5] [p0,Pt x 0,g,I6 j] a∧St w0 w I [aZ aH g f,cells x [U6 a1.Session,U6 a1.Seq],aL p0 a0] R) K ⟨[],0,Zs,c,fy z,b⟩ ?_
 rintro b8 _ b9 ⟨f,j,g,c,⟨c1,rfl⟩,b⟩
 obtain ⟨c2,c3,rfl,c,k⟩:=aV c
 dsimp only [fj] at c
 refine wp_seq (ww (mi z (mv (p0) z ?_)))
 obtain ⟨l,c4,c5,c6,c7,c8,c9,d0,⟨rfl,m,p,q,s⟩,L⟩:=bd b.ay
 have b:=L
 refine mp z (mf z underlying130 z sizeOf65 (ml z isAgg65 (b.bc0 z) (mz (bW z underlying65 b.sv1) (mb z (nt (bw c z ?_ ?_))))))
 {
 intro M c
 refine wp_skip (tn (wp_seq (wp_block (wp_seq ?_))))
 replace b:=b.ab
 obtain ⟨d1,t,b⟩:=b.cx
 refine dL b mixed (by kernel_rfl) (qz (Pt _ _) z (qz (Pt _ _) z (qh _ (fun w b=>aO z underlying130 z sizeOf65 z) (qh _ (fun w b=>ao z isAgg65 (b.bc1 z)) (qz (I6 _) z ?_)))))
 obtain ⟨d,N,c⟩:=bn c
 obtain ⟨y,A,B⟩:=aK N
 refine qh _ (fun w b=>az z z underlying65 sizeOf89 (b.rsv 0 z t) y A) (qh _ (fun w b=>aR z underlying89 z sizeOf28 z) ?_)
 obtain ⟨d2,O,P⟩:=bz.get t B
 obtain ⟨d3,rfl,d4,-⟩:=P
 refine qh _ (fun w b=>av (cs:=[U6 d.ID.Session,U6 d.ID.Seq]) z isAgg28 sizeOf28 (dO (o:=0) (b.uJ 0 z O) z)) (qh _ (fun w b=>av (cs:=[U6 a1.Session,U6 a1.Seq]) z isAgg28 sizeOf28 (b.xB 0 z)) (qh (.bool _) (fun w b=>rJ z z (by kernel_rfl) underlying28 (by kernel_rfl) (by kernel_rfl) (by kernel_rfl) underlying26 underlying26 (fun _ _ _=>by kernel_rfl) (fun _ _ _=>by kernel_rfl)) (fK ?_)))
 intro w b
 replace b:=b.ba t
 refine tn (bw c z ?_ ?_)
 {
 intro Q c
 refine wrl (mv (g) z (mp z (mp z (mf z underlying130 z sizeOf65 (ml z isAgg65 (b.bc1 z) (mi z (mz (az z z underlying65 sizeOf89 b.sv0 y A) ?_)))))))
 obtain ⟨d5,S,T⟩:=b.og0 B
 obtain ⟨C,rfl,D,-⟩:=S
 refine mz (av (cs:=[U6 d.ID.Session,U6 d.ID.Seq,I6 d.E,U6 d.Epoch,U6 d.Index,U6 d.Shards,C]) z isAgg89 sizeOf89 (dO (o:=0) T z)) ?_
 obtain ⟨U,V,W,X,b⟩:=b.er (E:=aH) (xs:=[d]) [[U6 d.ID.Session,U6 d.ID.Seq,I6 d.E,U6 d.Epoch,U6 d.Index,U6 d.Shards,C]] 89 1 z (bz.cons ⟨_,z,D,oS (ag D)⟩ bz.nil)
 refine bY (v:=(.slice (some ⟨U,0,none⟩) 1 1)) (w':=V) z z (di (by kernel_rfl) W X) ?_
 obtain ⟨Y,c⟩:=cw c
 replace b:=b.aW
 obtain ⟨u,Z,b0,b⟩:=bE sx underlying65 b b.jr (cF Y z) 65
 refine bY (v:=u) (w':=Z) z z (bU z z b0) (mv (u) z (dk (bB (tn (wrl (mi z (mi z (mi z (nt ?_)))))))))
 cases c
 exact ⟨_,nls,(f++([d])),_,u,k,fy z,(aj (Pt l 0) a0 b.aW.aW.aY.aW ⟨z,m,p,q,s⟩).ap.ay.dC⟩
}
 {
 intro Q c
 refine wp_skip (bB (tn (wrl (mi z (mi z (mi z (nt ?_)))))))
 cases c
 exact ⟨_,nls,f,_,g,k,fy z,(aj (Pt l 0) a0 b.ap.ap.ay.ap ⟨z,m,p,q,s⟩).ay.ay.dC⟩
}
}
 {
 intro M c
 refine wp_exit (aQ (aQ ?_))
 replace c:=bg c k
 refine cZ (tn ?_)
 obtain rfl:=sj c
 exact ⟨f,g,J,fy z,(aj (Pt l 0) a0 b.ap.ap.ap.ap ⟨z,m,p,q,s⟩).ab.ab.cd⟩
}
}
 {
 rintro _ d6 ⟨i,h,c,⟨d7,rfl⟩,b⟩
 dsimp only [jq] at c
 refine wrl (mv (p0) z (mv (h) z ?_))
 obtain ⟨b1,d8,d9,e0,e1,e2,e3,e4,⟨rfl,b2,b3,b4,b5⟩,b6⟩:=bd b
 have b:=b6
 refine mp z (mf z underlying130 z sizeOf65 (b1k h b z (oS b.sv4) sizeOf65 fun e5 b=>dk ?_))
 replace b:=aj (Pt b1 0) (({a0 with Open:=i}:ai)) b.ap.ap.aY.ap ⟨z,b2,b3,b4,b5⟩
 cases c
 exact vn (vs:=[]) results74 ah ⟨z,b.bo⟩
}
}
theorem qV {a0:ai} {p0:Value} {a1:Int} {a2:aC} {B C D F G j k l:Value} (h0:Ro bV I B a2.Hold.Gets) (h1:Ro gn I C a2.Hold.Scans) (h2:Ro bV I D a2.Hold.Puts) (h3:Ro (cg .u8) I F a2.Hold.Data) (h4:Ro cG I G a2.Writes) (T:Ro aA I j a2.R.Gots) (U:Ro (dG aw) I k a2.R.Scans) (Q:Ro cJ I l a2.Parts) (b:St w0 w I [aL p0 a0] R) {r:(bh×ai)} (c:gU a0 a1 a2=some r) :
  Calls prog 73 #[p0,U6 a1,.agg #[U1 a2.Kind,U6 a2.ID.Session,U6 a2.ID.Seq,U6 a2.Epoch,U6 a2.Index,I6 a2.E,U6 a2.Hold.ID.Session,U6 a2.Hold.ID.Seq,U6 a2.Hold.Epoch,B,C,D,F,G,I6 a2.R.E,U6 a2.R.Epoch,U6 a2.R.Index,j,k,U6 a2.Shards,l,U6 a2.Rule.ID,I6 a2.Rule.From,I6 a2.Rule.To,F6 a2.Rule.Lo,F6 a2.Rule.Hi,U6 a2.Rule.Authority,I6 a2.Rule.Quota,.bool a2.On]] w fun e w'=>∃ (I':HL) (b6:Value) (b7:Value),e = .returned (.agg #[U1 r.1.Kind,U6 r.1.ID.Session,U6 r.1.ID.Seq,I6 r.1.R.E,U6 r.1.R.Epoch,U6 r.1.R.Index,b6,b7])∧I.le I'∧Ro aA I' b6 r.1.R.Gots∧Ro (dG aw) I' b7 r.1.R.Scans∧St w0 w' I' [aL p0 r.2] R:=by {
 unfold gU at c
 refine c0 func73 z ntmps73 ?_
 have n:=HL.le.refl I
 refine ww ?_
 obtain ⟨o,h5,c6,c7,b⟩:=b.box [U1 a2.Kind,U6 a2.ID.Session,U6 a2.ID.Seq,U6 a2.Epoch,U6 a2.Index,I6 a2.E,U6 a2.Hold.ID.Session,U6 a2.Hold.ID.Seq,U6 a2.Hold.Epoch,B,C,D,F,G,I6 a2.R.E,U6 a2.R.Epoch,U6 a2.R.Index,j,k,U6 a2.Shards,l,U6 a2.Rule.ID,I6 a2.Rule.From,I6 a2.Rule.To,F6 a2.Rule.Lo,F6 a2.Rule.Hi,U6 a2.Rule.Authority,I6 a2.Rule.Quota,.bool a2.On] 49
 refine wa c6 c7 ?_
 obtain ⟨p,h6,c8,c9,b⟩:=b.box [Zb,Zu,Zu,Zi,Zu,Zu,Zs,Zs] 35
 refine wa c8 c9 (nt (ww (mf z underlying49 z sizeOf33 (mz (av (cs:=[I6 a2.R.E,U6 a2.R.Epoch,U6 a2.R.Index,j,k]) z isAgg33 sizeOf33 (b.eI 14 z)) ?_))))
 obtain ⟨q,h7,d0,d1,b⟩:=b.box [Zi,Zu,Zu,Zs,Zs] 33
 refine wa d0 d1 (bxk b z sizeOf33 (oJ 3 z (oC (oS (ag T)) (oC (oS (ag U)) oN))) fun h8 b=>nt (ww (mf z underlying49 z sizeOf26 (ml z isAgg26 (b.bc2 z) (mf z underlying33 z sizeOf26 (byk (U6 a2.Epoch) b z sizeOf26 (oC z oN) fun h9 b=>nt (ww (mi z (mf z underlying33 z sizeOf26 (byk (U6 a1) b z sizeOf26 (oC z oN) fun i0 b=>nt ?_))))))))))
 obtain ⟨i1,c,V⟩:=bn c
 refine cQ (fun a w=>∃ (d:Int) (H:(List cp)) (J:(List (List bM))) (g:Value) (h:Value),(gG a2 a0 a1) (d,H,J)=some r∧fz 120 [0,1,5,6,7] [p0,U6 a1,Pt o 0,Pt p 0,Pt q 0] a∧Ro aA I g H∧Ro (dG aw) I h J∧St w0 w I [aL p0 a0,cells o [U1 a2.Kind,U6 a2.ID.Session,U6 a2.ID.Seq,U6 a2.Epoch,U6 a2.Index,I6 a2.E,U6 a2.Hold.ID.Session,U6 a2.Hold.ID.Seq,U6 a2.Hold.Epoch,B,C,D,F,G,I6 a2.R.E,U6 a2.R.Epoch,U6 a2.R.Index,j,k,U6 a2.Shards,l,U6 a2.Rule.ID,I6 a2.Rule.From,I6 a2.Rule.To,F6 a2.Rule.Lo,F6 a2.Rule.Hi,U6 a2.Rule.Authority,I6 a2.Rule.Quota,.bool a2.On],cells p [Zb,Zu,Zu,Zi,Zu,Zu,Zs,Zs],cells q [I6 d,U6 a2.Epoch,U6 a1,g,h]] R) ?_ ?_
 {
 refine wp_seq ?_
 obtain ⟨W,i2,i3,i4,i5,i6,i7,i8,⟨rfl,X,Y,Z,b0⟩,d2⟩:=bd b.ap
 have b:=d2
 refine dL b mixed (by kernel_rfl) (qh _ (fun w b=>aO z underlying33 z sizeOf29 z) (qh _ (fun w b=>ao z isAgg29 (b.bc4 z)) (qz (.bool _) z (qz (.bool _) z (bs c ?_ ?_)))))
 {
 intro f c
 refine qg _ f (fun w b=>aO z underlying49 z sizeOf26 z) (qg _ f (fun w b=>ao z isAgg26 (b.bc6 z)) (qgz (Pt _ _) f z (qgz (Pt _ _) f z (qg _ f (fun w b=>aO z underlying130 z sizeOf26 z) (qg _ f (fun w b=>ao z isAgg26 (b.bc0 z)) (qgz (.bool _) f z (qh (.bool _) (fun w b=>aM f z z) (fK ?_))))))))
 intro w b
 refine tn (bw c z ?_ ?_)
 {
 intro d3 c
 refine wrl (mf z underlying49 z sizeOf26 (ml z isAgg26 (b.bc6 z) (mi z (mk (.agg #[I6 9,U6 a2.Epoch,U6 a1,Zs,Zs]) ?_))))
 replace b:=b.aY
 refine bxk b z sizeOf33 (oJ 5 z oN) fun i9 b=>nt ?_
 have d4:Ro aA I (.slice none 0 0) []:=cv
 have d5:Ro (dG aw) I (.slice none 0 0) []:=cv
 cases c
 exact ⟨_,([]),([]),Zs,Zs,V,fy z,d4,d5,(aj (Pt W 0) a0 b.aY.aY.aY.aY ⟨z,X,Y,Z,b0⟩).ab.ay.ap.ap.eF⟩
}
 {
 intro d3 c
 refine wp_skip (tn ?_)
 cases c
 exact ⟨_,_,_,j,k,V,fy z,T,U,(aj (Pt W 0) a0 b.ap.ap.ap.ap ⟨z,X,Y,Z,b0⟩).ab.ay.ap.ap.eF⟩
}
}
 {
 intro f c
 refine qo f (qo f (qo f (qo f (qo f (qo f (qo f (qh (.bool _) (fun w b=>aE f z z) (fK ?_))))))))
 intro w b
 refine tn (bT z (wp_skip (tn ?_)))
 cases c
 exact ⟨_,_,_,j,k,V,fy z,T,U,(aj (Pt W 0) a0 b.ap.ap.ap.ap ⟨z,X,Y,Z,b0⟩).ab.ay.ap.ap.eF⟩
}
}
 {
 rintro _ j0 ⟨d,H,J,g,h,c,⟨j1,rfl⟩,K,L,b⟩
 dsimp only [gG] at c
 obtain ⟨j2,c,b1⟩:=dY c
 refine cQ (fun a w =>(jn a0 a2 d a1 H J) ()=some r∧fz 120 [0,1,5,6,7] [p0,U6 a1,Pt o 0,Pt p 0,Pt q 0] a∧St w0 w I [aL p0 a0,cells o [U1 a2.Kind,U6 a2.ID.Session,U6 a2.ID.Seq,U6 a2.Epoch,U6 a2.Index,I6 a2.E,U6 a2.Hold.ID.Session,U6 a2.Hold.ID.Seq,U6 a2.Hold.Epoch,B,C,D,F,G,I6 a2.R.E,U6 a2.R.Epoch,U6 a2.R.Index,j,k,U6 a2.Shards,l,U6 a2.Rule.ID,I6 a2.Rule.From,I6 a2.Rule.To,F6 a2.Rule.Lo,F6 a2.Rule.Hi,U6 a2.Rule.Authority,I6 a2.Rule.Quota,.bool a2.On],cells p [Zb,Zu,Zu,Zi,Zu,Zu,Zs,Zs],cells q [I6 d,U6 a2.Epoch,U6 a1,g,h]] R) ?_ ?_
 {
 refine ww (mf z underlying33 z sizeOf29 (ml z isAgg29 (b.bc3 z) (mb z (mb z (bs c ?_ ?_)))))
 {
 intro i c
 refine gg i (aO z underlying49 z sizeOf28 z) (gg i (aO z underlying28 z sizeOf26 z) (gg i (ao z isAgg26 (b.bc1 z)) (gb i z (mb (aM i z z) (nt (bw c z ?_ ?_))))))
 {
 intro d6 c
 refine ww (mk (.agg #[Zb,Zu,Zu,Zi,Zu,Zu,Zs,Zs]) ?_)
 replace b:=b.ay
 refine bxk b z sizeOf35 (oJ 8 z oN) fun j3 b=>nt (wp_ret (aI ?_))
 replace c:=bg c b1
 have d7:Ro aA I (.slice none 0 0) []:=cv
 have d8:Ro (dG aw) I (.slice none 0 0) []:=cv
 cases c
 exact aU [.agg #[Zb,Zu,Zu,Zi,Zu,Zu,Zs,Zs]] results73 (bj (bF (cs:=[Zb,Zu,Zu,Zi,Zu,Zu,Zs,Zs]) z isAgg35 sizeOf35 (b.eD 0 z)) ah) ⟨_,Zs,Zs,z,n,d7,d8,b.ab.bo⟩
}
 {
 intro d6 c
 refine wp_skip (tn ?_)
 cases c
 exact ⟨b1,fy z,b.ap.ap.ap.ap.eF⟩
}
}
 {
 intro i c
 refine go i (go i (go i (go i (mb (aE i z z) (nt (bT z (wp_skip (tn ?_))))))))
 cases c
 exact ⟨b1,fy z,b.ap.ap.ap.ap.eF⟩
}
}
 {
 rintro _ j4 ⟨c,⟨j5,rfl⟩,b⟩
 dsimp only [jn] at c
 refine wp_seq ?_
 obtain ⟨m,j6,j7,b8,j8,j9,k0,k1,⟨rfl,s,t,u,x⟩,d9⟩:=bd b
 have b:=d9
 refine rg b 17 [0,1,3,7,0,16,48,0,128,384,0,2047,4095,8191,8191,16383,65535] [] mixed (sp 0 z z (sp 1 z z (sf 2 z z underlying130 z sizeOf126 (sl 3 z z isAgg126 (fun w b=>b.bc0 z) (sf 4 z z underlying49 z sizeOf28 (sf 5 z z underlying28 z sizeOf26 (sl 6 z z isAgg26 (fun w b=>b.bc4 z) (sf 7 z z underlying49 z sizeOf28 (sf 8 z z underlying28 z sizeOf26 (sl 9 z z isAgg26 (fun w b=>b.bc4 z) (sh _ 10 z (fun w b=>av (cs:=[I6 d,U6 a2.Epoch,U6 a1,g,h]) z isAgg33 sizeOf33 (b.CY 0 z)) (e1 11 z z fun w b=>?_))))))))))))
 obtain ⟨b2,e0,c⟩:=bn c
 refine wec call151 [b8,U6 a2.ID.Session,U6 a2.ID.Seq,.agg #[I6 d,U6 a2.Epoch,U6 a1,g,h]] z z ((rL (a3:=({E:=d,Epoch:=a2.Epoch,Index:=a1,Gots:=H,Scans:=J}:bp)) u K L b.to0 e0).mono ?_)
 rintro _ k2 ⟨I821,M,rfl,y,b3,b⟩
 refine ⟨_,z,?_⟩
 replace b:=b.of0
 replace Q:=Q.mono (ro_le y)
 replace K:=K.mono (ro_le y)
 replace L:=L.mono (ro_le y)
 replace s:=s.mono (ro_le y)
 replace t:=t.mono (ro_le y)
 replace u:=u.mono (ro_le y)
 replace x:=x.mono (ro_le y)
 replace n:=n.trans y
 refine w0n b (sz (.tuple #[M,I6 b2.2]) 12 z z (sz (M) 13 z z (si 14 z z (sz (M) 15 z z (si 16 z z (bi ?_))))))
 intro w b
 refine tn (wp_seq (ww (mi z (mb z (nt (bw c z ?_ ?_))))))
 {
 intro e2 c
 refine wp_seq (wp_seq (rg b 13 [0,1,3,7,0,16,48,127,255,0,512,1536,4095] [] mixed (sp 0 z z (sp 1 z z (sf 2 z z underlying130 z sizeOf126 (sl 3 z z isAgg126 (fun w b=>b.bc0 z) (sf 4 z z underlying49 z sizeOf28 (sf 5 z z underlying28 z sizeOf26 (sl 6 z z isAgg26 (fun w b=>b.bc4 z) (sf 9 z z underlying49 z sizeOf28 (sf 10 z z underlying28 z sizeOf26 (sl 11 z z isAgg26 (fun w b=>b.bc4 z) (e1 7 z z fun w b=>?_)))))))))))))
 obtain ⟨b9,e3,c⟩:=bn c
 refine wec call93 [b8,U6 a2.ID.Session] z z ((lI u b.to0 e3).mono ?_)
 rintro _ k3 ⟨I830,k4,k5,rfl,N,e4,e5,b⟩
 refine ⟨_,z,?_⟩
 replace b:=b.of0
 replace s:=s.mono (ro_le N)
 replace t:=t.mono (ro_le N)
 replace u:=u.mono (ro_le N)
 replace x:=x.mono (ro_le N)
 replace n:=n.trans N
 refine wn [11,10,9] b (pkr z z (fun w b=>ao z isAgg26 (b.bc4 z)) (pf z z underlying28 z sizeOf26 (pf z z underlying49 z sizeOf28 bu))) (wsr (.int .u64 b9.Seq) 8 rfl rfl rfl (by kernel_rfl) (fun w b=>by obtain ⟨_,_,hv_,_⟩:=(ag e5); rw [hv_]; obtain ⟨_,_,hv_,_⟩:=(ag e4); rw [hv_]; kernel_rfl) (wsr (.bool (decide (b9.Seq>a2.ID.Seq))) 12 rfl rfl rfl (by kernel_rfl) (fun w b=>rfl) (bi ?_)))
 intro w b
 refine tn (bw c z ?_ ?_)
 {
 intro e6 c
 refine ww (mf z underlying49 z sizeOf28 (mz (av (cs:=[U6 a2.ID.Session,U6 a2.ID.Seq]) z isAgg28 sizeOf28 (b.wq 1 z)) (mk (.agg #[I6 10,Zu,Zu,Zs,Zs]) (mk (.agg #[U1 4,U6 a2.ID.Session,U6 a2.ID.Seq,I6 10,Zu,Zu,Zs,Zs]) ?_))))
 replace b:=b.aW
 refine bxk b z sizeOf35 (oJ 8 z oN) fun k6 b=>nt (wp_ret (aI (aI ?_)))
 have e7:Ro aA I830 (.slice none 0 0) []:=cv
 have e8:Ro (dG aw) I830 (.slice none 0 0) []:=cv
 replace b:=aj (Pt m 0) a0 b.aY.aY.aY.aY ⟨z,s,t,u,x⟩
 cases c
 exact aU [.agg #[U1 4,U6 a2.ID.Session,U6 a2.ID.Seq,I6 10,Zu,Zu,Zs,Zs]] results73 (bj (bF (cs:=[U1 4,U6 a2.ID.Session,U6 a2.ID.Seq,I6 10,Zu,Zu,Zs,Zs]) z isAgg35 sizeOf35 (b.eI 0 z)) ah) ⟨_,Zs,Zs,z,n,e7,e8,b.bo⟩
}
 {
 intro e6 c
 refine wp_skip (tn (ww (mk (.agg #[Zb,Zu,Zu,Zi,Zu,Zu,Zs,Zs]) ?_)))
 replace b:=b.aW
 refine bxk b z sizeOf35 (oJ 8 z oN) fun k7 b=>nt (wp_ret (aI ?_))
 have e9:Ro aA I830 (.slice none 0 0) []:=cv
 have f0:Ro (dG aw) I830 (.slice none 0 0) []:=cv
 replace b:=aj (Pt m 0) a0 b.aY.aY.aY.aY ⟨z,s,t,u,x⟩
 cases c
 exact aU [.agg #[Zb,Zu,Zu,Zi,Zu,Zu,Zs,Zs]] results73 (bj (bF (cs:=[Zb,Zu,Zu,Zi,Zu,Zu,Zs,Zs]) z isAgg35 sizeOf35 (b.eI 0 z)) ah) ⟨_,Zs,Zs,z,n,e9,f0,b.bo⟩
}
}
 {
 intro e2 c
 refine wp_skip (tn (ww (mp z (mv (M) z (mp z (mf z underlying130 z sizeOf126 (b1k M b z (oS (ag b3)) sizeOf126 fun k8 b=>nt ?_)))))))
 obtain ⟨f1,c,c1⟩:=bn c
 refine cQ (fun a w=>∃ (b4:ai),(jm a2 d a1 H J) b4=some r∧fz 120 [5,6,7] [Pt o 0,Pt p 0,Pt q 0] a∧St w0 w I821 [cells o [U1 a2.Kind,U6 a2.ID.Session,U6 a2.ID.Seq,U6 a2.Epoch,U6 a2.Index,I6 a2.E,U6 a2.Hold.ID.Session,U6 a2.Hold.ID.Seq,U6 a2.Hold.Epoch,B,C,D,F,G,I6 a2.R.E,U6 a2.R.Epoch,U6 a2.R.Index,j,k,U6 a2.Shards,l,U6 a2.Rule.ID,I6 a2.Rule.From,I6 a2.Rule.To,F6 a2.Rule.Lo,F6 a2.Rule.Hi,U6 a2.Rule.Authority,I6 a2.Rule.Quota,.bool a2.On],cells p [Zb,Zu,Zu,Zi,Zu,Zu,Zs,Zs],cells q [I6 d,U6 a2.Epoch,U6 a1,g,h],aL (Pt m 0) b4] R) ?_ ?_
 {
 refine ww (mf z underlying49 z sizeOf26 (ml z isAgg26 (b.bc4 z) (mb z (nt (bw c z ?_ ?_)))))
 {
 intro f2 c
 refine ww (mp z (mf z underlying49 z sizeOf28 (mz (av (cs:=[U6 a2.ID.Session,U6 a2.ID.Seq]) z isAgg28 sizeOf28 (b.wq 1 z)) ?_)))
 replace b:=aj (Pt m 0) (({a0 with A:=b2.1}:ai)) b.ap.ap.ap.ap ⟨z,s,t,b3,x⟩
 obtain ⟨S,f3,c⟩:=bn c
 refine wc call74 [Pt m 0,.agg #[U6 a2.ID.Session,U6 a2.ID.Seq]] z z z (kca (nD b.to1 f3) fun k9 b=>?_)
 replace b:=b.of1
 refine nt (ww (mf z underlying49 z sizeOf28 (mz (av (cs:=[U6 a2.ID.Session,U6 a2.ID.Seq]) z isAgg28 sizeOf28 (b.eI 1 z)) (mf z underlying33 z sizeOf29 (ml z isAgg29 (b.bc3 z) (mf z underlying49 z sizeOf26 (ml z isAgg26 (b.bc1 z) (mi z (mf z underlying49 z sizeOf26 (ml z isAgg26 (b.bc1 z) (mk (.agg #[U6 a2.ID.Session,U6 a2.ID.Seq,I6 d,U6 a2.Epoch,U6 a1,U6 a2.Shards,Zs]) ?_)))))))))))
 obtain ⟨c2,l0,f4,f5,b⟩:=b.box [Zu,Zu,Zi,Zu,Zu,Zu,Zs] 89
 refine wa f4 f5 (bxk b z sizeOf89 (oJ 7 z oN) fun l1 b=>nt ?_)
 obtain ⟨l2,c,c3⟩:=bn c
 refine cQ (fun a w=>∃ (O:(List dX)) (P:Value),(jl S a2 d a1) O=some f1∧fz 120 [0,5,6,7,10] [Pt m 0,Pt o 0,Pt p 0,Pt q 0,Pt c2 0] a∧Ro cJ I821 P O∧St w0 w I821 [aL (Pt m 0) S,cells o [U1 a2.Kind,U6 a2.ID.Session,U6 a2.ID.Seq,U6 a2.Epoch,U6 a2.Index,I6 a2.E,U6 a2.Hold.ID.Session,U6 a2.Hold.ID.Seq,U6 a2.Hold.Epoch,B,C,D,F,G,I6 a2.R.E,U6 a2.R.Epoch,U6 a2.R.Index,j,k,U6 a2.Shards,l,U6 a2.Rule.ID,I6 a2.Rule.From,I6 a2.Rule.To,F6 a2.Rule.Lo,F6 a2.Rule.Hi,U6 a2.Rule.Authority,I6 a2.Rule.Quota,.bool a2.On],cells p [Zb,Zu,Zu,Zi,Zu,Zu,Zs,Zs],cells q [I6 d,U6 a2.Epoch,U6 a1,g,h],cells c2 [U6 a2.ID.Session,U6 a2.ID.Seq,I6 d,U6 a2.Epoch,U6 a1,U6 a2.Shards,P]] R) ?_ ?_
 {
 refine ww (mf z underlying33 z sizeOf29 (ml z isAgg29 (b.bc4 z) (mb z (nt (bw c z ?_ ?_)))))
 {
 intro f6 c
 refine wrl (mf z underlying49 z sizeOf47 (ml z isAgg47 (b.bc2 z) (mf z underlying89 z sizeOf47 (b1k l b z (oS (ag Q)) sizeOf47 fun l3 b=>nt ?_))))
 cases c
 exact ⟨_,l,c3,fy z,Q,b.aY.aY.aY.aY.oT⟩
}
 {
 intro f6 c
 refine wp_skip (tn ?_)
 have f7:Ro cJ I821 (.slice none 0 0) []:=cv
 cases c
 exact ⟨([]),Zs,c3,fy z,f7,b.aY.aY.aY.aY.oT⟩
}
}
 {
 rintro _ l4 ⟨O,P,c,⟨l5,rfl⟩,c4,b⟩
 dsimp only [jl] at c
 obtain ⟨l6,l7,l8,l9,m0,m1,m2,m3,⟨b5,f8,f9,g0,g1⟩,g2⟩:=bd b
 replace b5:=dF b5
 subst b5
 have b:=g2
 refine rg b 11 [0,0,2,6,14,0,32,126,255,511,1023] [] mixed (sp 0 z z (sp 1 z z (sp 2 z z (sf 3 z z underlying130 z sizeOf65 (sl 4 z z isAgg65 (fun w b=>b.bc0 z) (sh _ 5 z (fun w b=>av (cs:=[U6 a2.ID.Session,U6 a2.ID.Seq,I6 d,U6 a2.Epoch,U6 a1,U6 a2.Shards,P]) z isAgg89 sizeOf89 (b.FB 0 z)) (e1 6 z z fun w b=>?_)))))))
 obtain ⟨g3,g4,g5,g6,b⟩:=b.er (E:=aH) (xs:=[({a2 with E:=d,Index:=a1,Parts:=O}:bA)]) [[U6 a2.ID.Session,U6 a2.ID.Seq,I6 d,U6 a2.Epoch,U6 a1,U6 a2.Shards,P]] 89 1 z (bz.cons ⟨_,z,c4,oS (ag c4)⟩ bz.nil)
 refine bS (v:=(.slice (some ⟨g3,0,none⟩) 1 1)) (w':=g4) z (di (by kernel_rfl) g5 g6) (wn [4,3,2,1,0] b (pkr z z (fun w b=>ao z isAgg65 (b.bc1 z)) (pf z z underlying130 z sizeOf65 (pz (pz (pz bu))))) (e1 7 z z fun w b=>?_))
 obtain ⟨g7,c⟩:=cw c
 replace b:=b.ay
 obtain ⟨c5,g8,g9,b⟩:=bE sx underlying65 b b.jr (cF g7 z) 65
 refine bS (v:=c5) (w':=g8) z (bU z z g9) (wn [0] b (pz bu) (sp 8 z z (sf 9 z z underlying130 z sizeOf65 (e1 10 z z fun w b=>?_))))
 replace b:=b.ay
 refine b1e c5 b z (oS b.sv1) sizeOf65 fun m4 b=>w0n b (bi ?_)
 intro w b
 refine tn ?_
 cases c
 exact ⟨_,c1,fy z,(aj (Pt m 0) (({S with Open:=(S.Open++([({a2 with E:=d,Index:=a1,Parts:=O}:bA)]))}:ai)) b.aY.aY.ap.ap ⟨z,f8,f9,g0,g1⟩).aY.aY.aY.eF⟩
}
}
 {
 intro f2 c
 refine wp_skip (tn ?_)
 cases c
 exact ⟨_,c1,fy z,(aj (Pt m 0) (({a0 with A:=b2.1}:ai)) b.ap.ap.ap.ap ⟨z,s,t,b3,x⟩).ap.ap.ap.eF⟩
}
}
 {
 rintro _ m5 ⟨b4,c,⟨m6,rfl⟩,b⟩
 dsimp only [jm] at c
 refine ww (mf z underlying49 z sizeOf28 (mz (av (cs:=[U6 a2.ID.Session,U6 a2.ID.Seq]) z isAgg28 sizeOf28 (b.eD 1 z)) (mz (av (cs:=[I6 d,U6 a2.Epoch,U6 a1,g,h]) z isAgg33 sizeOf33 (b.pQ 0 z)) (wv (.agg #[U1 4,U6 a2.ID.Session,U6 a2.ID.Seq,I6 d,U6 a2.Epoch,U6 a1,g,h]) z z (by obtain ⟨_,_,hv_,_⟩:=(ag L); rw [hv_]; obtain ⟨_,_,hv_,_⟩:=(ag K); rw [hv_]; kernel_rfl) ?_))))
 replace b:=b.ab
 refine bxk b z sizeOf35 (oJ 6 z (oC (oS (ag K)) (oC (oS (ag L)) oN))) fun m7 b=>nt (wp_ret ?_)
 cases c
 exact aU [.agg #[U1 4,U6 a2.ID.Session,U6 a2.ID.Seq,I6 d,U6 a2.Epoch,U6 a1,g,h]] results73 (bj (bF (cs:=[U1 4,U6 a2.ID.Session,U6 a2.ID.Seq,I6 d,U6 a2.Epoch,U6 a1,g,h]) z isAgg35 sizeOf35 (b.eD 0 z)) ah) ⟨_,g,h,z,n,K,L,b.ap.bo⟩
}
}
}
}
}
theorem uB {a0:(List cD)} {h:Value} {a1 a2:Int} (s:Rd dQ R I h a0) (d:St w0 w I [] R) {r:((List cD)×Bool)} (b:mh a0 a1 a2=some r) :
  Calls prog 75 #[h,U6 a1,U6 a2] w fun e w'=>∃ (y:Value),e = .returned (.tuple #[y,.bool r.2])∧St w0 w' I [aZ dQ y r.1] R:=by {
 unfold mh at b
 refine c0 func75 z ntmps75 (ww (mv ((.slice none 0 0)) z (mb z (nt (ww (mv ((.slice none 0 0)) z (nt (ww (mb z (nt ?_))))))))))
 obtain ⟨b0,b,A⟩:=bn b
 refine cQ (fun a w=>∃ (g:Int),(kV a0 a1) g=some r∧fz 42 [0,1,2,8,9] [h,U6 a1,U6 g,(.slice none 0 0),.bool false] a∧St w0 w I [] R) ?_ ?_
 {
 refine ww (mi z (mb z (nt (bw b z ?_ ?_))))
 {
 intro D b
 refine wrl (mi z (nt ?_))
 cases b
 exact ⟨_,A,fy z,d.bQ⟩
}
 {
 intro D b
 refine wp_skip (tn ?_)
 cases b
 exact ⟨a2,A,fy z,d.bQ⟩
}
}
 {
 rintro _ b1 ⟨g,b,⟨b2,rfl⟩,d⟩
 dsimp only [kV] at b
 obtain ⟨F,b,G⟩:=bn b
 refine cQ (fun a w=>∃ (t:(List cD)) (p:Bool) (i:Value),(oL) (t,p)=some r∧fz 42 [8,9] [i,.bool p] a∧St w0 w I [aZ dQ i t] R) ?_ ?_
 {
 refine ww (mi z (nt (wp_block ?_)))
 replace d:=d.aX dQ
 obtain ⟨H,b⟩:=aS b
 refine bf (fun n a w=>∃ (o:Int) (j:(List cD)) (m:Bool) (k:Value),cP (iu a0 a1 g) n (o,j,m)=some F∧fz 42 [0,1,2,8,9,10] [h,U6 a1,U6 g,k,.bool m,I6 o] a∧St w0 w I [aZ dQ k j] R) H ⟨0,[],false,Zs,b,fy z,d⟩ ?_
 rintro b3 _ b4 ⟨o,j,m,k,b,⟨b5,rfl⟩,d⟩
 obtain ⟨b6,J,rfl,b,B⟩:=aV b
 dsimp only [iu] at b
 refine wp_seq (ww (mi z (mv (h) z (mz (bW z underlying127 (au s)) (mb z (nt (bw b z ?_ ?_)))))))
 {
 intro K b
 refine wp_skip (tn (wp_seq (wp_block (ww (mv (h) z (mi z ?_))))))
 obtain ⟨c,L,b⟩:=bn b
 obtain ⟨M,N,O⟩:=aK L
 refine mz (az z z underlying127 sizeOf144 (au s) M N) (mz (av (cs:=[U6 c.R.ID,I6 c.R.From,I6 c.R.To,F6 c.R.Lo,F6 c.R.Hi,U6 c.R.Authority,I6 c.R.Quota,U6 c.From,U6 c.To]) z isAgg144 sizeOf144 (pH s lr d O 0 (by rintro _ rfl; rfl))) ?_)
 obtain ⟨C,b7,P,Q,d⟩:=d.box [Zu,Zi,Zi,Zf,Zf,Zu,Zi,Zu,Zu] 144
 refine wa P Q (bxk d z sizeOf144 (oJ 9 z oN) fun b8 d=>nt ?_)
 obtain ⟨b9,b,u⟩:=bn b
 refine cQ (fun a w=>∃ (q:Bool) (l:Int),(ju j c o) (q,l)=some J∧fz 42 [0,1,2,8,9,10,11] [h,U6 a1,U6 g,k,.bool q,I6 o,Pt C 0] a∧St w0 w I [aZ dQ k j,cells C [U6 c.R.ID,I6 c.R.From,I6 c.R.To,F6 c.R.Lo,F6 c.R.Hi,U6 c.R.Authority,I6 c.R.Quota,U6 c.From,U6 l]] R) ?_ ?_
 {
 refine ww (mf z underlying144 z sizeOf39 (mf z underlying39 z sizeOf26 (ml z isAgg26 (d.bc0 z) (mi z (mb z (mb z (bs b ?_ ?_)))))))
 {
 intro f b
 refine gg f (aO z underlying144 z sizeOf26 z) (gg f (ao z isAgg26 (d.bc0 z)) (gb f z (mb (aM f z z) (nt (bw b z ?_ ?_)))))
 {
 intro S b
 refine ww (mi z (mf z underlying144 z sizeOf26 (byk (U6 g) d z sizeOf26 (oC z oN) fun c1 d=>nt (wrl (mb z (nt ?_))))))
 cases b
 exact ⟨true,g,u,fy z,d.ab.cd⟩
}
 {
 intro S b
 refine wp_skip (tn ?_)
 cases b
 exact ⟨m,_,u,fy z,d.ab.cd⟩
}
}
 {
 intro f b
 refine go f (go f (go f (mb (aE f z z) (nt (bT z (wp_skip (tn ?_)))))))
 cases b
 exact ⟨m,_,u,fy z,d.ab.cd⟩
}
}
 {
 rintro _ c2 ⟨q,l,b,⟨c3,rfl⟩,d⟩
 dsimp only [ju] at b
 refine wrl (mv (k) z (mz (av (cs:=[U6 c.R.ID,I6 c.R.From,I6 c.R.To,F6 c.R.Lo,F6 c.R.Hi,U6 c.R.Authority,I6 c.R.Quota,U6 c.From,U6 l]) z isAgg144 sizeOf144 (d.eI 0 z)) ?_))
 obtain ⟨T,U,V,W,d⟩:=d.er (E:=dQ) (xs:=[({c with To:=l}:cD)]) [[U6 c.R.ID,I6 c.R.From,I6 c.R.To,F6 c.R.Lo,F6 c.R.Hi,U6 c.R.Authority,I6 c.R.Quota,U6 c.From,U6 l]] 144 1 z (bz.cons z bz.nil)
 refine bY (v:=(.slice (some ⟨T,0,none⟩) 1 1)) (w':=U) z z (di (by kernel_rfl) V W) ?_
 obtain ⟨X,b⟩:=cw b
 replace d:=d.ab
 obtain ⟨x,Y,Z,d⟩:=bE za underlying127 d d.jr (cF X z) 127
 refine bY (v:=x) (w':=Y) z z (bU z z Z) (mv (x) z (dk (bB (tn (wrl (mi z (mi z (mi z (nt ?_)))))))))
 cases b
 exact ⟨_,nls,_,(j++([({c with To:=l}:cD)])),q,x,B,fy z,d.bo⟩
}
}
 {
 intro K b
 refine wp_exit (aQ (aQ ?_))
 replace b:=bg b B
 refine cZ (tn ?_)
 cases b
 exact ⟨j,m,k,G,fy z,d.bo⟩
}
}
 {
 rintro _ c4 ⟨t,p,i,b,⟨c5,rfl⟩,d⟩
 dsimp only [oL] at b
 refine ww (mv (i) z (mb z (mv (i) z (mb z (nt (wp_ret ?_))))))
 cases b
 exact aU [i,.bool p] results75 (rc z (rc z ah)) ⟨i,z,d.bo⟩
}
}
}
theorem wA {a0:bN} {i:Value} {a1:Int} (o:Rd (cg .u8) R I i a0.Val) (c:St w0 w I [] R) {r:(bN)} (b:qq a0 a1=some r) :
  Calls prog 16 #[.agg #[F6 a0.At,.bool a0.Del,i],I6 a1] w fun e w'=>∃ (t:Value),e = .returned (.agg #[F6 r.At,.bool r.Del,t])∧St w0 w' I [aZ (cg .u8) t r.Val] R:=by {
 unfold qq at b
 refine c0 func16 z ntmps16 (ww ?_)
 obtain ⟨j,X,y,A,c⟩:=c.box [F6 a0.At,.bool a0.Del,i] 41
 refine wa y A ?_
 obtain ⟨k,Y,B,C,c⟩:=c.box [Zf,.bool false,Zs] 41
 refine wa B C (nt (ww (mv ((.slice none 0 0)) z (nt ?_))))
 obtain ⟨D,b,u⟩:=bn b
 refine cQ (fun a w=>∃ (p:(List Int)) (d:Value),(nM a0) p=some r∧fz 35 [2,4,5] [Pt j 0,Pt k 0,d] a∧St w0 w I [cells j [F6 a0.At,.bool a0.Del,i],cells k [Zf,.bool false,Zs],aZ (cg .u8) d p] R) ?_ ?_
 {
 refine ww (mi z (nt (wp_block ?_)))
 replace c:=c.aX (cg .u8)
 obtain ⟨F,b⟩:=aS b
 refine bf (fun n a w=>∃ (g:(List Int)) (m:Int) (h:Value),cP (jC a1 a0) n (g,m)=some D∧fz 35 [1,2,4,5,6] [I6 a1,Pt j 0,Pt k 0,h,I6 m] a∧St w0 w I [aZ (cg .u8) h g,cells k [Zf,.bool false,Zs],cells j [F6 a0.At,.bool a0.Del,i]] R) F ⟨[],0,Zs,b,fy z,c⟩ ?_
 rintro Z _ b0 ⟨g,m,h,b,⟨b1,rfl⟩,c⟩
 obtain ⟨b2,G,rfl,b,q⟩:=aV b
 dsimp only [jC] at b
 refine wp_seq (ww (mi z (mi z (mb z (mb z (bs b ?_ ?_))))))
 {
 intro f b
 refine gg f (aO z underlying41 z sizeOf4 z) (gg f (ao z isAgg4 (c.bc2 z)) (gb f z (mb (aM f z z) (nt (bw b z ?_ ?_)))))
 {
 intro H b
 refine wp_skip (tn (wp_seq (wp_block (ww (mi z (nt ?_))))))
 obtain ⟨b3,b,x⟩:=bn b
 refine cQ (fun a w=>∃ (l:Int),(oZ g m) l=some G∧fz 35 [1,2,4,5,6,7] [I6 a1,Pt j 0,Pt k 0,h,I6 m,U1 l] a∧St w0 w I [cells j [F6 a0.At,.bool a0.Del,i],cells k [Zf,.bool false,Zs],aZ (cg .u8) h g] R) ?_ ?_
 {
 refine ww (mi z (mf z underlying41 z sizeOf22 (ml z isAgg22 (c.bc2 z) (mz (bW z underlying22 (au o)) (mb z (nt (bw b z ?_ ?_)))))))
 {
 intro J b
 refine wrl (mf z underlying41 z sizeOf22 (ml z isAgg22 (c.bc2 z) (mi z ?_)))
 obtain ⟨K,L,b⟩:=bn b
 obtain ⟨M,N,O⟩:=aK L
 refine mz (az z z underlying22 sizeOf5 (au o) M N) (ml z isAgg5 (dR o lr c O (by rintro _ rfl; rfl)) (mi z (nt ?_)))
 obtain rfl:=sj b
 exact ⟨K,x,fy z,c.ab.ay.dC⟩
}
 {
 intro J b
 refine wp_skip (tn ?_)
 cases b
 exact ⟨_,x,fy z,c.ab.ay.dC⟩
}
}
 {
 rintro _ b4 ⟨l,b,⟨b5,rfl⟩,c⟩
 dsimp only [oZ] at b
 refine wrl (mv (h) z (mi z ?_))
 obtain ⟨P,Q,S,T,c⟩:=c.er (E:=(cg .u8)) (xs:=[l]) [[U1 l]] 5 1 z (bz.cons z bz.nil)
 refine bY (v:=(.slice (some ⟨P,0,none⟩) 1 1)) (w':=Q) z z (di (by kernel_rfl) S T) ?_
 obtain ⟨U,b⟩:=cw b
 replace c:=c.ap
 obtain ⟨s,V,W,c⟩:=bE uZ underlying22 c c.jr (cF U z) 22
 refine bY (v:=s) (w':=V) z z (bU z z W) (mv (s) z (dk (bB (tn (wrl (mi z (mi z (mi z (nt ?_)))))))))
 cases b
 exact ⟨_,nls,(g++([l])),_,s,q,fy z,c.ay.ap.ay.dC⟩
}
}
 {
 intro H b
 refine wp_exit (aQ (aQ ?_))
 replace b:=bg b q
 refine cZ (tn ?_)
 obtain rfl:=sj b
 exact ⟨g,h,u,fy z,c.ab.ay.dC⟩
}
}
 {
 intro f b
 refine go f (go f (go f (mb (aE f z z) (nt (bT z (wp_exit (aQ (aQ ?_))))))))
 replace b:=bg b q
 refine cZ (tn ?_)
 obtain rfl:=sj b
 exact ⟨g,h,u,fy z,c.ab.ay.dC⟩
}
}
 {
 rintro _ b6 ⟨p,d,b,⟨b7,rfl⟩,c⟩
 dsimp only [nM] at b
 refine ww (mv (d) z (mf z underlying41 z sizeOf22 (b1k d c z (oS c.sv2) sizeOf22 fun b8 c=>nt (ww (mz (av (cs:=[F6 a0.At,.bool a0.Del,d]) z isAgg41 sizeOf41 (c.eD 0 z)) ?_)))))
 replace c:=c.ab
 refine bxk c z sizeOf41 (oJ 2 z (oC (oS c.sv2) oN)) fun b9 c=>nt (wp_ret ?_)
 cases b
 exact aU [.agg #[F6 a0.At,.bool a0.Del,d]] results16 (bj (bF (cs:=[F6 a0.At,.bool a0.Del,d]) z isAgg41 sizeOf41 (c.eD 0 z)) ah) ⟨d,z,c.ay.bo⟩
}
}
theorem rI {a0:ai} {p0:Value} {a1:Int} {a2:aC} {q s t u x y B C:Value} (o4:Rd bV R I q a2.Hold.Gets) (o5:Rd gn R I s a2.Hold.Scans) (o6:Rd bV R I t a2.Hold.Puts) (o7:Rd (cg .u8) R I u a2.Hold.Data) (Z:Rd cG R I x a2.Writes) (o8:Rd aA R I y a2.R.Gots) (o9:Rd (dG aw) R I B a2.R.Scans) (q0:Rd cJ R I C a2.Parts) (b:St w0 w I [aL p0 a0] R) {r:(bh×ai)} (c:iS a0 a1 a2=some r) :
  Calls prog 76 #[p0,U6 a1,.agg #[U1 a2.Kind,U6 a2.ID.Session,U6 a2.ID.Seq,U6 a2.Epoch,U6 a2.Index,I6 a2.E,U6 a2.Hold.ID.Session,U6 a2.Hold.ID.Seq,U6 a2.Hold.Epoch,q,s,t,u,x,I6 a2.R.E,U6 a2.R.Epoch,U6 a2.R.Index,y,B,U6 a2.Shards,C,U6 a2.Rule.ID,I6 a2.Rule.From,I6 a2.Rule.To,F6 a2.Rule.Lo,F6 a2.Rule.Hi,U6 a2.Rule.Authority,I6 a2.Rule.Quota,.bool a2.On]] w fun e w'=>∃ (I':HL) (f3:Value) (f4:Value),e = .returned (.agg #[U1 r.1.Kind,U6 r.1.ID.Session,U6 r.1.ID.Seq,I6 r.1.R.E,U6 r.1.R.Epoch,U6 r.1.R.Index,f3,f4])∧I.le I'∧Ro aA I' f3 r.1.R.Gots∧Ro (dG aw) I' f4 r.1.R.Scans∧St w0 w' I' [aL p0 r.2] R:=by {
 unfold iS at c
 refine c0 func76 z ntmps76 ?_
 have L:=HL.le.refl I
 refine ww ?_
 obtain ⟨h,q1,h3,h4,b⟩:=b.box [U1 a2.Kind,U6 a2.ID.Session,U6 a2.ID.Seq,U6 a2.Epoch,U6 a2.Index,I6 a2.E,U6 a2.Hold.ID.Session,U6 a2.Hold.ID.Seq,U6 a2.Hold.Epoch,q,s,t,u,x,I6 a2.R.E,U6 a2.R.Epoch,U6 a2.R.Index,y,B,U6 a2.Shards,C,U6 a2.Rule.ID,I6 a2.Rule.From,I6 a2.Rule.To,F6 a2.Rule.Lo,F6 a2.Rule.Hi,U6 a2.Rule.Authority,I6 a2.Rule.Quota,.bool a2.On] 49
 refine wa h3 h4 ?_
 obtain ⟨i,q2,h5,h6,b⟩:=b.box [Zb,Zu,Zu,Zi,Zu,Zu,Zs,Zs] 35
 refine wa h5 h6 (nt (ww (mf z underlying49 z sizeOf33 (mf z underlying33 z sizeOf29 (ml z isAgg29 (b.bc1 z) (mf z underlying49 z sizeOf26 (ml z isAgg26 (b.bc1 z) (mi z (mk (.agg #[I6 a2.R.E,U6 a2.Epoch,U6 a1,Zs,Zs]) ?_)))))))))
 obtain ⟨j,q3,h7,h8,b⟩:=b.box [Zi,Zu,Zu,Zs,Zs] 33
 refine wa h7 h8 (bxk b z sizeOf33 (oJ 5 z oN) fun q4 b=>nt (ww (mf z underlying49 z sizeOf39 (mf z underlying39 z sizeOf26 (ml z isAgg26 (b.bc2 z) (mf z underlying49 z sizeOf26 (ml z isAgg26 (b.bc2 z) (mk (.agg #[U6 a2.Rule.ID,U6 a2.Epoch,Zi]) ?_))))))))
 obtain ⟨m,q5,h9,i0,b⟩:=b.box [Zu,Zu,Zi] 249
 refine wa h9 i0 (bxk b z sizeOf249 (oJ 3 z oN) fun q6 b=>nt (ww (mv ((.slice none 0 0)) z (nt ?_))))
 obtain ⟨i1,c,i2⟩:=bn c
 refine cQ (fun a w=>∃ (d:Int) (p:(List dy)) (F:Value),(jW a2 a0 a1) (d,p)=some r∧fz 204 [0,5,6,7,8,9] [p0,Pt h 0,Pt i 0,Pt j 0,Pt m 0,F] a∧St w0 w I [aL p0 a0,cells h [U1 a2.Kind,U6 a2.ID.Session,U6 a2.ID.Seq,U6 a2.Epoch,U6 a2.Index,I6 a2.E,U6 a2.Hold.ID.Session,U6 a2.Hold.ID.Seq,U6 a2.Hold.Epoch,q,s,t,u,x,I6 a2.R.E,U6 a2.R.Epoch,U6 a2.R.Index,y,B,U6 a2.Shards,C,U6 a2.Rule.ID,I6 a2.Rule.From,I6 a2.Rule.To,F6 a2.Rule.Lo,F6 a2.Rule.Hi,U6 a2.Rule.Authority,I6 a2.Rule.Quota,.bool a2.On],cells i [Zb,Zu,Zu,Zi,Zu,Zu,Zs,Zs],cells j [I6 a2.R.E,U6 a2.Epoch,U6 a1,Zs,Zs],cells m [U6 a2.Rule.ID,U6 a2.Epoch,I6 d],aZ dw F p] R) ?_ ?_
 {
 refine ww (mi z (nt (wp_block ?_)))
 replace b:=b.aX dw
 obtain ⟨i3,c⟩:=aS c
 refine bf (fun n a w=>∃ (b0:Int) (d3:Int) (T:(List dy)) (U:Value),cP (fg a0 a2) n (b0,d3,T)=some i1∧fz 204 [0,5,6,7,8,9,10] [p0,Pt h 0,Pt i 0,Pt j 0,Pt m 0,U,I6 d3] a∧St w0 w I [aZ dw U T,cells m [U6 a2.Rule.ID,U6 a2.Epoch,I6 b0],cells j [I6 a2.R.E,U6 a2.Epoch,U6 a1,Zs,Zs],cells i [Zb,Zu,Zu,Zi,Zu,Zu,Zs,Zs],cells h [U1 a2.Kind,U6 a2.ID.Session,U6 a2.ID.Seq,U6 a2.Epoch,U6 a2.Index,I6 a2.E,U6 a2.Hold.ID.Session,U6 a2.Hold.ID.Seq,U6 a2.Hold.Epoch,q,s,t,u,x,I6 a2.R.E,U6 a2.R.Epoch,U6 a2.R.Index,y,B,U6 a2.Shards,C,U6 a2.Rule.ID,I6 a2.Rule.From,I6 a2.Rule.To,F6 a2.Rule.Lo,F6 a2.Rule.Hi,U6 a2.Rule.Authority,I6 a2.Rule.Quota,.bool a2.On],aL p0 a0] R) i3 ⟨0,0,[],Zs,c,fy z,b⟩ ?_
 rintro q7 _ q8 ⟨b0,d3,T,U,c,⟨q9,rfl⟩,b⟩
 obtain ⟨s0,s1,rfl,c,c1⟩:=aV c
 dsimp only [fg] at c
 refine wp_seq (ww (mi z (mv (p0) z ?_)))
 obtain ⟨c2,s2,s3,s4,s5,s6,s7,s8,⟨rfl,c3,c4,c5,c6⟩,i4⟩:=bd b.aW
 have b:=i4
 refine mp z (mf z underlying130 z sizeOf128 (ml z isAgg128 (b.bc0 z) (mz (bW z underlying128 b.sv3) (mb z (nt (bw c z ?_ ?_))))))
 {
 intro i5 c
 refine wp_skip (tn (wp_seq (wp_block (wp_seq (dL b mixed (by kernel_rfl) (qz (Pt _ _) z (qz (Pt _ _) z (qh _ (fun w b=>aO z underlying130 z sizeOf128 z) (qh _ (fun w b=>ao z isAgg128 (b.bc0 z)) (qz (I6 _) z ?_))))))))))
 obtain ⟨M,i6,c⟩:=bn c
 obtain ⟨c7,c8,c9⟩:=aK i6
 refine qh _ (fun w b=>az z z underlying128 sizeOf249 b.sv3 c7 c8) (qh _ (fun w b=>aR z underlying249 z sizeOf26 z) (qh _ (fun w b=>ao z isAgg26 (b.ol3 c9 (by rintro _ rfl; rfl))) (qh _ (fun w b=>aO z underlying49 z sizeOf39 z) (qh _ (fun w b=>aO z underlying39 z sizeOf26 z) (qh _ (fun w b=>ao z isAgg26 (b.bc8 z)) (qz (.bool _) z (fK ?_)))))))
 intro w b
 refine tn (bw c z ?_ ?_)
 {
 intro i7 c
 refine wrl (mv (U) z (mp z (mp z (mf z underlying130 z sizeOf128 (ml z isAgg128 (b.bc0 z) (mi z (mz (az z z underlying128 sizeOf249 b.sv3 c7 c8) (mz (av (cs:=[U6 M.Rule,U6 M.Epoch,I6 M.N]) z isAgg249 sizeOf249 (b.FQ c9 0 (by rintro _ rfl; rfl))) ?_))))))))
 obtain ⟨i8,i9,j0,j1,b⟩:=b.er (E:=dw) (xs:=[M]) [[U6 M.Rule,U6 M.Epoch,I6 M.N]] 249 1 z (bz.cons z bz.nil)
 refine bY (v:=(.slice (some ⟨i8,0,none⟩) 1 1)) (w':=i9) z z (di (by kernel_rfl) j0 j1) ?_
 obtain ⟨j2,c⟩:=cw c
 replace b:=b.aW
 obtain ⟨d4,j3,j4,b⟩:=bE yE underlying128 b b.jr (cF j2 z) 128
 refine bY (v:=d4) (w':=j3) z z (bU z z j4) (mv (d4) z (dk (bB (tn (wrl (mi z (mi z (mi z (nt ?_)))))))))
 cases c
 exact ⟨_,nls,b0,_,(T++([M])),d4,c1,fy z,(aj (Pt c2 0) a0 b.aW.aW.aW.aW ⟨z,c3,c4,c5,c6⟩).cV.cV.cV.cV.aW.km⟩
}
 {
 intro i7 c
 refine wp_seq (dL b mixed (by kernel_rfl) (qz (Pt _ _) z (qz (Pt _ _) z (qh _ (fun w b=>aO z underlying130 z sizeOf128 z) (qh _ (fun w b=>ao z isAgg128 (b.bc0 z)) (qz (I6 _) z (qh _ (fun w b=>az z z underlying128 sizeOf249 b.sv3 c7 c8) (qh _ (fun w b=>aR z underlying249 z sizeOf26 z) (qh _ (fun w b=>ao z isAgg26 (b.ol3 c9 (by rintro _ rfl; rfl))) (qh _ (fun w b=>aO z underlying49 z sizeOf26 z) (qh _ (fun w b=>ao z isAgg26 (b.bc8 z)) (qz (.bool _) z (fK ?_)))))))))))))
 intro w b
 refine tn (bw c z ?_ ?_)
 {
 intro j5 c
 refine wrl (mp z (mp z (mf z underlying130 z sizeOf128 (ml z isAgg128 (b.bc0 z) (mi z (mz (az z z underlying128 sizeOf249 b.sv3 c7 c8) (mz (aR z underlying249 z sizeOf3 z) (ml z isAgg3 (b.ol3 c9 (by rintro _ rfl; rfl)) (mf z underlying249 z sizeOf3 ?_)))))))))
 replace b:=b.aW
 refine byk (I6 M.N) b z sizeOf3 (oC z oN) fun s9 b=>dk (bB (tn (wrl (mi z (mi z (mi z (nt ?_)))))))
 cases c
 exact ⟨_,nls,_,_,T,U,c1,fy z,(aj (Pt c2 0) a0 b.aY.aY.aY.aY ⟨z,c3,c4,c5,c6⟩).aW.aW.aW.aY.aW.km⟩
}
 {
 intro j5 c
 refine wp_skip (bB (tn (wrl (mi z (mi z (mi z (nt ?_)))))))
 cases c
 exact ⟨_,nls,b0,_,T,U,c1,fy z,(aj (Pt c2 0) a0 b.ap.ap.ap.ap ⟨z,c3,c4,c5,c6⟩).aW.aW.aW.aW.aW.km⟩
}
}
}
 {
 intro i5 c
 refine wp_exit (aQ (aQ ?_))
 replace c:=bg c c1
 refine cZ (tn ?_)
 cases c
 exact ⟨b0,T,U,i2,fy z,(aj (Pt c2 0) a0 b.ap.ap.ap.ap ⟨z,c3,c4,c5,c6⟩).ab.ay.ap.aY.aW.aW.km⟩
}
}
 {
 rintro _ t0 ⟨d,p,F,c,⟨t1,rfl⟩,b⟩
 dsimp only [jW] at c
 obtain ⟨t2,c,d5⟩:=bn c
 refine cQ (fun a w=>∃ (b5:Int),(iE a2 d a0 a1 p) b5=some r∧fz 204 [0,5,6,7,8,9] [p0,Pt h 0,Pt i 0,Pt j 0,Pt m 0,F] a∧St w0 w I [aL p0 a0,cells h [U1 a2.Kind,U6 a2.ID.Session,U6 a2.ID.Seq,U6 a2.Epoch,U6 a2.Index,I6 a2.E,U6 a2.Hold.ID.Session,U6 a2.Hold.ID.Seq,U6 a2.Hold.Epoch,q,s,t,u,x,I6 a2.R.E,U6 a2.R.Epoch,U6 a2.R.Index,y,B,U6 a2.Shards,C,U6 a2.Rule.ID,I6 a2.Rule.From,I6 a2.Rule.To,F6 a2.Rule.Lo,F6 a2.Rule.Hi,U6 a2.Rule.Authority,I6 a2.Rule.Quota,.bool a2.On],cells i [Zb,Zu,Zu,Zi,Zu,Zu,Zs,Zs],cells j [I6 b5,U6 a2.Epoch,U6 a1,Zs,Zs],cells m [U6 a2.Rule.ID,U6 a2.Epoch,I6 d],aZ dw F p] R) ?_ ?_
 {
 refine wp_seq ?_
 obtain ⟨d6,t3,t4,t5,t6,t7,t8,t9,⟨rfl,d7,d8,d9,e0⟩,j6⟩:=bd b
 have b:=j6
 refine dL b mixed (by kernel_rfl) (qh _ (fun w b=>aO z underlying33 z sizeOf29 z) (qh _ (fun w b=>ao z isAgg29 (b.bc6 z)) (qz (.bool _) z (qz (.bool _) z (bs c ?_ ?_)))))
 {
 intro f c
 refine qg _ f (fun w b=>aO z underlying49 z sizeOf26 z) (qg _ f (fun w b=>ao z isAgg26 (b.bc4 z)) (qgz (Pt _ _) f z (qgz (Pt _ _) f z (qg _ f (fun w b=>aO z underlying130 z sizeOf26 z) (qg _ f (fun w b=>ao z isAgg26 (b.bc0 z)) (qgz (.bool _) f z (qh (.bool _) (fun w b=>aM f z z) (fK ?_))))))))
 intro w b
 refine tn (bw c z ?_ ?_)
 {
 intro j7 c
 refine wrl (mf z underlying33 z sizeOf29 ?_)
 replace b:=b.cV
 refine byk (I6 9) b z sizeOf29 (oC z oN) fun u0 b=>nt ?_
 cases c
 exact ⟨_,d5,fy z,(aj (Pt d6 0) a0 b.aY.aY.aY.aY ⟨z,d7,d8,d9,e0⟩).aW.aW.ap.aW.aW.aW.km⟩
}
 {
 intro j7 c
 refine wp_skip (tn ?_)
 cases c
 exact ⟨_,d5,fy z,(aj (Pt d6 0) a0 b.ap.ap.ap.ap ⟨z,d7,d8,d9,e0⟩).aW.aW.aW.aW.aW.aW.km⟩
}
}
 {
 intro f c
 refine qo f (qo f (qo f (qo f (qo f (qo f (qo f (qh (.bool _) (fun w b=>aE f z z) (fK ?_))))))))
 intro w b
 refine tn (bT z (wp_skip (tn ?_)))
 cases c
 exact ⟨_,d5,fy z,(aj (Pt d6 0) a0 b.ap.ap.ap.ap ⟨z,d7,d8,d9,e0⟩).aW.aW.aW.aW.aW.aW.km⟩
}
}
 {
 rintro _ u1 ⟨b5,c,⟨u2,rfl⟩,b⟩
 dsimp only [iE] at c
 obtain ⟨u3,c,e2⟩:=bn c
 refine cQ (fun a w=>∃ (b6:Int),(iH d a2 a0 a1 p) b6=some r∧fz 204 [0,5,6,7,8,9] [p0,Pt h 0,Pt i 0,Pt j 0,Pt m 0,F] a∧St w0 w I [aL p0 a0,cells h [U1 a2.Kind,U6 a2.ID.Session,U6 a2.ID.Seq,U6 a2.Epoch,U6 a2.Index,I6 a2.E,U6 a2.Hold.ID.Session,U6 a2.Hold.ID.Seq,U6 a2.Hold.Epoch,q,s,t,u,x,I6 a2.R.E,U6 a2.R.Epoch,U6 a2.R.Index,y,B,U6 a2.Shards,C,U6 a2.Rule.ID,I6 a2.Rule.From,I6 a2.Rule.To,F6 a2.Rule.Lo,F6 a2.Rule.Hi,U6 a2.Rule.Authority,I6 a2.Rule.Quota,.bool a2.On],cells i [Zb,Zu,Zu,Zi,Zu,Zu,Zs,Zs],cells j [I6 b6,U6 a2.Epoch,U6 a1,Zs,Zs],cells m [U6 a2.Rule.ID,U6 a2.Epoch,I6 d],aZ dw F p] R) ?_ ?_
 {
 refine ww (mf z underlying33 z sizeOf29 (ml z isAgg29 (b.bc3 z) (mb z (mb z (bs c ?_ ?_)))))
 {
 intro D c
 refine gg D (aO z underlying49 z sizeOf42 z) (gg D (ao z isAgg42 (b.bc1 z)) (gg D (bW z underlying42 (au Z)) (gb D z (mb (aM D z z) (nt (bw c z ?_ ?_))))))
 {
 intro j8 c
 refine wrl (mf z underlying33 z sizeOf29 ?_)
 replace b:=b.ap
 refine byk (I6 1) b z sizeOf29 (oC z oN) fun u4 b=>nt ?_
 cases c
 exact ⟨_,e2,fy z,b.aW.aW.ay.aW.aW.aW.km⟩
}
 {
 intro j8 c
 refine wp_skip (tn ?_)
 cases c
 exact ⟨b5,e2,fy z,b.aW.aW.aW.aW.aW.aW.km⟩
}
}
 {
 intro D c
 refine go D (go D (go D (go D (mb (aE D z z) (nt (bT z (wp_skip (tn ?_))))))))
 cases c
 exact ⟨b5,e2,fy z,b.aW.aW.aW.aW.aW.aW.km⟩
}
}
 {
 rintro _ u5 ⟨b6,c,⟨u6,rfl⟩,b⟩
 dsimp only [iH] at c
 obtain ⟨u7,c,e3⟩:=bn c
 refine cQ (fun a w=>∃ (k:Int),(dI a0 a2 a1 p d) k=some r∧fz 204 [0,5,6,7,8,9] [p0,Pt h 0,Pt i 0,Pt j 0,Pt m 0,F] a∧St w0 w I [aL p0 a0,cells h [U1 a2.Kind,U6 a2.ID.Session,U6 a2.ID.Seq,U6 a2.Epoch,U6 a2.Index,I6 a2.E,U6 a2.Hold.ID.Session,U6 a2.Hold.ID.Seq,U6 a2.Hold.Epoch,q,s,t,u,x,I6 a2.R.E,U6 a2.R.Epoch,U6 a2.R.Index,y,B,U6 a2.Shards,C,U6 a2.Rule.ID,I6 a2.Rule.From,I6 a2.Rule.To,F6 a2.Rule.Lo,F6 a2.Rule.Hi,U6 a2.Rule.Authority,I6 a2.Rule.Quota,.bool a2.On],cells i [Zb,Zu,Zu,Zi,Zu,Zu,Zs,Zs],cells j [I6 k,U6 a2.Epoch,U6 a1,Zs,Zs],cells m [U6 a2.Rule.ID,U6 a2.Epoch,I6 d],aZ dw F p] R) ?_ ?_
 {
 refine ww (mf z underlying33 z sizeOf29 (ml z isAgg29 (b.bc3 z) (mb z (mb z (bs c ?_ ?_)))))
 {
 intro g c
 refine gg g (aO z underlying249 z sizeOf3 z) (gg g (ao z isAgg3 (b.bc4 z)) (gg g (aO z underlying49 z sizeOf39 z) (gg g (aO z underlying39 z sizeOf3 z) (gg g (ao z isAgg3 (b.bc1 z)) (gb g z (mb (aM g z z) (nt (bw c z ?_ ?_))))))))
 {
 intro j9 c
 refine wrl (mf z underlying33 z sizeOf29 ?_)
 replace b:=b.ap
 refine byk (I6 13) b z sizeOf29 (oC z oN) fun u9 b=>nt ?_
 cases c
 exact ⟨_,e3,fy z,b.aW.aW.ay.aW.aW.aW.km⟩
}
 {
 intro j9 c
 refine wp_skip (tn ?_)
 cases c
 exact ⟨b6,e3,fy z,b.aW.aW.aW.aW.aW.aW.km⟩
}
}
 {
 intro g c
 refine go g (go g (go g (go g (go g (go g (mb (aE g z z) (nt (bT z (wp_skip (tn ?_))))))))))
 cases c
 exact ⟨b6,e3,fy z,b.aW.aW.aW.aW.aW.aW.km⟩
}
}
 {
 rintro _ v0 ⟨k,c,⟨v1,rfl⟩,b⟩
 dsimp only [dI] at c
 refine wp_seq ?_
 obtain ⟨G,f5,f6,f7,f8,d0,d1,v2,⟨rfl,H,J,P,K⟩,k0⟩:=bd b
 have b:=k0
 refine rg b 17 [0,1,3,7,0,16,48,0,128,384,0,2047,4095,8191,8191,16383,65535] [] mixed (sp 0 z z (sp 1 z z (sf 2 z z underlying130 z sizeOf126 (sl 3 z z isAgg126 (fun w b=>b.bc0 z) (sf 4 z z underlying49 z sizeOf28 (sf 5 z z underlying28 z sizeOf26 (sl 6 z z isAgg26 (fun w b=>b.bc4 z) (sf 7 z z underlying49 z sizeOf28 (sf 8 z z underlying28 z sizeOf26 (sl 9 z z isAgg26 (fun w b=>b.bc4 z) (sh _ 10 z (fun w b=>av (cs:=[I6 k,U6 a2.Epoch,U6 a1,Zs,Zs]) z isAgg33 sizeOf33 (b.CY 0 z)) (e1 11 z z fun w b=>?_))))))))))))
 have V:Ro aA I (.slice none 0 0) []:=cv
 have X:Ro (dG aw) I (.slice none 0 0) []:=cv
 obtain ⟨e4,k1,c⟩:=bn c
 refine wec call151 [f7,U6 a2.ID.Session,U6 a2.ID.Seq,.agg #[I6 k,U6 a2.Epoch,U6 a1,Zs,Zs]] z z ((rL (a3:=({E:=k,Epoch:=a2.Epoch,Index:=a1,Gots:=[],Scans:=[]}:bp)) P V X b.to0 k1).mono ?_)
 rintro _ v3 ⟨I1388,Y,rfl,Q,b7,b⟩
 refine ⟨_,z,?_⟩
 replace b:=b.of0
 replace Z:=Z.mono (nj Q)
 replace H:=H.mono (ro_le Q)
 replace J:=J.mono (ro_le Q)
 replace P:=P.mono (ro_le Q)
 replace K:=K.mono (ro_le Q)
 replace V:=V.mono (ro_le Q)
 replace X:=X.mono (ro_le Q)
 replace L:=L.trans Q
 refine w0n b (sz (.tuple #[Y,I6 e4.2]) 12 z z (sz (Y) 13 z z (si 14 z z (sz (Y) 15 z z (si 16 z z (bi ?_))))))
 intro w b
 refine tn (wp_seq (ww (mi z (mb z (nt (bw c z ?_ ?_))))))
 {
 intro k2 c
 refine wp_seq (wp_seq (rg b 13 [0,1,3,7,0,16,48,127,255,0,512,1536,4095] [] mixed (sp 0 z z (sp 1 z z (sf 2 z z underlying130 z sizeOf126 (sl 3 z z isAgg126 (fun w b=>b.bc0 z) (sf 4 z z underlying49 z sizeOf28 (sf 5 z z underlying28 z sizeOf26 (sl 6 z z isAgg26 (fun w b=>b.bc4 z) (sf 9 z z underlying49 z sizeOf28 (sf 10 z z underlying28 z sizeOf26 (sl 11 z z isAgg26 (fun w b=>b.bc4 z) (e1 7 z z fun w b=>?_)))))))))))))
 obtain ⟨f9,k3,c⟩:=bn c
 refine wec call93 [f7,U6 a2.ID.Session] z z ((lI P b.to0 k3).mono ?_)
 rintro _ v4 ⟨I1397,v5,v6,rfl,b8,k4,k5,b⟩
 refine ⟨_,z,?_⟩
 replace b:=b.of0
 replace H:=H.mono (ro_le b8)
 replace J:=J.mono (ro_le b8)
 replace P:=P.mono (ro_le b8)
 replace K:=K.mono (ro_le b8)
 replace L:=L.trans b8
 refine wn [11,10,9] b (pkr z z (fun w b=>ao z isAgg26 (b.bc4 z)) (pf z z underlying28 z sizeOf26 (pf z z underlying49 z sizeOf28 bu))) (wsr (.int .u64 f9.Seq) 8 rfl rfl rfl (by kernel_rfl) (fun w b=>by obtain ⟨_,_,hv_,_⟩:=(ag k5); rw [hv_]; obtain ⟨_,_,hv_,_⟩:=(ag k4); rw [hv_]; kernel_rfl) (wsr (.bool (decide (f9.Seq>a2.ID.Seq))) 12 rfl rfl rfl (by kernel_rfl) (fun w b=>rfl) (bi ?_)))
 intro w b
 refine tn (bw c z ?_ ?_)
 {
 intro k6 c
 refine ww (mf z underlying49 z sizeOf28 (mz (av (cs:=[U6 a2.ID.Session,U6 a2.ID.Seq]) z isAgg28 sizeOf28 (b.wq 1 z)) (mk (.agg #[I6 10,Zu,Zu,Zs,Zs]) (mk (.agg #[U1 4,U6 a2.ID.Session,U6 a2.ID.Seq,I6 10,Zu,Zu,Zs,Zs]) ?_))))
 replace b:=b.aW
 refine bxk b z sizeOf35 (oJ 8 z oN) fun v7 b=>nt (wp_ret (aI (aI ?_)))
 have k7:Ro aA I1397 (.slice none 0 0) []:=cv
 have k8:Ro (dG aw) I1397 (.slice none 0 0) []:=cv
 replace b:=aj (Pt G 0) a0 b.aY.aY.aY.aY ⟨z,H,J,P,K⟩
 cases c
 exact aU [.agg #[U1 4,U6 a2.ID.Session,U6 a2.ID.Seq,I6 10,Zu,Zu,Zs,Zs]] results76 (bj (bF (cs:=[U1 4,U6 a2.ID.Session,U6 a2.ID.Seq,I6 10,Zu,Zu,Zs,Zs]) z isAgg35 sizeOf35 (b.eI 0 z)) ah) ⟨_,Zs,Zs,z,L,k7,k8,b.bo⟩
}
 {
 intro k6 c
 refine wp_skip (tn (ww (mk (.agg #[Zb,Zu,Zu,Zi,Zu,Zu,Zs,Zs]) ?_)))
 replace b:=b.aW
 refine bxk b z sizeOf35 (oJ 8 z oN) fun v8 b=>nt (wp_ret (aI ?_))
 have k9:Ro aA I1397 (.slice none 0 0) []:=cv
 have l0:Ro (dG aw) I1397 (.slice none 0 0) []:=cv
 replace b:=aj (Pt G 0) a0 b.aY.aY.aY.aY ⟨z,H,J,P,K⟩
 cases c
 exact aU [.agg #[Zb,Zu,Zu,Zi,Zu,Zu,Zs,Zs]] results76 (bj (bF (cs:=[Zb,Zu,Zu,Zi,Zu,Zu,Zs,Zs]) z isAgg35 sizeOf35 (b.eI 0 z)) ah) ⟨_,Zs,Zs,z,L,k9,l0,b.bo⟩
}
}
 {
 intro k2 c
 refine wp_skip (tn (ww (mp z (mv (Y) z (mp z (mf z underlying130 z sizeOf126 (b1k Y b z (oS (ag b7)) sizeOf126 fun v9 b=>nt ?_)))))))
 obtain ⟨x0,c,g0⟩:=bn c
 refine cQ (fun a w=>∃ (I1594:HL) (e5:ai),(jZ a2 k a1) e5=some r∧fz 204 [5,6,7] [Pt h 0,Pt i 0,Pt j 0] a∧I1388.le I1594∧St w0 w I1594 [cells h [U1 a2.Kind,U6 a2.ID.Session,U6 a2.ID.Seq,U6 a2.Epoch,U6 a2.Index,I6 a2.E,U6 a2.Hold.ID.Session,U6 a2.Hold.ID.Seq,U6 a2.Hold.Epoch,q,s,t,u,x,I6 a2.R.E,U6 a2.R.Epoch,U6 a2.R.Index,y,B,U6 a2.Shards,C,U6 a2.Rule.ID,I6 a2.Rule.From,I6 a2.Rule.To,F6 a2.Rule.Lo,F6 a2.Rule.Hi,U6 a2.Rule.Authority,I6 a2.Rule.Quota,.bool a2.On],cells i [Zb,Zu,Zu,Zi,Zu,Zu,Zs,Zs],cells j [I6 k,U6 a2.Epoch,U6 a1,Zs,Zs],aL (Pt G 0) e5] R) ?_ ?_
 {
 have d2:=HL.le.refl I1388
 refine ww (mf z underlying33 z sizeOf29 (ml z isAgg29 (b.bc6 z) (mb z (nt (bw c z ?_ ?_)))))
 {
 intro l1 c
 refine ww (mf z underlying249 z sizeOf3 (ml z isAgg3 (b.bc7 z) (mi z (mf z underlying249 z sizeOf3 ?_))))
 replace b:=b.aG
 refine byk (I6 (i64.wrap (d+1))) b z sizeOf3 (oC z oN) fun x1 b=>nt (ww (mp z (mv (F) z (mz (av (cs:=[U6 a2.Rule.ID,U6 a2.Epoch,I6 (i64.wrap (d+1))]) z isAgg249 sizeOf249 (b.eD 0 z)) ?_))))
 obtain ⟨e6,l2,l3,l4,b⟩:=b.er (E:=dw) (xs:=[({Rule:=a2.Rule.ID,Epoch:=a2.Epoch,N:=(i64.wrap (d+1))}:dy)]) [[U6 a2.Rule.ID,U6 a2.Epoch,I6 (i64.wrap (d+1))]] 249 1 z (bz.cons z bz.nil)
 refine bY (v:=(.slice (some ⟨e6,0,none⟩) 1 1)) (w':=l2) z z (di (by kernel_rfl) l3 l4) ?_
 obtain ⟨l5,c⟩:=cw c
 replace b:=b.bO
 obtain ⟨b1,l6,l7,b⟩:=bE yE underlying128 b b.jr (cF l5 z) 128
 refine bY (v:=b1) (w':=l6) z z (bU z z l7) (mp z (mf z underlying130 z sizeOf128 ?_))
 replace b:=b.ap
 refine b1k b1 b z (oS b.sv1) sizeOf128 fun x2 b=>nt (rg b 36 [0,0,2,6,14,0,32,96,0,0,512,1536,3840,7936,16128,32512,0,65536,196608,0,524288,0,2097152,6291456,14680064,0,33554432,100663296,234881024,534781696,1073741792,2147483616,4294967294,8589934591,17179869183,34359738367] [] mixed (sp 0 z z (sp 1 z z (sp 2 z z (sf 3 z z underlying130 z sizeOf50 (sl 4 z z isAgg50 (fun w b=>b.bc0 z) (sf 5 z z underlying49 z sizeOf39 (sf 6 z z underlying39 z sizeOf3 (sl 7 z z isAgg3 (fun w b=>b.bc7 z) (sp 8 z z (sf 9 z z underlying49 z sizeOf39 (sf 10 z z underlying39 z sizeOf3 (sl 11 z z isAgg3 (fun w b=>b.bc7 z) (sf 16 z z underlying49 z sizeOf39 (sf 17 z z underlying39 z sizeOf26 (sl 18 z z isAgg26 (fun w b=>b.bc7 z) (sf 19 z z underlying49 z sizeOf26 (sl 20 z z isAgg26 (fun w b=>b.bc7 z) (sf 21 z z underlying49 z sizeOf42 (sl 22 z z isAgg42 (fun w b=>b.bc7 z) ?_))))))))))))))))))))
 obtain ⟨b2,l8,c⟩:=bn c
 obtain ⟨g1,g2,l9⟩:=aK l8
 refine sh _ 23 z (fun w b=>az z z underlying42 sizeOf41 (au Z) g1 g2) ?_
 obtain ⟨x3,m0,g3⟩:=Rd.jV Z l9
 obtain ⟨e7,rfl,m1,-⟩:=m0
 refine sh _ 24 z (fun w b=>av (cs:=[F6 b2.At,.bool b2.Del,e7]) z isAgg41 sizeOf41 (dO (o:=0) (g3 lr b) z)) (sp 25 z z (sp 26 z z (sf 27 z z underlying130 z sizeOf3 (sl 28 z z isAgg3 (fun w b=>b.bc0 z) (e1 12 z z fun w b=>?_)))))
 obtain ⟨g4,m2,c⟩:=bn c
 refine ox z (dE call92 (caps:=[]) z (vs:=[Pt G 0,I6 a2.Rule.To]) z) (Calls.mono (show Calls prog 92 #[Pt G 0,I6 a2.Rule.To] _ (fun e w'=>∃ (S:(List cW)) (e8:Value),S=g4∧e = .returned (e8)∧St w0 w' I1388 [aZ cb e8 S,cells G [I6 a0.Wide,U6 a0.Epoch,f5,f6,Y,f8,d0,d1,b1],aZ aH d0 a0.Open,aZ cb d1 a0.Out,aZ dw b1 (p++([({Rule:=a2.Rule.ID,Epoch:=a2.Epoch,N:=(i64.wrap (d+1))}:dy)])),cells h [U1 a2.Kind,U6 a2.ID.Session,U6 a2.ID.Seq,U6 a2.Epoch,U6 a2.Index,I6 a2.E,U6 a2.Hold.ID.Session,U6 a2.Hold.ID.Seq,U6 a2.Hold.Epoch,q,s,t,u,x,I6 a2.R.E,U6 a2.R.Epoch,U6 a2.R.Index,y,B,U6 a2.Shards,C,U6 a2.Rule.ID,I6 a2.Rule.From,I6 a2.Rule.To,F6 a2.Rule.Lo,F6 a2.Rule.Hi,U6 a2.Rule.Authority,I6 a2.Rule.Quota,.bool a2.On],cells i [Zb,Zu,Zu,Zi,Zu,Zu,Zs,Zs],cells j [I6 k,U6 a2.Epoch,U6 a1,Zs,Zs],cells m [U6 a2.Rule.ID,U6 a2.Epoch,I6 (i64.wrap (d+1))],aZ dw (.slice (some ⟨e6,0,none⟩) 1 1) ([({Rule:=a2.Rule.ID,Epoch:=a2.Epoch,N:=(i64.wrap (d+1))}:dy)])] R) from ?_) ?_)
 {
 clear c; have c:=m2
 refine c0 func92 z ntmps92 (ww (mv ((.slice none 0 0)) z (nt (ww (mv ((.slice none 0 0)) z (nt (wp_seq (ww (mi z (nt (wp_block ?_)))))))))))
 replace b:=b.cV.sub.aX cb
 obtain ⟨m3,c⟩:=aS c
 refine bf (fun n a w=>∃ (b3:(List cW)) (e9:Int) (O:Value),cP (fb a0 a2) n (b3,e9)=some g4∧fz 37 [0,1,5,6] [Pt G 0,I6 a2.Rule.To,O,I6 e9] a∧St w0 w I1388 [aZ cb O b3,cells G [I6 a0.Wide,U6 a0.Epoch,f5,f6,Y,f8,d0,d1,b1],aZ dw b1 (p++([({Rule:=a2.Rule.ID,Epoch:=a2.Epoch,N:=(i64.wrap (d+1))}:dy)])),aZ dw (.slice (some ⟨e6,0,none⟩) 1 1) ([({Rule:=a2.Rule.ID,Epoch:=a2.Epoch,N:=(i64.wrap (d+1))}:dy)]),cells m [U6 a2.Rule.ID,U6 a2.Epoch,I6 (i64.wrap (d+1))],aZ aH d0 a0.Open,aZ cb d1 a0.Out,cells h [U1 a2.Kind,U6 a2.ID.Session,U6 a2.ID.Seq,U6 a2.Epoch,U6 a2.Index,I6 a2.E,U6 a2.Hold.ID.Session,U6 a2.Hold.ID.Seq,U6 a2.Hold.Epoch,q,s,t,u,x,I6 a2.R.E,U6 a2.R.Epoch,U6 a2.R.Index,y,B,U6 a2.Shards,C,U6 a2.Rule.ID,I6 a2.Rule.From,I6 a2.Rule.To,F6 a2.Rule.Lo,F6 a2.Rule.Hi,U6 a2.Rule.Authority,I6 a2.Rule.Quota,.bool a2.On],cells i [Zb,Zu,Zu,Zi,Zu,Zu,Zs,Zs],cells j [I6 k,U6 a2.Epoch,U6 a1,Zs,Zs]] R) m3 ⟨[],0,Zs,c,fy z,b⟩ ?_
 rintro x4 _ x5 ⟨b3,e9,O,c,⟨x6,rfl⟩,b⟩
 obtain ⟨x7,x8,rfl,c,f0⟩:=aV c
 dsimp only [fb] at c
 refine wp_seq (ww (mi z (mp z (mp z (mf z underlying130 z sizeOf50 (ml z isAgg50 (b.bc1 z) (mz (bW z underlying50 b.sv6) (mb z (nt (bw c z ?_ ?_))))))))))
 {
 intro m4 c
 refine wp_skip (tn (wp_seq (wp_block (ww (mp z (mp z (mf z underlying130 z sizeOf50 (ml z isAgg50 (b.bc1 z) (mi z ?_)))))))))
 obtain ⟨l,m5,c⟩:=bn c
 obtain ⟨g5,g6,m6⟩:=aK m5
 refine mz (az z z underlying50 sizeOf53 b.sv6 g5 g6) (mz (aR z underlying53 z sizeOf3 z) ?_)
 obtain ⟨x9,m7,g7⟩:=b.og6 m6
 obtain ⟨g8,rfl,g9,-⟩:=m7
 refine ml z isAgg3 (g7 0 _ z) (mi z (mb z (nt (bw c z ?_ ?_))))
 {
 intro m8 c
 refine wrl (mv (O) z (mp z (mp z (mf z underlying130 z sizeOf50 (ml z isAgg50 (b.bc1 z) (mi z (mz (az z z underlying50 sizeOf53 b.sv6 g5 g6) (mz (av (cs:=[I6 l.To,U6 l.N,U6 l.Rule,U6 l.Epoch,F6 l.W.At,.bool l.W.Del,g8]) z isAgg53 sizeOf53 (dO (o:=0) g7 z)) ?_))))))))
 obtain ⟨m9,n0,n1,n2,b⟩:=b.er (E:=cb) (xs:=[l]) [[I6 l.To,U6 l.N,U6 l.Rule,U6 l.Epoch,F6 l.W.At,.bool l.W.Del,g8]] 53 1 z (bz.cons ⟨_,z,g9,oS (ag g9)⟩ bz.nil)
 refine bY (v:=(.slice (some ⟨m9,0,none⟩) 1 1)) (w':=n0) z z (di (by kernel_rfl) n1 n2) ?_
 obtain ⟨n3,c⟩:=cw c
 replace b:=b.ab
 obtain ⟨f1,n4,n5,b⟩:=bE sD underlying50 b b.jr (cF n3 z) 50
 refine bY (v:=f1) (w':=n4) z z (bU z z n5) (mv (f1) z (dk (bB (tn (wrl (mi z (mi z (mi z (nt ?_)))))))))
 cases c
 exact ⟨_,nls,(b3++([l])),_,f1,f0,fy z,b.bq.bq.bq.bq.bq.bq.bq.bq.bq.bO.ur⟩
}
 {
 intro m8 c
 refine wp_skip (bB (tn (wrl (mi z (mi z (mi z (nt ?_)))))))
 cases c
 exact ⟨_,nls,b3,_,O,f0,fy z,b.bO.bO.bO.bO.bO.bO.bO.bO.bO.bO.ur⟩
}
}
 {
 intro m4 c
 refine wp_exit (aQ (aQ ?_))
 replace c:=bg c f0
 refine cZ (tn (ww (mv (O) z (mv (O) z (nt (wp_ret (aU [O] results92 (rc z ah) ?_)))))))
 obtain rfl:=sj c
 exact ⟨b3,O,z,z,b.ap.aY.bO.bO.bO.aG.bO.bO.bO.bO.ur⟩
}
}
 rintro _ y0 ⟨S,e8,rfl,rfl,b⟩
 refine ⟨_,z,?_⟩
 try dsimp only at c
 refine wn [28,27,26,25,24,23,22,21,20,19,18,17,16,7,6,5,4,3,2,1,0] b (pkr z z (fun w b=>ao z isAgg3 (b.bc1 z)) (pf z z underlying130 z sizeOf3 (pz (pz (pkr z z (fun w b=>av (cs:=[F6 b2.At,.bool b2.Del,e7]) z isAgg41 sizeOf41 (dO (o:=0) (g3 lr b) z)) (pkr z z (fun w b=>az z z underlying42 sizeOf41 (au Z) g1 g2) (pkr z z (fun w b=>ao z isAgg42 (b.bc5 z)) (pf z z underlying49 z sizeOf42 (pkr z z (fun w b=>ao z isAgg26 (b.bc5 z)) (pf z z underlying49 z sizeOf26 (pkr z z (fun w b=>ao z isAgg26 (b.bc5 z)) (pf z z underlying39 z sizeOf26 (pf z z underlying49 z sizeOf39 (pkr z z (fun w b=>ao z isAgg3 (b.bc5 z)) (pf z z underlying39 z sizeOf3 (pf z z underlying49 z sizeOf39 (pkr z z (fun w b=>ao z isAgg50 (b.bc1 z)) (pf z z underlying130 z sizeOf50 (pz (pz (pz bu))))))))))))))))))))) (sh _ 13 z (fun w b=>bW z underlying50 b.sv0) (si 14 z z (sk (.int .u64 (u64.wrap (i64.wrap (((S).length:Int)+1)))) 15 z (e1 29 z z fun w b=>?_))))
 obtain ⟨b4,n6,c⟩:=bn c
 refine wec call16 [.agg #[F6 b2.At,.bool b2.Del,e7],I6 a0.Wide] z z (kcb (wA (m1.mono (cy _)) b.to0 n6) fun h0 y1 b=>?_)
 replace b:=b.of1
 refine wn [15,14,13,20,19,18,17,16,7,6,5,4,3,2,1,0] b (pkr z z (fun w b=>by kernel_rfl) (pz (pkr z z (fun w b=>bW z underlying50 b.sv1) (pkr z z (fun w b=>ao z isAgg26 (b.bc6 z)) (pf z z underlying49 z sizeOf26 (pkr z z (fun w b=>ao z isAgg26 (b.bc6 z)) (pf z z underlying39 z sizeOf26 (pf z z underlying49 z sizeOf39 (pkr z z (fun w b=>ao z isAgg3 (b.bc6 z)) (pf z z underlying39 z sizeOf3 (pf z z underlying49 z sizeOf39 (pkr z z (fun w b=>ao z isAgg50 (b.bc2 z)) (pf z z underlying130 z sizeOf50 (pz (pz (pz bu)))))))))))))))) (wsr (.agg #[I6 a2.Rule.To,U6 (u64.wrap (i64.wrap (((S).length:Int)+1))),U6 a2.Rule.ID,U6 a2.Epoch,F6 b4.At,.bool b4.Del,h0]) 30 rfl rfl rfl (by kernel_rfl) (fun w b=>by obtain ⟨_,_,hv_,_⟩:=b.sv0; rw [hv_]; kernel_rfl) (e1 31 z z fun w b=>?_))
 obtain ⟨I1578,b9,h1,b⟩:=b.cK
 replace H:=H.mono (ro_le b9)
 replace J:=J.mono (ro_le b9)
 replace K:=K.mono (ro_le b9)
 replace b7:=b7.mono (ro_le b9)
 replace d2:=d2.trans b9
 obtain ⟨n7,n8,n9,o0,b⟩:=b.er (E:=cb) (xs:=[({To:=a2.Rule.To,N:=(u64.wrap (i64.wrap (((S).length:Int)+1))),Rule:=a2.Rule.ID,Epoch:=a2.Epoch,W:=b4}:cW)]) [[I6 a2.Rule.To,U6 (u64.wrap (i64.wrap (((S).length:Int)+1))),U6 a2.Rule.ID,U6 a2.Epoch,F6 b4.At,.bool b4.Del,h0]] 53 1 z (bz.cons ⟨_,z,h1,oS (ag h1)⟩ bz.nil)
 refine bS (v:=(.slice (some ⟨n7,0,none⟩) 1 1)) (w':=n8) z (di (by kernel_rfl) n9 o0) (wn [4,3,2,1,0] b (pkr z z (fun w b=>ao z isAgg50 (b.bc2 z)) (pf z z underlying130 z sizeOf50 (pz (pz (pz bu))))) (e1 32 z z fun w b=>?_))
 obtain ⟨o1,c⟩:=cw c
 replace b:=b.aY
 obtain ⟨h2,o2,o3,b⟩:=bE sD underlying50 b b.jr (cF o1 z) 50
 refine bS (v:=h2) (w':=o2) z (bU z z o3) (wn [0] b (pz bu) (sp 33 z z (sf 34 z z underlying130 z sizeOf50 (e1 35 z z fun w b=>?_))))
 replace b:=b.ap
 refine b1e h2 b z (oS b.sv1) sizeOf50 fun y2 b=>w0n b (bi ?_)
 intro w b
 refine tn ?_
 cases c
 exact ⟨_,_,g0,fy z,d2,(aj (Pt G 0) (({a0 with A:=e4.1,Out:=(a0.Out++([({To:=a2.Rule.To,N:=(u64.wrap (i64.wrap (((S).length:Int)+1))),Rule:=a2.Rule.ID,Epoch:=a2.Epoch,W:=b4}:cW)])),Used:=(p++([({Rule:=a2.Rule.ID,Epoch:=a2.Epoch,N:=(i64.wrap (d+1))}:dy)]))}:ai)) b.aW.ay.aW.ap ⟨z,H,J,b7,K⟩).aW.aW.aW.eF⟩
}
 {
 intro l1 c
 refine wp_skip (tn ?_)
 cases c
 exact ⟨_,_,g0,fy z,d2,(aj (Pt G 0) (({a0 with A:=e4.1}:ai)) b.ap.ap.ap.ap ⟨z,H,J,b7,K⟩).ap.ap.ap.eF⟩
}
}
 {
 rintro _ y3 ⟨I1594,e5,c,⟨y4,rfl⟩,f2,b⟩
 dsimp only [jZ] at c
 replace V:=V.mono (ro_le f2)
 replace X:=X.mono (ro_le f2)
 replace L:=L.trans f2
 refine ww (mf z underlying49 z sizeOf28 (mz (av (cs:=[U6 a2.ID.Session,U6 a2.ID.Seq]) z isAgg28 sizeOf28 (b.eD 1 z)) (mz (av (cs:=[I6 k,U6 a2.Epoch,U6 a1,Zs,Zs]) z isAgg33 sizeOf33 (b.pQ 0 z)) (mk (.agg #[U1 4,U6 a2.ID.Session,U6 a2.ID.Seq,I6 k,U6 a2.Epoch,U6 a1,Zs,Zs]) ?_))))
 replace b:=b.ab
 refine bxk b z sizeOf35 (oJ 6 z (oC (oS (ag V)) (oC (oS (ag X)) oN))) fun y5 b=>nt (wp_ret ?_)
 cases c
 exact aU [.agg #[U1 4,U6 a2.ID.Session,U6 a2.ID.Seq,I6 k,U6 a2.Epoch,U6 a1,Zs,Zs]] results76 (bj (bF (cs:=[U1 4,U6 a2.ID.Session,U6 a2.ID.Seq,I6 k,U6 a2.Epoch,U6 a1,Zs,Zs]) z isAgg35 sizeOf35 (b.eD 0 z)) ah) ⟨_,Zs,Zs,z,L,V,X,b.ap.bo⟩
}
}
}
}
}
}
}
end Go.Proofs.YtgnkkopjkgdieaaGreat
