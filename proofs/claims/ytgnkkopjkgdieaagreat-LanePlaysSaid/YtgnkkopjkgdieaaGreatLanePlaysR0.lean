/- A part of the proof. -/
import Derived.Test.YtgnkkopjkgdieaaGreatLanePlaysT
set_option linter.unusedVariables false
set_option linter.unusedSimpArgs false
set_option maxRecDepth 100000
set_option maxHeartbeats 4000000
namespace Go.Proofs.YtgnkkopjkgdieaaGreat
open Go Go.V
open _root_.Go.Proofs.Tryz IntKind
variable {w0 w:World} {I:HL} {R:SP}
attribute [local irreducible] wpList Code.wp wpQuiet Calls bodyPost Oper.wp wpS Nx gE YieldsIn
theorem xJ  (a:St w0 w I [] R) {r:(cO)} (b:ud=some r) :
  Calls prog 43 #[] w fun e w'=>∃ (c:Value),e = .returned (c)∧St w0 w' I [cI c r] R:=by {
 unfold ud at b
 refine c0 func43 z ntmps43 (ww (mv (.pointer none) z (nt (ww (mk (.agg #[Zs]) ?_)))))
 obtain ⟨d,h,f,g,a⟩:=a.box [Zs] 201
 refine wa f g (mp z (nt (wp_ret ?_)))
 cases b
 exact aU [Pt d 0] results43 (rc z ah) ⟨_,z,(cM (Pt d 0) (({rows:=[]}:cO)) (a.Ce cj).ab z).bo⟩
}
theorem wE  (a:St w0 w I [] R) {r:(bZ)} (b:sJ=some r) :
  Calls prog 44 #[] w fun e w'=>∃ (c:Value),e = .returned (c)∧St w0 w' I [bP c r] R:=by {
 unfold sJ at b
 refine c0 func44 z ntmps44 (ww (mv (.pointer none) z (nt (ww (mk (.agg #[Zs]) ?_)))))
 obtain ⟨d,h,f,g,a⟩:=a.box [Zs] 203
 refine wa f g (mp z (nt (wp_ret ?_)))
 cases b
 exact aU [Pt d 0] results44 (rc z ah) ⟨_,z,(dl (Pt d 0) (({l:=[]}:bZ)) (a.aX bm).ab z).bo⟩
}
theorem uU  (a:St w0 w I [] R) {r:(ck)} (b:qb=some r) :
  Calls prog 45 #[] w fun e w'=>∃ (c:Value),e = .returned (c)∧St w0 w' I [ca c r] R:=by {
 unfold qb at b
 refine c0 func45 z ntmps45 (ww (mv (.pointer none) z (nt (ww (mk (.agg #[Zs]) ?_)))))
 obtain ⟨d,h,f,g,a⟩:=a.box [Zs] 206
 refine wa f g (mp z (nt (wp_ret ?_)))
 cases b
 exact aU [Pt d 0] results45 (rc z ah) ⟨_,z,(cR (Pt d 0) (({l:=[]}:ck)) (a.aX cN).ab z).bo⟩
}
theorem wi  (a:St w0 w I [] R) {r:(cB)} (b:qS=some r) :
  Calls prog 46 #[] w fun e w'=>∃ (c:Value),e = .returned (c)∧St w0 w' I [cL c r] R:=by {
 unfold qS at b
 refine c0 func46 z ntmps46 (ww (mv (.pointer none) z (nt (ww (mk (.agg #[Zs]) ?_)))))
 obtain ⟨d,h,f,g,a⟩:=a.box [Zs] 209
 refine wa f g (mp z (nt (wp_ret ?_)))
 cases b
 exact aU [Pt d 0] results46 (rc z ah) ⟨_,z,(cY (Pt d 0) (({l:=[]}:cB)) (a.aX jb).ab z).bo⟩
}
theorem ua {a0:Int} (a:St w0 w I [] R) {r:(ae)} (b:qC a0=some r) :
  Calls prog 13 #[I6 a0] w fun e w'=>∃ (h:Value),e = .returned (h)∧St w0 w' I [aD h r] R:=by {
 unfold qC at b
 refine c0 func13 z ntmps13 (ww (mv (.pointer none) z (nt (ww (mi z ?_)))))
 obtain ⟨i,n,b⟩:=bn b
 refine wc call43 [] z z z (kcb (xJ a.to0 n) fun A B a=>?_)
 replace a:=a.of1
 obtain ⟨j,o,b⟩:=bn b
 refine wc call44 [] z z z (kcb (wE a.to0 o) fun C D a=>?_)
 replace a:=a.of1
 obtain ⟨k,p,b⟩:=bn b
 refine wc call45 [] z z z (kcb (uU a.to0 p) fun E F a=>?_)
 replace a:=a.of1
 obtain ⟨l,q,b⟩:=bn b
 refine wc call46 [] z z z (kcb (wi a.to0 q) fun G H a=>?_)
 obtain ⟨c,J,rfl,s⟩:=ef a.of1.ap
 have a:=s
 obtain ⟨d,K,rfl,t⟩:=dB a.aY
 have a:=t
 obtain ⟨f,L,rfl,u⟩:=dH a.aW
 have a:=u
 obtain ⟨g,M,rfl,v⟩:=eE a.cV
 have a:=v
 refine mk (.agg #[I6 a0,U6 1,Pt c 0,Pt d 0,Pt f 0,Pt g 0,Zs,Zs,Zs]) ?_
 obtain ⟨m,N,x,y,a⟩:=a.box [I6 a0,U6 1,Pt c 0,Pt d 0,Pt f 0,Pt g 0,Zs,Zs,Zs] 111
 refine wa x y (mp z (nt (wp_ret ?_)))
 cases b
 exact aU [Pt m 0] results13 (rc z ah) ⟨_,z,(aq (Pt m 0) (({wide:=a0,epoch:=1,store:=(some i),locks:=(some j),last:=(some k),book:=(some l),open_:=[],out:=[],used:=[]}:ae)) ((((aJ (cY (Pt g 0) l (aJ (cR (Pt f 0) k (aJ (dl (Pt d 0) j (aJ (cM (Pt c 0) i a.bH.bH z)).aG.aG z)).cV.cV z)).aW.aW z)).aX aH).aX cb).aX cH).ab.ay.ap.aY.aW.cV.aG z).bo⟩
}
theorem rr {a0:(Option bZ)} {p0:Value} {a1:Int} (c:St w0 w I [cE bP p0 a0] R) {r:(Bool)} (b:eJ a0 a1=some r) :
  Calls prog 154 #[p0,U6 a1] w fun e w'=>e = .returned (.bool r)∧St w0 w' I [cE bP p0 a0] R:=by {
 rcases a0 with _ | i
 {
 dsimp only [eJ] at b
 cases b
}
 {
 replace c:=bD c
 dsimp only [eJ] at b
 refine c0 func154 z ntmps154 (ww ?_)
 obtain ⟨f,T,x,y,c⟩:=c.box [U6 a1] 26
 refine wa x y (mb z (nt (ww (mv (p0) z ?_))))
 obtain ⟨h,d,rfl,A⟩:=dB c.ab
 have c:=A
 refine mk (.bool true) (mb z (wv (Pt h 0) ((ar z z z z).trans z) z z (wv (Pt h 0) ((ar z z z z).trans z) z z (wv (Pt h 0) ((ar z z z z).trans z) z (aO z underlying203 z sizeOf125 z) (wv (d) ((ar z z z z).trans z) z (ao z isAgg125 (c.bc0 z)) (wv (.func (.func 204) #[] #[Pt f 0]) ((ar z z z z).trans z) z (by kernel_rfl) ?_))))))
 obtain ⟨B,C,b⟩:=bn b
 refine de ((ar z z z z).trans z) z (dE call203 (caps:=[]) z (vs:=[d,.func (.func 204) #[] #[Pt f 0]]) z) (Calls.mono (show Calls prog 203 #[d,.func (.func 204) #[] #[Pt f 0]] _ (fun e w'=>∃ (k:Bool),k=B∧e = .returned (.bool k)∧St w0 w' I [cells h [d],aZ bm d i.l,cells f [U6 a1]] R) from ?_) ?_)
 {
 clear b; have b:=C
 refine c0 func203 z ntmps203 (ww (mb z (nt (ww (mv (d) z (mv (.func (.func 204) #[] #[Pt f 0]) z ?_))))))
 obtain ⟨v,D,b⟩:=bn b
 refine de z z (dE call222 (caps:=[]) z (vs:=[d,.func (.func 204) #[] #[Pt f 0]]) z) (Calls.mono (show Calls prog 222 #[d,.func (.func 204) #[] #[Pt f 0]] _ (fun e w'=>∃ (m:Int),m=v∧e = .returned (.int .i64 m)∧St w0 w' I [cells h [d],aZ bm d i.l,cells f [U6 a1]] R) from ?_) ?_)
 {
 clear b; have b:=D
 refine c0 func222 z ntmps222 (ww (mi z (nt (wp_seq (ww (mv (d) z (mz (bW z underlying125 c.sv1) (mi z (nt (wp_block ?_))))))))))
 obtain ⟨E,b⟩:=aS b
 refine bf (fun n a w=>∃ (j:Int),cP (eR i a1) n j=some v∧fz 19 [0,1,7,8] [d,.func (.func 204) #[] #[Pt f 0],I6 ((i.l).length:Int),I6 j] a∧St w0 w I [cells h [d],aZ bm d i.l,cells f [U6 a1]] R) E ⟨0,b,fy z,c⟩ ?_
 rintro U _ V ⟨j,b,⟨W,rfl⟩,c⟩
 obtain ⟨X,Y,rfl,b,u⟩:=aV b
 dsimp only [eR] at b
 refine ww (mb z (nt (wp_seq (bw b z ?_ ?_))))
 {
 intro F b
 refine wp_skip (tn (wp_seq (wp_block (ww (mi z (mi z (nt (ww (mv (.func (.func 204) #[] #[Pt f 0]) z (mv (d) z (mi z ?_)))))))))))
 obtain ⟨g,G,b⟩:=bn b
 obtain ⟨H,J,K⟩:=aK G
 refine mz (az z z underlying125 sizeOf46 c.sv1 H J) ?_
 obtain ⟨Z,L,M⟩:=c.og1 K
 obtain ⟨p,q,s,t,rfl,b0,b1,b2,b3,-⟩:=L
 refine mz (av (cs:=[U6 g.ID.Session,U6 g.ID.Seq,U6 g.Epoch,p,q,s,t]) z isAgg46 sizeOf46 (dO (o:=0) M z)) ?_
 obtain ⟨N,O,b⟩:=bn b
 refine de z z (dE call204 (caps:=[Pt f 0]) z (vs:=[.agg #[U6 g.ID.Session,U6 g.ID.Seq,U6 g.Epoch,p,q,s,t]]) z) (Calls.mono (show Calls prog 204 #[.agg #[U6 g.ID.Session,U6 g.ID.Seq,U6 g.Epoch,p,q,s,t],Pt f 0] _ (fun e w'=>()=N∧e = .returned (.bool (decide (g.Epoch≤a1)))∧St w0 w' I [cells h [d],aZ bm d i.l,cells f [U6 a1]] R) from ?_) ?_)
 {
 clear b; have b:=O
 refine c0 func204 z ntmps204 (ww ?_)
 obtain ⟨b4,b5,P,Q,c⟩:=c.box [U6 g.ID.Session,U6 g.ID.Seq,U6 g.Epoch,p,q,s,t] 46
 refine wa P Q (mb z (nt (ww (mf z underlying46 z sizeOf26 (ml z isAgg26 (c.bc0 z) (ml z isAgg26 (c.bc3 z) (mb z (mb z (nt (wp_ret (aU [.bool (decide (g.Epoch≤a1))] results204 (rc z ah) ?_)))))))))))
 cases b
 exact ⟨z,z,c.ap.ap.ap.dC⟩
}
 rintro _ b6 ⟨rfl,rfl,c⟩
 refine ⟨_,z,?_⟩
 try dsimp only at b
 refine nt (bw b z ?_ ?_)
 {
 intro S b
 refine ww (mi z (mi z (nt (wp_ret (dj (aI (aI ?_)))))))
 replace b:=bg b u
 refine dj (aI (aU [I6 j] results222 (rc z ah) ?_))
 obtain rfl:=sj b
 exact ⟨j,z,z,c.ay.ay.ay.dC⟩
}
 {
 intro S b
 refine wp_skip (bB (tn (wrl (mi z (mi z (nt ?_))))))
 cases b
 exact ⟨_,nls,_,u,fy z,c.ay.ay.ay.dC⟩
}
}
 {
 intro F b
 refine wp_exit (aQ (aQ ?_))
 replace b:=bg b u
 refine cZ (tn (ww (mi z (nt (wp_ret (aU [I6 ((-1):Int)] results222 (rc z ah) ?_))))))
 cases b
 exact ⟨_,z,z,c.ay.ay.ay.dC⟩
}
}
 rintro _ b7 ⟨m,rfl,rfl,c⟩
 refine ⟨_,z,?_⟩
 try dsimp only at b
 refine mb z (mb z (nt (wp_ret (aU [.bool (decide (m≥0))] results203 (rc z ah) ?_))))
 cases b
 exact ⟨_,z,z,c.ay.ay.ay.dC⟩
}
 rintro _ b8 ⟨k,rfl,rfl,c⟩
 refine ⟨_,z,?_⟩
 try dsimp only at b
 refine mb (aM z z z) (mb z (nt (wp_ret ?_)))
 obtain rfl:=sj b
 exact aU [.bool k] results154 (rc z ah) ⟨z,(aJ (dl (Pt h 0) i c.ab.ab z)).bo⟩
}
}
theorem pw {a0:(Option ae)} {p0:Value} (a:St w0 w I [cE aD p0 a0] R) {r:(Bool)} (c:jc a0=some r) :
  Calls prog 85 #[p0] w fun e w'=>e = .returned (.bool r)∧St w0 w' I [cE aD p0 a0] R:=by {
 rcases a0 with _ | d
 {
 dsimp only [jc] at c
 cases c
}
 {
 replace a:=bD a
 dsimp only [jc] at c
 refine c0 func85 z ntmps85 (ww (mb z (nt (wp_seq ?_))))
 obtain ⟨b,j,f,k,l,m,n,o,rfl,h⟩:=bc a
 have a:=h
 refine rg a 15 [0,1,3,7,15,31,63,7,135,391,903,2047,4095,8191,16383] [] mixed (sp 0 z z (sk (.bool true) 1 z (sb 2 z z (sy (Pt b 0) 3 z z (cT ((ar z z z z).trans z) (fun w a=>z)) (sy (Pt b 0) 4 z z (cT ((ar z z z z).trans z) (fun w a=>z)) (sy (Pt b 3) 5 z z (cT ((ar z z z z).trans z) (fun w a=>aO z underlying111 z sizeOf103 z)) (sy (f) 6 z z (cT ((ar z z z z).trans z) (fun w a=>ao z isAgg103 (a.bc0 z))) (sy (Pt b 0) 7 z z (cT ((ar z z z z).trans z) (fun w a=>z)) (sy (Pt b 0) 8 z z (cT ((ar z z z z).trans z) (fun w a=>z)) (sy (Pt b 1) 9 z z (cT ((ar z z z z).trans z) (fun w a=>aO z underlying111 z sizeOf26 z)) (sy (.int .u64 d.epoch) 10 z z (cT ((ar z z z z).trans z) (fun w a=>ao z isAgg26 (a.bc0 z))) (ia 11 (by kernel_rfl) (nxe [12,13,14] (by kernel_rfl) z ((ar z z z z).trans z) ?_)))))))))))))
 clear a
 intro w a
 replace a:=a.ay
 obtain ⟨g,i,c⟩:=bn c
 refine wec call154 [f,U6 d.epoch] z z (kca (rr a.to1 i) fun p a=>?_)
 replace a:=a.of1
 refine w0n a (sy (.bool (!g)) 12 z z (cT ((ar z z z z).trans z) (fun w a=>z)) (sh (.bool _) 13 z (fun w a=>aM z z z) (sb 14 z z (bi ?_))))
 intro w a
 refine tn (wp_ret ?_)
 cases c
 exact aU [.bool (!g)] results85 (rc z ah) ⟨z,(aJ (aq (Pt b 0) d a.aG.aG.aG.aG.aG.aW.aG.aG z)).bo⟩
}
}
theorem sM {a0:(Option ae)} {p0:Value} {a1:aC} {g h i j k l m n:Value} (D:Rd bV R I g a1.Hold.Gets) (F:Rd gn R I h a1.Hold.Scans) (G:Rd bV R I i a1.Hold.Puts) (H:Rd (cg .u8) R I j a1.Hold.Data) (J:Rd cG R I k a1.Writes) (K:Rd aA R I l a1.R.Gots) (L:Rd (dG aw) R I m a1.R.Scans) (M:Rd cJ R I n a1.Parts) (a:St w0 w I [cE aD p0 a0] R) {r:(bh×(Option ae))} (b:iy a0 a1=some r) :
  Calls prog 47 #[p0,.agg #[U1 a1.Kind,U6 a1.ID.Session,U6 a1.ID.Seq,U6 a1.Epoch,U6 a1.Index,I6 a1.E,U6 a1.Hold.ID.Session,U6 a1.Hold.ID.Seq,U6 a1.Hold.Epoch,g,h,i,j,k,I6 a1.R.E,U6 a1.R.Epoch,U6 a1.R.Index,l,m,U6 a1.Shards,n,U6 a1.Rule.ID,I6 a1.Rule.From,I6 a1.Rule.To,F6 a1.Rule.Lo,F6 a1.Rule.Hi,U6 a1.Rule.Authority,I6 a1.Rule.Quota,.bool a1.On]] w fun e w'=>∃ (p:Value) (q:Value),e = .returned (.agg #[U1 r.1.Kind,U6 r.1.ID.Session,U6 r.1.ID.Seq,I6 r.1.R.E,U6 r.1.R.Epoch,U6 r.1.R.Index,p,q])∧St w0 w' I [aZ aA p r.1.R.Gots,aZ (dG aw) q r.1.R.Scans,cE aD p0 r.2] R:=by {
 rcases a0 with _ | d
 {
 dsimp only [iy] at b
 cases b
}
 {
 replace a:=bD a
 dsimp only [iy] at b
 refine c0 func47 z ntmps47 (ww ?_)
 obtain ⟨N,O,s,t,a⟩:=a.box [U1 a1.Kind,U6 a1.ID.Session,U6 a1.ID.Seq,U6 a1.Epoch,U6 a1.Index,I6 a1.E,U6 a1.Hold.ID.Session,U6 a1.Hold.ID.Seq,U6 a1.Hold.Epoch,g,h,i,j,k,I6 a1.R.E,U6 a1.R.Epoch,U6 a1.R.Index,l,m,U6 a1.Shards,n,U6 a1.Rule.ID,I6 a1.Rule.From,I6 a1.Rule.To,F6 a1.Rule.Lo,F6 a1.Rule.Hi,U6 a1.Rule.Authority,I6 a1.Rule.Quota,.bool a1.On] 49
 refine wa s t ?_
 obtain ⟨P,Q,u,v,a⟩:=a.box [Zb,Zu,Zu,Zi,Zu,Zu,Zs,Zs] 35
 refine wa u v (nt (wp_seq (wp_seq ?_)))
 obtain ⟨f,S,T,U,V,W,X,Y,rfl,x⟩:=bc a.ay
 have a:=x
 refine rg a 12 [0,1,0,4,12,28,63,127,255,511,1023,2047] [] mixed (sf 0 z z underlying49 z sizeOf26 (sl 1 z z isAgg26 (fun w a=>a.bc9 z) (sp 2 z z (sp 3 z z (sf 4 z z underlying111 z sizeOf26 (sl 5 z z isAgg26 (fun w a=>a.bc0 z) (sb 6 z z (sb 7 z z (bs b ?_ ?_)))))))))
 {
 intro c b
 refine so 8 z c (so 9 z c (so 10 z c (sh (.bool _) 11 z (fun w a=>aM c z z) (bi ?_))))
 intro w a
 refine tn (dq z (ww (mk (.agg #[Zb,Zu,Zu,Zi,Zu,Zu,Zs,Zs]) ?_)))
 replace a:=a.bH
 refine bxk a z sizeOf35 (oJ 8 z oN) fun Z a=>nt (wp_ret (aI ?_))
 replace a:=aJ (aq (Pt f 0) d ((a.aX aA).aX (dG aw)).bq.bq.bq.bq.bq.bq.bq.bq z)
 cases b
 exact aU [.agg #[Zb,Zu,Zu,Zi,Zu,Zu,Zs,Zs]] results47 (bj (bF (cs:=[Zb,Zu,Zu,Zi,Zu,Zu,Zs,Zs]) z isAgg35 sizeOf35 (a.rU 0 z)) ah) ⟨(.slice none 0 0),Zs,z,a.ab.ay.dC⟩
}
 {
 intro c b
 refine sgz (Pt _ _) 8 z c z (ia 9 (by kernel_rfl) (nxe [10,11] (by kernel_rfl) z ((ar z z z (cvb c)).trans z) ?_))
 clear a
 intro w a
 replace a:=aJ (aq (Pt f 0) d a.aG.aG.aG.aG.aG.aG.aG.aG z)
 obtain ⟨b0,y,b⟩:=bn b
 refine wec call85 [Pt f 0] z z (kca (pw a.to1 y) fun b1 a=>?_)
 replace a:=bD a.of1
 refine w0n a (sgz (.bool _) 10 z c z (sh (.bool _) 11 z (fun w a=>aE c z z) (bi ?_)))
 intro w a
 refine tn (bw b z ?_ ?_)
 {
 intro A b
 refine ww (mk (.agg #[Zb,Zu,Zu,Zi,Zu,Zu,Zs,Zs]) ?_)
 replace a:=a.ab
 refine bxk a z sizeOf35 (oJ 8 z oN) fun b2 a=>nt (wp_ret (aI ?_))
 replace a:=aJ (((a.aX aA).aX (dG aw)).ap)
 cases b
 exact aU [.agg #[Zb,Zu,Zu,Zi,Zu,Zu,Zs,Zs]] results47 (bj (bF (cs:=[Zb,Zu,Zu,Zi,Zu,Zu,Zs,Zs]) z isAgg35 sizeOf35 (a.rU 0 z)) ah) ⟨(.slice none 0 0),Zs,z,a.ab.ay.dC⟩
}
 {
 intro A b
 refine wp_skip (tn (ww (mp z ?_)))
 obtain ⟨b3,b4,b5,b6,b7,b8,b9,c1,o,B⟩:=bc a
 replace o:=dF o
 subst o
 have a:=B
 refine mp z (mf z underlying111 z sizeOf26 (ml z isAgg26 (a.bc0 z) (mi z (mp z (mf z underlying111 z sizeOf26 (byk (U6 (u64.wrap (d.epoch+1))) a z sizeOf26 (oC z oN) fun c2 a=>nt (wp_seq (ww (mp z (mp z (mf z underlying111 z sizeOf26 (ml z isAgg26 (a.bc0 z) (mb z (nt (bw b z ?_ ?_)))))))))))))))
 {
 intro C b
 cases b
}
 {
 intro C b
 refine wp_skip (tn (ww (mk (.agg #[U1 1,Zu,Zu,Zi,Zu,Zu,Zs,Zs]) ?_)))
 replace a:=a.bH
 refine bxk a z sizeOf35 (oJ 8 z oN) fun c3 a=>nt (wp_ret ?_)
 replace a:=aJ (aq (Pt f 0) (({d with epoch:=(u64.wrap (d.epoch+1))}:ae)) ((a.aX aA).aX (dG aw)).bq.bq.bq.bq.bq.bq.bq.bq z)
 cases b
 exact aU [.agg #[U1 1,Zu,Zu,Zi,Zu,Zu,Zs,Zs]] results47 (bj (bF (cs:=[U1 1,Zu,Zu,Zi,Zu,Zu,Zs,Zs]) z isAgg35 sizeOf35 (a.rU 0 z)) ah) ⟨(.slice none 0 0),Zs,z,a.ab.ay.dC⟩
}
}
}
}
}
theorem oz {a0:Int} (b:St w0 w I [] R) {r:(Bool)} (a:iT a0=some r) :
  Calls prog 190 #[U6 a0] w fun e w'=>e = .returned (.bool r)∧St w0 w' I [] R:=by {
 unfold iT at a
 refine c0 func190 z ntmps190 (ww (mb z (nt (ww (mi z (mi z (mb z (mb z (nt (wp_ret ?_))))))))))
 cases a
 exact aU [.bool (a0 !=a0)] results190 (rc z ah) ⟨z,b.bQ⟩
}
theorem eX {a0 a1:Int} (b:St w0 w I [] R) {r:(Int)} (a:dx a0 a1=some r) :
  Calls prog 131 #[U6 a0,U6 a1] w fun e w'=>e = .returned (.int .i64 r)∧St w0 w' I [] R:=by {
 unfold dx at a
 refine c0 func131 z ntmps131 (ww (mi z (nt (ww (mi z ?_)))))
 obtain ⟨k,c,a⟩:=bn a
 refine wc call190 [U6 a0] z z z (kca (oz b.to0 c) fun l b=>?_)
 replace b:=b.of0
 refine mb z (nt (ww (mi z ?_)))
 obtain ⟨m,d,a⟩:=bn a
 refine wc call190 [U6 a1] z z z (kca (oz b.to0 d) fun n b=>?_)
 replace b:=b.of0
 refine mb z (nt (wp_seq (ww (mb z (nt (bw a z ?_ ?_))))))
 {
 intro f a
 refine wp_seq (ww (mb z (nt (bw a z ?_ ?_))))
 {
 intro g a
 refine ww (mi z (nt (wp_ret (aI (aI ?_)))))
 cases a
 exact aU [Zi] results131 (rc z ah) ⟨z,b.bQ⟩
}
 {
 intro g a
 refine wp_skip (tn (ww (mi z (nt (wp_ret (aI ?_))))))
 cases a
 exact aU [I6 ((-1):Int)] results131 (rc z ah) ⟨z,b.bQ⟩
}
}
 {
 intro f a
 refine wp_skip (tn (wp_seq (ww (mb z (nt (bw a z ?_ ?_))))))
 {
 intro h a
 refine ww (mi z (nt (wp_ret (aI ?_))))
 cases a
 exact aU [I6 1] results131 (rc z ah) ⟨z,b.bQ⟩
}
 {
 intro h a
 refine wp_skip (tn (wp_seq (ww (mi z (mi z (mb z (nt (bw a z ?_ ?_))))))))
 {
 intro i a
 refine ww (mi z (nt (wp_ret (aI ?_))))
 cases a
 exact aU [I6 ((-1):Int)] results131 (rc z ah) ⟨z,b.bQ⟩
}
 {
 intro i a
 refine wp_skip (tn (wp_seq (ww (mi z (mi z (mb z (nt (bw a z ?_ ?_))))))))
 {
 intro j a
 refine ww (mi z (nt (wp_ret (aI ?_))))
 cases a
 exact aU [I6 1] results131 (rc z ah) ⟨z,b.bQ⟩
}
 {
 intro j a
 refine wp_skip (tn (ww (mi z (nt (wp_ret ?_)))))
 cases a
 exact aU [Zi] results131 (rc z ah) ⟨z,b.bQ⟩
}
}
}
}
}
theorem sm {a0:(List Int)} {d:Value} (f:Rd (cg .i64) R I d a0) (c:St w0 w I [] R) {r:(Int)} (b:nX a0=some r) :
  Calls prog 130 #[d] w fun e w'=>e = .returned (.int .i64 r)∧St w0 w' I [] R:=by {
 unfold nX at b
 refine c0 func130 z ntmps130 (ww (mi z (nt (ww (mi z (nt (wp_seq (ww (mv (d) z (mz (bW z underlying276 (au f)) (mi z (nt (wp_block ?_)))))))))))))
 obtain ⟨i,b⟩:=aS b
 refine bf (fun n a w=>∃ (g:Int),cP (lu a0) n g=some r∧fz 18 [3,6,7,8] [I6 0,d,I6 ((a0).length:Int),I6 g] a∧St w0 w I [] R) i ⟨0,b,fy z,c⟩ ?_
 rintro s _ t ⟨g,b,⟨u,rfl⟩,c⟩
 obtain ⟨v,x,rfl,b,h⟩:=aV b
 dsimp only [lu] at b
 refine ww (mb z (nt (wp_seq (bw b z ?_ ?_))))
 {
 intro j b
 refine wp_skip (tn (wp_seq (wp_block (ww ?_))))
 obtain ⟨k,l,b⟩:=bn b
 obtain ⟨m,o,p⟩:=aK l
 refine mz (az z z underlying276 sizeOf3 (au f) m o) (ml z isAgg3 (dR f lr c p (by rintro _ rfl; rfl)) (mi z (nt (ww (mi z (mi z (mb z (nt (bw b z ?_ ?_)))))))))
 {
 intro q b
 refine ww (mi z (mi z (nt (wp_ret (dj (aI (aI ?_)))))))
 replace b:=bg b h
 refine dj (aI ?_)
 obtain rfl:=sj b
 exact aU [I6 k] results130 (rc z ah) ⟨z,c.bQ⟩
}
 {
 intro q b
 refine wp_skip (bB (tn (wrl (mi z (mi z (nt ?_))))))
 cases b
 exact ⟨_,nls,_,h,fy z,c.bQ⟩
}
}
 {
 intro j b
 refine wp_exit (aQ (aQ ?_))
 replace b:=bg b h
 refine cZ (tn (ww (mi z (mi z (nt (wp_ret ?_))))))
 cases b
 exact aU [Zi] results130 (rc z ah) ⟨z,c.bQ⟩
}
}
theorem pY {a0:al} {c d f g:Value} {a1:bK} (A:Rd bV R I c a0.Gets) (B:Rd gn R I d a0.Scans) (C:Rd bV R I f a0.Puts) (D:Rd (cg .u8) R I g a0.Data) (a:St w0 w I [] R) {r:(Int)} (b:ld a0 a1=some r) :
  Calls prog 160 #[.agg #[U6 a0.ID.Session,U6 a0.ID.Seq,U6 a0.Epoch,c,d,f,g],.agg #[U6 a1.Session,U6 a1.Seq]] w fun e w'=>e = .returned (.int .i64 r)∧St w0 w' I [] R:=by {
 unfold ld at b
 refine c0 func160 z ntmps160 (ww ?_)
 obtain ⟨F,G,l,m,a⟩:=a.box [U6 a0.ID.Session,U6 a0.ID.Seq,U6 a0.Epoch,c,d,f,g] 46
 refine wa l m ?_
 obtain ⟨H,J,n,o,a⟩:=a.box [U6 a1.Session,U6 a1.Seq] 28
 refine wa n o (mi z (nt (wp_seq (rg a 15 [0,1,3,0,8,31,0,64,192,0,512,2047,4095,8191,16383] [] mixed (sf 0 z z underlying46 z sizeOf28 (sf 1 z z underlying28 z sizeOf26 (sl 2 z z isAgg26 (fun w a=>a.bc1 z) (sf 3 z z underlying28 z sizeOf26 (sl 4 z z isAgg26 (fun w a=>a.bc0 z) (sf 6 z z underlying46 z sizeOf28 (sf 7 z z underlying28 z sizeOf26 (sl 8 z z isAgg26 (fun w a=>a.bc1 z) (sf 9 z z underlying28 z sizeOf26 (sl 10 z z isAgg26 (fun w a=>a.bc0 z) (e1 5 z z fun w a=>?_)))))))))))))))
 obtain ⟨h,p,b⟩:=bn b
 refine wec call131 [U6 a0.ID.Session,U6 a1.Session] z z (kca (eX a.to0 p) fun K a=>?_)
 replace a:=a.of0
 refine wn [10,9,8,7,6] a (pkr z z (fun w a=>ao z isAgg26 (a.bc0 z)) (pf z z underlying28 z sizeOf26 (pkr z z (fun w a=>ao z isAgg26 (a.bc1 z)) (pf z z underlying28 z sizeOf26 (pf z z underlying46 z sizeOf28 bu))))) (e1 11 z z fun w a=>?_)
 obtain ⟨i,q,b⟩:=bn b
 refine wec call131 [U6 a0.ID.Seq,U6 a1.Seq] z z (kca (eX a.to0 q) fun L a=>?_)
 replace a:=a.of0
 refine w0n a (e1 12 z z fun w a=>?_)
 obtain ⟨j,s,t,u,a⟩:=a.er (E:=(cg .i64)) (xs:=[h,i]) [[I6 h],[I6 i]] 3 2 z (bz.cons z (bz.cons z bz.nil))
 refine bS (v:=(.slice (some ⟨j,0,none⟩) 2 2)) (w':=s) z (di (by kernel_rfl) t u) (w0n a (e1 13 z z fun w a=>?_))
 obtain ⟨M,k,a⟩:=a.cx
 obtain ⟨x,y,b⟩:=bn b
 refine wec call130 [(.slice (some ⟨j,0,none⟩) 2 2)] z z (kca (sm (a.nf k) a.to0 y) fun N a=>?_)
 replace a:=a.of0.ba k
 refine w0n a (si 14 z z (bi ?_))
 intro w a
 refine tn (wp_ret ?_)
 obtain rfl:=sj b
 exact aU [I6 x] results160 (rc z ah) ⟨z,a.bQ⟩
}
theorem lV {a0:(Option bZ)} {p0:Value} {a1:bK} (b:St w0 w I [cE bP p0 a0] R) {r:(Int×Bool)} (c:fG a0 a1=some r) :
  Calls prog 135 #[p0,.agg #[U6 a1.Session,U6 a1.Seq]] w fun e w'=>e = .returned (.tuple #[I6 r.1,.bool r.2])∧St w0 w' I [cE bP p0 a0] R:=by {
 rcases a0 with _ | g
 {
 dsimp only [fG] at c
 cases c
}
 {
 replace b:=bD b
 dsimp only [fG] at c
 refine c0 func135 z ntmps135 (ww ?_)
 obtain ⟨v,d0,L,M,b⟩:=b.box [U6 a1.Session,U6 a1.Seq] 28
 refine wa L M (mi z (mb z (nt (wp_seq (ww (mv (p0) z ?_))))))
 obtain ⟨p,f,rfl,N⟩:=dB b.ab
 have b:=N
 refine mk (.bool false) (nt (bT z (wp_skip (tn (wp_seq (rg b 10 [0,1,3,7,0,31,63,63,255,511] [] mixed (sp 0 z z (sp 1 z z (sf 2 z z underlying203 z sizeOf125 (sl 3 z z isAgg125 (fun w b=>b.bc0 z) (sh _ 4 z (fun w b=>av (cs:=[U6 a1.Session,U6 a1.Seq]) z isAgg28 sizeOf28 (b.pQ 0 z)) (e1 5 z z fun w b=>?_))))))))))))
 obtain ⟨A,O,c⟩:=bn c
 refine ox z (dE call193 (caps:=[]) z (vs:=[f,.agg #[U6 a1.Session,U6 a1.Seq],.func (.func 160) #[] #[]]) z) (Calls.mono (show Calls prog 193 #[f,.agg #[U6 a1.Session,U6 a1.Seq],.func (.func 160) #[] #[]] _ (fun e w'=>∃ (q:Int) (s:Bool),(q,s)=A∧e = .returned (.tuple #[I6 q,.bool s])∧St w0 w' I [cells p [f],aZ bm f g.l,cells v [U6 a1.Session,U6 a1.Seq]] R) from ?_) ?_)
 {
 clear c; have c:=O
 refine c0 func193 z ntmps193 (ww ?_)
 obtain ⟨t,d1,P,Q,b⟩:=b.box [U6 a1.Session,U6 a1.Seq] 28
 refine wa P Q (mi z (mb z (nt (ww (mv (f) z (mz (bW z underlying125 b.sv2) (mi z (nt (ww (mi z (mi z (mi z (nt ?_)))))))))))))
 obtain ⟨S,c,T⟩:=bn c
 refine cQ (fun a w=>∃ (h:Int),(jY g a1) h=some A∧fz 49 [0,2,4,8,9] [f,.func (.func 160) #[] #[],Pt t 0,I6 ((g.l).length:Int),I6 h] a∧St w0 w I [aZ bm f g.l,cells t [U6 a1.Session,U6 a1.Seq],cells p [f],cells v [U6 a1.Session,U6 a1.Seq]] R) ?_ ?_
 {
 refine wp_block ?_
 obtain ⟨U,c⟩:=aS c
 refine bf (fun n a w=>∃ (j:Int) (i:Int),cP (gh g a1) n (j,i)=some S∧fz 49 [0,2,4,8,9,10] [f,.func (.func 160) #[] #[],Pt t 0,I6 ((g.l).length:Int),I6 i,I6 j] a∧St w0 w I [cells t [U6 a1.Session,U6 a1.Seq],cells p [f],aZ bm f g.l,cells v [U6 a1.Session,U6 a1.Seq]] R) U ⟨((g.l).length:Int),0,c,fy z,b⟩ ?_
 rintro d2 _ d3 ⟨j,i,c,⟨d4,rfl⟩,b⟩
 obtain ⟨d5,d6,rfl,c,x⟩:=aV c
 dsimp only [gh] at c
 refine wp_seq (ww (mi z (mi z (mb z (nt (bw c z ?_ ?_))))))
 {
 intro V c
 refine wp_skip (tn (wp_block (ww (mi z (mi z (mi z (mk (.int .u64 (u64.wrap (i64.wrap (i+j)))) (mi (tP (by decide) z z) (mk (.int .i64 (i64.wrap (iI .u64 (u64.wrap (i64.wrap (i+j))) 1))) (mi z (nt (wp_seq ?_))))))))))))
 replace b:=b.ay
 obtain ⟨d7,y,b⟩:=b.cx
 refine rg b 8 [0,0,0,6,14,0,63,127] [] mixed (sz (.func (.func 160) #[] #[]) 0 z z (sz (f) 1 z z (si 2 z z ?_)))
 obtain ⟨k,W,c⟩:=bn c
 obtain ⟨X,Y,Z⟩:=aK W
 refine sh _ 3 z (fun w b=>az z z underlying125 sizeOf46 (b.rsv 0 z y) X Y) ?_
 obtain ⟨d8,b0,b1⟩:=bz.get y Z
 obtain ⟨B,C,D,E,rfl,b2,b3,b4,b5,-⟩:=b1
 refine sh _ 4 z (fun w b=>av (cs:=[U6 k.ID.Session,U6 k.ID.Seq,U6 k.Epoch,B,C,D,E]) z isAgg46 sizeOf46 (dO (o:=0) (b.uJ 0 z b0) z)) (sh _ 5 z (fun w b=>av (cs:=[U6 a1.Session,U6 a1.Seq]) z isAgg28 sizeOf28 (b.eI 0 z)) (e1 6 z z fun w b=>?_))
 obtain ⟨d9,b6,c⟩:=bn c
 refine ox z (dE call160 (caps:=[]) z (vs:=[.agg #[U6 k.ID.Session,U6 k.ID.Seq,U6 k.Epoch,B,C,D,E],.agg #[U6 a1.Session,U6 a1.Seq]]) z) (kca (pY (b2.mono cz) (b3.mono cz) (b4.mono cz) (b5.mono cz) b.to0 b6) fun e0 b=>?_)
 replace b:=b.of0
 refine w0n b (sb 7 z z (bi ?_))
 intro w b
 replace b:=b.ba y
 refine tn (bw c z ?_ ?_)
 {
 intro b7 c
 refine wrl (mi z (mi z (mi z (dk (bB (tn ?_))))))
 cases c
 exact ⟨_,nls,j,_,x,fy z,b.ap.ab.ap.ap.eF⟩
}
 {
 intro b7 c
 refine wrl (mi z (mi z (dk (bB (tn ?_)))))
 cases c
 exact ⟨_,nls,_,i,x,fy z,b.ap.ab.ap.ap.eF⟩
}
}
 {
 intro V c
 refine wp_exit (aQ (aQ ?_))
 replace c:=bg c x
 refine cZ (tn ?_)
 obtain rfl:=sj c
 exact ⟨i,T,fy z,b.ap.ay.ay.ap.eF⟩
}
}
 {
 rintro _ e2 ⟨h,c,⟨e3,rfl⟩,b⟩
 dsimp only [jY] at c
 refine wp_seq ?_
 obtain ⟨e4,u,b⟩:=b.cx
 refine rg b 16 [0,0,0,6,14,30,30,30,222,478,30,2046,4094,8190,4095,32767] [] mixed (si 0 z z (si 1 z z (si 2 z z (sb 3 z z (sb 4 z z (bs c ?_ ?_))))))
 {
 intro d c
 refine sgz (.func (.func 160) #[] #[]) 5 z d z (sgz f 6 z d z (sgz (I6 _) 7 z d z ?_))
 obtain ⟨m,b8,c⟩:=bn c
 obtain ⟨b9,c1,c2⟩:=aK b8
 refine sg _ 8 z d (fun w b=>az z z underlying125 sizeOf46 (b.rsv 0 z u) b9 c1) ?_
 obtain ⟨e5,c3,c4⟩:=bz.get u c2
 obtain ⟨F,G,H,J,rfl,c5,c6,c7,c8,-⟩:=c4
 refine sg _ 9 z d (fun w b=>av (cs:=[U6 m.ID.Session,U6 m.ID.Seq,U6 m.Epoch,F,G,H,J]) z isAgg46 sizeOf46 (dO (o:=0) (b.uJ 0 z c3) z)) (sg _ 10 z d (fun w b=>av (cs:=[U6 a1.Session,U6 a1.Seq]) z isAgg28 sizeOf28 (b.eI 0 z)) (ia 11 (by kernel_rfl) (nxe [12,13,14,15] (by kernel_rfl) z ((ar z z z (cvb d)).trans z) ?_)))
 clear b
 intro w b
 obtain ⟨K,c9,c⟩:=bn c
 refine ox z (dE call160 (caps:=[]) z (vs:=[.agg #[U6 m.ID.Session,U6 m.ID.Seq,U6 m.Epoch,F,G,H,J],.agg #[U6 a1.Session,U6 a1.Seq]]) z) (kca (pY (c5.mono cz) (c6.mono cz) (c7.mono cz) (c8.mono cz) b.to0 c9) fun e6 b=>?_)
 replace b:=b.of0
 refine wn [0] b (pz bu) (sgz (.bool _) 12 z d z (sh (.bool _) 13 z (fun w b=>aM d z z) (si 14 z z (sb 15 z z (bi ?_)))))
 intro w b
 replace b:=b.ba u
 refine tn (wp_ret (aU [I6 h,.bool (K==0)] results193 (rc z (rc z ah)) ?_))
 cases c
 exact ⟨h,(K==0),z,z,b.ap.ab.ap.dC⟩
}
 {
 intro d c
 refine so 5 z d (so 6 z d (so 7 z d (so 8 z d (so 9 z d (so 10 z d (so 11 z d (so 12 z d (sh (.bool _) 13 z (fun w b=>aE d z z) (si 14 z z (sb 15 z z (bi ?_)))))))))))
 intro w b
 replace b:=b.ba u
 refine tn (wp_ret (aU [I6 h,.bool false] results193 (rc z (rc z ah)) ?_))
 cases c
 exact ⟨h,false,z,z,b.ap.ab.ap.dC⟩
}
}
}
 rintro _ e7 ⟨q,s,rfl,rfl,b⟩
 refine ⟨_,z,?_⟩
 try dsimp only at c
 refine w0n b (si 6 z z (sb 7 z z (si 8 z z (sb 9 z z (bi ?_)))))
 intro w b
 refine tn (wp_ret ?_)
 cases c
 exact aU [I6 q,.bool s] results135 (rc z (rc z ah)) ⟨z,(aJ (dl (Pt p 0) g b.ab.ab z)).bo⟩
}
}
theorem mA {a0:(Option bZ)} {p0:Value} {a1:bK} (a:St w0 w I [cE bP p0 a0] R) {r:(al×Bool)} (b:gy a0 a1=some r) :
  Calls prog 56 #[p0,.agg #[U6 a1.Session,U6 a1.Seq]] w fun e w'=>∃ (I':HL) (i:Value) (j:Value) (k:Value) (l:Value),e = .returned (.tuple #[.agg #[U6 r.1.ID.Session,U6 r.1.ID.Seq,U6 r.1.Epoch,i,j,k,l],.bool r.2])∧I.le I'∧Ro bV I' i r.1.Gets∧Ro gn I' j r.1.Scans∧Ro bV I' k r.1.Puts∧Ro (cg .u8) I' l r.1.Data∧St w0 w' I' [cE bP p0 a0] R:=by {
 rcases a0 with _ | u
 {
 dsimp only [gy] at b
 cases b
}
 {
 replace a:=bD a
 dsimp only [gy] at b
 refine c0 func56 z ntmps56 ?_
 have m:=HL.le.refl I
 refine ww ?_
 obtain ⟨Q,S,v,x,a⟩:=a.box [U6 a1.Session,U6 a1.Seq] 28
 refine wa v x ?_
 obtain ⟨T,U,y,A,a⟩:=a.box [Zu,Zu,Zu,Zs,Zs,Zs,Zs] 46
 refine wa y A (mb z (nt (ww (mv (p0) z (mz (av (cs:=[U6 a1.Session,U6 a1.Seq]) z isAgg28 sizeOf28 (a.eI 0 z)) ?_)))))
 replace a:=aJ a.ay
 obtain ⟨n,B,b⟩:=bn b
 refine wc call135 [p0,.agg #[U6 a1.Session,U6 a1.Seq]] z z z (kca (lV a.to1 B) fun V a=>?_)
 replace a:=bD a.of1
 refine mv (.tuple #[I6 n.1,.bool n.2]) z (mi z (mb z (mi z (mb z (nt (wp_seq (ww (mb z (mb z (nt (bw b z ?_ ?_)))))))))))
 {
 intro C b
 refine ww (mk (.agg #[Zu,Zu,Zu,Zs,Zs,Zs,Zs]) ?_)
 replace a:=a.ab
 refine bxk a z sizeOf46 (oJ 7 z oN) fun W a=>mb z (nt (wp_ret (aI ?_)))
 have D:Ro bV I (.slice none 0 0) []:=cv
 have E:Ro gn I (.slice none 0 0) []:=cv
 have F:Ro bV I (.slice none 0 0) []:=cv
 have G:Ro (cg .u8) I (.slice none 0 0) []:=cv
 replace a:=aJ a.ab
 cases b
 exact aU [.agg #[Zu,Zu,Zu,Zs,Zs,Zs,Zs],.bool false] results56 (bj (bF (cs:=[Zu,Zu,Zu,Zs,Zs,Zs,Zs]) z isAgg46 sizeOf46 (a.eI 0 z)) (rc z ah)) ⟨_,Zs,Zs,Zs,Zs,z,m,D,E,F,G,a.bo⟩
}
 {
 intro C b
 refine wp_skip (tn (ww (mv (p0) z ?_)))
 obtain ⟨H,X,rfl,J⟩:=dB a
 have a:=J
 refine mp z (mf z underlying203 z sizeOf125 (ml z isAgg125 (a.bc0 z) (mi z ?_)))
 obtain ⟨c,K,b⟩:=bn b
 obtain ⟨L,M,N⟩:=aK K
 refine mz (az z z underlying125 sizeOf46 a.sv1 L M) ?_
 obtain ⟨Y,O,P⟩:=a.og1 N
 obtain ⟨d,f,g,h,rfl,p,q,s,t,-⟩:=O
 refine mz (av (cs:=[U6 c.ID.Session,U6 c.ID.Seq,U6 c.Epoch,d,f,g,h]) z isAgg46 sizeOf46 (dO (o:=0) P z)) ?_
 replace a:=a.ay
 refine bxk a z sizeOf46 (oJ 3 z (oC (oS (ag p)) (oC (oS (ag q)) (oC (oS (ag s)) (oC (oS (ag t)) oN))))) fun Z a=>mb z (nt (wp_ret ?_))
 replace a:=aJ (dl (Pt H 0) u a.ay.ay z)
 cases b
 exact aU [.agg #[U6 c.ID.Session,U6 c.ID.Seq,U6 c.Epoch,d,f,g,h],.bool true] results56 (bj (bF (cs:=[U6 c.ID.Session,U6 c.ID.Seq,U6 c.Epoch,d,f,g,h]) z isAgg46 sizeOf46 (a.eI 0 z)) (rc z ah)) ⟨_,d,f,g,h,z,m,p,q,s,t,a.bo⟩
}
}
}
theorem vf {a0:Nat} (b:St w0 w I [] R) {r:(Bool)} (a:pK a0=some r) :
  Calls prog 177 #[F6 a0] w fun e w'=>e = .returned (.bool r)∧St w0 w' I [] R:=by {
 unfold pK at a
 refine c0 func177 z ntmps177 (ww (mb z (nt (ww (mv (F6 _) z (mv (F6 _) z (mb z (mb z (nt (wp_ret ?_))))))))))
 cases a
 exact aU [.bool (fNe a0 a0)] results177 (rc z ah) ⟨z,b.bQ⟩
}
theorem ez {a0:Nat} (b:St w0 w I [] R) {r:(Int)} (a:eN a0=some r) :
  Calls prog 118 #[F6 a0] w fun e w'=>e = .returned (.int .u64 r)∧St w0 w' I [] R:=by {
 unfold eN at a
 refine c0 func118 z ntmps118 (ww (mi z (nt (wp_seq (ww (mv (F6 _) z ?_))))))
 obtain ⟨g,c,a⟩:=bn a
 refine wc call177 [F6 a0] z z z (kca (vf b.to0 c) fun h b=>?_)
 replace b:=b.of0
 refine nt (bw a z ?_ ?_)
 {
 intro d a
 refine ww (mi z (nt (wp_ret (aI ?_))))
 cases a
 exact aU [U6 18446744073709551615] results118 (rc z ah) ⟨z,b.bQ⟩
}
 {
 intro d a
 refine wp_skip (tn (ww (mv (F6 _) z (mk (.int .u64 (Int.ofNat a0)) (mi z (nt (wp_seq (ww (mi z (mi (tP (by decide) z z) (mb z (nt (bw a z ?_ ?_)))))))))))))
 {
 intro f a
 refine ww (mi z (mk (.int .u64 (xz .u64 ((18446744073709551615):Int) (Int.ofNat a0))) (mi z (nt (wp_ret (aI ?_))))))
 cases a
 exact aU [U6 (xz .u64 ((18446744073709551615):Int) (Int.ofNat a0))] results118 (rc z ah) ⟨z,b.bQ⟩
}
 {
 intro f a
 refine wp_skip (tn (ww (mi z (mi z (mi z (nt (wp_ret ?_)))))))
 cases a
 exact aU [U6 (bOr .u64 (Int.ofNat a0) 9223372036854775808)] results118 (rc z ah) ⟨z,b.bQ⟩
}
}
}
theorem kZ {a0 a1:Nat} (a:St w0 w I [] R) {r:(Bool)} (b:iN a0 a1=some r) :
  Calls prog 137 #[F6 a0,F6 a1] w fun e w'=>e = .returned (.bool r)∧St w0 w' I [] R:=by {
 unfold iN at b
 refine c0 func137 z ntmps137 (ww (mb z (nt (ww (mv (F6 _) z ?_)))))
 obtain ⟨c,d,b⟩:=bn b
 refine wc call118 [F6 a0] z z z (kca (ez a.to0 d) fun h a=>?_)
 replace a:=a.of0
 refine mv (F6 _) z ?_
 obtain ⟨f,g,b⟩:=bn b
 refine wc call118 [F6 a1] z z z (kca (ez a.to0 g) fun i a=>?_)
 replace a:=a.of0
 refine mb z (mb z (nt (wp_ret ?_)))
 cases b
 exact aU [.bool (c==f)] results137 (rc z ah) ⟨z,a.bQ⟩
}
theorem uA {a0 a1:(Nat×Nat)} (a:St w0 w I [] R) {r:(Bool)} (c:nu a0 a1=some r) :
  Calls prog 136 #[.agg #[F6 a0.1,F6 a0.2],.agg #[F6 a1.1,F6 a1.2]] w fun e w'=>e = .returned (.bool r)∧St w0 w' I [] R:=by {
 unfold nu at c
 refine c0 func136 z ntmps136 (ww ?_)
 obtain ⟨m,n,d,f,a⟩:=a.box [F6 a0.1,F6 a0.2] 80
 refine wa d f ?_
 obtain ⟨o,p,g,h,a⟩:=a.box [F6 a1.1,F6 a1.2] 80
 refine wa g h (mb z (nt (ww (mp (kx (i:=0) z z underlying80 sizeOf37 (by decide) (by decide)) (ml z isAgg37 (a.bc1 z) (mp (kx (i:=0) z z underlying80 sizeOf37 (by decide) (by decide)) (ml z isAgg37 (a.bc0 z) ?_)))))))
 obtain ⟨q,j,c⟩:=bn c
 refine wc call137 [F6 a0.1,F6 a1.1] z z z (kca (kZ a.to0 j) fun s a=>?_)
 replace a:=a.of0
 refine mb z (bs c ?_ ?_)
 {
 intro b c
 refine gp b (kx (i:=1) z z underlying80 sizeOf37 (by decide) (by decide)) (gg b (ao z isAgg37 (a.bc1 z)) (gp b (kx (i:=1) z z underlying80 sizeOf37 (by decide) (by decide)) (gg b (ao z isAgg37 (a.bc0 z)) ?_)))
 obtain ⟨k,l,c⟩:=bn c
 refine de ((ar z z z (cvb b)).trans z) z (js call137 z (vs:=[F6 a0.2,F6 a1.2]) z) (kca (kZ a.to0 l) fun t a=>?_)
 replace a:=a.of0
 refine mb (aM b z z) (mb z (nt (wp_ret ?_)))
 obtain rfl:=sj c
 exact aU [.bool k] results136 (rc z ah) ⟨z,a.bQ⟩
}
 {
 intro b c
 refine go b (go b (go b (go b (go b (mb (aE b z z) (mb z (nt (wp_ret ?_))))))))
 cases c
 exact aU [.bool false] results136 (rc z ah) ⟨z,a.bQ⟩
}
}
theorem pB {a0:(List Int)} {d:Value} {a1:(List Int)} {f:Value} (g:Rd (cg .u8) R I d a0) (h:Rd (cg .u8) R I f a1) (c:St w0 w I [] R) {r:(Bool)} (b:eW a0 a1=some r) :
  Calls prog 110 #[d,f] w fun e w'=>e = .returned (.bool r)∧St w0 w' I [] R:=by {
 unfold eW at b
 refine c0 func110 z ntmps110 (ww (mb z (nt (wp_seq (ww (mv (d) z (mz (bW z underlying22 (au g)) (mv (f) z (mz (bW z underlying22 (au h)) (mb z (nt (bw b z ?_ ?_))))))))))))
 {
 intro k b
 refine ww (mb z (nt (wp_ret (aI ?_))))
 cases b
 exact aU [.bool false] results110 (rc z ah) ⟨z,c.bQ⟩
}
 {
 intro k b
 refine wp_skip (tn (wp_seq (ww (mv (d) z (mz (bW z underlying22 (au g)) (mi z (nt (wp_block ?_))))))))
 obtain ⟨l,b⟩:=aS b
 refine bf (fun n a w=>∃ (i:Int),cP (eZ a0 a1) n i=some r∧fz 26 [0,1,12,13] [d,f,I6 ((a0).length:Int),I6 i] a∧St w0 w I [] R) l ⟨0,b,fy z,c⟩ ?_
 rintro A _ B ⟨i,b,⟨C,rfl⟩,c⟩
 obtain ⟨D,E,rfl,b,j⟩:=aV b
 dsimp only [eZ] at b
 refine ww (mb z (nt (wp_seq (bw b z ?_ ?_))))
 {
 intro m b
 refine wp_skip (tn (wp_seq (wp_block (ww (mi z (mi z (nt (wp_seq (dL c mixed (by kernel_rfl) (qz d z (qz (I6 _) z ?_)))))))))))
 obtain ⟨F,o,b⟩:=bn b
 obtain ⟨p,q,s⟩:=aK o
 refine qh _ (fun w c=>az z z underlying22 sizeOf5 (au g) p q) (qh _ (fun w c=>ao z isAgg5 (dR g lr c s (by rintro _ rfl; rfl))) (qz f z (qz (I6 _) z ?_)))
 obtain ⟨G,t,b⟩:=bn b
 obtain ⟨u,v,x⟩:=aK t
 refine qh _ (fun w c=>az z z underlying22 sizeOf5 (au h) u v) (qh _ (fun w c=>ao z isAgg5 (dR h lr c x (by rintro _ rfl; rfl))) (qz (.bool _) z (fK ?_)))
 intro w c
 refine tn (bw b z ?_ ?_)
 {
 intro y b
 refine ww (mb z (nt (wp_ret (dj (aI (aI ?_))))))
 replace b:=bg b j
 refine dj (aI ?_)
 cases b
 exact aU [.bool false] results110 (rc z ah) ⟨z,c.bQ⟩
}
 {
 intro y b
 refine wp_skip (bB (tn (wrl (mi z (mi z (nt ?_))))))
 cases b
 exact ⟨_,nls,_,j,fy z,c.bQ⟩
}
}
 {
 intro m b
 refine wp_exit (aQ (aQ ?_))
 replace b:=bg b j
 refine cZ (tn (ww (mb z (nt (wp_ret ?_)))))
 cases b
 exact aU [.bool true] results110 (rc z ah) ⟨z,c.bQ⟩
}
}
}
theorem we {a0:al} {f g h q:Value} {a1:al} {i j k s:Value} (y:Rd bV R I f a0.Gets) (A:Rd gn R I g a0.Scans) (B:Rd bV R I h a0.Puts) (T:Rd (cg .u8) R I q a0.Data) (C:Rd bV R I i a1.Gets) (D:Rd gn R I j a1.Scans) (E:Rd bV R I k a1.Puts) (U:Rd (cg .u8) R I s a1.Data) (c:St w0 w I [] R) {r:(Bool)} (b:nY a0 a1=some r) :
  Calls prog 57 #[.agg #[U6 a0.ID.Session,U6 a0.ID.Seq,U6 a0.Epoch,f,g,h,q],.agg #[U6 a1.ID.Session,U6 a1.ID.Seq,U6 a1.Epoch,i,j,k,s]] w fun e w'=>e = .returned (.bool r)∧St w0 w' I [] R:=by {
 unfold nY at b
 refine c0 func57 z ntmps57 (ww ?_)
 obtain ⟨t,g2,V,W,c⟩:=c.box [U6 a0.ID.Session,U6 a0.ID.Seq,U6 a0.Epoch,f,g,h,q] 46
 refine wa V W ?_
 obtain ⟨u,g3,X,Y,c⟩:=c.box [U6 a1.ID.Session,U6 a1.ID.Seq,U6 a1.Epoch,i,j,k,s] 46
 refine wa X Y (mb z (nt (ww (mv (.func (.func 136) #[] #[]) z (nt (ww (mf z underlying46 z sizeOf28 (mz (av (cs:=[U6 a0.ID.Session,U6 a0.ID.Seq]) z isAgg28 sizeOf28 (c.eI 0 z)) (mf z underlying46 z sizeOf28 (mz (av (cs:=[U6 a1.ID.Session,U6 a1.ID.Seq]) z isAgg28 sizeOf28 (c.eD 0 z)) (mb (tQ z z (by kernel_rfl) underlying28 (by kernel_rfl) (by kernel_rfl) (by kernel_rfl) underlying26 underlying26 (fun _ _ _=>by kernel_rfl) (fun _ _ _=>by kernel_rfl)) (mb z (bs b ?_ ?_)))))))))))))
 {
 intro l b
 refine gg l (aO z underlying46 z sizeOf26 z) (gg l (ao z isAgg26 (c.bc1 z)) (gg l (aO z underlying46 z sizeOf26 z) (gg l (ao z isAgg26 (c.bc0 z)) (gb l z (mb (aM l z z) (mb z (bs b ?_ ?_)))))))
 {
 intro m b
 refine gg m (aO z underlying46 z sizeOf43 z) (gg m (ao z isAgg43 (c.bc1 z)) (gg m (aO z underlying46 z sizeOf43 z) (gg m (ao z isAgg43 (c.bc0 z)) ?_)))
 obtain ⟨P,Z,b⟩:=bn b
 refine de ((ar z z z (cvb m)).trans z) z (dE call138 (caps:=[]) z (vs:=[f,i,.func (.func 137) #[] #[]]) z) (Calls.mono (show Calls prog 138 #[f,i,.func (.func 137) #[] #[]] _ (fun e w'=>∃ (F:Bool),F=P∧e = .returned (.bool F)∧St w0 w' I [cells t [U6 a0.ID.Session,U6 a0.ID.Seq,U6 a0.Epoch,f,g,h,q],cells u [U6 a1.ID.Session,U6 a1.ID.Seq,U6 a1.Epoch,i,j,k,s]] R) from ?_) ?_)
 {
 clear b; have b:=Z
 refine c0 func138 z ntmps138 (ww (mb z (nt (wp_seq (ww (mv (f) z (mz (bW z underlying43 (au y)) (mv (i) z (mz (bW z underlying43 (au C)) (mb z (nt (bw b z ?_ ?_))))))))))))
 {
 intro b0 b
 refine ww (mb z (nt (wp_ret (aI (aU [.bool false] results138 (rc z ah) ?_)))))
 cases b
 exact ⟨false,z,z,c.ab.cd⟩
}
 {
 intro b0 b
 refine wp_skip (tn (wp_seq (ww (mv (f) z (mz (bW z underlying43 (au y)) (mi z (nt (wp_block ?_))))))))
 obtain ⟨b1,b⟩:=aS b
 refine bf (fun n a w=>∃ (G:Int),cP (jT a0 a1) n G=some P∧fz 32 [1,2,15,16,17] [i,.func (.func 137) #[] #[],f,I6 ((a0.Gets).length:Int),I6 G] a∧St w0 w I [cells u [U6 a1.ID.Session,U6 a1.ID.Seq,U6 a1.Epoch,i,j,k,s],cells t [U6 a0.ID.Session,U6 a0.ID.Seq,U6 a0.Epoch,f,g,h,q]] R) b1 ⟨0,b,fy z,c⟩ ?_
 rintro g4 _ g5 ⟨G,b,⟨g6,rfl⟩,c⟩
 obtain ⟨g7,g8,rfl,b,H⟩:=aV b
 dsimp only [jT] at b
 refine ww (mb z (nt (wp_seq (bw b z ?_ ?_))))
 {
 intro b2 b
 refine wp_skip (tn (wp_seq (wp_block (ww (mi z ?_)))))
 obtain ⟨b3,b4,b⟩:=bn b
 obtain ⟨b5,b6,b7⟩:=aK b4
 refine mz (az z z underlying43 sizeOf37 (au y) b5 b6) (ml z isAgg37 (dR y lr c b7 (by rintro _ rfl; rfl)) (mi z (mv (F6 _) z (nt (ww (mv (i) z (mi z ?_)))))))
 obtain ⟨b8,b9,b⟩:=bn b
 obtain ⟨c1,c2,c3⟩:=aK b9
 refine mz (az z z underlying43 sizeOf37 (au C) c1 c2) (ml z isAgg37 (dR C lr c c3 (by rintro _ rfl; rfl)) (mv (F6 _) z (nt (ww (mv (.func (.func 137) #[] #[]) z (mv (F6 _) z (mv (F6 _) z ?_)))))))
 obtain ⟨g9,c4,b⟩:=bn b
 refine de z z (dE call137 (caps:=[]) z (vs:=[F6 b3,F6 b8]) z) (kca (kZ c.to0 c4) fun h0 c=>?_)
 replace c:=c.of0
 refine mb z (nt (bw b z ?_ ?_))
 {
 intro c5 b
 refine ww (mb z (nt (wp_ret (dj (aI (aI ?_))))))
 replace b:=bg b H
 refine dj (aI (aU [.bool false] results138 (rc z ah) ?_))
 cases b
 exact ⟨false,z,z,c.ab.cd⟩
}
 {
 intro c5 b
 refine wp_skip (bB (tn (wrl (mi z (mi z (nt ?_))))))
 cases b
 exact ⟨_,nls,_,H,fy z,c.ab.ab.cd⟩
}
}
 {
 intro b2 b
 refine wp_exit (aQ (aQ ?_))
 replace b:=bg b H
 refine cZ (tn (ww (mb z (nt (wp_ret (aU [.bool true] results138 (rc z ah) ?_))))))
 cases b
 exact ⟨true,z,z,c.ab.cd⟩
}
}
}
 rintro _ h1 ⟨F,rfl,rfl,c⟩
 refine ⟨_,z,?_⟩
 try dsimp only at b
 refine mb (aM m z z) (mb z (bs b ?_ ?_))
 {
 intro d b
 refine gg d (aO z underlying46 z sizeOf44 z) (gg d (ao z isAgg44 (c.bc0 z)) (gg d (aO z underlying46 z sizeOf44 z) (gg d (ao z isAgg44 (c.bc1 z)) (gv (.func (.func 136) #[] #[]) d z ?_))))
 obtain ⟨Q,c6,b⟩:=bn b
 refine de ((ar z z z (cvb d)).trans z) z (dE call139 (caps:=[]) z (vs:=[g,j,.func (.func 136) #[] #[]]) z) (Calls.mono (show Calls prog 139 #[g,j,.func (.func 136) #[] #[]] _ (fun e w'=>∃ (J:Bool),J=Q∧e = .returned (.bool J)∧St w0 w' I [cells t [U6 a0.ID.Session,U6 a0.ID.Seq,U6 a0.Epoch,f,g,h,q],cells u [U6 a1.ID.Session,U6 a1.ID.Seq,U6 a1.Epoch,i,j,k,s]] R) from ?_) ?_)
 {
 clear b; have b:=c6
 refine c0 func139 z ntmps139 (ww (mb z (nt (wp_seq (ww (mv (g) z (mz (bW z underlying44 (au A)) (mv (j) z (mz (bW z underlying44 (au D)) (mb z (nt (bw b z ?_ ?_))))))))))))
 {
 intro c7 b
 refine ww (mb z (nt (wp_ret (aI (aU [.bool false] results139 (rc z ah) ?_)))))
 cases b
 exact ⟨false,z,z,c.ab.ab.cd⟩
}
 {
 intro c7 b
 refine wp_skip (tn (wp_seq (ww (mv (g) z (mz (bW z underlying44 (au A)) (mi z (nt (wp_block ?_))))))))
 obtain ⟨c8,b⟩:=aS b
 refine bf (fun n a w=>∃ (K:Int),cP (jP a0 a1) n K=some Q∧fz 32 [1,2,15,16,17] [j,.func (.func 136) #[] #[],g,I6 ((a0.Scans).length:Int),I6 K] a∧St w0 w I [cells t [U6 a0.ID.Session,U6 a0.ID.Seq,U6 a0.Epoch,f,g,h,q],cells u [U6 a1.ID.Session,U6 a1.ID.Seq,U6 a1.Epoch,i,j,k,s]] R) c8 ⟨0,b,fy z,c⟩ ?_
 rintro h2 _ h3 ⟨K,b,⟨h4,rfl⟩,c⟩
 obtain ⟨h5,h6,rfl,b,L⟩:=aV b
 dsimp only [jP] at b
 refine ww (mb z (nt (wp_seq (bw b z ?_ ?_))))
 {
 intro c9 b
 refine wp_skip (tn (wp_seq (wp_block (ww (mi z ?_)))))
 obtain ⟨v,d0,b⟩:=bn b
 obtain ⟨d1,d2,d3⟩:=aK d0
 refine mz (az z z underlying44 sizeOf80 (au A) d1 d2) (mz (av (cs:=[F6 v.1,F6 v.2]) z isAgg80 sizeOf80 (pH A lr c d3 0 (by rintro _ rfl; rfl))) ?_)
 obtain ⟨h7,h8,d4,d5,c⟩:=c.box [Zf,Zf] 80
 refine wa d4 d5 (mi z (bxk c z sizeOf80 (oC z (oC z oN)) fun h9 c=>nt (ww (mv (j) z (mi z ?_)))))
 obtain ⟨x,d6,b⟩:=bn b
 obtain ⟨d7,d8,d9⟩:=aK d6
 refine mz (az z z underlying44 sizeOf80 (au D) d7 d8) (mz (av (cs:=[F6 x.1,F6 x.2]) z isAgg80 sizeOf80 (pH D lr c d9 0 (by rintro _ rfl; rfl))) ?_)
 obtain ⟨i0,i1,e0,e1,c⟩:=c.box [Zf,Zf] 80
 refine wa e0 e1 (bxk c z sizeOf80 (oC z (oC z oN)) fun i2 c=>nt (ww (mv (.func (.func 136) #[] #[]) z (mz (av (cs:=[F6 v.1,F6 v.2]) z isAgg80 sizeOf80 (c.eI 0 z)) (mz (av (cs:=[F6 x.1,F6 x.2]) z isAgg80 sizeOf80 (c.eD 0 z)) ?_)))))
 obtain ⟨i3,e2,b⟩:=bn b
 refine de z z (dE call136 (caps:=[]) z (vs:=[.agg #[F6 v.1,F6 v.2],.agg #[F6 x.1,F6 x.2]]) z) (kca (uA c.to0 e2) fun i4 c=>?_)
 replace c:=c.of0
 refine mb z (nt (bw b z ?_ ?_))
 {
 intro e3 b
 refine ww (mb z (nt (wp_ret (dj (aI (aI ?_))))))
 replace b:=bg b L
 refine dj (aI (aU [.bool false] results139 (rc z ah) ?_))
 cases b
 exact ⟨false,z,z,c.ap.ap.cd⟩
}
 {
 intro e3 b
 refine wp_skip (bB (tn (wrl (mi z (mi z (nt ?_))))))
 cases b
 exact ⟨_,nls,_,L,fy z,c.ap.ap.cd⟩
}
}
 {
 intro c9 b
 refine wp_exit (aQ (aQ ?_))
 replace b:=bg b L
 refine cZ (tn (ww (mb z (nt (wp_ret (aU [.bool true] results139 (rc z ah) ?_))))))
 cases b
 exact ⟨true,z,z,c.ab.ab.cd⟩
}
}
}
 rintro _ i5 ⟨J,rfl,rfl,c⟩
 refine ⟨_,z,?_⟩
 try dsimp only at b
 refine mb (aM d z z) (mb z (bs b ?_ ?_))
 {
 intro o b
 refine gg o (aO z underlying46 z sizeOf43 z) (gg o (ao z isAgg43 (c.bc0 z)) (gg o (aO z underlying46 z sizeOf43 z) (gg o (ao z isAgg43 (c.bc1 z)) ?_)))
 obtain ⟨S,e4,b⟩:=bn b
 refine de ((ar z z z (cvb o)).trans z) z (dE call138 (caps:=[]) z (vs:=[h,k,.func (.func 137) #[] #[]]) z) (Calls.mono (show Calls prog 138 #[h,k,.func (.func 137) #[] #[]] _ (fun e w'=>∃ (M:Bool),M=S∧e = .returned (.bool M)∧St w0 w' I [cells t [U6 a0.ID.Session,U6 a0.ID.Seq,U6 a0.Epoch,f,g,h,q],cells u [U6 a1.ID.Session,U6 a1.ID.Seq,U6 a1.Epoch,i,j,k,s]] R) from ?_) ?_)
 {
 clear b; have b:=e4
 refine c0 func138 z ntmps138 (ww (mb z (nt (wp_seq (ww (mv (h) z (mz (bW z underlying43 (au B)) (mv (k) z (mz (bW z underlying43 (au E)) (mb z (nt (bw b z ?_ ?_))))))))))))
 {
 intro e5 b
 refine ww (mb z (nt (wp_ret (aI (aU [.bool false] results138 (rc z ah) ?_)))))
 cases b
 exact ⟨false,z,z,c.ab.ab.cd⟩
}
 {
 intro e5 b
 refine wp_skip (tn (wp_seq (ww (mv (h) z (mz (bW z underlying43 (au B)) (mi z (nt (wp_block ?_))))))))
 obtain ⟨e6,b⟩:=aS b
 refine bf (fun n a w=>∃ (N:Int),cP (jU a0 a1) n N=some S∧fz 32 [1,2,15,16,17] [k,.func (.func 137) #[] #[],h,I6 ((a0.Puts).length:Int),I6 N] a∧St w0 w I [cells t [U6 a0.ID.Session,U6 a0.ID.Seq,U6 a0.Epoch,f,g,h,q],cells u [U6 a1.ID.Session,U6 a1.ID.Seq,U6 a1.Epoch,i,j,k,s]] R) e6 ⟨0,b,fy z,c⟩ ?_
 rintro i6 _ i7 ⟨N,b,⟨i8,rfl⟩,c⟩
 obtain ⟨i9,j0,rfl,b,O⟩:=aV b
 dsimp only [jU] at b
 refine ww (mb z (nt (wp_seq (bw b z ?_ ?_))))
 {
 intro e7 b
 refine wp_skip (tn (wp_seq (wp_block (ww (mi z ?_)))))
 obtain ⟨e8,e9,b⟩:=bn b
 obtain ⟨f0,f1,f2⟩:=aK e9
 refine mz (az z z underlying43 sizeOf37 (au B) f0 f1) (ml z isAgg37 (dR B lr c f2 (by rintro _ rfl; rfl)) (mi z (mv (F6 _) z (nt (ww (mv (k) z (mi z ?_)))))))
 obtain ⟨f3,f4,b⟩:=bn b
 obtain ⟨f5,f6,f7⟩:=aK f4
 refine mz (az z z underlying43 sizeOf37 (au E) f5 f6) (ml z isAgg37 (dR E lr c f7 (by rintro _ rfl; rfl)) (mv (F6 _) z (nt (ww (mv (.func (.func 137) #[] #[]) z (mv (F6 _) z (mv (F6 _) z ?_)))))))
 obtain ⟨j1,f8,b⟩:=bn b
 refine de z z (dE call137 (caps:=[]) z (vs:=[F6 e8,F6 f3]) z) (kca (kZ c.to0 f8) fun j2 c=>?_)
 replace c:=c.of0
 refine mb z (nt (bw b z ?_ ?_))
 {
 intro f9 b
 refine ww (mb z (nt (wp_ret (dj (aI (aI ?_))))))
 replace b:=bg b O
 refine dj (aI (aU [.bool false] results138 (rc z ah) ?_))
 cases b
 exact ⟨false,z,z,c.ab.ab.cd⟩
}
 {
 intro f9 b
 refine wp_skip (bB (tn (wrl (mi z (mi z (nt ?_))))))
 cases b
 exact ⟨_,nls,_,O,fy z,c.ab.ab.cd⟩
}
}
 {
 intro e7 b
 refine wp_exit (aQ (aQ ?_))
 replace b:=bg b O
 refine cZ (tn (ww (mb z (nt (wp_ret (aU [.bool true] results138 (rc z ah) ?_))))))
 cases b
 exact ⟨true,z,z,c.ab.ab.cd⟩
}
}
}
 rintro _ j3 ⟨M,rfl,rfl,c⟩
 refine ⟨_,z,?_⟩
 try dsimp only at b
 refine mb (aM o z z) (mb z (bs b ?_ ?_))
 {
 intro p b
 refine gg p (aO z underlying46 z sizeOf22 z) (gg p (ao z isAgg22 (c.bc0 z)) (gg p (aO z underlying46 z sizeOf22 z) (gg p (ao z isAgg22 (c.bc1 z)) ?_)))
 obtain ⟨g0,g1,b⟩:=bn b
 refine de ((ar z z z (cvb p)).trans z) z (js call110 z (vs:=[q,s]) z) (kca (pB (T.mono (cy _)) (U.mono (cy _)) c.to0 g1) fun j4 c=>?_)
 replace c:=c.of0
 refine mb (aM p z z) (mb z (nt (wp_ret ?_)))
 obtain rfl:=sj b
 exact aU [.bool g0] results57 (rc z ah) ⟨z,c.bQ⟩
}
 {
 intro p b
 refine go p (go p (go p (go p (go p (mb (aE p z z) (mb z (nt (wp_ret ?_))))))))
 cases b
 exact aU [.bool false] results57 (rc z ah) ⟨z,c.bQ⟩
}
}
 {
 intro o b
 refine go o (go o (go o (go o (go o (mb (aE o z z) (mb z (gz (gz (gz (gz (gz (mb (aE z z z) (mb z (nt (wp_ret ?_)))))))))))))))
 cases b
 exact aU [.bool false] results57 (rc z ah) ⟨z,c.bQ⟩
}
}
 {
 intro d b
 refine go d (go d (go d (go d (go d (go d (mb (aE d z z) (mb z (gz (gz (gz (gz (gz (mb (aE z z z) (mb z (gz (gz (gz (gz (gz (mb (aE z z z) (mb z (nt (wp_ret ?_)))))))))))))))))))))))
 cases b
 exact aU [.bool false] results57 (rc z ah) ⟨z,c.bQ⟩
}
}
 {
 intro m b
 refine go m (go m (go m (go m (go m (mb (aE m z z) (mb z (gz (gz (gz (gz (gz (gz (mb (aE z z z) (mb z (gz (gz (gz (gz (gz (mb (aE z z z) (mb z (gz (gz (gz (gz (gz (mb (aE z z z) (mb z (nt (wp_ret ?_))))))))))))))))))))))))))))))
 cases b
 exact aU [.bool false] results57 (rc z ah) ⟨z,c.bQ⟩
}
}
 {
 intro l b
 refine go l (go l (go l (go l (go l (mb (aE l z z) (mb z (gz (gz (gz (gz (gz (mb (aE z z z) (mb z (gz (gz (gz (gz (gz (gz (mb (aE z z z) (mb z (gz (gz (gz (gz (gz (mb (aE z z z) (mb z (gz (gz (gz (gz (gz (mb (aE z z z) (mb z (nt (wp_ret ?_)))))))))))))))))))))))))))))))))))))
 cases b
 exact aU [.bool false] results57 (rc z ah) ⟨z,c.bQ⟩
}
}
theorem pV {a0 a1 a2:Nat} (a:St w0 w I [] R) {r:(Bool)} (b:lz a0 a1 a2=some r) :
  Calls prog 215 #[F6 a0,F6 a1,F6 a2] w fun e w'=>e = .returned (.bool r)∧St w0 w' I [] R:=by {
 unfold lz at b
 refine c0 func215 z ntmps215 (ww (mb z (nt (ww (mv (F6 _) z ?_)))))
 obtain ⟨k,d,b⟩:=bn b
 refine wc call118 [F6 a1] z z z (kca (ez a.to0 d) fun l a=>?_)
 replace a:=a.of0
 refine mv (F6 _) z ?_
 obtain ⟨m,f,b⟩:=bn b
 refine wc call118 [F6 a0] z z z (kca (ez a.to0 f) fun n a=>?_)
 replace a:=a.of0
 refine mb z (mb z (bs b ?_ ?_))
 {
 intro c b
 refine gv (F6 _) c z ?_
 obtain ⟨g,h,b⟩:=bn b
 refine de ((ar z z z (cvb c)).trans z) z (js call118 z (vs:=[F6 a0]) z) (kca (ez a.to0 h) fun o a=>?_)
 replace a:=a.of0
 refine gv (F6 _) c z ?_
 obtain ⟨i,j,b⟩:=bn b
 refine de ((ar z z z (cvb c)).trans z) z (js call118 z (vs:=[F6 a2]) z) (kca (ez a.to0 j) fun p a=>?_)
 replace a:=a.of0
 refine gb c z (mb (aM c z z) (mb z (nt (wp_ret ?_))))
 cases b
 exact aU [.bool (decide (g≤i))] results215 (rc z ah) ⟨z,a.bQ⟩
}
 {
 intro c b
 refine go c (go c (go c (go c (go c (mb (aE c z z) (mb z (nt (wp_ret ?_))))))))
 cases b
 exact aU [.bool false] results215 (rc z ah) ⟨z,a.bQ⟩
}
}
theorem uy {a0:al} {h i d j:Value} {a1 a2:Nat} (T:Rd bV R I h a0.Gets) (U:Rd gn R I i a0.Scans) (p:Rd bV R I d a0.Puts) (V:Rd (cg .u8) R I j a0.Data) (c:St w0 w I [] R) {r:(Bool)} (b:nL a0 a1 a2=some r) :
  Calls prog 194 #[.agg #[U6 a0.ID.Session,U6 a0.ID.Seq,U6 a0.Epoch,h,i,d,j],F6 a1,F6 a2] w fun e w'=>e = .returned (.bool r)∧St w0 w' I [] R:=by {
 unfold nL at b
 refine c0 func194 z ntmps194 (ww ?_)
 obtain ⟨l,W,x,y,c⟩:=c.box [U6 a0.ID.Session,U6 a0.ID.Seq,U6 a0.Epoch,h,i,d,j] 46
 refine wa x y ?_
 obtain ⟨f,X,A,B,c⟩:=c.box [F6 a1] 37
 refine wa A B ?_
 obtain ⟨g,Y,C,D,c⟩:=c.box [F6 a2] 37
 refine wa C D (mb z (nt (ww (mf z underlying46 z sizeOf43 (ml z isAgg43 (c.bc2 z) (mk (.func (.func 214) #[] #[Pt f 0,Pt g 0]) ?_))))))
 obtain ⟨E,F,b⟩:=bn b
 refine de z z (dE call213 (caps:=[]) z (vs:=[d,.func (.func 214) #[] #[Pt f 0,Pt g 0]]) z) (Calls.mono (show Calls prog 213 #[d,.func (.func 214) #[] #[Pt f 0,Pt g 0]] _ (fun e w'=>∃ (m:Bool),m=E∧e = .returned (.bool m)∧St w0 w' I [cells l [U6 a0.ID.Session,U6 a0.ID.Seq,U6 a0.Epoch,h,i,d,j],cells f [F6 a1],cells g [F6 a2]] R) from ?_) ?_)
 {
 clear b; have b:=F
 refine c0 func213 z ntmps213 (ww (mb z (nt (ww (mv (d) z (mv (.func (.func 214) #[] #[Pt f 0,Pt g 0]) z ?_))))))
 obtain ⟨u,G,b⟩:=bn b
 refine de z z (dE call228 (caps:=[]) z (vs:=[d,.func (.func 214) #[] #[Pt f 0,Pt g 0]]) z) (Calls.mono (show Calls prog 228 #[d,.func (.func 214) #[] #[Pt f 0,Pt g 0]] _ (fun e w'=>∃ (o:Int),o=u∧e = .returned (.int .i64 o)∧St w0 w' I [cells l [U6 a0.ID.Session,U6 a0.ID.Seq,U6 a0.Epoch,h,i,d,j],cells f [F6 a1],cells g [F6 a2]] R) from ?_) ?_)
 {
 clear b; have b:=G
 refine c0 func228 z ntmps228 (ww (mi z (nt (wp_seq (ww (mv (d) z (mz (bW z underlying43 (au p)) (mi z (nt (wp_block ?_))))))))))
 obtain ⟨H,b⟩:=aS b
 refine bf (fun n a w=>∃ (k:Int),cP (jw a0 a1 a2) n k=some u∧fz 19 [0,1,7,8] [d,.func (.func 214) #[] #[Pt f 0,Pt g 0],I6 ((a0.Puts).length:Int),I6 k] a∧St w0 w I [cells g [F6 a2],cells f [F6 a1],cells l [U6 a0.ID.Session,U6 a0.ID.Seq,U6 a0.Epoch,h,i,d,j]] R) H ⟨0,b,fy z,c⟩ ?_
 rintro Z _ b0 ⟨k,b,⟨b1,rfl⟩,c⟩
 obtain ⟨b2,b3,rfl,b,q⟩:=aV b
 dsimp only [jw] at b
 refine ww (mb z (nt (wp_seq (bw b z ?_ ?_))))
 {
 intro J b
 refine wp_skip (tn (wp_seq (wp_block (ww (mi z (mi z (nt (ww (mv (.func (.func 214) #[] #[Pt f 0,Pt g 0]) z (mv (d) z (mi z ?_)))))))))))
 obtain ⟨s,K,b⟩:=bn b
 obtain ⟨L,M,N⟩:=aK K
 refine mz (az z z underlying43 sizeOf37 (au p) L M) (ml z isAgg37 (dR p lr c N (by rintro _ rfl; rfl)) ?_)
 obtain ⟨O,P,b⟩:=bn b
 refine de z z (dE call214 (caps:=[Pt f 0,Pt g 0]) z (vs:=[F6 s]) z) (Calls.mono (show Calls prog 214 #[F6 s,Pt f 0,Pt g 0] _ (fun e w'=>∃ (t:Bool),t=O∧e = .returned (.bool t)∧St w0 w' I [cells l [U6 a0.ID.Session,U6 a0.ID.Seq,U6 a0.Epoch,h,i,d,j],cells f [F6 a1],cells g [F6 a2]] R) from ?_) ?_)
 {
 clear b; have b:=P
 refine c0 func214 z ntmps214 (ww (mb z (nt (ww (mv (F6 _) z (ml z isAgg37 (c.bc1 z) (ml z isAgg37 (c.bc0 z) ?_)))))))
 obtain ⟨v,Q,b⟩:=bn b
 refine wc call215 [F6 s,F6 a1,F6 a2] z z z (kca (pV c.to0 Q) fun b4 c=>?_)
 replace c:=c.of0
 refine mb z (nt (wp_ret (aU [.bool v] results214 (rc z ah) ?_)))
 obtain rfl:=sj b
 exact ⟨v,z,z,c.ab.ay.dC⟩
}
 rintro _ b5 ⟨t,rfl,rfl,c⟩
 refine ⟨_,z,?_⟩
 try dsimp only at b
 refine nt (bw b z ?_ ?_)
 {
 intro S b
 refine ww (mi z (mi z (nt (wp_ret (dj (aI (aI ?_)))))))
 replace b:=bg b q
 refine dj (aI (aU [I6 k] results228 (rc z ah) ?_))
 obtain rfl:=sj b
 exact ⟨k,z,z,c.ay.ay.ay.dC⟩
}
 {
 intro S b
 refine wp_skip (bB (tn (wrl (mi z (mi z (nt ?_))))))
 cases b
 exact ⟨_,nls,_,q,fy z,c.ab.ay.dC⟩
}
}
 {
 intro J b
 refine wp_exit (aQ (aQ ?_))
 replace b:=bg b q
 refine cZ (tn (ww (mi z (nt (wp_ret (aU [I6 ((-1):Int)] results228 (rc z ah) ?_))))))
 cases b
 exact ⟨_,z,z,c.ab.ay.dC⟩
}
}
 rintro _ b6 ⟨o,rfl,rfl,c⟩
 refine ⟨_,z,?_⟩
 try dsimp only at b
 refine mb z (mb z (nt (wp_ret (aU [.bool (decide (o≥0))] results213 (rc z ah) ?_))))
 cases b
 exact ⟨_,z,z,c.ay.ay.ay.dC⟩
}
 rintro _ b7 ⟨m,rfl,rfl,c⟩
 refine ⟨_,z,?_⟩
 try dsimp only at b
 refine mb z (nt (wp_ret ?_))
 obtain rfl:=sj b
 exact aU [.bool m] results194 (rc z ah) ⟨z,c.bQ⟩
}
theorem rj {a0:al} {f g h j:Value} {a1:Nat} (u:Rd bV R I f a0.Gets) (v:Rd gn R I g a0.Scans) (c7:Rd bV R I h a0.Puts) (c8:Rd (cg .u8) R I j a0.Data) (c:St w0 w I [] R) {r:(Bool)} (b:nn a0 a1=some r) :
  Calls prog 195 #[.agg #[U6 a0.ID.Session,U6 a0.ID.Seq,U6 a0.Epoch,f,g,h,j],F6 a1] w fun e w'=>e = .returned (.bool r)∧St w0 w' I [] R:=by {
 unfold nn at b
 refine c0 func195 z ntmps195 (ww ?_)
 obtain ⟨m,c9,J,K,c⟩:=c.box [U6 a0.ID.Session,U6 a0.ID.Seq,U6 a0.Epoch,f,g,h,j] 46
 refine wa J K ?_
 obtain ⟨d,d0,L,M,c⟩:=c.box [F6 a1] 37
 refine wa L M (mb z (nt (ww (mf z underlying46 z sizeOf43 (ml z isAgg43 (c.bc1 z) (mk (.func (.func 216) #[] #[Pt d 0]) ?_))))))
 obtain ⟨N,O,b⟩:=bn b
 refine de z z (dE call213 (caps:=[]) z (vs:=[f,.func (.func 216) #[] #[Pt d 0]]) z) (Calls.mono (show Calls prog 213 #[f,.func (.func 216) #[] #[Pt d 0]] _ (fun e w'=>∃ (x:Bool),x=N∧e = .returned (.bool x)∧St w0 w' I [cells m [U6 a0.ID.Session,U6 a0.ID.Seq,U6 a0.Epoch,f,g,h,j],cells d [F6 a1]] R) from ?_) ?_)
 {
 clear b; have b:=O
 refine c0 func213 z ntmps213 (ww (mb z (nt (ww (mv (f) z (mv (.func (.func 216) #[] #[Pt d 0]) z ?_))))))
 obtain ⟨E,P,b⟩:=bn b
 refine de z z (dE call228 (caps:=[]) z (vs:=[f,.func (.func 216) #[] #[Pt d 0]]) z) (Calls.mono (show Calls prog 228 #[f,.func (.func 216) #[] #[Pt d 0]] _ (fun e w'=>∃ (q:Int),q=E∧e = .returned (.int .i64 q)∧St w0 w' I [cells m [U6 a0.ID.Session,U6 a0.ID.Seq,U6 a0.Epoch,f,g,h,j],cells d [F6 a1]] R) from ?_) ?_)
 {
 clear b; have b:=P
 refine c0 func228 z ntmps228 (ww (mi z (nt (wp_seq (ww (mv (f) z (mz (bW z underlying43 (au u)) (mi z (nt (wp_block ?_))))))))))
 obtain ⟨Q,b⟩:=aS b
 refine bf (fun n a w=>∃ (o:Int),cP (ki a0 a1) n o=some E∧fz 19 [0,1,7,8] [f,.func (.func 216) #[] #[Pt d 0],I6 ((a0.Gets).length:Int),I6 o] a∧St w0 w I [cells d [F6 a1],cells m [U6 a0.ID.Session,U6 a0.ID.Seq,U6 a0.Epoch,f,g,h,j]] R) Q ⟨0,b,fy z,c⟩ ?_
 rintro d1 _ d2 ⟨o,b,⟨d3,rfl⟩,c⟩
 obtain ⟨d4,d5,rfl,b,y⟩:=aV b
 dsimp only [ki] at b
 refine ww (mb z (nt (wp_seq (bw b z ?_ ?_))))
 {
 intro S b
 refine wp_skip (tn (wp_seq (wp_block (ww (mi z (mi z (nt (ww (mv (.func (.func 216) #[] #[Pt d 0]) z (mv (f) z (mi z ?_)))))))))))
 obtain ⟨A,T,b⟩:=bn b
 obtain ⟨U,V,W⟩:=aK T
 refine mz (az z z underlying43 sizeOf37 (au u) U V) (ml z isAgg37 (dR u lr c W (by rintro _ rfl; rfl)) ?_)
 obtain ⟨X,Y,b⟩:=bn b
 refine de z z (dE call216 (caps:=[Pt d 0]) z (vs:=[F6 A]) z) (Calls.mono (show Calls prog 216 #[F6 A,Pt d 0] _ (fun e w'=>∃ (B:Bool),B=X∧e = .returned (.bool B)∧St w0 w' I [cells m [U6 a0.ID.Session,U6 a0.ID.Seq,U6 a0.Epoch,f,g,h,j],cells d [F6 a1]] R) from ?_) ?_)
 {
 clear b; have b:=Y
 refine c0 func216 z ntmps216 (ww (mb z (nt (ww (ml z isAgg37 (c.bc0 z) (mv (F6 _) z ?_))))))
 obtain ⟨F,Z,b⟩:=bn b
 refine wc call137 [F6 a1,F6 A] z z z (kca (kZ c.to0 Z) fun d6 c=>?_)
 replace c:=c.of0
 refine mb z (nt (wp_ret (aU [.bool F] results216 (rc z ah) ?_)))
 obtain rfl:=sj b
 exact ⟨F,z,z,c.ab.cd⟩
}
 rintro _ d7 ⟨B,rfl,rfl,c⟩
 refine ⟨_,z,?_⟩
 try dsimp only at b
 refine nt (bw b z ?_ ?_)
 {
 intro b0 b
 refine ww (mi z (mi z (nt (wp_ret (dj (aI (aI ?_)))))))
 replace b:=bg b y
 refine dj (aI (aU [I6 o] results228 (rc z ah) ?_))
 obtain rfl:=sj b
 exact ⟨o,z,z,c.ab.ab.cd⟩
}
 {
 intro b0 b
 refine wp_skip (bB (tn (wrl (mi z (mi z (nt ?_))))))
 cases b
 exact ⟨_,nls,_,y,fy z,c.ab.cd⟩
}
}
 {
 intro S b
 refine wp_exit (aQ (aQ ?_))
 replace b:=bg b y
 refine cZ (tn (ww (mi z (nt (wp_ret (aU [I6 ((-1):Int)] results228 (rc z ah) ?_))))))
 cases b
 exact ⟨_,z,z,c.ab.cd⟩
}
}
 rintro _ d8 ⟨q,rfl,rfl,c⟩
 refine ⟨_,z,?_⟩
 try dsimp only at b
 refine mb z (mb z (nt (wp_ret (aU [.bool (decide (q≥0))] results213 (rc z ah) ?_))))
 cases b
 exact ⟨_,z,z,c.ab.ab.cd⟩
}
 rintro _ d9 ⟨x,rfl,rfl,c⟩
 refine ⟨_,z,?_⟩
 try dsimp only at b
 refine mb z (bs b ?_ ?_)
 {
 intro k b
 refine go k (go k (go k (go k (mb (aM k z z) (mb z (nt (wp_ret ?_)))))))
 cases b
 exact aU [.bool true] results195 (rc z ah) ⟨z,c.bQ⟩
}
 {
 intro k b
 refine gg k (aO z underlying46 z sizeOf44 z) (gg k (ao z isAgg44 (c.bc0 z)) (gk (.func (.func 218) #[] #[Pt d 0]) k ?_))
 obtain ⟨b1,b2,b⟩:=bn b
 refine de ((ar z z z (cvb k)).trans z) z (dE call217 (caps:=[]) z (vs:=[g,.func (.func 218) #[] #[Pt d 0]]) z) (Calls.mono (show Calls prog 217 #[g,.func (.func 218) #[] #[Pt d 0]] _ (fun e w'=>∃ (s:Bool),s=b1∧e = .returned (.bool s)∧St w0 w' I [cells m [U6 a0.ID.Session,U6 a0.ID.Seq,U6 a0.Epoch,f,g,h,j],cells d [F6 a1]] R) from ?_) ?_)
 {
 clear b; have b:=b2
 refine c0 func217 z ntmps217 (ww (mb z (nt (ww (mv (g) z (mv (.func (.func 218) #[] #[Pt d 0]) z ?_))))))
 obtain ⟨G,b3,b⟩:=bn b
 refine de z z (dE call229 (caps:=[]) z (vs:=[g,.func (.func 218) #[] #[Pt d 0]]) z) (Calls.mono (show Calls prog 229 #[g,.func (.func 218) #[] #[Pt d 0]] _ (fun e w'=>∃ (t:Int),t=G∧e = .returned (.int .i64 t)∧St w0 w' I [cells m [U6 a0.ID.Session,U6 a0.ID.Seq,U6 a0.Epoch,f,g,h,j],cells d [F6 a1]] R) from ?_) ?_)
 {
 clear b; have b:=b3
 refine c0 func229 z ntmps229 (ww (mi z (nt (wp_seq (ww (mv (g) z (mz (bW z underlying44 (au v)) (mi z (nt (wp_block ?_))))))))))
 obtain ⟨b4,b⟩:=aS b
 refine bf (fun n a w=>∃ (p:Int),cP (kp a0 a1) n p=some G∧fz 19 [0,1,7,8] [g,.func (.func 218) #[] #[Pt d 0],I6 ((a0.Scans).length:Int),I6 p] a∧St w0 w I [cells m [U6 a0.ID.Session,U6 a0.ID.Seq,U6 a0.Epoch,f,g,h,j],cells d [F6 a1]] R) b4 ⟨0,b,fy z,c⟩ ?_
 rintro e0 _ e1 ⟨p,b,⟨e2,rfl⟩,c⟩
 obtain ⟨e3,e4,rfl,b,C⟩:=aV b
 dsimp only [kp] at b
 refine ww (mb z (nt (wp_seq (bw b z ?_ ?_))))
 {
 intro b5 b
 refine wp_skip (tn (wp_seq (wp_block (ww (mi z (mi z (nt (ww (mv (.func (.func 218) #[] #[Pt d 0]) z (mv (g) z (mi z ?_)))))))))))
 obtain ⟨l,b6,b⟩:=bn b
 obtain ⟨b7,b8,b9⟩:=aK b6
 refine mz (az z z underlying44 sizeOf80 (au v) b7 b8) (mz (av (cs:=[F6 l.1,F6 l.2]) z isAgg80 sizeOf80 (pH v lr c b9 0 (by rintro _ rfl; rfl))) ?_)
 obtain ⟨c1,c2,b⟩:=bn b
 refine de z z (dE call218 (caps:=[Pt d 0]) z (vs:=[.agg #[F6 l.1,F6 l.2]]) z) (Calls.mono (show Calls prog 218 #[.agg #[F6 l.1,F6 l.2],Pt d 0] _ (fun e w'=>∃ (D:Bool),D=c1∧e = .returned (.bool D)∧St w0 w' I [cells m [U6 a0.ID.Session,U6 a0.ID.Seq,U6 a0.Epoch,f,g,h,j],cells d [F6 a1]] R) from ?_) ?_)
 {
 clear b; have b:=c2
 refine c0 func218 z ntmps218 (ww ?_)
 obtain ⟨e5,e6,c3,c4,c⟩:=c.box [F6 l.1,F6 l.2] 80
 refine wa c3 c4 (mb z (nt (ww (ml z isAgg37 (c.bc2 z) (mp (kx (i:=0) z z underlying80 sizeOf37 (by decide) (by decide)) (ml z isAgg37 (c.bc0 z) (mp (kx (i:=1) z z underlying80 sizeOf37 (by decide) (by decide)) (ml z isAgg37 (c.bc0 z) ?_))))))))
 obtain ⟨H,c5,b⟩:=bn b
 refine wc call215 [F6 a1,F6 l.1,F6 l.2] z z z (kca (pV c.to0 c5) fun e7 c=>?_)
 replace c:=c.of0
 refine mb z (nt (wp_ret (aU [.bool H] results218 (rc z ah) ?_)))
 obtain rfl:=sj b
 exact ⟨H,z,z,c.ay.ay.cd⟩
}
 rintro _ e8 ⟨D,rfl,rfl,c⟩
 refine ⟨_,z,?_⟩
 try dsimp only at b
 refine nt (bw b z ?_ ?_)
 {
 intro c6 b
 refine ww (mi z (mi z (nt (wp_ret (dj (aI (aI ?_)))))))
 replace b:=bg b C
 refine dj (aI (aU [I6 p] results229 (rc z ah) ?_))
 obtain rfl:=sj b
 exact ⟨p,z,z,c.ab.ab.cd⟩
}
 {
 intro c6 b
 refine wp_skip (bB (tn (wrl (mi z (mi z (nt ?_))))))
 cases b
 exact ⟨_,nls,_,C,fy z,c.ab.ab.cd⟩
}
}
 {
 intro b5 b
 refine wp_exit (aQ (aQ ?_))
 replace b:=bg b C
 refine cZ (tn (ww (mi z (nt (wp_ret (aU [I6 ((-1):Int)] results229 (rc z ah) ?_))))))
 cases b
 exact ⟨_,z,z,c.ab.ab.cd⟩
}
}
 rintro _ e9 ⟨t,rfl,rfl,c⟩
 refine ⟨_,z,?_⟩
 try dsimp only at b
 refine mb z (mb z (nt (wp_ret (aU [.bool (decide (t≥0))] results217 (rc z ah) ?_))))
 cases b
 exact ⟨_,z,z,c.ab.ab.cd⟩
}
 rintro _ f0 ⟨s,rfl,rfl,c⟩
 refine ⟨_,z,?_⟩
 try dsimp only at b
 refine mb (aE k z z) (mb z (nt (wp_ret ?_)))
 obtain rfl:=sj b
 exact aU [.bool s] results195 (rc z ah) ⟨z,c.bQ⟩
}
}
theorem vy {a0:al} {k l f m:Value} {a1:al} {g h d i:Value} (E:Rd bV R I k a0.Gets) (F:Rd gn R I l a0.Scans) (q:Rd bV R I f a0.Puts) (G:Rd (cg .u8) R I m a0.Data) (B:Rd bV R I g a1.Gets) (C:Rd gn R I h a1.Scans) (p:Rd bV R I d a1.Puts) (D:Rd (cg .u8) R I i a1.Data) (c:St w0 w I [] R) {r:(Bool)} (b:pA a0 a1=some r) :
  Calls prog 140 #[.agg #[U6 a0.ID.Session,U6 a0.ID.Seq,U6 a0.Epoch,k,l,f,m],.agg #[U6 a1.ID.Session,U6 a1.ID.Seq,U6 a1.Epoch,g,h,d,i]] w fun e w'=>e = .returned (.bool r)∧St w0 w' I [] R:=by {
 unfold pA at b
 refine c0 func140 z ntmps140 (ww ?_)
 obtain ⟨o,b6,H,J,c⟩:=c.box [U6 a0.ID.Session,U6 a0.ID.Seq,U6 a0.Epoch,k,l,f,m] 46
 refine wa H J ?_
 obtain ⟨s,b7,K,L,c⟩:=c.box [U6 a1.ID.Session,U6 a1.ID.Seq,U6 a1.Epoch,g,h,d,i] 46
 refine wa K L (mb z (nt ?_))
 obtain ⟨M,b,u⟩:=dY b
 refine cQ (fun a w =>(mC a1 a0) ()=some r∧fz 37 [2,3] [Pt o 0,Pt s 0] a∧St w0 w I [cells o [U6 a0.ID.Session,U6 a0.ID.Seq,U6 a0.Epoch,k,l,f,m],cells s [U6 a1.ID.Session,U6 a1.ID.Seq,U6 a1.Epoch,g,h,d,i]] R) ?_ ?_
 {
 refine ww (mf z underlying46 z sizeOf43 (ml z isAgg43 (c.bc1 z) (mz (bW z underlying43 (au q)) (mi z (nt (wp_block ?_))))))
 obtain ⟨N,b⟩:=aS b
 refine bf (fun n a w=>∃ (v:Int),cP (lm a0 a1) n v=some M∧fz 37 [2,3,10,11,12] [Pt o 0,Pt s 0,f,I6 ((a0.Puts).length:Int),I6 v] a∧St w0 w I [cells s [U6 a1.ID.Session,U6 a1.ID.Seq,U6 a1.Epoch,g,h,d,i],cells o [U6 a0.ID.Session,U6 a0.ID.Seq,U6 a0.Epoch,k,l,f,m]] R) N ⟨0,b,fy z,c⟩ ?_
 rintro b8 _ b9 ⟨v,b,⟨c1,rfl⟩,c⟩
 obtain ⟨c2,c3,rfl,b,t⟩:=aV b
 dsimp only [lm] at b
 refine ww (mb z (nt (wp_seq (bw b z ?_ ?_))))
 {
 intro O b
 refine wp_skip (tn (wp_seq (wp_block (ww ?_))))
 obtain ⟨x,P,b⟩:=bn b
 obtain ⟨Q,S,T⟩:=aK P
 refine mz (az z z underlying43 sizeOf37 (au q) Q S) (ml z isAgg37 (dR q lr c T (by rintro _ rfl; rfl)) (mv (F6 _) z (nt (ww (mz (av (cs:=[U6 a1.ID.Session,U6 a1.ID.Seq,U6 a1.Epoch,g,h,d,i]) z isAgg46 sizeOf46 (c.eD 0 z)) (mv (F6 _) z (mv (F6 _) z ?_)))))))
 obtain ⟨c4,U,b⟩:=bn b
 refine wc call194 [.agg #[U6 a1.ID.Session,U6 a1.ID.Seq,U6 a1.Epoch,g,h,d,i],F6 x,F6 x] z z z (kca (uy (B.mono (cy _)) (C.mono (cy _)) (p.mono (cy _)) (D.mono (cy _)) c.to0 U) fun c5 c=>?_)
 replace c:=c.of0
 refine mb z (bs b ?_ ?_)
 {
 intro j b
 refine go j (go j (go j (mb (aM j z z) (nt (dq z (ww (mb z (nt (wp_ret (dj (aI (aI ?_))))))))))))
 replace b:=bg b t
 refine dj (aI ?_)
 replace b:=bg b u
 cases b
 exact aU [.bool true] results140 (rc z ah) ⟨z,c.bQ⟩
}
 {
 intro j b
 refine gg j (av (cs:=[U6 a1.ID.Session,U6 a1.ID.Seq,U6 a1.Epoch,g,h,d,i]) z isAgg46 sizeOf46 (c.eD 0 z)) (gv (F6 _) j z ?_)
 obtain ⟨c6,V,b⟩:=bn b
 refine de ((ar z z z (cvb j)).trans z) z (js call195 z (vs:=[.agg #[U6 a1.ID.Session,U6 a1.ID.Seq,U6 a1.Epoch,g,h,d,i],F6 x]) z) (kca (rj (B.mono (cy _)) (C.mono (cy _)) (p.mono (cy _)) (D.mono (cy _)) c.to0 V) fun c7 c=>?_)
 replace c:=c.of0
 refine mb (aE j z z) (nt (bw b z ?_ ?_))
 {
 intro W b
 refine ww (mb z (nt (wp_ret (dj (aI (aI ?_))))))
 replace b:=bg b t
 refine dj (aI ?_)
 replace b:=bg b u
 cases b
 exact aU [.bool true] results140 (rc z ah) ⟨z,c.bQ⟩
}
 {
 intro W b
 refine wp_skip (bB (tn (wrl (mi z (mi z (nt ?_))))))
 cases b
 exact ⟨_,nls,_,t,fy z,c.ab.ab.cd⟩
}
}
}
 {
 intro O b
 refine wp_exit (aQ (aQ ?_))
 replace b:=bg b t
 refine cZ (tn ?_)
 cases b
 exact ⟨u,fy z,c.ab.cd⟩
}
}
 {
 rintro _ c8 ⟨b,⟨c9,rfl⟩,c⟩
 dsimp only [mC] at b
 refine wp_seq (ww (mf z underlying46 z sizeOf43 (ml z isAgg43 (c.bc1 z) (mz (bW z underlying43 (au p)) (mi z (nt (wp_block ?_)))))))
 replace c:=c.ab.sub
 obtain ⟨X,b⟩:=aS b
 refine bf (fun n a w=>∃ (y:Int),cP (lj a1 a0) n y=some r∧fz 37 [2,27,28,29] [Pt o 0,d,I6 ((a1.Puts).length:Int),I6 y] a∧St w0 w I [cells o [U6 a0.ID.Session,U6 a0.ID.Seq,U6 a0.Epoch,k,l,f,m]] R) X ⟨0,b,fy z,c⟩ ?_
 rintro d0 _ d1 ⟨y,b,⟨d2,rfl⟩,c⟩
 obtain ⟨d3,d4,rfl,b,A⟩:=aV b
 dsimp only [lj] at b
 refine ww (mb z (nt (wp_seq (bw b z ?_ ?_))))
 {
 intro Y b
 refine wp_skip (tn (wp_seq (wp_block (ww ?_))))
 obtain ⟨Z,b0,b⟩:=bn b
 obtain ⟨b1,b2,b3⟩:=aK b0
 refine mz (az z z underlying43 sizeOf37 (au p) b1 b2) (ml z isAgg37 (dR p lr c b3 (by rintro _ rfl; rfl)) (mv (F6 _) z (nt (ww (mz (av (cs:=[U6 a0.ID.Session,U6 a0.ID.Seq,U6 a0.Epoch,k,l,f,m]) z isAgg46 sizeOf46 (c.eD 0 z)) (mv (F6 _) z ?_))))))
 obtain ⟨d5,b4,b⟩:=bn b
 refine wc call195 [.agg #[U6 a0.ID.Session,U6 a0.ID.Seq,U6 a0.Epoch,k,l,f,m],F6 Z] z z z (kca (rj (E.mono (cy _)) (F.mono (cy _)) (q.mono (cy _)) (G.mono (cy _)) c.to0 b4) fun d6 c=>?_)
 replace c:=c.of0
 refine nt (bw b z ?_ ?_)
 {
 intro b5 b
 refine ww (mb z (nt (wp_ret (dj (aI (aI ?_))))))
 replace b:=bg b A
 refine dj (aI ?_)
 cases b
 exact aU [.bool true] results140 (rc z ah) ⟨z,c.bQ⟩
}
 {
 intro b5 b
 refine wp_skip (bB (tn (wrl (mi z (mi z (nt ?_))))))
 cases b
 exact ⟨_,nls,_,A,fy z,c.bo⟩
}
}
 {
 intro Y b
 refine wp_exit (aQ (aQ ?_))
 replace b:=bg b A
 refine cZ (tn (ww (mb z (nt (wp_ret ?_)))))
 cases b
 exact aU [.bool false] results140 (rc z ah) ⟨z,c.bQ⟩
}
}
}
theorem jx {a0:(List Nat)} {c:Value} (h:Rd bV R I c a0) (a:St w0 w I [] R) {r:(List Nat)} (d:eu a0=some r) :
  Calls prog 141 #[c] w fun e w'=>∃ (i:Value),e = .returned (i)∧St w0 w' I [aZ bV i r] R:=by {
 unfold eu at d
 obtain ⟨hg,d⟩:=cw d
 cases d
 have hsv:=au h
 refine c0 func141 z ntmps141 (ww (mv ((.slice none 0 0)) z (nt (wp_seq (ww (mv (c) z (mb (tX z hsv z underlying43) (nt (iB (isNil c) (fun f=>?_) (fun f=>?_))))))))))
 {
 refine dq (cvb f) (ww (mv ((.slice none 0 0)) z (nt (wp_ret (aI (aU [Zs] results141 (rc z ah) ?_))))))
 obtain rfl:=List.eq_nil_of_length_eq_zero (qI hsv f)
 exact ⟨_,z,(a.aX bV).bo⟩
}
 {
 refine bT (cvb f) (wp_skip (tn (ww ?_)))
 obtain ⟨b,j,ew,eb,a⟩:=a.er (E:=bV) (xs:=[]) [] 37 0 z bz.nil
 refine bY (v:=(.slice (some ⟨b,0,none⟩) 0 0)) (w':=j) z z (di (by kernel_rfl) ew eb) (mv (c) z ?_)
 obtain ⟨g,k,hr,a⟩:=bE pe underlying43 a (Src.rm a h CW) (cF hg z) 43
 refine bY (v:=g) (w':=k) z z (bU z z hr) (mv (g) z (nt (wp_ret (aU [g] results141 (rc z ah) ?_))))
 rw [List.nil_append] at a
 exact ⟨_,z,a.bo⟩
}
}
theorem mq {a0:(List (Nat×Nat))} {c:Value} (h:Rd gn R I c a0) (a:St w0 w I [] R) {r:(List (Nat×Nat))} (d:eH a0=some r) :
  Calls prog 142 #[c] w fun e w'=>∃ (i:Value),e = .returned (i)∧St w0 w' I [aZ gn i r] R:=by {
 unfold eH at d
 obtain ⟨hg,d⟩:=cw d
 cases d
 have hsv:=au h
 refine c0 func142 z ntmps142 (ww (mv ((.slice none 0 0)) z (nt (wp_seq (ww (mv (c) z (mb (tX z hsv z underlying44) (nt (iB (isNil c) (fun f=>?_) (fun f=>?_))))))))))
 {
 refine dq (cvb f) (ww (mv ((.slice none 0 0)) z (nt (wp_ret (aI (aU [Zs] results142 (rc z ah) ?_))))))
 obtain rfl:=List.eq_nil_of_length_eq_zero (qI hsv f)
 exact ⟨_,z,(a.aX gn).bo⟩
}
 {
 refine bT (cvb f) (wp_skip (tn (ww ?_)))
 obtain ⟨b,j,ew,eb,a⟩:=a.er (E:=gn) (xs:=[]) [] 80 0 z bz.nil
 refine bY (v:=(.slice (some ⟨b,0,none⟩) 0 0)) (w':=j) z z (di (by kernel_rfl) ew eb) (mv (c) z ?_)
 obtain ⟨g,k,hr,a⟩:=bE AE underlying44 a (Src.rm a h Eh) (cF hg z) 44
 refine bY (v:=g) (w':=k) z z (bU z z hr) (mv (g) z (nt (wp_ret (aU [g] results142 (rc z ah) ?_))))
 rw [List.nil_append] at a
 exact ⟨_,z,a.bo⟩
}
}
theorem jg {a0:(List Int)} {c:Value} (h:Rd (cg .u8) R I c a0) (a:St w0 w I [] R) {r:(List Int)} (d:dM a0=some r) :
  Calls prog 143 #[c] w fun e w'=>∃ (i:Value),e = .returned (i)∧St w0 w' I [aZ (cg .u8) i r] R:=by {
 unfold dM at d
 obtain ⟨hg,d⟩:=cw d
 cases d
 have hsv:=au h
 refine c0 func143 z ntmps143 (ww (mv ((.slice none 0 0)) z (nt (wp_seq (ww (mv (c) z (mb (tX z hsv z underlying22) (nt (iB (isNil c) (fun f=>?_) (fun f=>?_))))))))))
 {
 refine dq (cvb f) (ww (mv ((.slice none 0 0)) z (nt (wp_ret (aI (aU [Zs] results143 (rc z ah) ?_))))))
 obtain rfl:=List.eq_nil_of_length_eq_zero (qI hsv f)
 exact ⟨_,z,(a.aX (cg .u8)).bo⟩
}
 {
 refine bT (cvb f) (wp_skip (tn (ww ?_)))
 obtain ⟨b,j,ew,eb,a⟩:=a.er (E:=(cg .u8)) (xs:=[]) [] 5 0 z bz.nil
 refine bY (v:=(.slice (some ⟨b,0,none⟩) 0 0)) (w':=j) z z (di (by kernel_rfl) ew eb) (mv (c) z ?_)
 obtain ⟨g,k,hr,a⟩:=bE uZ underlying22 a (Src.rm a h mO) (cF hg z) 22
 refine bY (v:=g) (w':=k) z z (bU z z hr) (mv (g) z (nt (wp_ret (aU [g] results143 (rc z ah) ?_))))
 rw [List.nil_append] at a
 exact ⟨_,z,a.bo⟩
}
}
theorem mB {a0:(List al)} {d:Value} {a1:Int} {a2:(List al)} {g:Value} (c:St w0 w I [aZ bm d a0,aZ bm g a2] R) {r:(List al)} (q:eL a0 a1 a2=some r) :
  Calls prog 144 #[d,I6 a1,g] w fun e w'=>∃ (x:Value),e = .returned (x)∧St w0 w' I [aZ bm x r] R:=by {
 unfold eL at q
 obtain ⟨hg,q⟩:=cw q
 cases q
 obtain ⟨A,S,hrm⟩:=qs hg
 obtain ⟨k,rfl⟩:=Int.eq_ofNat_of_zero_le A
 have hsm:=qG hrm
 have hk:k≤a0.length:=by omega
 have hs:∀ w:World,(sizeOf 46).run prog w = .ok bm.sz w:=sizeOf46
 have y:0<bm.sz:=Nat.le_of_ble_eq_true rfl
 have hov:∀ (args:Array Value) (w:World),(callFunc 196 args).run prog w=(Extern.SlicesOverlaps.overlaps #[125,125] #[4] args >>= fun v=>(pure (.value v):Sem Next)).run prog w:=by intro args w; kernel_rfl
 obtain ⟨css,hr,c⟩:=c.cx
 replace c:=c.ab
 obtain ⟨dss,hq,c⟩:=c.cx
 replace c:=c.ab
 obtain ⟨n,hn⟩:∃ n,css.length=n:=⟨_,rfl⟩
 obtain ⟨m,hm'⟩:∃ m,dss.length=m:=⟨_,rfl⟩
 have hln:a0.length=n:=hr.1.trans hn
 have hlm:a2.length=m:=hq.1.trans hm'
 rw [hln] at hsm hk
 rw [hlm] at hsm
 have hsv:dc d n:=by have:=c.cC.2; rwa [hn] at this
 have hsq:dc g m:=by have:=c.ab.cC.2; rwa [hm'] at this
 have hoc:=hr.tc
 have hoq:=hq.tc
 have s:=wrap_add (a:=n) (b:=m) (by omega)
 have t:=wrap_add (a:=k) (b:=m) (by omega)
 have B:=pE (a:=n+m) (b:=k) (by omega) (by omega)
 have hrb:=cF (b:=120) hrm rfl
 rw [hln,hlm] at hrb
 refine c0 func144 z ntmps144 (ww (mv ((.slice none 0 0)) z (nt (ww (mv (d) z (mi z (mv ((dh bm.sz d k n)) (cA (lo:=(k:Nat)) (hi:=(n:Nat)) underlying125 hs z hsv (by omega) (by omega) (by omega) .i64 .i64 (.inl z) (.inr ⟨z,z⟩)) (nt (ww (mv (g) z (mz (bW z underlying125 hsq) (mi z (nt (wp_seq (ww (mi z (mb z (nt (iB ((m:Int)==0) (fun j=>?_) (fun j=>?_))))))))))))))))))))
 {
 refine dq (cvb j) (ww (mv (d) z (mv (d) z (nt (wp_ret (aI (aU [d] results144 (rc z ah) ?_)))))))
 rw [sG (by rw [hlm]; exact j)]
 exact ⟨_,z,(c.ba hr).bo⟩
}
 {
 refine bT (cvb j) ?_
 have C:m≠0:=fun h=>by rw [h] at j; cases j
 have D:dss≠[]:=fun h=>C (by rw [← hm',h]; rfl)
 refine wp_skip (tn (ww (mv (d) z (mz (bW z underlying125 hsv) (mi z (nt (wp_seq (ww (mi z (mi z (mb z (nt (iB ((k:Int)==(n:Int)) (fun o=>?_) (fun o=>?_))))))))))))))
 {
 refine dq (cvb o) (ww (mv (d) z (mv (g) z ?_)))
 replace c:=((c.ba hr).ab.ba hq).ab
 obtain ⟨f,u,hra,c⟩:=bE qx underlying125 c c.jr (cF hrm z) 125
 refine bY (v:=f) (w':=u) z z (bU z z hra) (mv (f) z (nt (wp_ret (aI (aU [f] results144 (rc z ah) ?_)))))
 rw [sA (by rw [hln]; exact o)]
 exact ⟨_,z,c.bo⟩
}
 {
 refine bT (cvb o) ?_
 have hkn:k≠n:=fun h=>by rw [h] at o; simp at o
 have E:0<n:=by omega
 have F:css≠[]:=fun h=>by rw [h] at hn; simp at hn; omega
 refine wp_skip (tn (wp_seq (ww (mi z (mi z (mi (dv s z) (mv (d) z (mi (wS z underlying125 hsv) (mb z (nt (iB (decide (((n+m:Nat):Int)>(qM d:Int))) (fun p=>?_) (fun p=>?_))))))))))))
 {
 refine dq (cvb p) (ww (mv (d) z (mi z (mv ((dh bm.sz d 0 k)) (cA (lo:=(0:Nat)) (hi:=(k:Nat)) underlying125 hs z hsv (by omega) (by omega) (by omega) .i64 .i64 (.inr ⟨z,z⟩) (.inl z)) (mi z (mi z (mi (dv s z) (mi z (mi (dv B z) ?_)))))))))
 obtain ⟨f,u,hra,i,zss,hzl,c⟩:=qv qx underlying3 c k (n+m - k) (by omega) (by have:=of_decide_eq_true p; omega) (by rw [show k+(n+m - k)=n+m by omega]; exact hrb) y 125
 rw [show k+(n+m - k)=n+m by omega] at i
 refine bY (v:=f) (w':=u) z z (bU z z hra) (mv (f) z (nt (ww (mv (f) z (mi z (mv ((dh bm.sz f k (n+m))) (cA (lo:=(k:Nat)) (hi:=((n+m):Nat)) underlying125 hs z i (by omega) (by omega) (by omega) .i64 .i64 (.inl z) (.inr ⟨z,z⟩)) (mv (g) z ?_)))))))
 obtain ⟨G,H,c⟩:=dg (P:=prog) (t2:=125) (ty:=3) underlying125 hs c c.ay k m (N:=n+m) (by first | omega | (simp only [List.length_append,List.length_take,List.length_drop]; omega)) (by first | omega | (simp only [List.length_append,List.length_take,List.length_drop]; omega)) (by omega) (by first | omega | (simp only [List.length_append,List.length_take,List.length_drop]; omega)) (dT hoq _)
 refine bY (v:=.int .i64 (m:Nat)) (w':=G) z z (iD z z H) (nt (wp_seq (rg c 9 [0,0,0,6,15,0,0,96,255] [] mixed (sz (f) 0 z z (si 1 z z (si 2 z z (sh (I6 _) 3 z (fun w c=>dv t z) (sh ((dh bm.sz f (k+m) (n+m))) 4 z (fun w c=>cA (lo:=((k+m):Nat)) (hi:=((n+m):Nat)) underlying125 hs z i (by omega) (by omega) (by omega) .i64 .i64 (.inl z) (.inr ⟨z,z⟩)) (sz (d) 5 z z (si 6 z z (sh ((dh bm.sz d k n)) 7 z (fun w c=>cA (lo:=(k:Nat)) (hi:=(n:Nat)) underlying125 hs z hsv (by omega) (by omega) (by omega) .i64 .i64 (.inl z) (.inr ⟨z,z⟩)) (e1 8 z z fun w c=>?_))))))))))))
 obtain ⟨J,K,c⟩:=dg (P:=prog) (t2:=125) (ty:=3) underlying125 hs c (c.ab.gY (l:=k) (h:=n) hk (by omega)) (k+m) (n - k) (N:=n+m) (by first | omega | (simp only [List.length_append,List.length_take,List.length_drop]; omega)) (by first | omega | (simp only [List.length_append,List.length_take,List.length_drop]; omega)) (by omega) (by first | omega | (simp only [List.length_append,List.length_take,List.length_drop]; omega)) (dT (iO (dT hoc _) _) _)
 refine bS (v:=.int .i64 ((n - k):Nat)) (w':=J) z (iD z z K) (w0n c (bi ?_))
 intro w c
 refine tn (ww (mv (f) z (mv (f) z (nt (wp_ret (aI (aU [f] results144 (rc z ah) ?_)))))))
 rw [pj hn hm' hk hzl] at c
 exact ⟨_,z,(c.ba ((hr.take k).app (hq.app (hr.drop k)))).bo⟩
}
 {
 refine bT (cvb p) ?_
 have hup:n+m≤qM d:=by have:=of_decide_eq_false p; omega
 obtain ⟨ess,hel,hem,hst'⟩:=c.uf (n+m) (by omega) hup F
 rw [show n+m - css.length=m by omega] at hel
 have i:dc (upV d (n+m)) (n+m):=by have:=hst'.cC.2; rwa [List.length_append,hn,hel] at this
 clear c
 have c:=hst'
 clear hst'
 refine wp_skip (tn (ww (mv (d) z (mi z (mi z (mi (dv s z) (mv ((upV d (n+m))) (pu underlying125 hs z hsv z hup E) (mv ((upV d (n+m))) z (nt (wp_seq (ww (mv (g) z (mv ((upV d (n+m))) z (mi z (mi z (mi (dv t z) (mv ((dh bm.sz (upV d (n+m)) (k+m) (n+m))) (cA (lo:=((k+m):Nat)) (hi:=((n+m):Nat)) underlying125 hs z i (by omega) (by omega) (by omega) .i64 .i64 (.inl z) (.inr ⟨z,z⟩)) (mb (wT z z z (hov _) (lY z underlying125 hs c.ab (k+m) (N:=n+m) (by rw [List.length_append]; omega) (by omega) D y)) (mb z (nt (dq z (wp_seq (rg c 9 [0,0,0,6,15,0,0,96,255] [] mixed (sz ((upV d (n+m))) 0 z z (si 1 z z (si 2 z z (sh (I6 _) 3 z (fun w c=>dv t z) (sh ((dh bm.sz (upV d (n+m)) (k+m) (n+m))) 4 z (fun w c=>cA (lo:=((k+m):Nat)) (hi:=((n+m):Nat)) underlying125 hs z i (by omega) (by omega) (by omega) .i64 .i64 (.inl z) (.inr ⟨z,z⟩)) (sz ((upV d (n+m))) 5 z z (si 6 z z (sh ((dh bm.sz (upV d (n+m)) k (n+m))) 7 z (fun w c=>cA (lo:=(k:Nat)) (hi:=((n+m):Nat)) underlying125 hs z i (by omega) (by omega) (by omega) .i64 .i64 (.inl z) (.inr ⟨z,z⟩)) (e1 8 z z fun w c=>?_))))))))))))))))))))))))))))))))
 obtain ⟨L,M,c⟩:=dg (P:=prog) (t2:=125) (ty:=3) underlying125 hs c (c.gY (l:=k) (h:=n+m) (by omega) (by rw [List.length_append]; omega)) (k+m) (n - k) (N:=n+m) (by first | omega | (simp only [List.length_append,List.length_take,List.length_drop]; omega)) (by first | omega | (simp only [List.length_append,List.length_take,List.length_drop]; omega)) (by omega) (by first | omega | (simp only [List.length_append,List.length_take,List.length_drop]; omega)) (by rw [qH hn hm' hk hel]; exact iO hoc _)
 refine bS (v:=.int .i64 ((n - k):Nat)) (w':=L) z (iD z z M) (w0n c (bi ?_))
 intro w c
 refine tn (ww (mv ((upV d (n+m))) z (mi z (mv ((dh bm.sz (upV d (n+m)) k (n+m))) (cA (lo:=(k:Nat)) (hi:=((n+m):Nat)) underlying125 hs z i (by omega) (by omega) (by omega) .i64 .i64 (.inl z) (.inr ⟨z,z⟩)) (mv (g) z ?_)))))
 obtain ⟨O,Q,c⟩:=dg (P:=prog) (t2:=125) (ty:=3) underlying125 hs c c.ab k m (N:=n+m) (by first | omega | (simp only [List.length_append,List.length_take,List.length_drop]; omega)) (by first | omega | (simp only [List.length_append,List.length_take,List.length_drop]; omega)) (by omega) (by first | omega | (simp only [List.length_append,List.length_take,List.length_drop]; omega)) (dT hoq _)
 refine bY (v:=.int .i64 (m:Nat)) (w':=O) z z (iD z z Q) (nt (ww (mv ((upV d (n+m))) z (mv ((upV d (n+m))) z (nt (wp_ret (aI (aU [(upV d (n+m))] results144 (rc z ah) ?_))))))))
 rw [pt hn hm' hk hel] at c
 exact ⟨_,z,(c.ba ((hr.take k).app (hq.app (hr.drop k)))).bo⟩
}
}
}
}
end Go.Proofs.YtgnkkopjkgdieaaGreat
