/- A part of the proof. -/
import Derived.Test.YtgnkkopjkgdieaaGreatLaneBytesT
set_option linter.unusedVariables false
set_option linter.unusedSimpArgs false
set_option maxRecDepth 100000
set_option maxHeartbeats 4000000
namespace Go.Proofs.YtgnkkopjkgdieaaGreat
open Go Go.V
open _root_.Go.Proofs.Tryz IntKind
variable {w0 w:World} {I:HL} {R:SP}
attribute [local irreducible] wpList Code.wp wpQuiet Calls bodyPost Oper.wp wpS Nx kL YieldsIn
theorem yN  (a:St w0 w I [] R) {r:(cn)} (b:uT=some r) :
  Calls prog 43 #[] w fun e w'=>∃ (c:Value),e = .returned (c)∧St w0 w' I [cA c r] R:=by {
 unfold uT at b
 refine c0 func43 z z (ww (mv (.pointer none) z (nt (ww (mk (.agg #[Zs]) ?_)))))
 obtain ⟨d,h,f,g,a⟩:=a.box [Zs] 201
 refine wa f g (mp z (nt (ar ?_)))
 cases b
 exact pP z z ⟨_,z,(cY (Pt d 0) (({rows:=[]}:cn)) (a.JB cq).ah z).bF⟩
}
theorem xX  (a:St w0 w I [] R) {r:(bN)} (b:tG=some r) :
  Calls prog 44 #[] w fun e w'=>∃ (c:Value),e = .returned (c)∧St w0 w' I [cb c r] R:=by {
 unfold tG at b
 refine c0 func44 z z (ww (mv (.pointer none) z (nt (ww (mk (.agg #[Zs]) ?_)))))
 obtain ⟨d,h,f,g,a⟩:=a.box [Zs] 203
 refine wa f g (mp z (nt (ar ?_)))
 cases b
 exact pP z z ⟨_,z,(dt (Pt d 0) (({l:=[]}:bN)) (a.ba bZ).ah z).bF⟩
}
theorem vP  (a:St w0 w I [] R) {r:(bE)} (b:qG=some r) :
  Calls prog 45 #[] w fun e w'=>∃ (c:Value),e = .returned (c)∧St w0 w' I [bV c r] R:=by {
 unfold qG at b
 refine c0 func45 z z (ww (mv (.pointer none) z (nt (ww (mk (.agg #[Zs]) ?_)))))
 obtain ⟨d,h,f,g,a⟩:=a.box [Zs] 206
 refine wa f g (mp z (nt (ar ?_)))
 cases b
 exact pP z z ⟨_,z,(cQ (Pt d 0) (({l:=[]}:bE)) (a.ba dF).ah z).bF⟩
}
theorem wi  (a:St w0 w I [] R) {r:(cg)} (b:sn=some r) :
  Calls prog 46 #[] w fun e w'=>∃ (c:Value),e = .returned (c)∧St w0 w' I [cH c r] R:=by {
 unfold sn at b
 refine c0 func46 z z (ww (mv (.pointer none) z (nt (ww (mk (.agg #[Zs]) ?_)))))
 obtain ⟨d,h,f,g,a⟩:=a.box [Zs] 209
 refine wa f g (mp z (nt (ar ?_)))
 cases b
 exact pP z z ⟨_,z,(dk (Pt d 0) (({l:=[]}:cg)) (a.ba jR).ah z).bF⟩
}
theorem yP {a0:Int} (a:St w0 w I [] R) {r:(ai)} (b:vd a0=some r) :
  Calls prog 13 #[I6 a0] w fun e w'=>∃ (h:Value),e = .returned (h)∧St w0 w' I [aM h r] R:=by {
 unfold vd at b
 refine c0 func13 z z (ww (mv (.pointer none) z (nt (ww (mi z (bk b fun i m b=>wc call43 [] z z z (kdI (yN a.to0 m) fun A B a=>bk b fun j n b=>wc call44 [] z z z (kdI (xX a.to0 n) fun C D a=>bk b fun k o b=>wc call45 [] z z z (kdI (vP a.to0 o) fun E F a=>?_)))))))))
 refine bk b fun l p b=>wc call46 [] z z z (kcb (wi a.to0 p) fun G H a=>?_)
 obtain ⟨c,J,rfl,q⟩:=ec a.of1.aA
 have a:=q
 obtain ⟨d,K,rfl,s⟩:=dP a.bj
 have a:=s
 obtain ⟨f,L,rfl,t⟩:=dJ a.bq
 have a:=t
 obtain ⟨g,M,rfl,u⟩:=eF a.de
 have a:=u
 refine mk (.agg #[I6 a0,U6 1,Pt c 0,Pt d 0,Pt f 0,Pt g 0,Zs,Zs,Zs]) ?_
 obtain ⟨v,N,x,y,a⟩:=a.box [I6 a0,U6 1,Pt c 0,Pt d 0,Pt f 0,Pt g 0,Zs,Zs,Zs] 111
 refine wa x y (mp z (nt (ar ?_)))
 cases b
 exact pP z z ⟨_,z,(aF (Pt v 0) (({wide:=a0,cI:=1,store:=(some i),ft:=(some j),last:=(some k),book:=(some l),open_:=[],out:=[],used:=[]}:ai)) ((((aR (dk (Pt g 0) l (aR (cQ (Pt f 0) k (aR (dt (Pt d 0) j (aR (cY (Pt c 0) i a.bM.bM z)).aW.aW z)).de.de z)).bq.bq z)).ba bc).ba cL).ba db).ah.aD.aA.bj.bq.de.aW z).bF⟩
}
theorem vR {a0:(Option bN)} {p0:Value} {a1:Int} (c:St w0 w I [cX cb p0 a0] R) {r:(Bool)} (b:fY a0 a1=some r) :
  Calls prog 154 #[p0,U6 a1] w fun e w'=>e = .returned (.bool r)∧St w0 w' I [cX cb p0 a0] R:=by {
 rcases a0 with _ | i
 {
 dsimp only [fY] at b
 cases b
}
 replace c:=bQ c
 dsimp only [fY] at b
 refine c0 func154 z z (ww ?_)
 obtain ⟨f,T,x,y,c⟩:=c.box [U6 a1] 26
 refine wa x y (mb z (nt (ww (mv (p0) z ?_))))
 obtain ⟨h,d,rfl,A⟩:=dP c.ah
 have c:=A
 refine mk (.bool true) (mb z (wv (Pt h 0) ((av z z z z).trans z) z z (wv (Pt h 0) ((av z z z z).trans z) z z (wv (Pt h 0) ((av z z z z).trans z) z (xF z fI z) (wv (d) ((av z z z z).trans z) z (xL z (c.bc0 z)) (wv (.func (.func 204) #[] #[Pt f 0]) ((av z z z z).trans z) z krA ?_))))))
 refine bk b fun B C b=>dh ((av z z z z).trans z) z (er call203 (caps:=[]) z (vs:=[d,.func (.func 204) #[] #[Pt f 0]]) z) (Calls.mono (show Calls prog 203 #[d,.func (.func 204) #[] #[Pt f 0]] _ (fun e w'=>∃ (s:Bool),s=B∧e = .returned (.bool s)∧St w0 w' I [cells h [d],bp bZ d i.l,cells f [U6 a1]] R) from ?_) ?_)
 {
 clear b; have b:=C
 refine c0 func203 z z (ww (mb z (nt (ww (mv (d) z (mv (.func (.func 204) #[] #[Pt f 0]) z (bk b fun v D b=>dh z z (er call222 (caps:=[]) z (vs:=[d,.func (.func 204) #[] #[Pt f 0]]) z) (Calls.mono (show Calls prog 222 #[d,.func (.func 204) #[] #[Pt f 0]] _ (fun e w'=>∃ (t:Int),t=v∧e = .returned (.int .i64 t)∧St w0 w' I [cells h [d],bp bZ d i.l,cells f [U6 a1]] R) from ?_) ?_))))))))
 {
 clear b; have b:=D
 refine c0 func222 z z (ww (mi z (nt (aj (ww (mv (d) z (mz (bX z uI c.sv1) (mi z (nt (au ?_))))))))))
 obtain ⟨E,b⟩:=aS b
 refine bg (fun n a w=>∃ (j:Int),cU (gH i a1) n j=some v∧fz 19 [0,1,7,8] [d,.func (.func 204) #[] #[Pt f 0],I6 ((i.l).length:Int),I6 j] a∧St w0 w I [cells h [d],bp bZ d i.l,cells f [U6 a1]] R) E ⟨0,b,fy z,c⟩ ?_
 rintro U _ V ⟨j,b,⟨W,rfl⟩,c⟩
 obtain ⟨X,Y,rfl,b,u⟩:=aU b
 dsimp only [gH] at b
 refine ww (mb z (nt (aj (bw b z ?_ ?_))))
 {
 refine fun F b=>al (tn (aj (au (ww (mi z (mi z (nt (ww (mv (.func (.func 204) #[] #[Pt f 0]) z (mv (d) z (mi z ?_)))))))))))
 obtain ⟨g,G,b⟩:=bn b
 obtain ⟨H,J,K⟩:=aV G
 refine mz (aJ z z uI sI c.sv1 H J) ?_
 obtain ⟨Z,L,M⟩:=c.og1 K
 obtain ⟨k,m,p,q,rfl,b0,b1,b2,b3,-⟩:=L
 refine mz (xN (cs:=[U6 g.ID.ab,U6 g.ID.Seq,U6 g.ae,k,m,p,q]) z (et (o:=0) M z)) (bk b fun N O b=>dh z z (er call204 (caps:=[Pt f 0]) z (vs:=[.agg #[U6 g.ID.ab,U6 g.ID.Seq,U6 g.ae,k,m,p,q]]) z) (Calls.mono (show Calls prog 204 #[.agg #[U6 g.ID.ab,U6 g.ID.Seq,U6 g.ae,k,m,p,q],Pt f 0] _ (fun e w'=>()=N∧e = .returned (.bool (decide (g.ae≤a1)))∧St w0 w' I [cells h [d],bp bZ d i.l,cells f [U6 a1]] R) from ?_) ?_))
 {
 clear b; have b:=O
 refine c0 func204 z z (ww ?_)
 obtain ⟨b4,b5,P,Q,c⟩:=c.box [U6 g.ID.ab,U6 g.ID.Seq,U6 g.ae,k,m,p,q] 46
 refine wa P Q (mb z (nt (ww (mF z fI (mL z (c.bc0 z) (mL z (c.bc3 z) (mb z (mb z (nt (ar (pB z z ?_)))))))))))
 cases b
 exact ⟨z,z,c.aA.aA.aA.eu⟩
}
 rintro _ b6 ⟨rfl,rfl,c⟩
 refine ⟨_,z,?_⟩
 try dsimp only at b
 refine nt (bw b z ?_ ?_)
 {
 refine fun S b=>ww (mi z (mi z (nt (ar (eo (bh (bh ?_)))))))
 replace b:=bz b u
 refine eo (bh (pI z z ?_))
 obtain rfl:=sj b
 exact ⟨j,z,z,c.aD.aD.aD.eu⟩
}
 refine fun S b=>al (bJ (tn (wrl (mi z (mi z (nt ?_))))))
 cases b
 exact ⟨_,nls,_,u,fy z,c.aD.aD.aD.eu⟩
}
 refine fun F b=>bH (aQ (aQ ?_))
 replace b:=bz b u
 refine cZ (tn (ww (mi z (nt (ar (pI z z ?_))))))
 cases b
 exact ⟨_,z,z,c.aD.aD.aD.eu⟩
}
 rintro _ b7 ⟨t,rfl,rfl,c⟩
 refine ⟨_,z,?_⟩
 try dsimp only at b
 refine mb z (mb z (nt (ar (pB z z ?_))))
 cases b
 exact ⟨_,z,z,c.aD.aD.aD.eu⟩
}
 rintro _ b8 ⟨s,rfl,rfl,c⟩
 refine ⟨_,z,?_⟩
 try dsimp only at b
 refine mb (bi z z z) (mb z (nt (ar ?_)))
 obtain rfl:=sj b
 exact pB z z ⟨z,(aR (dt (Pt h 0) i c.ah.ah z)).bF⟩
}
theorem uf {a0:(Option ai)} {p0:Value} (a:St w0 w I [cX aM p0 a0] R) {r:(Bool)} (c:ln a0=some r) :
  Calls prog 85 #[p0] w fun e w'=>e = .returned (.bool r)∧St w0 w' I [cX aM p0 a0] R:=by {
 rcases a0 with _ | d
 {
 dsimp only [ln] at c
 cases c
}
 replace a:=bQ a
 dsimp only [ln] at c
 refine c0 func85 z z (ww (mb z (nt (aj ?_))))
 obtain ⟨b,j,f,k,l,m,n,o,rfl,g⟩:=bC a
 have a:=g
 refine rg a 15 [0,1,3,7,15,31,63,7,135,391,903,2047,4095,8191,16383] [] mixed (sp 0 z z (sk (.bool true) 1 z (sb 2 z z (sy (Pt b 0) 3 z z (di ((av z z z z).trans z) (fun w a=>z)) (sy (Pt b 0) 4 z z (di ((av z z z z).trans z) (fun w a=>z)) (sy (Pt b 3) 5 z z (di ((av z z z z).trans z) (fun w a=>xF z fI z)) (sy (f) 6 z z (di ((av z z z z).trans z) (fun w a=>xL z (a.bc0 z))) (sy (Pt b 0) 7 z z (di ((av z z z z).trans z) (fun w a=>z)) (sy (Pt b 0) 8 z z (di ((av z z z z).trans z) (fun w a=>z)) (sy (Pt b 1) 9 z z (di ((av z z z z).trans z) (fun w a=>xF z fI z)) (sy (.int .u64 d.cI) 10 z z (di ((av z z z z).trans z) (fun w a=>xL z (a.bc0 z))) (iN 11 krA (nxe [12,13,14] krA z ((av z z z z).trans z) ?_)))))))))))))
 clear a
 intro w a
 replace a:=a.aD
 obtain ⟨h,i,c⟩:=bn c
 refine wec call154 [f,U6 d.cI] z z (kcI (vR a.to1 i) fun p a=>w0n a (sy (.bool (!h)) 12 z z (di ((av z z z z).trans z) (fun w a=>z)) (sh (.bool _) 13 z (fun w a=>bi z z z) (sb 14 z z (bt ?_)))))
 refine fun w a=>tn (ar ?_)
 cases c
 exact pB z z ⟨z,(aR (aF (Pt b 0) d a.aW.aW.aW.aW.aW.bq.aW.aW z)).bF⟩
}
theorem xK {a0:(Option ai)} {p0:Value} {a1:aG} {g h i j k l m n:Value} (D:Rd cp R I g a1.br.dO) (F:Rd fU R I h a1.br.aX) (G:Rd cp R I i a1.br.dD) (H:Rd (cr .u8) R I j a1.br.Data) (J:Rd cG R I k a1.cw) (K:Rd aK R I l a1.R.dT) (L:Rd (eC aH) R I m a1.R.aX) (M:Rd cN R I n a1.dM) (a:St w0 w I [cX aM p0 a0] R) {r:(bU×(Option ai))} (b:kl a0 a1=some r) :
  Calls prog 47 #[p0,.agg #[U1 a1.Kind,U6 a1.ID.ab,U6 a1.ID.Seq,U6 a1.ae,U6 a1.Index,I6 a1.E,U6 a1.br.ID.ab,U6 a1.br.ID.Seq,U6 a1.br.ae,g,h,i,j,k,I6 a1.R.E,U6 a1.R.ae,U6 a1.R.Index,l,m,U6 a1.bY,n,U6 a1.ap.ID,I6 a1.ap.dn,I6 a1.ap.To,F6 a1.ap.Lo,F6 a1.ap.Hi,U6 a1.ap.Authority,I6 a1.ap.cx,.bool a1.On]] w fun e w'=>∃ (p:Value) (q:Value),e = .returned (.agg #[U1 r.1.Kind,U6 r.1.ID.ab,U6 r.1.ID.Seq,I6 r.1.R.E,U6 r.1.R.ae,U6 r.1.R.Index,p,q])∧St w0 w' I [bp aK p r.1.R.dT,bp (eC aH) q r.1.R.aX,cX aM p0 r.2] R:=by {
 rcases a0 with _ | d
 {
 dsimp only [kl] at b
 cases b
}
 replace a:=bQ a
 dsimp only [kl] at b
 refine c0 func47 z z (ww ?_)
 obtain ⟨N,O,s,t,a⟩:=a.box [U1 a1.Kind,U6 a1.ID.ab,U6 a1.ID.Seq,U6 a1.ae,U6 a1.Index,I6 a1.E,U6 a1.br.ID.ab,U6 a1.br.ID.Seq,U6 a1.br.ae,g,h,i,j,k,I6 a1.R.E,U6 a1.R.ae,U6 a1.R.Index,l,m,U6 a1.bY,n,U6 a1.ap.ID,I6 a1.ap.dn,I6 a1.ap.To,F6 a1.ap.Lo,F6 a1.ap.Hi,U6 a1.ap.Authority,I6 a1.ap.cx,.bool a1.On] 49
 refine wa s t ?_
 obtain ⟨P,Q,u,v,a⟩:=a.box [Zb,Zu,Zu,Zi,Zu,Zu,Zs,Zs] 35
 refine wa u v (nt (aj (aj ?_)))
 obtain ⟨f,S,T,U,V,W,X,Y,rfl,x⟩:=bC a.aD
 have a:=x
 refine rg a 12 [0,1,0,4,12,28,63,127,255,511,1023,2047] [] mixed (sF 0 z z fI (sL 1 z z (·.bc9 z) (sp 2 z z (sp 3 z z (sF 4 z z fI (sL 5 z z (·.bc0 z) (sb 6 z z (sb 7 z z (bs b ?_ ?_)))))))))
 {
 refine fun c b=>so 8 z c (so 9 z c (so 10 z c (sh (.bool _) 11 z (fun w a=>bi c z z) (bt ?_))))
 refine fun w a=>tn (eG z (ww (mk (.agg #[Zb,Zu,Zu,Zi,Zu,Zu,Zs,Zs]) ?_)))
 replace a:=a.bM
 refine bxk a z sI (oJ 8 z oN) fun Z a=>nt (ar (bh ?_))
 replace a:=aR (aF (Pt f 0) d ((a.ba aK).ba (eC aH)).bR.bR.bR.bR.bR.bR.bR.bR z)
 cases b
 exact prI z (rN z (a.ul 0 tz)) ⟨(.slice none 0 0),Zs,z,a.ah.aD.eu⟩
}
 refine fun c b=>sgz (Pt _ _) 8 z c z (iN 9 krA (nxe [10,11] krA z ((av z z z (cvb c)).trans z) ?_))
 clear a
 intro w a
 replace a:=aR (aF (Pt f 0) d a.aW.aW.aW.aW.aW.aW.aW.aW z)
 obtain ⟨b0,y,b⟩:=bn b
 refine wec call85 [Pt f 0] z z (kcI (uf a.to1 y) fun b1 a=>?_)
 replace a:=bQ a
 refine w0n a (sgz (.bool _) 10 z c z (sh (.bool _) 11 z (fun w a=>aL c z z) (bt ?_)))
 refine fun w a=>tn (bw b z ?_ ?_)
 {
 refine fun A b=>ww (mk (.agg #[Zb,Zu,Zu,Zi,Zu,Zu,Zs,Zs]) ?_)
 replace a:=a.ah
 refine bxk a z sI (oJ 8 z oN) fun b2 a=>nt (ar (bh ?_))
 replace a:=aR (((a.ba aK).ba (eC aH)).aA)
 cases b
 exact prI z (rN z (a.ul 0 tz)) ⟨(.slice none 0 0),Zs,z,a.ah.aD.eu⟩
}
 refine fun A b=>al (tn (ww (mp z ?_)))
 obtain ⟨b3,b4,b5,b6,b7,b8,b9,c1,o,B⟩:=bC a
 replace o:=ez o
 subst o
 have a:=B
 refine mp z (mF z fI (mL z (a.bc0 z) (mi z (mp z (mF z fI (byk (U6 (u64.wrap (d.cI+1))) a z sI (oC z oN) fun c2 a=>nt (aj (ww (mp z (mp z (mF z fI (mL z (a.bc0 z) (mb z (nt (bw b z ?_ ?_)))))))))))))))
 {
 intro C b
 cases b
}
 refine fun C b=>al (tn (ww (mk (.agg #[U1 1,Zu,Zu,Zi,Zu,Zu,Zs,Zs]) ?_)))
 replace a:=a.bM
 refine bxk a z sI (oJ 8 z oN) fun c3 a=>nt (ar ?_)
 replace a:=aR (aF (Pt f 0) (({d with cI:=(u64.wrap (d.cI+1))}:ai)) ((a.ba aK).ba (eC aH)).bR.bR.bR.bR.bR.bR.bR.bR z)
 cases b
 exact prI z (rN z (a.ul 0 tz)) ⟨(.slice none 0 0),Zs,z,a.ah.aD.eu⟩
}
theorem sH {a0:Int} (b:St w0 w I [] R) {r:(Bool)} (a:lf a0=some r) :
  Calls prog 190 #[U6 a0] w fun e w'=>e = .returned (.bool r)∧St w0 w' I [] R:=by {
 unfold lf at a
 refine c0 func190 z z (ww (mb z (nt (ww (mi z (mi z (mb z (mb z (nt (ar ?_))))))))))
 cases a
 exact pB z z ⟨z,b.cT⟩
}
theorem gK {a0 a1:Int} (b:St w0 w I [] R) {r:(Int)} (a:eM a0 a1=some r) :
  Calls prog 131 #[U6 a0,U6 a1] w fun e w'=>e = .returned (.int .i64 r)∧St w0 w' I [] R:=by {
 unfold eM at a
 refine c0 func131 z z (ww (mi z (nt (ww (mi z (bk a fun k c a=>wc call190 [U6 a0] z z z (kcO (sH b.to0 c) fun l b=>mb z (nt (ww (mi z (bk a fun m d a=>wc call190 [U6 a1] z z z (kcO (sH b.to0 d) fun n b=>mb z (nt (aj (ww (mb z (nt (bw a z ?_ ?_))))))))))))))))))
 {
 refine fun f a=>aj (ww (mb z (nt (bw a z ?_ ?_))))
 {
 refine fun g a=>ww (mi z (nt (ar (bh (bh ?_)))))
 cases a
 exact pI z z ⟨z,b.cT⟩
}
 refine fun g a=>al (tn (ww (mi z (nt (ar (bh ?_))))))
 cases a
 exact pI z z ⟨z,b.cT⟩
}
 refine fun f a=>al (tn (aj (ww (mb z (nt (bw a z ?_ ?_))))))
 {
 refine fun h a=>ww (mi z (nt (ar (bh ?_))))
 cases a
 exact pI z z ⟨z,b.cT⟩
}
 refine fun h a=>al (tn (aj (ww (mi z (mi z (mb z (nt (bw a z ?_ ?_))))))))
 {
 refine fun i a=>ww (mi z (nt (ar (bh ?_))))
 cases a
 exact pI z z ⟨z,b.cT⟩
}
 refine fun i a=>al (tn (aj (ww (mi z (mi z (mb z (nt (bw a z ?_ ?_))))))))
 {
 refine fun j a=>ww (mi z (nt (ar (bh ?_))))
 cases a
 exact pI z z ⟨z,b.cT⟩
}
 refine fun j a=>al (tn (ww (mi z (nt (ar ?_)))))
 cases a
 exact pI z z ⟨z,b.cT⟩
}
theorem wC {a0:(List Int)} {d:Value} (f:Rd (cr .i64) R I d a0) (c:St w0 w I [] R) {r:(Int)} (b:se a0=some r) :
  Calls prog 130 #[d] w fun e w'=>e = .returned (.int .i64 r)∧St w0 w' I [] R:=by {
 unfold se at b
 refine c0 func130 z z (ww (mi z (nt (ww (mi z (nt (aj (ww (mv (d) z (mz (bX z uI (ay f)) (mi z (nt (au ?_)))))))))))))
 obtain ⟨i,b⟩:=aS b
 refine bg (fun n a w=>∃ (g:Int),cU (om a0) n g=some r∧fz 18 [3,6,7,8] [I6 0,d,I6 ((a0).length:Int),I6 g] a∧St w0 w I [] R) i ⟨0,b,fy z,c⟩ ?_
 rintro q _ s ⟨g,b,⟨t,rfl⟩,c⟩
 obtain ⟨u,v,rfl,b,h⟩:=aU b
 dsimp only [om] at b
 refine ww (mb z (nt (aj (bw b z ?_ ?_))))
 {
 refine fun j b=>al (tn (aj (au (ww ?_))))
 obtain ⟨x,k,b⟩:=bn b
 obtain ⟨l,m,o⟩:=aV k
 refine mz (aJ z z uI sI (ay f) l m) (mL z (fb f lr c o riA) (mi z (nt (ww (mi z (mi z (mb z (nt (bw b z ?_ ?_)))))))))
 {
 refine fun p b=>ww (mi z (mi z (nt (ar (eo (bh (bh ?_)))))))
 replace b:=bz b h
 refine eo (bh ?_)
 obtain rfl:=sj b
 exact pI z z ⟨z,c.cT⟩
}
 refine fun p b=>al (bJ (tn (wrl (mi z (mi z (nt ?_))))))
 cases b
 exact ⟨_,nls,_,h,fy z,c.cT⟩
}
 refine fun j b=>bH (aQ (aQ ?_))
 replace b:=bz b h
 refine cZ (tn (ww (mi z (mi z (nt (ar ?_))))))
 cases b
 exact pI z z ⟨z,c.cT⟩
}
theorem rv {a0:aw} {c d f g:Value} {a1:cy} (y:Rd cp R I c a0.dO) (A:Rd fU R I d a0.aX) (B:Rd cp R I f a0.dD) (C:Rd (cr .u8) R I g a0.Data) (a:St w0 w I [] R) {r:(Int)} (b:mB a0 a1=some r) :
  Calls prog 160 #[.agg #[U6 a0.ID.ab,U6 a0.ID.Seq,U6 a0.ae,c,d,f,g],.agg #[U6 a1.ab,U6 a1.Seq]] w fun e w'=>e = .returned (.int .i64 r)∧St w0 w' I [] R:=by {
 unfold mB at b
 refine c0 func160 z z (ww ?_)
 obtain ⟨D,F,l,m,a⟩:=a.box [U6 a0.ID.ab,U6 a0.ID.Seq,U6 a0.ae,c,d,f,g] 46
 refine wa l m ?_
 obtain ⟨G,H,n,o,a⟩:=a.box [U6 a1.ab,U6 a1.Seq] 28
 refine wa n o (mi z (nt (aj (rg a 15 [0,1,3,0,8,31,0,64,192,0,512,2047,4095,8191,16383] [] mixed (sF 0 z z fI (sF 1 z z fI (sL 2 z z (·.bc1 z) (sF 3 z z fI (sL 4 z z (·.bc0 z) (sF 6 z z fI (sF 7 z z fI (sL 8 z z (·.bc1 z) (sF 9 z z fI (sL 10 z z (·.bc0 z) (e1 5 z z fun w a=>bk b fun h p b=>wec call131 [U6 a0.ID.ab,U6 a1.ab] z z ?_)))))))))))))))
 refine kcO (gK a.to0 p) fun J a=>wn [10,9,8,7,6] a (pL z z (·.bc0 z) (pF z z fI (pL z z (·.bc1 z) (pF z z fI (pF z z fI aT))))) (e1 11 z z fun w a=>bk b fun i q b=>wec call131 [U6 a0.ID.Seq,U6 a1.Seq] z z (kcO (gK a.to0 q) fun K a=>w0n a (e1 12 z z fun w a=>?_)))
 obtain ⟨j,s,t,u,a⟩:=a.lits (E:=(cr .i64)) (xs:=[h,i]) [[I6 h],[I6 i]] 3 2 z (bT.cons z (bT.cons z bT.nil))
 refine cj (v:=(.slice (some ⟨j,0,none⟩) 2 2)) (w':=s) z (dH krA t u) (w0n a (e1 13 z z fun w a=>?_))
 obtain ⟨L,k,a⟩:=a.cz
 obtain ⟨M,x,b⟩:=bn b
 refine wec call130 [(.slice (some ⟨j,0,none⟩) 2 2)] z z (kcO (wC (a.jA k) a.to0 x) fun N a=>?_)
 replace a:=a.bo k
 refine w0n a (si 14 z z (bt ?_))
 refine fun w a=>tn (ar ?_)
 obtain rfl:=sj b
 exact pI z z ⟨z,a.cT⟩
}
theorem pf {a0:(Option bN)} {p0:Value} {a1:cy} (b:St w0 w I [cX cb p0 a0] R) {r:(Int×Bool)} (c:iD a0 a1=some r) :
  Calls prog 135 #[p0,.agg #[U6 a1.ab,U6 a1.Seq]] w fun e w'=>e = .returned (.tuple #[I6 r.1,.bool r.2])∧St w0 w' I [cX cb p0 a0] R:=by {
 rcases a0 with _ | g
 {
 dsimp only [iD] at c
 cases c
}
 replace b:=bQ b
 dsimp only [iD] at c
 refine c0 func135 z z (ww ?_)
 obtain ⟨v,d0,L,M,b⟩:=b.box [U6 a1.ab,U6 a1.Seq] 28
 refine wa L M (mi z (mb z (nt (aj (ww (mv (p0) z ?_))))))
 obtain ⟨p,f,rfl,N⟩:=dP b.ah
 have b:=N
 refine mk (.bool false) (nt (cJ z (al (tn (aj (rg b 10 [0,1,3,7,0,31,63,63,255,511] [] mixed (sp 0 z z (sp 1 z z (sF 2 z z fI (sL 3 z z (·.bc0 z) (sh _ 4 z (fun w b=>xN (cs:=[U6 a1.ab,U6 a1.Seq]) z (b.ta 0 z)) (e1 5 z z fun w b=>bk c fun A O c=>sB z (er call193 (caps:=[]) z (vs:=[f,.agg #[U6 a1.ab,U6 a1.Seq],.func (.func 160) #[] #[]]) z) (Calls.mono (show Calls prog 193 #[f,.agg #[U6 a1.ab,U6 a1.Seq],.func (.func 160) #[] #[]] _ (fun e w'=>∃ (q:Int) (s:Bool),(q,s)=A∧e = .returned (.tuple #[I6 q,.bool s])∧St w0 w' I [cells p [f],bp bZ f g.l,cells v [U6 a1.ab,U6 a1.Seq]] R) from ?_) ?_)))))))))))))
 {
 clear c; have c:=O
 refine c0 func193 z z (ww ?_)
 obtain ⟨t,d1,P,Q,b⟩:=b.box [U6 a1.ab,U6 a1.Seq] 28
 refine wa P Q (mi z (mb z (nt (ww (mv (f) z (mz (bX z uI b.sv2) (mi z (nt (ww (mi z (mi z (mi z (nt ?_)))))))))))))
 obtain ⟨S,c,T⟩:=bn c
 refine cR (fun a w=>∃ (h:Int),(mM g a1) h=some A∧fz 49 [0,2,4,8,9] [f,.func (.func 160) #[] #[],Pt t 0,I6 ((g.l).length:Int),I6 h] a∧St w0 w I [bp bZ f g.l,cells t [U6 a1.ab,U6 a1.Seq],cells p [f],cells v [U6 a1.ab,U6 a1.Seq]] R) ?_ ?_
 {
 refine au ?_
 obtain ⟨U,c⟩:=aS c
 refine bg (fun n a w=>∃ (j:Int) (i:Int),cU (je g a1) n (j,i)=some S∧fz 49 [0,2,4,8,9,10] [f,.func (.func 160) #[] #[],Pt t 0,I6 ((g.l).length:Int),I6 i,I6 j] a∧St w0 w I [cells t [U6 a1.ab,U6 a1.Seq],cells p [f],bp bZ f g.l,cells v [U6 a1.ab,U6 a1.Seq]] R) U ⟨((g.l).length:Int),0,c,fy z,b⟩ ?_
 rintro d2 _ d3 ⟨j,i,c,⟨d4,rfl⟩,b⟩
 obtain ⟨d5,d6,rfl,c,x⟩:=aU c
 dsimp only [je] at c
 refine aj (ww (mi z (mi z (mb z (nt (bw c z ?_ ?_))))))
 {
 refine fun V c=>al (tn (au (ww (mi z (mi z (mi z (mk (.int .u64 (u64.wrap (i64.wrap (i+j)))) (mi (xS deA z z) (mk (.int .i64 (i64.wrap (jq .u64 (u64.wrap (i64.wrap (i+j))) 1))) (mi z (nt (aj ?_))))))))))))
 replace b:=b.aD
 obtain ⟨d7,y,b⟩:=b.cz
 refine rg b 8 [0,0,0,6,14,0,63,127] [] mixed (sz (.func (.func 160) #[] #[]) 0 z z (sz (f) 1 z z (si 2 z z ?_)))
 obtain ⟨k,W,c⟩:=bn c
 obtain ⟨X,Y,Z⟩:=aV W
 refine sh _ 3 z (fun w b=>aJ z z uI sI (b.rsv 0 z y) X Y) ?_
 obtain ⟨d8,b0,b1⟩:=bT.get y Z
 obtain ⟨B,C,D,E,rfl,b2,b3,b4,b5,-⟩:=b1
 refine sh _ 4 z (fun w b=>xN (cs:=[U6 k.ID.ab,U6 k.ID.Seq,U6 k.ae,B,C,D,E]) z (et (o:=0) (b.uy 0 z b0) z)) (sh _ 5 z (fun w b=>xN (cs:=[U6 a1.ab,U6 a1.Seq]) z (b.fO 0 z)) (e1 6 z z fun w b=>bk c fun d9 b6 c=>sB z (er call160 (caps:=[]) z (vs:=[.agg #[U6 k.ID.ab,U6 k.ID.Seq,U6 k.ae,B,C,D,E],.agg #[U6 a1.ab,U6 a1.Seq]]) z) (kcO (rv (b2.mono cS) (b3.mono cS) (b4.mono cS) (b5.mono cS) b.to0 b6) fun e0 b=>?_)))
 refine w0n b (sb 7 z z (bt ?_))
 intro w b
 replace b:=b.bo y
 refine tn (bw c z ?_ ?_)
 {
 refine fun b7 c=>wrl (mi z (mi z (mi z (dv (bJ (tn ?_))))))
 cases c
 exact ⟨_,nls,j,_,x,fy z,b.aA.ah.aA.aA.eQ⟩
}
 refine fun b7 c=>wrl (mi z (mi z (dv (bJ (tn ?_)))))
 cases c
 exact ⟨_,nls,_,i,x,fy z,b.aA.ah.aA.aA.eQ⟩
}
 refine fun V c=>bH (aQ (aQ ?_))
 replace c:=bz c x
 refine cZ (tn ?_)
 obtain rfl:=sj c
 exact ⟨i,T,fy z,b.aA.aD.aD.aA.eQ⟩
}
 rintro _ e2 ⟨h,c,⟨e3,rfl⟩,b⟩
 dsimp only [mM] at c
 refine aj ?_
 obtain ⟨e4,u,b⟩:=b.cz
 refine rg b 16 [0,0,0,6,14,30,30,30,222,478,30,2046,4094,8190,4095,32767] [] mixed (si 0 z z (si 1 z z (si 2 z z (sb 3 z z (sb 4 z z (bs c ?_ ?_))))))
 {
 refine fun d c=>sgz (.func (.func 160) #[] #[]) 5 z d z (sgz f 6 z d z (sgz (I6 _) 7 z d z ?_))
 obtain ⟨m,b8,c⟩:=bn c
 obtain ⟨b9,c1,c2⟩:=aV b8
 refine sg _ 8 z d (fun w b=>aJ z z uI sI (b.rsv 0 z u) b9 c1) ?_
 obtain ⟨e5,c3,c4⟩:=bT.get u c2
 obtain ⟨F,G,H,J,rfl,c5,c6,c7,c8,-⟩:=c4
 refine sg _ 9 z d (fun w b=>xN (cs:=[U6 m.ID.ab,U6 m.ID.Seq,U6 m.ae,F,G,H,J]) z (et (o:=0) (b.uy 0 z c3) z)) (sg _ 10 z d (fun w b=>xN (cs:=[U6 a1.ab,U6 a1.Seq]) z (b.fO 0 z)) (iN 11 krA (nxe [12,13,14,15] krA z ((av z z z (cvb d)).trans z) ?_)))
 clear b
 intro w b
 obtain ⟨K,c9,c⟩:=bn c
 refine sB z (er call160 (caps:=[]) z (vs:=[.agg #[U6 m.ID.ab,U6 m.ID.Seq,U6 m.ae,F,G,H,J],.agg #[U6 a1.ab,U6 a1.Seq]]) z) (kcO (rv (c5.mono cS) (c6.mono cS) (c7.mono cS) (c8.mono cS) b.to0 c9) fun e6 b=>wn [0] b (pz aT) (sgz (.bool _) 12 z d z (sh (.bool _) 13 z (fun w b=>bi d z z) (si 14 z z (sb 15 z z (bt ?_))))))
 intro w b
 replace b:=b.bo u
 refine tn (ar (dI [I6 h,.bool (K==0)] z (rc z (rc z bl)) ?_))
 cases c
 exact ⟨h,(K==0),z,z,b.aA.ah.aA.eu⟩
}
 refine fun d c=>so 5 z d (so 6 z d (so 7 z d (so 8 z d (so 9 z d (so 10 z d (so 11 z d (so 12 z d (sh (.bool _) 13 z (fun w b=>aL d z z) (si 14 z z (sb 15 z z (bt ?_)))))))))))
 intro w b
 replace b:=b.bo u
 refine tn (ar (dI [I6 h,.bool false] z (rc z (rc z bl)) ?_))
 cases c
 exact ⟨h,false,z,z,b.aA.ah.aA.eu⟩
}
 rintro _ e7 ⟨q,s,rfl,rfl,b⟩
 refine ⟨_,z,?_⟩
 try dsimp only at c
 refine w0n b (si 6 z z (sb 7 z z (si 8 z z (sb 9 z z (bt ?_)))))
 refine fun w b=>tn (ar ?_)
 cases c
 exact dI [I6 q,.bool s] z (rc z (rc z bl)) ⟨z,(aR (dt (Pt p 0) g b.ah.ah z)).bF⟩
}
theorem pU {a0:(Option bN)} {p0:Value} {a1:cy} (a:St w0 w I [cX cb p0 a0] R) {r:(aw×Bool)} (b:jj a0 a1=some r) :
  Calls prog 56 #[p0,.agg #[U6 a1.ab,U6 a1.Seq]] w fun e w'=>∃ (I':HL) (i:Value) (j:Value) (k:Value) (l:Value),e = .returned (.tuple #[.agg #[U6 r.1.ID.ab,U6 r.1.ID.Seq,U6 r.1.ae,i,j,k,l],.bool r.2])∧I.le I'∧Ro cp I' i r.1.dO∧Ro fU I' j r.1.aX∧Ro cp I' k r.1.dD∧Ro (cr .u8) I' l r.1.Data∧St w0 w' I' [cX cb p0 a0] R:=by {
 rcases a0 with _ | u
 {
 dsimp only [jj] at b
 cases b
}
 replace a:=bQ a
 dsimp only [jj] at b
 refine c0 func56 z z ?_
 have m:=HL.le.refl I
 refine ww ?_
 obtain ⟨Q,S,v,x,a⟩:=a.box [U6 a1.ab,U6 a1.Seq] 28
 refine wa v x ?_
 obtain ⟨T,U,y,A,a⟩:=a.box [Zu,Zu,Zu,Zs,Zs,Zs,Zs] 46
 refine wa y A (mb z (nt (ww (mv (p0) z (mz (xN (cs:=[U6 a1.ab,U6 a1.Seq]) z (a.fO 0 z)) ?_)))))
 replace a:=aR a.aD
 obtain ⟨n,B,b⟩:=bn b
 refine wc call135 [p0,.agg #[U6 a1.ab,U6 a1.Seq]] z z z (kcI (pf a.to1 B) fun V a=>?_)
 replace a:=bQ a
 refine mv (.tuple #[I6 n.1,.bool n.2]) z (mi z (mb z (mi z (mb z (nt (aj (ww (mb z (mb z (nt (bw b z ?_ ?_)))))))))))
 {
 refine fun C b=>ww (mk (.agg #[Zu,Zu,Zu,Zs,Zs,Zs,Zs]) ?_)
 replace a:=a.ah
 refine bxk a z sI (oJ 7 z oN) fun W a=>mb z (nt (ar (bh ?_)))
 have D:Ro cp I (.slice none 0 0) []:=dc
 have E:Ro fU I (.slice none 0 0) []:=dc
 have F:Ro cp I (.slice none 0 0) []:=dc
 have G:Ro (cr .u8) I (.slice none 0 0) []:=dc
 replace a:=aR a.ah
 cases b
 exact dI [.agg #[Zu,Zu,Zu,Zs,Zs,Zs,Zs],.bool false] z (ea (rN z (a.fO 0 tz)) (rc z bl)) ⟨_,Zs,Zs,Zs,Zs,z,m,D,E,F,G,a.bF⟩
}
 refine fun C b=>al (tn (ww (mv (p0) z ?_)))
 obtain ⟨H,X,rfl,J⟩:=dP a
 have a:=J
 refine mp z (mF z fI (mL z (a.bc0 z) (mi z ?_)))
 obtain ⟨c,K,b⟩:=bn b
 obtain ⟨L,M,N⟩:=aV K
 refine mz (aJ z z uI sI a.sv1 L M) ?_
 obtain ⟨Y,O,P⟩:=a.og1 N
 obtain ⟨d,f,g,h,rfl,p,q,s,t,-⟩:=O
 refine mz (xN (cs:=[U6 c.ID.ab,U6 c.ID.Seq,U6 c.ae,d,f,g,h]) z (et (o:=0) P z)) ?_
 replace a:=a.aD
 refine bxk a z sI (oJ 3 z (oC (oS (ak p)) (oC (oS (ak q)) (oC (oS (ak s)) (oC (oS (ak t)) oN))))) fun Z a=>mb z (nt (ar ?_))
 replace a:=aR (dt (Pt H 0) u a.aD.aD z)
 cases b
 exact dI [.agg #[U6 c.ID.ab,U6 c.ID.Seq,U6 c.ae,d,f,g,h],.bool true] z (ea (rN z (a.fO 0 tz)) (rc z bl)) ⟨_,d,f,g,h,z,m,p,q,s,t,a.bF⟩
}
theorem Ao {a0:Nat} (b:St w0 w I [] R) {r:(Bool)} (a:tP a0=some r) :
  Calls prog 177 #[F6 a0] w fun e w'=>e = .returned (.bool r)∧St w0 w' I [] R:=by {
 unfold tP at a
 refine c0 func177 z z (ww (mb z (nt (ww (mv (F6 _) z (mv (F6 _) z (mb z (mb z (nt (ar ?_))))))))))
 cases a
 exact pB z z ⟨z,b.cT⟩
}
theorem dG {a0:Nat} (b:St w0 w I [] R) {r:(Int)} (a:dS a0=some r) :
  Calls prog 118 #[F6 a0] w fun e w'=>e = .returned (.int .u64 r)∧St w0 w' I [] R:=by {
 unfold dS at a
 refine c0 func118 z z (ww (mi z (nt (aj (ww (mv (F6 _) z (bk a fun g c a=>wc call177 [F6 a0] z z z (kcO (Ao b.to0 c) fun h b=>nt (bw a z ?_ ?_)))))))))
 {
 refine fun d a=>ww (mi z (nt (ar (bh ?_))))
 cases a
 exact pI z z ⟨z,b.cT⟩
}
 refine fun d a=>al (tn (ww (mv (F6 _) z (mk (.int .u64 (Int.ofNat a0)) (mi z (nt (aj (ww (mi z (mi (xS deA z z) (mb z (nt (bw a z ?_ ?_)))))))))))))
 {
 refine fun f a=>ww (mi z (mk (.int .u64 (Ez .u64 ((18446744073709551615):Int) (Int.ofNat a0))) (mi z (nt (ar (bh ?_))))))
 cases a
 exact pI z z ⟨z,b.cT⟩
}
 refine fun f a=>al (tn (ww (mi z (mi z (mi z (nt (ar ?_)))))))
 cases a
 exact pI z z ⟨z,b.cT⟩
}
theorem nU {a0 a1:Nat} (b:St w0 w I [] R) {r:(Bool)} (a:kN a0 a1=some r) :
  Calls prog 137 #[F6 a0,F6 a1] w fun e w'=>e = .returned (.bool r)∧St w0 w' I [] R:=by {
 unfold kN at a
 refine c0 func137 z z (ww (mb z (nt (ww (mv (F6 _) z (bk a fun f c a=>wc call118 [F6 a0] z z z (kcO (dG b.to0 c) fun g b=>mv (F6 _) z (bk a fun h d a=>wc call118 [F6 a1] z z z (kcO (dG b.to0 d) fun i b=>mb z (mb z (nt (ar ?_))))))))))))
 cases a
 exact pB z z ⟨z,b.cT⟩
}
theorem zr {a0 a1:(Nat×Nat)} (a:St w0 w I [] R) {r:(Bool)} (c:rp a0 a1=some r) :
  Calls prog 136 #[.agg #[F6 a0.1,F6 a0.2],.agg #[F6 a1.1,F6 a1.2]] w fun e w'=>e = .returned (.bool r)∧St w0 w' I [] R:=by {
 unfold rp at c
 refine c0 func136 z z (ww ?_)
 obtain ⟨l,m,d,f,a⟩:=a.box [F6 a0.1,F6 a0.2] 80
 refine wa d f ?_
 obtain ⟨n,o,g,h,a⟩:=a.box [F6 a1.1,F6 a1.2] 80
 refine wa g h (mb z (nt (ww (mp (fP (i:=0) z z uI sI deA deA) (mL z (a.bc1 z) (mp (fP (i:=0) z z uI sI deA deA) (mL z (a.bc0 z) ?_)))))))
 refine bk c fun p j c=>wc call137 [F6 a0.1,F6 a1.1] z z z (kcO (nU a.to0 j) fun q a=>mb z (bs c ?_ ?_))
 {
 refine fun b c=>gp b (fP (i:=1) z z uI sI deA deA) (gg b (xL z (a.bc1 z)) (gp b (fP (i:=1) z z uI sI deA deA) (gg b (xL z (a.bc0 z)) ?_)))
 refine bk c fun s k c=>dh ((av z z z (cvb b)).trans z) z (gO call137 z (vs:=[F6 a0.2,F6 a1.2]) z) (kcO (nU a.to0 k) fun t a=>mb (bi b z z) (mb z (nt (ar ?_))))
 obtain rfl:=sj c
 exact pB z z ⟨z,a.cT⟩
}
 refine fun b c=>go b (go b (go b (go b (go b (mb (aL b z z) (mb z (nt (ar ?_))))))))
 cases c
 exact pB z z ⟨z,a.cT⟩
}
theorem fv {a0:(List Int)} {d:Value} {a1:(List Int)} {f:Value} (g:Rd (cr .u8) R I d a0) (h:Rd (cr .u8) R I f a1) (c:St w0 w I [] R) {r:(Bool)} (b:dU a0 a1=some r) :
  Calls prog 110 #[d,f] w fun e w'=>e = .returned (.bool r)∧St w0 w' I [] R:=by {
 unfold dU at b
 refine c0 func110 z z (ww (mb z (nt (aj (ww (mv (d) z (mz (bX z uI (ay g)) (mv (f) z (mz (bX z uI (ay h)) (mb z (nt (bw b z ?_ ?_))))))))))))
 {
 refine fun k b=>ww (mb z (nt (ar (bh ?_))))
 cases b
 exact pB z z ⟨z,c.cT⟩
}
 refine fun k b=>al (tn (aj (ww (mv (d) z (mz (bX z uI (ay g)) (mi z (nt (au ?_))))))))
 obtain ⟨l,b⟩:=aS b
 refine bg (fun n a w=>∃ (i:Int),cU (gM a0 a1) n i=some r∧fz 26 [0,1,12,13] [d,f,I6 ((a0).length:Int),I6 i] a∧St w0 w I [] R) l ⟨0,b,fy z,c⟩ ?_
 rintro A _ B ⟨i,b,⟨C,rfl⟩,c⟩
 obtain ⟨D,E,rfl,b,j⟩:=aU b
 dsimp only [gM] at b
 refine ww (mb z (nt (aj (bw b z ?_ ?_))))
 {
 refine fun m b=>al (tn (aj (au (ww (mi z (mi z (nt (aj (eU c mixed krA (qz d z (qz (I6 _) z ?_)))))))))))
 obtain ⟨F,o,b⟩:=bn b
 obtain ⟨p,q,s⟩:=aV o
 refine qh _ (fun w c=>aJ z z uI sI (ay g) p q) (qh _ (fun w c=>xL z (fb g lr c s riA)) (qz f z (qz (I6 _) z ?_)))
 obtain ⟨G,t,b⟩:=bn b
 obtain ⟨u,v,x⟩:=aV t
 refine qh _ (fun w c=>aJ z z uI sI (ay h) u v) (qh _ (fun w c=>xL z (fb h lr c x riA)) (qz (.bool _) z (hK ?_)))
 refine fun w c=>tn (bw b z ?_ ?_)
 {
 refine fun y b=>ww (mb z (nt (ar (eo (bh (bh ?_))))))
 replace b:=bz b j
 refine eo (bh ?_)
 cases b
 exact pB z z ⟨z,c.cT⟩
}
 refine fun y b=>al (bJ (tn (wrl (mi z (mi z (nt ?_))))))
 cases b
 exact ⟨_,nls,_,j,fy z,c.cT⟩
}
 refine fun m b=>bH (aQ (aQ ?_))
 replace b:=bz b j
 refine cZ (tn (ww (mb z (nt (ar ?_)))))
 cases b
 exact pB z z ⟨z,c.cT⟩
}
theorem AE {a0:aw} {f g h q:Value} {a1:aw} {i j k s:Value} (y:Rd cp R I f a0.dO) (A:Rd fU R I g a0.aX) (B:Rd cp R I h a0.dD) (T:Rd (cr .u8) R I q a0.Data) (C:Rd cp R I i a1.dO) (D:Rd fU R I j a1.aX) (E:Rd cp R I k a1.dD) (U:Rd (cr .u8) R I s a1.Data) (c:St w0 w I [] R) {r:(Bool)} (b:rW a0 a1=some r) :
  Calls prog 57 #[.agg #[U6 a0.ID.ab,U6 a0.ID.Seq,U6 a0.ae,f,g,h,q],.agg #[U6 a1.ID.ab,U6 a1.ID.Seq,U6 a1.ae,i,j,k,s]] w fun e w'=>e = .returned (.bool r)∧St w0 w' I [] R:=by {
 unfold rW at b
 refine c0 func57 z z (ww ?_)
 obtain ⟨t,g1,V,W,c⟩:=c.box [U6 a0.ID.ab,U6 a0.ID.Seq,U6 a0.ae,f,g,h,q] 46
 refine wa V W ?_
 obtain ⟨u,g2,X,Y,c⟩:=c.box [U6 a1.ID.ab,U6 a1.ID.Seq,U6 a1.ae,i,j,k,s] 46
 refine wa X Y (mb z (nt (ww (mv (.func (.func 136) #[] #[]) z (nt (ww (mF z fI (mz (xN (cs:=[U6 a0.ID.ab,U6 a0.ID.Seq]) z (c.fO 0 z)) (mF z fI (mz (xN (cs:=[U6 a1.ID.ab,U6 a1.ID.Seq]) z (c.fm 0 z)) (mb (yG z z krA uI krA krA krA uI uI (fun _ _ _=>by kernel_rfl) (fun _ _ _=>by kernel_rfl)) (mb z (bs b ?_ ?_)))))))))))))
 {
 refine fun l b=>gg l (xF z fI z) (gg l (xL z (c.bc1 z)) (gg l (xF z fI z) (gg l (xL z (c.bc0 z)) (gb l z (mb (bi l z z) (mb z (bs b ?_ ?_)))))))
 {
 refine fun m b=>gg m (xF z fI z) (gg m (xL z (c.bc1 z)) (gg m (xF z fI z) (gg m (xL z (c.bc0 z)) (bk b fun P Z b=>dh ((av z z z (cvb m)).trans z) z (er call138 (caps:=[]) z (vs:=[f,i,.func (.func 137) #[] #[]]) z) (Calls.mono (show Calls prog 138 #[f,i,.func (.func 137) #[] #[]] _ (fun e w'=>∃ (F:Bool),F=P∧e = .returned (.bool F)∧St w0 w' I [cells t [U6 a0.ID.ab,U6 a0.ID.Seq,U6 a0.ae,f,g,h,q],cells u [U6 a1.ID.ab,U6 a1.ID.Seq,U6 a1.ae,i,j,k,s]] R) from ?_) ?_)))))
 {
 clear b; have b:=Z
 refine c0 func138 z z (ww (mb z (nt (aj (ww (mv (f) z (mz (bX z uI (ay y)) (mv (i) z (mz (bX z uI (ay C)) (mb z (nt (bw b z ?_ ?_))))))))))))
 {
 refine fun b0 b=>ww (mb z (nt (ar (bh (pB z z ?_)))))
 cases b
 exact ⟨false,z,z,c.ah.cv⟩
}
 refine fun b0 b=>al (tn (aj (ww (mv (f) z (mz (bX z uI (ay y)) (mi z (nt (au ?_))))))))
 obtain ⟨b1,b⟩:=aS b
 refine bg (fun n a w=>∃ (G:Int),cU (mG a0 a1) n G=some P∧fz 32 [1,2,15,16,17] [i,.func (.func 137) #[] #[],f,I6 ((a0.dO).length:Int),I6 G] a∧St w0 w I [cells u [U6 a1.ID.ab,U6 a1.ID.Seq,U6 a1.ae,i,j,k,s],cells t [U6 a0.ID.ab,U6 a0.ID.Seq,U6 a0.ae,f,g,h,q]] R) b1 ⟨0,b,fy z,c⟩ ?_
 rintro g3 _ g4 ⟨G,b,⟨g5,rfl⟩,c⟩
 obtain ⟨g6,g7,rfl,b,H⟩:=aU b
 dsimp only [mG] at b
 refine ww (mb z (nt (aj (bw b z ?_ ?_))))
 {
 refine fun b2 b=>al (tn (aj (au (ww (mi z ?_)))))
 obtain ⟨b3,b4,b⟩:=bn b
 obtain ⟨b5,b6,b7⟩:=aV b4
 refine mz (aJ z z uI sI (ay y) b5 b6) (mL z (fb y lr c b7 riA) (mi z (mv (F6 _) z (nt (ww (mv (i) z (mi z ?_)))))))
 obtain ⟨b8,b9,b⟩:=bn b
 obtain ⟨c1,c2,c3⟩:=aV b9
 refine mz (aJ z z uI sI (ay C) c1 c2) (mL z (fb C lr c c3 riA) (mv (F6 _) z (nt (ww (mv (.func (.func 137) #[] #[]) z (mv (F6 _) z (mv (F6 _) z ?_)))))))
 refine bk b fun g8 c4 b=>dh z z (er call137 (caps:=[]) z (vs:=[F6 b3,F6 b8]) z) (kcO (nU c.to0 c4) fun g9 c=>mb z (nt (bw b z ?_ ?_)))
 {
 refine fun c5 b=>ww (mb z (nt (ar (eo (bh (bh ?_))))))
 replace b:=bz b H
 refine eo (bh (pB z z ?_))
 cases b
 exact ⟨false,z,z,c.ah.cv⟩
}
 refine fun c5 b=>al (bJ (tn (wrl (mi z (mi z (nt ?_))))))
 cases b
 exact ⟨_,nls,_,H,fy z,c.ah.ah.cv⟩
}
 refine fun b2 b=>bH (aQ (aQ ?_))
 replace b:=bz b H
 refine cZ (tn (ww (mb z (nt (ar (pB z z ?_))))))
 cases b
 exact ⟨true,z,z,c.ah.cv⟩
}
 rintro _ h0 ⟨F,rfl,rfl,c⟩
 refine ⟨_,z,?_⟩
 try dsimp only at b
 refine mb (bi m z z) (mb z (bs b ?_ ?_))
 {
 refine fun d b=>gg d (xF z fI z) (gg d (xL z (c.bc0 z)) (gg d (xF z fI z) (gg d (xL z (c.bc1 z)) (gv (.func (.func 136) #[] #[]) d z (bk b fun Q c6 b=>dh ((av z z z (cvb d)).trans z) z (er call139 (caps:=[]) z (vs:=[g,j,.func (.func 136) #[] #[]]) z) (Calls.mono (show Calls prog 139 #[g,j,.func (.func 136) #[] #[]] _ (fun e w'=>∃ (J:Bool),J=Q∧e = .returned (.bool J)∧St w0 w' I [cells t [U6 a0.ID.ab,U6 a0.ID.Seq,U6 a0.ae,f,g,h,q],cells u [U6 a1.ID.ab,U6 a1.ID.Seq,U6 a1.ae,i,j,k,s]] R) from ?_) ?_))))))
 {
 clear b; have b:=c6
 refine c0 func139 z z (ww (mb z (nt (aj (ww (mv (g) z (mz (bX z uI (ay A)) (mv (j) z (mz (bX z uI (ay D)) (mb z (nt (bw b z ?_ ?_))))))))))))
 {
 refine fun c7 b=>ww (mb z (nt (ar (bh (pB z z ?_)))))
 cases b
 exact ⟨false,z,z,c.ah.ah.cv⟩
}
 refine fun c7 b=>al (tn (aj (ww (mv (g) z (mz (bX z uI (ay A)) (mi z (nt (au ?_))))))))
 obtain ⟨c8,b⟩:=aS b
 refine bg (fun n a w=>∃ (K:Int),cU (mH a0 a1) n K=some Q∧fz 32 [1,2,15,16,17] [j,.func (.func 136) #[] #[],g,I6 ((a0.aX).length:Int),I6 K] a∧St w0 w I [cells t [U6 a0.ID.ab,U6 a0.ID.Seq,U6 a0.ae,f,g,h,q],cells u [U6 a1.ID.ab,U6 a1.ID.Seq,U6 a1.ae,i,j,k,s]] R) c8 ⟨0,b,fy z,c⟩ ?_
 rintro h1 _ h2 ⟨K,b,⟨h3,rfl⟩,c⟩
 obtain ⟨h4,h5,rfl,b,L⟩:=aU b
 dsimp only [mH] at b
 refine ww (mb z (nt (aj (bw b z ?_ ?_))))
 {
 refine fun c9 b=>al (tn (aj (au (ww (mi z ?_)))))
 obtain ⟨v,d0,b⟩:=bn b
 obtain ⟨d1,d2,d3⟩:=aV d0
 refine mz (aJ z z uI sI (ay A) d1 d2) (mz (xN (cs:=[F6 v.1,F6 v.2]) z (sG A lr c d3 0 riA)) ?_)
 obtain ⟨h6,h7,d4,d5,c⟩:=c.box [Zf,Zf] 80
 refine wa d4 d5 (mi z (bxk c z sI (oC z (oC z oN)) fun h8 c=>nt (ww (mv (j) z (mi z ?_)))))
 obtain ⟨x,d6,b⟩:=bn b
 obtain ⟨d7,d8,d9⟩:=aV d6
 refine mz (aJ z z uI sI (ay D) d7 d8) (mz (xN (cs:=[F6 x.1,F6 x.2]) z (sG D lr c d9 0 riA)) ?_)
 obtain ⟨h9,i0,e0,e1,c⟩:=c.box [Zf,Zf] 80
 refine wa e0 e1 (bxk c z sI (oC z (oC z oN)) fun i1 c=>nt (ww (mv (.func (.func 136) #[] #[]) z (mz (xN (cs:=[F6 v.1,F6 v.2]) z (c.fO 0 z)) (mz (xN (cs:=[F6 x.1,F6 x.2]) z (c.fm 0 z)) (bk b fun i2 e2 b=>dh z z (er call136 (caps:=[]) z (vs:=[.agg #[F6 v.1,F6 v.2],.agg #[F6 x.1,F6 x.2]]) z) (kcO (zr c.to0 e2) fun i3 c=>mb z (nt (bw b z ?_ ?_)))))))))
 {
 refine fun e3 b=>ww (mb z (nt (ar (eo (bh (bh ?_))))))
 replace b:=bz b L
 refine eo (bh (pB z z ?_))
 cases b
 exact ⟨false,z,z,c.aA.aA.cv⟩
}
 refine fun e3 b=>al (bJ (tn (wrl (mi z (mi z (nt ?_))))))
 cases b
 exact ⟨_,nls,_,L,fy z,c.aA.aA.cv⟩
}
 refine fun c9 b=>bH (aQ (aQ ?_))
 replace b:=bz b L
 refine cZ (tn (ww (mb z (nt (ar (pB z z ?_))))))
 cases b
 exact ⟨true,z,z,c.ah.ah.cv⟩
}
 rintro _ i4 ⟨J,rfl,rfl,c⟩
 refine ⟨_,z,?_⟩
 try dsimp only at b
 refine mb (bi d z z) (mb z (bs b ?_ ?_))
 {
 refine fun o b=>gg o (xF z fI z) (gg o (xL z (c.bc0 z)) (gg o (xF z fI z) (gg o (xL z (c.bc1 z)) (bk b fun S e4 b=>dh ((av z z z (cvb o)).trans z) z (er call138 (caps:=[]) z (vs:=[h,k,.func (.func 137) #[] #[]]) z) (Calls.mono (show Calls prog 138 #[h,k,.func (.func 137) #[] #[]] _ (fun e w'=>∃ (M:Bool),M=S∧e = .returned (.bool M)∧St w0 w' I [cells t [U6 a0.ID.ab,U6 a0.ID.Seq,U6 a0.ae,f,g,h,q],cells u [U6 a1.ID.ab,U6 a1.ID.Seq,U6 a1.ae,i,j,k,s]] R) from ?_) ?_)))))
 {
 clear b; have b:=e4
 refine c0 func138 z z (ww (mb z (nt (aj (ww (mv (h) z (mz (bX z uI (ay B)) (mv (k) z (mz (bX z uI (ay E)) (mb z (nt (bw b z ?_ ?_))))))))))))
 {
 refine fun e5 b=>ww (mb z (nt (ar (bh (pB z z ?_)))))
 cases b
 exact ⟨false,z,z,c.ah.ah.cv⟩
}
 refine fun e5 b=>al (tn (aj (ww (mv (h) z (mz (bX z uI (ay B)) (mi z (nt (au ?_))))))))
 obtain ⟨e6,b⟩:=aS b
 refine bg (fun n a w=>∃ (N:Int),cU (mI a0 a1) n N=some S∧fz 32 [1,2,15,16,17] [k,.func (.func 137) #[] #[],h,I6 ((a0.dD).length:Int),I6 N] a∧St w0 w I [cells t [U6 a0.ID.ab,U6 a0.ID.Seq,U6 a0.ae,f,g,h,q],cells u [U6 a1.ID.ab,U6 a1.ID.Seq,U6 a1.ae,i,j,k,s]] R) e6 ⟨0,b,fy z,c⟩ ?_
 rintro i5 _ i6 ⟨N,b,⟨i7,rfl⟩,c⟩
 obtain ⟨i8,i9,rfl,b,O⟩:=aU b
 dsimp only [mI] at b
 refine ww (mb z (nt (aj (bw b z ?_ ?_))))
 {
 refine fun e7 b=>al (tn (aj (au (ww (mi z ?_)))))
 obtain ⟨e8,e9,b⟩:=bn b
 obtain ⟨f0,f1,f2⟩:=aV e9
 refine mz (aJ z z uI sI (ay B) f0 f1) (mL z (fb B lr c f2 riA) (mi z (mv (F6 _) z (nt (ww (mv (k) z (mi z ?_)))))))
 obtain ⟨f3,f4,b⟩:=bn b
 obtain ⟨f5,f6,f7⟩:=aV f4
 refine mz (aJ z z uI sI (ay E) f5 f6) (mL z (fb E lr c f7 riA) (mv (F6 _) z (nt (ww (mv (.func (.func 137) #[] #[]) z (mv (F6 _) z (mv (F6 _) z ?_)))))))
 refine bk b fun j0 f8 b=>dh z z (er call137 (caps:=[]) z (vs:=[F6 e8,F6 f3]) z) (kcO (nU c.to0 f8) fun j1 c=>mb z (nt (bw b z ?_ ?_)))
 {
 refine fun f9 b=>ww (mb z (nt (ar (eo (bh (bh ?_))))))
 replace b:=bz b O
 refine eo (bh (pB z z ?_))
 cases b
 exact ⟨false,z,z,c.ah.ah.cv⟩
}
 refine fun f9 b=>al (bJ (tn (wrl (mi z (mi z (nt ?_))))))
 cases b
 exact ⟨_,nls,_,O,fy z,c.ah.ah.cv⟩
}
 refine fun e7 b=>bH (aQ (aQ ?_))
 replace b:=bz b O
 refine cZ (tn (ww (mb z (nt (ar (pB z z ?_))))))
 cases b
 exact ⟨true,z,z,c.ah.ah.cv⟩
}
 rintro _ j2 ⟨M,rfl,rfl,c⟩
 refine ⟨_,z,?_⟩
 try dsimp only at b
 refine mb (bi o z z) (mb z (bs b ?_ ?_))
 {
 refine fun p b=>gg p (xF z fI z) (gg p (xL z (c.bc0 z)) (gg p (xF z fI z) (gg p (xL z (c.bc1 z)) (bk b fun j3 g0 b=>dh ((av z z z (cvb p)).trans z) z (gO call110 z (vs:=[q,s]) z) (kcO (fv (T.mono (cW _)) (U.mono (cW _)) c.to0 g0) fun j4 c=>mb (bi p z z) (mb z (nt (ar ?_))))))))
 obtain rfl:=sj b
 exact pB z z ⟨z,c.cT⟩
}
 refine fun p b=>go p (go p (go p (go p (go p (mb (aL p z z) (mb z (nt (ar ?_))))))))
 cases b
 exact pB z z ⟨z,c.cT⟩
}
 refine fun o b=>go o (go o (go o (go o (go o (mb (aL o z z) (mb z (gz (gz (gz (gz (gz (mb (aL z z z) (mb z (nt (ar ?_)))))))))))))))
 cases b
 exact pB z z ⟨z,c.cT⟩
}
 refine fun d b=>go d (go d (go d (go d (go d (go d (mb (aL d z z) (mb z (gz (gz (gz (gz (gz (mb (aL z z z) (mb z (gz (gz (gz (gz (gz (mb (aL z z z) (mb z (nt (ar ?_)))))))))))))))))))))))
 cases b
 exact pB z z ⟨z,c.cT⟩
}
 refine fun m b=>go m (go m (go m (go m (go m (mb (aL m z z) (mb z (gz (gz (gz (gz (gz (gz (mb (aL z z z) (mb z (gz (gz (gz (gz (gz (mb (aL z z z) (mb z (gz (gz (gz (gz (gz (mb (aL z z z) (mb z (nt (ar ?_))))))))))))))))))))))))))))))
 cases b
 exact pB z z ⟨z,c.cT⟩
}
 refine fun l b=>go l (go l (go l (go l (go l (mb (aL l z z) (mb z (gz (gz (gz (gz (gz (mb (aL z z z) (mb z (gz (gz (gz (gz (gz (gz (mb (aL z z z) (mb z (gz (gz (gz (gz (gz (mb (aL z z z) (mb z (gz (gz (gz (gz (gz (mb (aL z z z) (mb z (nt (ar ?_)))))))))))))))))))))))))))))))))))))
 cases b
 exact pB z z ⟨z,c.cT⟩
}
theorem um {a0 a1 a2:Nat} (c:St w0 w I [] R) {r:(Bool)} (a:ov a0 a1 a2=some r) :
  Calls prog 215 #[F6 a0,F6 a1,F6 a2] w fun e w'=>e = .returned (.bool r)∧St w0 w' I [] R:=by {
 unfold ov at a
 refine c0 func215 z z (ww (mb z (nt (ww (mv (F6 _) z (bk a fun i d a=>wc call118 [F6 a1] z z z (kcO (dG c.to0 d) fun j c=>mv (F6 _) z (bk a fun k f a=>wc call118 [F6 a0] z z z (kcO (dG c.to0 f) fun l c=>mb z (mb z (bs a ?_ ?_)))))))))))
 {
 refine fun b a=>gv (F6 _) b z (bk a fun m g a=>dh ((av z z z (cvb b)).trans z) z (gO call118 z (vs:=[F6 a0]) z) (kcO (dG c.to0 g) fun n c=>gv (F6 _) b z (bk a fun o h a=>dh ((av z z z (cvb b)).trans z) z (gO call118 z (vs:=[F6 a2]) z) (kcO (dG c.to0 h) fun p c=>gb b z (mb (bi b z z) (mb z (nt (ar ?_))))))))
 cases a
 exact pB z z ⟨z,c.cT⟩
}
 refine fun b a=>go b (go b (go b (go b (go b (mb (aL b z z) (mb z (nt (ar ?_))))))))
 cases a
 exact pB z z ⟨z,c.cT⟩
}
theorem zz {a0:aw} {h i d j:Value} {a1 a2:Nat} (T:Rd cp R I h a0.dO) (U:Rd fU R I i a0.aX) (m:Rd cp R I d a0.dD) (V:Rd (cr .u8) R I j a0.Data) (c:St w0 w I [] R) {r:(Bool)} (b:re a0 a1 a2=some r) :
  Calls prog 194 #[.agg #[U6 a0.ID.ab,U6 a0.ID.Seq,U6 a0.ae,h,i,d,j],F6 a1,F6 a2] w fun e w'=>e = .returned (.bool r)∧St w0 w' I [] R:=by {
 unfold re at b
 refine c0 func194 z z (ww ?_)
 obtain ⟨k,W,v,x,c⟩:=c.box [U6 a0.ID.ab,U6 a0.ID.Seq,U6 a0.ae,h,i,d,j] 46
 refine wa v x ?_
 obtain ⟨f,X,y,A,c⟩:=c.box [F6 a1] 37
 refine wa y A ?_
 obtain ⟨g,Y,B,C,c⟩:=c.box [F6 a2] 37
 refine wa B C (mb z (nt (ww (mF z fI (mL z (c.bc2 z) (mk (.func (.func 214) #[] #[Pt f 0,Pt g 0]) (bk b fun D E b=>dh z z (er call213 (caps:=[]) z (vs:=[d,.func (.func 214) #[] #[Pt f 0,Pt g 0]]) z) (Calls.mono (show Calls prog 213 #[d,.func (.func 214) #[] #[Pt f 0,Pt g 0]] _ (fun e w'=>∃ (o:Bool),o=D∧e = .returned (.bool o)∧St w0 w' I [cells k [U6 a0.ID.ab,U6 a0.ID.Seq,U6 a0.ae,h,i,d,j],cells f [F6 a1],cells g [F6 a2]] R) from ?_) ?_))))))))
 {
 clear b; have b:=E
 refine c0 func213 z z (ww (mb z (nt (ww (mv (d) z (mv (.func (.func 214) #[] #[Pt f 0,Pt g 0]) z (bk b fun u F b=>dh z z (er call228 (caps:=[]) z (vs:=[d,.func (.func 214) #[] #[Pt f 0,Pt g 0]]) z) (Calls.mono (show Calls prog 228 #[d,.func (.func 214) #[] #[Pt f 0,Pt g 0]] _ (fun e w'=>∃ (p:Int),p=u∧e = .returned (.int .i64 p)∧St w0 w' I [cells k [U6 a0.ID.ab,U6 a0.ID.Seq,U6 a0.ae,h,i,d,j],cells f [F6 a1],cells g [F6 a2]] R) from ?_) ?_))))))))
 {
 clear b; have b:=F
 refine c0 func228 z z (ww (mi z (nt (aj (ww (mv (d) z (mz (bX z uI (ay m)) (mi z (nt (au ?_))))))))))
 obtain ⟨G,b⟩:=aS b
 refine bg (fun n a w=>∃ (l:Int),cU (lM a0 a1 a2) n l=some u∧fz 19 [0,1,7,8] [d,.func (.func 214) #[] #[Pt f 0,Pt g 0],I6 ((a0.dD).length:Int),I6 l] a∧St w0 w I [cells g [F6 a2],cells f [F6 a1],cells k [U6 a0.ID.ab,U6 a0.ID.Seq,U6 a0.ae,h,i,d,j]] R) G ⟨0,b,fy z,c⟩ ?_
 rintro Z _ b0 ⟨l,b,⟨b1,rfl⟩,c⟩
 obtain ⟨b2,b3,rfl,b,q⟩:=aU b
 dsimp only [lM] at b
 refine ww (mb z (nt (aj (bw b z ?_ ?_))))
 {
 refine fun H b=>al (tn (aj (au (ww (mi z (mi z (nt (ww (mv (.func (.func 214) #[] #[Pt f 0,Pt g 0]) z (mv (d) z (mi z ?_)))))))))))
 obtain ⟨s,J,b⟩:=bn b
 obtain ⟨K,L,M⟩:=aV J
 refine mz (aJ z z uI sI (ay m) K L) (mL z (fb m lr c M riA) ?_)
 refine bk b fun N O b=>dh z z (er call214 (caps:=[Pt f 0,Pt g 0]) z (vs:=[F6 s]) z) (Calls.mono (show Calls prog 214 #[F6 s,Pt f 0,Pt g 0] _ (fun e w'=>∃ (t:Bool),t=N∧e = .returned (.bool t)∧St w0 w' I [cells k [U6 a0.ID.ab,U6 a0.ID.Seq,U6 a0.ae,h,i,d,j],cells f [F6 a1],cells g [F6 a2]] R) from ?_) ?_)
 {
 clear b; have b:=O
 refine c0 func214 z z (ww (mb z (nt (ww (mv (F6 _) z (mL z (c.bc1 z) (mL z (c.bc0 z) (bk b fun P Q b=>wc call215 [F6 s,F6 a1,F6 a2] z z z (kcO (um c.to0 Q) fun b4 c=>mb z (nt (ar (pB z z ?_))))))))))))
 obtain rfl:=sj b
 exact ⟨P,z,z,c.ah.aD.eu⟩
}
 rintro _ b5 ⟨t,rfl,rfl,c⟩
 refine ⟨_,z,?_⟩
 try dsimp only at b
 refine nt (bw b z ?_ ?_)
 {
 refine fun S b=>ww (mi z (mi z (nt (ar (eo (bh (bh ?_)))))))
 replace b:=bz b q
 refine eo (bh (pI z z ?_))
 obtain rfl:=sj b
 exact ⟨l,z,z,c.aD.aD.aD.eu⟩
}
 refine fun S b=>al (bJ (tn (wrl (mi z (mi z (nt ?_))))))
 cases b
 exact ⟨_,nls,_,q,fy z,c.ah.aD.eu⟩
}
 refine fun H b=>bH (aQ (aQ ?_))
 replace b:=bz b q
 refine cZ (tn (ww (mi z (nt (ar (pI z z ?_))))))
 cases b
 exact ⟨_,z,z,c.ah.aD.eu⟩
}
 rintro _ b6 ⟨p,rfl,rfl,c⟩
 refine ⟨_,z,?_⟩
 try dsimp only at b
 refine mb z (mb z (nt (ar (pB z z ?_))))
 cases b
 exact ⟨_,z,z,c.aD.aD.aD.eu⟩
}
 rintro _ b7 ⟨o,rfl,rfl,c⟩
 refine ⟨_,z,?_⟩
 try dsimp only at b
 refine mb z (nt (ar ?_))
 obtain rfl:=sj b
 exact pB z z ⟨z,c.cT⟩
}
theorem vM {a0:aw} {f g h j:Value} {a1:Nat} (q:Rd cp R I f a0.dO) (s:Rd fU R I g a0.aX) (c7:Rd cp R I h a0.dD) (c8:Rd (cr .u8) R I j a0.Data) (c:St w0 w I [] R) {r:(Bool)} (b:qM a0 a1=some r) :
  Calls prog 195 #[.agg #[U6 a0.ID.ab,U6 a0.ID.Seq,U6 a0.ae,f,g,h,j],F6 a1] w fun e w'=>e = .returned (.bool r)∧St w0 w' I [] R:=by {
 unfold qM at b
 refine c0 func195 z z (ww ?_)
 obtain ⟨m,c9,G,H,c⟩:=c.box [U6 a0.ID.ab,U6 a0.ID.Seq,U6 a0.ae,f,g,h,j] 46
 refine wa G H ?_
 obtain ⟨d,d0,J,K,c⟩:=c.box [F6 a1] 37
 refine wa J K (mb z (nt (ww (mF z fI (mL z (c.bc1 z) (mk (.func (.func 216) #[] #[Pt d 0]) (bk b fun L M b=>dh z z (er call213 (caps:=[]) z (vs:=[f,.func (.func 216) #[] #[Pt d 0]]) z) (Calls.mono (show Calls prog 213 #[f,.func (.func 216) #[] #[Pt d 0]] _ (fun e w'=>∃ (t:Bool),t=L∧e = .returned (.bool t)∧St w0 w' I [cells m [U6 a0.ID.ab,U6 a0.ID.Seq,U6 a0.ae,f,g,h,j],cells d [F6 a1]] R) from ?_) ?_))))))))
 {
 clear b; have b:=M
 refine c0 func213 z z (ww (mb z (nt (ww (mv (f) z (mv (.func (.func 216) #[] #[Pt d 0]) z (bk b fun E N b=>dh z z (er call228 (caps:=[]) z (vs:=[f,.func (.func 216) #[] #[Pt d 0]]) z) (Calls.mono (show Calls prog 228 #[f,.func (.func 216) #[] #[Pt d 0]] _ (fun e w'=>∃ (u:Int),u=E∧e = .returned (.int .i64 u)∧St w0 w' I [cells m [U6 a0.ID.ab,U6 a0.ID.Seq,U6 a0.ae,f,g,h,j],cells d [F6 a1]] R) from ?_) ?_))))))))
 {
 clear b; have b:=N
 refine c0 func228 z z (ww (mi z (nt (aj (ww (mv (f) z (mz (bX z uI (ay q)) (mi z (nt (au ?_))))))))))
 obtain ⟨O,b⟩:=aS b
 refine bg (fun n a w=>∃ (o:Int),cU (nl a0 a1) n o=some E∧fz 19 [0,1,7,8] [f,.func (.func 216) #[] #[Pt d 0],I6 ((a0.dO).length:Int),I6 o] a∧St w0 w I [cells d [F6 a1],cells m [U6 a0.ID.ab,U6 a0.ID.Seq,U6 a0.ae,f,g,h,j]] R) O ⟨0,b,fy z,c⟩ ?_
 rintro d1 _ d2 ⟨o,b,⟨d3,rfl⟩,c⟩
 obtain ⟨d4,d5,rfl,b,v⟩:=aU b
 dsimp only [nl] at b
 refine ww (mb z (nt (aj (bw b z ?_ ?_))))
 {
 refine fun P b=>al (tn (aj (au (ww (mi z (mi z (nt (ww (mv (.func (.func 216) #[] #[Pt d 0]) z (mv (f) z (mi z ?_)))))))))))
 obtain ⟨x,Q,b⟩:=bn b
 obtain ⟨S,T,U⟩:=aV Q
 refine mz (aJ z z uI sI (ay q) S T) (mL z (fb q lr c U riA) ?_)
 refine bk b fun V W b=>dh z z (er call216 (caps:=[Pt d 0]) z (vs:=[F6 x]) z) (Calls.mono (show Calls prog 216 #[F6 x,Pt d 0] _ (fun e w'=>∃ (y:Bool),y=V∧e = .returned (.bool y)∧St w0 w' I [cells m [U6 a0.ID.ab,U6 a0.ID.Seq,U6 a0.ae,f,g,h,j],cells d [F6 a1]] R) from ?_) ?_)
 {
 clear b; have b:=W
 refine c0 func216 z z (ww (mb z (nt (ww (mL z (c.bc0 z) (mv (F6 _) z (bk b fun X Y b=>wc call137 [F6 a1,F6 x] z z z (kcO (nU c.to0 Y) fun d6 c=>mb z (nt (ar (pB z z ?_)))))))))))
 obtain rfl:=sj b
 exact ⟨X,z,z,c.ah.cv⟩
}
 rintro _ d7 ⟨y,rfl,rfl,c⟩
 refine ⟨_,z,?_⟩
 try dsimp only at b
 refine nt (bw b z ?_ ?_)
 {
 refine fun Z b=>ww (mi z (mi z (nt (ar (eo (bh (bh ?_)))))))
 replace b:=bz b v
 refine eo (bh (pI z z ?_))
 obtain rfl:=sj b
 exact ⟨o,z,z,c.ah.ah.cv⟩
}
 refine fun Z b=>al (bJ (tn (wrl (mi z (mi z (nt ?_))))))
 cases b
 exact ⟨_,nls,_,v,fy z,c.ah.cv⟩
}
 refine fun P b=>bH (aQ (aQ ?_))
 replace b:=bz b v
 refine cZ (tn (ww (mi z (nt (ar (pI z z ?_))))))
 cases b
 exact ⟨_,z,z,c.ah.cv⟩
}
 rintro _ d8 ⟨u,rfl,rfl,c⟩
 refine ⟨_,z,?_⟩
 try dsimp only at b
 refine mb z (mb z (nt (ar (pB z z ?_))))
 cases b
 exact ⟨_,z,z,c.ah.ah.cv⟩
}
 rintro _ d9 ⟨t,rfl,rfl,c⟩
 refine ⟨_,z,?_⟩
 try dsimp only at b
 refine mb z (bs b ?_ ?_)
 {
 refine fun k b=>go k (go k (go k (go k (mb (bi k z z) (mb z (nt (ar ?_)))))))
 cases b
 exact pB z z ⟨z,c.cT⟩
}
 refine fun k b=>gg k (xF z fI z) (gg k (xL z (c.bc0 z)) (gk (.func (.func 218) #[] #[Pt d 0]) k (bk b fun b0 b1 b=>dh ((av z z z (cvb k)).trans z) z (er call217 (caps:=[]) z (vs:=[g,.func (.func 218) #[] #[Pt d 0]]) z) (Calls.mono (show Calls prog 217 #[g,.func (.func 218) #[] #[Pt d 0]] _ (fun e w'=>∃ (A:Bool),A=b0∧e = .returned (.bool A)∧St w0 w' I [cells m [U6 a0.ID.ab,U6 a0.ID.Seq,U6 a0.ae,f,g,h,j],cells d [F6 a1]] R) from ?_) ?_))))
 {
 clear b; have b:=b1
 refine c0 func217 z z (ww (mb z (nt (ww (mv (g) z (mv (.func (.func 218) #[] #[Pt d 0]) z (bk b fun F b2 b=>dh z z (er call229 (caps:=[]) z (vs:=[g,.func (.func 218) #[] #[Pt d 0]]) z) (Calls.mono (show Calls prog 229 #[g,.func (.func 218) #[] #[Pt d 0]] _ (fun e w'=>∃ (B:Int),B=F∧e = .returned (.int .i64 B)∧St w0 w' I [cells m [U6 a0.ID.ab,U6 a0.ID.Seq,U6 a0.ae,f,g,h,j],cells d [F6 a1]] R) from ?_) ?_))))))))
 {
 clear b; have b:=b2
 refine c0 func229 z z (ww (mi z (nt (aj (ww (mv (g) z (mz (bX z uI (ay s)) (mi z (nt (au ?_))))))))))
 obtain ⟨b3,b⟩:=aS b
 refine bg (fun n a w=>∃ (p:Int),cU (mW a0 a1) n p=some F∧fz 19 [0,1,7,8] [g,.func (.func 218) #[] #[Pt d 0],I6 ((a0.aX).length:Int),I6 p] a∧St w0 w I [cells m [U6 a0.ID.ab,U6 a0.ID.Seq,U6 a0.ae,f,g,h,j],cells d [F6 a1]] R) b3 ⟨0,b,fy z,c⟩ ?_
 rintro e0 _ e1 ⟨p,b,⟨e2,rfl⟩,c⟩
 obtain ⟨e3,e4,rfl,b,C⟩:=aU b
 dsimp only [mW] at b
 refine ww (mb z (nt (aj (bw b z ?_ ?_))))
 {
 refine fun b4 b=>al (tn (aj (au (ww (mi z (mi z (nt (ww (mv (.func (.func 218) #[] #[Pt d 0]) z (mv (g) z (mi z ?_)))))))))))
 obtain ⟨l,b5,b⟩:=bn b
 obtain ⟨b6,b7,b8⟩:=aV b5
 refine mz (aJ z z uI sI (ay s) b6 b7) (mz (xN (cs:=[F6 l.1,F6 l.2]) z (sG s lr c b8 0 riA)) ?_)
 refine bk b fun b9 c1 b=>dh z z (er call218 (caps:=[Pt d 0]) z (vs:=[.agg #[F6 l.1,F6 l.2]]) z) (Calls.mono (show Calls prog 218 #[.agg #[F6 l.1,F6 l.2],Pt d 0] _ (fun e w'=>∃ (D:Bool),D=b9∧e = .returned (.bool D)∧St w0 w' I [cells m [U6 a0.ID.ab,U6 a0.ID.Seq,U6 a0.ae,f,g,h,j],cells d [F6 a1]] R) from ?_) ?_)
 {
 clear b; have b:=c1
 refine c0 func218 z z (ww ?_)
 obtain ⟨e5,e6,c2,c3,c⟩:=c.box [F6 l.1,F6 l.2] 80
 refine wa c2 c3 (mb z (nt (ww (mL z (c.bc2 z) (mp (fP (i:=0) z z uI sI deA deA) (mL z (c.bc0 z) (mp (fP (i:=1) z z uI sI deA deA) (mL z (c.bc0 z) ?_))))))))
 refine bk b fun c4 c5 b=>wc call215 [F6 a1,F6 l.1,F6 l.2] z z z (kcO (um c.to0 c5) fun e7 c=>mb z (nt (ar (pB z z ?_))))
 obtain rfl:=sj b
 exact ⟨c4,z,z,c.aD.aD.cv⟩
}
 rintro _ e8 ⟨D,rfl,rfl,c⟩
 refine ⟨_,z,?_⟩
 try dsimp only at b
 refine nt (bw b z ?_ ?_)
 {
 refine fun c6 b=>ww (mi z (mi z (nt (ar (eo (bh (bh ?_)))))))
 replace b:=bz b C
 refine eo (bh (pI z z ?_))
 obtain rfl:=sj b
 exact ⟨p,z,z,c.ah.ah.cv⟩
}
 refine fun c6 b=>al (bJ (tn (wrl (mi z (mi z (nt ?_))))))
 cases b
 exact ⟨_,nls,_,C,fy z,c.ah.ah.cv⟩
}
 refine fun b4 b=>bH (aQ (aQ ?_))
 replace b:=bz b C
 refine cZ (tn (ww (mi z (nt (ar (pI z z ?_))))))
 cases b
 exact ⟨_,z,z,c.ah.ah.cv⟩
}
 rintro _ e9 ⟨B,rfl,rfl,c⟩
 refine ⟨_,z,?_⟩
 try dsimp only at b
 refine mb z (mb z (nt (ar (pB z z ?_))))
 cases b
 exact ⟨_,z,z,c.ah.ah.cv⟩
}
 rintro _ f0 ⟨A,rfl,rfl,c⟩
 refine ⟨_,z,?_⟩
 try dsimp only at b
 refine mb (aL k z z) (mb z (nt (ar ?_)))
 obtain rfl:=sj b
 exact pB z z ⟨z,c.cT⟩
}
theorem AW {a0:aw} {h i f j:Value} {a1:aw} {k l g m:Value} (E:Rd cp R I h a0.dO) (F:Rd fU R I i a0.aX) (q:Rd cp R I f a0.dD) (G:Rd (cr .u8) R I j a0.Data) (B:Rd cp R I k a1.dO) (C:Rd fU R I l a1.aX) (p:Rd cp R I g a1.dD) (D:Rd (cr .u8) R I m a1.Data) (c:St w0 w I [] R) {r:(Bool)} (b:ub a0 a1=some r) :
  Calls prog 140 #[.agg #[U6 a0.ID.ab,U6 a0.ID.Seq,U6 a0.ae,h,i,f,j],.agg #[U6 a1.ID.ab,U6 a1.ID.Seq,U6 a1.ae,k,l,g,m]] w fun e w'=>e = .returned (.bool r)∧St w0 w' I [] R:=by {
 unfold ub at b
 refine c0 func140 z z (ww ?_)
 obtain ⟨o,b6,H,J,c⟩:=c.box [U6 a0.ID.ab,U6 a0.ID.Seq,U6 a0.ae,h,i,f,j] 46
 refine wa H J ?_
 obtain ⟨s,b7,K,L,c⟩:=c.box [U6 a1.ID.ab,U6 a1.ID.Seq,U6 a1.ae,k,l,g,m] 46
 refine wa K L (mb z (nt ?_))
 obtain ⟨M,b,u⟩:=ee b
 refine cR (fun a w =>(qn a1 a0) ()=some r∧fz 37 [2,3] [Pt o 0,Pt s 0] a∧St w0 w I [cells o [U6 a0.ID.ab,U6 a0.ID.Seq,U6 a0.ae,h,i,f,j],cells s [U6 a1.ID.ab,U6 a1.ID.Seq,U6 a1.ae,k,l,g,m]] R) ?_ ?_
 {
 refine ww (mF z fI (mL z (c.bc1 z) (mz (bX z uI (ay q)) (mi z (nt (au ?_))))))
 obtain ⟨N,b⟩:=aS b
 refine bg (fun n a w=>∃ (v:Int),cU (oo a0 a1) n v=some M∧fz 37 [2,3,10,11,12] [Pt o 0,Pt s 0,f,I6 ((a0.dD).length:Int),I6 v] a∧St w0 w I [cells s [U6 a1.ID.ab,U6 a1.ID.Seq,U6 a1.ae,k,l,g,m],cells o [U6 a0.ID.ab,U6 a0.ID.Seq,U6 a0.ae,h,i,f,j]] R) N ⟨0,b,fy z,c⟩ ?_
 rintro b8 _ b9 ⟨v,b,⟨c1,rfl⟩,c⟩
 obtain ⟨c2,c3,rfl,b,t⟩:=aU b
 dsimp only [oo] at b
 refine ww (mb z (nt (aj (bw b z ?_ ?_))))
 {
 refine fun O b=>al (tn (aj (au (ww ?_))))
 obtain ⟨x,P,b⟩:=bn b
 obtain ⟨Q,S,T⟩:=aV P
 refine mz (aJ z z uI sI (ay q) Q S) (mL z (fb q lr c T riA) (mv (F6 _) z (nt (ww (mz (xN z (c.fm 0 tz)) (mv (F6 _) z (mv (F6 _) z ?_)))))))
 refine bk b fun c4 U b=>wc call194 [.agg #[U6 a1.ID.ab,U6 a1.ID.Seq,U6 a1.ae,k,l,g,m],F6 x,F6 x] z z z (kcO (zz (B.mono (cW _)) (C.mono (cW _)) (p.mono (cW _)) (D.mono (cW _)) c.to0 U) fun c5 c=>mb z (bs b ?_ ?_))
 {
 refine fun d b=>go d (go d (go d (mb (bi d z z) (nt (eG z (ww (mb z (nt (ar (eo (bh (bh ?_))))))))))))
 replace b:=bz b t
 refine eo (bh ?_)
 replace b:=bz b u
 cases b
 exact pB z z ⟨z,c.cT⟩
}
 refine fun d b=>gg d (xN z (c.fm 0 tz)) (gv (F6 _) d z (bk b fun c6 V b=>dh ((av z z z (cvb d)).trans z) z (gO call195 z (vs:=[.agg #[U6 a1.ID.ab,U6 a1.ID.Seq,U6 a1.ae,k,l,g,m],F6 x]) z) (kcO (vM (B.mono (cW _)) (C.mono (cW _)) (p.mono (cW _)) (D.mono (cW _)) c.to0 V) fun c7 c=>mb (aL d z z) (nt (bw b z ?_ ?_)))))
 {
 refine fun W b=>ww (mb z (nt (ar (eo (bh (bh ?_))))))
 replace b:=bz b t
 refine eo (bh ?_)
 replace b:=bz b u
 cases b
 exact pB z z ⟨z,c.cT⟩
}
 refine fun W b=>al (bJ (tn (wrl (mi z (mi z (nt ?_))))))
 cases b
 exact ⟨_,nls,_,t,fy z,c.ah.ah.cv⟩
}
 refine fun O b=>bH (aQ (aQ ?_))
 replace b:=bz b t
 refine cZ (tn ?_)
 cases b
 exact ⟨u,fy z,c.ah.cv⟩
}
 rintro _ c8 ⟨b,⟨c9,rfl⟩,c⟩
 dsimp only [qn] at b
 refine aj (ww (mF z fI (mL z (c.bc1 z) (mz (bX z uI (ay p)) (mi z (nt (au ?_)))))))
 replace c:=c.ah.sub
 obtain ⟨X,b⟩:=aS b
 refine bg (fun n a w=>∃ (y:Int),cU (oi a1 a0) n y=some r∧fz 37 [2,27,28,29] [Pt o 0,g,I6 ((a1.dD).length:Int),I6 y] a∧St w0 w I [cells o [U6 a0.ID.ab,U6 a0.ID.Seq,U6 a0.ae,h,i,f,j]] R) X ⟨0,b,fy z,c⟩ ?_
 rintro d0 _ d1 ⟨y,b,⟨d2,rfl⟩,c⟩
 obtain ⟨d3,d4,rfl,b,A⟩:=aU b
 dsimp only [oi] at b
 refine ww (mb z (nt (aj (bw b z ?_ ?_))))
 {
 refine fun Y b=>al (tn (aj (au (ww ?_))))
 obtain ⟨Z,b0,b⟩:=bn b
 obtain ⟨b1,b2,b3⟩:=aV b0
 refine mz (aJ z z uI sI (ay p) b1 b2) (mL z (fb p lr c b3 riA) (mv (F6 _) z (nt (ww (mz (xN z (c.fm 0 tz)) (mv (F6 _) z ?_))))))
 refine bk b fun d5 b4 b=>wc call195 [.agg #[U6 a0.ID.ab,U6 a0.ID.Seq,U6 a0.ae,h,i,f,j],F6 Z] z z z (kcO (vM (E.mono (cW _)) (F.mono (cW _)) (q.mono (cW _)) (G.mono (cW _)) c.to0 b4) fun d6 c=>nt (bw b z ?_ ?_))
 {
 refine fun b5 b=>ww (mb z (nt (ar (eo (bh (bh ?_))))))
 replace b:=bz b A
 refine eo (bh ?_)
 cases b
 exact pB z z ⟨z,c.cT⟩
}
 refine fun b5 b=>al (bJ (tn (wrl (mi z (mi z (nt ?_))))))
 cases b
 exact ⟨_,nls,_,A,fy z,c.bF⟩
}
 refine fun Y b=>bH (aQ (aQ ?_))
 replace b:=bz b A
 refine cZ (tn (ww (mb z (nt (ar ?_)))))
 cases b
 exact pB z z ⟨z,c.cT⟩
}
theorem lU {a0:(List Nat)} {c:Value} (h:Rd cp R I c a0) (a:St w0 w I [] R) {r:(List Nat)} (d:fM a0=some r) :
  Calls prog 141 #[c] w fun e w'=>∃ (i:Value),e = .returned (i)∧St w0 w' I [bp cp i r] R:=by {
 unfold fM at d
 obtain ⟨hg,d⟩:=cF d
 cases d
 have hsv:=ay h
 refine c0 func141 z z (ww (mv ((.slice none 0 0)) z (nt (aj (ww (mv (c) z (mb (yB z hsv z uI) (nt (kp (isNil c) (fun f=>?_) (fun f=>?_))))))))))
 {
 refine eG (cvb f) (ww (mv ((.slice none 0 0)) z (nt (ar (bh (dI [Zs] z (rc z bl) ?_))))))
 obtain rfl:=List.eq_nil_of_length_eq_zero (uW hsv f)
 exact ⟨_,z,(a.ba cp).bF⟩
}
 refine cJ (cvb f) (al (tn (ww ?_)))
 obtain ⟨b,j,ew,eb,a⟩:=a.lits (E:=cp) (xs:=[]) [] 37 0 z bT.nil
 refine cK (v:=(.slice (some ⟨b,0,none⟩) 0 0)) (w':=j) z z (dH krA ew eb) (mv (c) z ?_)
 obtain ⟨g,k,hr,a⟩:=bO ru underlying43 a (Src.vf a h Il) (cP hg z) 43
 refine cK (v:=g) (w':=k) z z (ck z z hr) (mv (g) z (nt (ar (dI [g] z (rc z bl) ?_))))
 rw [List.nil_append] at a
 exact ⟨_,z,a.bF⟩
}
theorem pN {a0:(List (Nat×Nat))} {c:Value} (h:Rd fU R I c a0) (a:St w0 w I [] R) {r:(List (Nat×Nat))} (d:fX a0=some r) :
  Calls prog 142 #[c] w fun e w'=>∃ (i:Value),e = .returned (i)∧St w0 w' I [bp fU i r] R:=by {
 unfold fX at d
 obtain ⟨hg,d⟩:=cF d
 cases d
 have hsv:=ay h
 refine c0 func142 z z (ww (mv ((.slice none 0 0)) z (nt (aj (ww (mv (c) z (mb (yB z hsv z uI) (nt (kp (isNil c) (fun f=>?_) (fun f=>?_))))))))))
 {
 refine eG (cvb f) (ww (mv ((.slice none 0 0)) z (nt (ar (bh (dI [Zs] z (rc z bl) ?_))))))
 obtain rfl:=List.eq_nil_of_length_eq_zero (uW hsv f)
 exact ⟨_,z,(a.ba fU).bF⟩
}
 refine cJ (cvb f) (al (tn (ww ?_)))
 obtain ⟨b,j,ew,eb,a⟩:=a.lits (E:=fU) (xs:=[]) [] 80 0 z bT.nil
 refine cK (v:=(.slice (some ⟨b,0,none⟩) 0 0)) (w':=j) z z (dH krA ew eb) (mv (c) z ?_)
 obtain ⟨g,k,hr,a⟩:=bO CH underlying44 a (Src.vf a h KQ) (cP hg z) 44
 refine cK (v:=g) (w':=k) z z (ck z z hr) (mv (g) z (nt (ar (dI [g] z (rc z bl) ?_))))
 rw [List.nil_append] at a
 exact ⟨_,z,a.bF⟩
}
theorem lA {a0:(List Int)} {c:Value} (h:Rd (cr .u8) R I c a0) (a:St w0 w I [] R) {r:(List Int)} (d:fe a0=some r) :
  Calls prog 143 #[c] w fun e w'=>∃ (i:Value),e = .returned (i)∧St w0 w' I [bp (cr .u8) i r] R:=by {
 unfold fe at d
 obtain ⟨hg,d⟩:=cF d
 cases d
 have hsv:=ay h
 refine c0 func143 z z (ww (mv ((.slice none 0 0)) z (nt (aj (ww (mv (c) z (mb (yB z hsv z uI) (nt (kp (isNil c) (fun f=>?_) (fun f=>?_))))))))))
 {
 refine eG (cvb f) (ww (mv ((.slice none 0 0)) z (nt (ar (bh (dI [Zs] z (rc z bl) ?_))))))
 obtain rfl:=List.eq_nil_of_length_eq_zero (uW hsv f)
 exact ⟨_,z,(a.ba (cr .u8)).bF⟩
}
 refine cJ (cvb f) (al (tn (ww ?_)))
 obtain ⟨b,j,ew,eb,a⟩:=a.lits (E:=(cr .u8)) (xs:=[]) [] 5 0 z bT.nil
 refine cK (v:=(.slice (some ⟨b,0,none⟩) 0 0)) (w':=j) z z (dH krA ew eb) (mv (c) z ?_)
 obtain ⟨g,k,hr,a⟩:=bO xh underlying22 a (Src.vf a h pe) (cP hg z) 22
 refine cK (v:=g) (w':=k) z z (ck z z hr) (mv (g) z (nt (ar (dI [g] z (rc z bl) ?_))))
 rw [List.nil_append] at a
 exact ⟨_,z,a.bF⟩
}
theorem qp {a0:(List aw)} {d:Value} {a1:Int} {a2:(List aw)} {g:Value} (c:St w0 w I [bp bZ d a0,bp bZ g a2] R) {r:(List aw)} (q:gj a0 a1 a2=some r) :
  Calls prog 144 #[d,I6 a1,g] w fun e w'=>∃ (x:Value),e = .returned (x)∧St w0 w' I [bp bZ x r] R:=by {
 unfold gj at q
 obtain ⟨hg,q⟩:=cF q
 cases q
 obtain ⟨A,S,hrm⟩:=uM hg
 obtain ⟨k,rfl⟩:=Int.eq_ofNat_of_zero_le A
 have hsm:=uO hrm
 have hk:k≤a0.length:=by omega
 have hs:∀ w:World,(sizeOf 46).run prog w = .ok bZ.sz w:=sizeOf46
 have y:0<bZ.sz:=Nat.le_of_ble_eq_true rfl
 have hov:∀ (args:Array Value) (w:World),(callFunc 196 args).run prog w=(Extern.SlicesOverlaps.overlaps #[125,125] #[4] args >>= fun v=>(pure (.value v):Sem Next)).run prog w:=by intro args w; kernel_rfl
 obtain ⟨css,hr,c⟩:=c.cz
 replace c:=c.ah
 obtain ⟨dss,hq,c⟩:=c.cz
 replace c:=c.ah
 obtain ⟨n,hn⟩:∃ n,css.length=n:=⟨_,rfl⟩
 obtain ⟨m,hm'⟩:∃ m,dss.length=m:=⟨_,rfl⟩
 have hln:a0.length=n:=hr.1.trans hn
 have hlm:a2.length=m:=hq.1.trans hm'
 rw [hln] at hsm hk
 rw [hlm] at hsm
 have hsv:dQ d n:=by have:=c.dy.2; rwa [hn] at this
 have hsq:dQ g m:=by have:=c.ah.dy.2; rwa [hm'] at this
 have hoc:=hr.xE
 have hoq:=hq.xE
 have s:=wrap_add (a:=n) (b:=m) omA
 have t:=wrap_add (a:=k) (b:=m) omA
 have B:=sY (a:=n+m) (b:=k) omA omA
 have hrb:=cP (b:=120) hrm rfl
 rw [hln,hlm] at hrb
 refine c0 func144 z z (ww (mv ((.slice none 0 0)) z (nt (ww (mv (d) z (mi z (mv ((dR bZ.sz d k n)) (dr (lo:=(k:Nat)) (hi:=(n:Nat)) underlying125 hs z hsv omA omA omA .i64 .i64 (.inl z) (.inr ⟨z,z⟩)) (nt (ww (mv (g) z (mz (bX z underlying125 hsq) (mi z (nt (aj (ww (mi z (mb z (nt (kp ((m:Int)==0) (fun j=>?_) (fun j=>?_))))))))))))))))))))
 {
 refine eG (cvb j) (ww (mv (d) z (mv (d) z (nt (ar (bh (dI [d] z (rc z bl) ?_)))))))
 rw [xk (by rw [hlm]; exact j)]
 exact ⟨_,z,(c.bo hr).bF⟩
}
 refine cJ (cvb j) ?_
 have C:m≠0:=fun h=>by rw [h] at j; cases j
 have D:dss≠[]:=fun h=>C (by rw [← hm',h]; rfl)
 refine al (tn (ww (mv (d) z (mz (bX z underlying125 hsv) (mi z (nt (aj (ww (mi z (mi z (mb z (nt (kp ((k:Int)==(n:Int)) (fun o=>?_) (fun o=>?_))))))))))))))
 {
 refine eG (cvb o) (ww (mv (d) z (mv (g) z ?_)))
 replace c:=((c.bo hr).ah.bo hq).ah
 obtain ⟨f,u,hra,c⟩:=bO ua underlying125 c c.iL (cP hrm z) 125
 refine cK (v:=f) (w':=u) z z (ck z z hra) (mv (f) z (nt (ar (bh (dI [f] z (rc z bl) ?_)))))
 rw [xp (by rw [hln]; exact o)]
 exact ⟨_,z,c.bF⟩
}
 refine cJ (cvb o) ?_
 have hkn:k≠n:=fun h=>by rw [h] at o; simp at o
 have E:0<n:=by omega
 have F:css≠[]:=fun h=>by rw [h] at hn; simp at hn; omega
 refine al (tn (aj (ww (mi z (mi z (mi (eJ s z) (mv (d) z (mi (BY z underlying125 hsv) (mb z (nt (kp (decide (((n+m:Nat):Int)>(uQ d:Int))) (fun p=>?_) (fun p=>?_))))))))))))
 {
 refine eG (cvb p) (ww (mv (d) z (mi z (mv ((dR bZ.sz d 0 k)) (dr (lo:=(0:Nat)) (hi:=(k:Nat)) underlying125 hs z hsv omA omA omA .i64 .i64 (.inr ⟨z,z⟩) (.inl z)) (mi z (mi z (mi (eJ s z) (mi z (mi (eJ B z) ?_)))))))))
 obtain ⟨f,u,hra,i,zss,hzl,c⟩:=vo ua underlying3 c k (n+m - k) omA (by have:=of_decide_eq_true p; omega) (by rw [show k+(n+m - k)=n+m by omega]; exact hrb) y 125
 rw [show k+(n+m - k)=n+m by omega] at i
 refine cK (v:=f) (w':=u) z z (ck z z hra) (mv (f) z (nt (ww (mv (f) z (mi z (mv ((dR bZ.sz f k (n+m))) (dr (lo:=(k:Nat)) (hi:=((n+m):Nat)) underlying125 hs z i omA omA omA .i64 .i64 (.inl z) (.inr ⟨z,z⟩)) (mv (g) z ?_)))))))
 obtain ⟨G,H,c⟩:=dZ (P:=prog) (t2:=125) (ty:=3) underlying125 hs c c.aD k m (N:=n+m) olA olA omA olA (fk hoq _)
 refine cK (v:=.int .i64 (m:Nat)) (w':=G) z z (kq z z H) (nt (aj (rg c 9 [0,0,0,6,15,0,0,96,255] [] mixed (sz (f) 0 z z (si 1 z z (si 2 z z (sh (I6 _) 3 z (fun w c=>eJ t z) (sh ((dR bZ.sz f (k+m) (n+m))) 4 z (fun w c=>dr (lo:=((k+m):Nat)) (hi:=((n+m):Nat)) underlying125 hs z i omA omA omA .i64 .i64 (.inl z) (.inr ⟨z,z⟩)) (sz (d) 5 z z (si 6 z z (sh ((dR bZ.sz d k n)) 7 z (fun w c=>dr (lo:=(k:Nat)) (hi:=(n:Nat)) underlying125 hs z hsv omA omA omA .i64 .i64 (.inl z) (.inr ⟨z,z⟩)) (e1 8 z z fun w c=>?_))))))))))))
 obtain ⟨J,K,c⟩:=dZ (P:=prog) (t2:=125) (ty:=3) underlying125 hs c (c.ah.jP (l:=k) (h:=n) hk omA) (k+m) (n - k) (N:=n+m) olA olA omA olA (fk (kV (fk hoc _) _) _)
 refine cj (v:=.int .i64 ((n - k):Nat)) (w':=J) z (kq z z K) (w0n c (bt ?_))
 refine fun w c=>tn (ww (mv (f) z (mv (f) z (nt (ar (bh (dI [f] z (rc z bl) ?_)))))))
 rw [tE hn hm' hk hzl] at c
 exact ⟨_,z,(c.bo ((hr.take k).app (hq.app (hr.drop k)))).bF⟩
}
 refine cJ (cvb p) ?_
 have hup:n+m≤uQ d:=by have:=of_decide_eq_false p; omega
 obtain ⟨ess,hel,hem,hst'⟩:=c.zG (n+m) omA hup F
 rw [show n+m - css.length=m by omega] at hel
 have i:dQ (upV d (n+m)) (n+m):=by have:=hst'.dy.2; rwa [List.length_append,hn,hel] at this
 clear c
 have c:=hst'
 clear hst'
 refine al (tn (ww (mv (d) z (mi z (mi z (mi (eJ s z) (mv ((upV d (n+m))) (tJ underlying125 hs z hsv z hup E) (mv ((upV d (n+m))) z (nt (aj (ww (mv (g) z (mv ((upV d (n+m))) z (mi z (mi z (mi (eJ t z) (mv ((dR bZ.sz (upV d (n+m)) (k+m) (n+m))) (dr (lo:=((k+m):Nat)) (hi:=((n+m):Nat)) underlying125 hs z i omA omA omA .i64 .i64 (.inl z) (.inr ⟨z,z⟩)) (mb (BX z z z (hov _) (px z underlying125 hs c.ah (k+m) (N:=n+m) lnA omA D y)) (mb z (nt (eG z (aj (rg c 9 [0,0,0,6,15,0,0,96,255] [] mixed (sz ((upV d (n+m))) 0 z z (si 1 z z (si 2 z z (sh (I6 _) 3 z (fun w c=>eJ t z) (sh ((dR bZ.sz (upV d (n+m)) (k+m) (n+m))) 4 z (fun w c=>dr (lo:=((k+m):Nat)) (hi:=((n+m):Nat)) underlying125 hs z i omA omA omA .i64 .i64 (.inl z) (.inr ⟨z,z⟩)) (sz ((upV d (n+m))) 5 z z (si 6 z z (sh ((dR bZ.sz (upV d (n+m)) k (n+m))) 7 z (fun w c=>dr (lo:=(k:Nat)) (hi:=((n+m):Nat)) underlying125 hs z i omA omA omA .i64 .i64 (.inl z) (.inr ⟨z,z⟩)) (e1 8 z z fun w c=>?_))))))))))))))))))))))))))))))))
 obtain ⟨L,M,c⟩:=dZ (P:=prog) (t2:=125) (ty:=3) underlying125 hs c (c.jP (l:=k) (h:=n+m) omA lnA) (k+m) (n - k) (N:=n+m) olA olA omA olA (by rw [vj hn hm' hk hel]; exact kV hoc _)
 refine cj (v:=.int .i64 ((n - k):Nat)) (w':=L) z (kq z z M) (w0n c (bt ?_))
 refine fun w c=>tn (ww (mv ((upV d (n+m))) z (mi z (mv ((dR bZ.sz (upV d (n+m)) k (n+m))) (dr (lo:=(k:Nat)) (hi:=((n+m):Nat)) underlying125 hs z i omA omA omA .i64 .i64 (.inl z) (.inr ⟨z,z⟩)) (mv (g) z ?_)))))
 obtain ⟨O,Q,c⟩:=dZ (P:=prog) (t2:=125) (ty:=3) underlying125 hs c c.ah k m (N:=n+m) olA olA omA olA (fk hoq _)
 refine cK (v:=.int .i64 (m:Nat)) (w':=O) z z (kq z z Q) (nt (ww (mv ((upV d (n+m))) z (mv ((upV d (n+m))) z (nt (ar (bh (dI [(upV d (n+m))] z (rc z bl) ?_))))))))
 rw [tL hn hm' hk hel] at c
 exact ⟨_,z,(c.bo ((hr.take k).app (hq.app (hr.drop k)))).bF⟩
}
theorem wT {a0:(Option bN)} {p0:Value} {a1:aw} {p q s u:Value} (b1:Rd cp R I p a1.dO) (b2:Rd fU R I q a1.aX) (b3:Rd cp R I s a1.dD) (b4:Rd (cr .u8) R I u a1.Data) (b:St w0 w I [cX cb p0 a0] R) {r:(Int×(Option bN))} (c:jv a0 a1=some r) :
  Calls prog 58 #[p0,.agg #[U6 a1.ID.ab,U6 a1.ID.Seq,U6 a1.ae,p,q,s,u]] w fun e w'=>∃ (I':HL),e = .returned (.int .i64 r.1)∧I.le I'∧St w0 w' I' [cX cb p0 r.2] R:=by {
 rcases a0 with _ | j
 {
 dsimp only [jv] at c
 cases c
}
 replace b:=bQ b
 dsimp only [jv] at c
 refine c0 func58 z z ?_
 have d:=HL.le.refl I
 refine ww ?_
 obtain ⟨C,g9,d0,d1,b⟩:=b.box [U6 a1.ID.ab,U6 a1.ID.Seq,U6 a1.ae,p,q,s,u] 46
 refine wa d0 d1 (mi z (nt (aj (ww (mv (p0) z ?_)))))
 obtain ⟨f,K,rfl,d2⟩:=dP b.ah
 have b:=d2
 refine mk (.bool false) (nt (cJ z (al (tn ?_))))
 obtain ⟨d3,c,b5⟩:=ee c
 refine cR (fun a w =>(kD a1 j) ()=some r∧fz 74 [0,3] [Pt f 0,Pt C 0] a∧St w0 w I [cb (Pt f 0) j,cells C [U6 a1.ID.ab,U6 a1.ID.Seq,U6 a1.ae,p,q,s,u]] R) ?_ ?_
 {
 refine ww (mp z (mp z (mF z fI (mL z (b.bc0 z) (mz (bX z uI b.sv1) (mi z (nt (au ?_))))))))
 obtain ⟨d4,c⟩:=aS c
 refine bg (fun n a w=>∃ (L:Int),cU (jg j a1) n L=some d3∧fz 74 [0,3,14,15,16] [Pt f 0,Pt C 0,K,I6 ((j.l).length:Int),I6 L] a∧St w0 w I [cells f [K],bp bZ K j.l,cells C [U6 a1.ID.ab,U6 a1.ID.Seq,U6 a1.ae,p,q,s,u]] R) d4 ⟨0,c,fy z,b⟩ ?_
 rintro h0 _ h1 ⟨L,c,⟨h2,rfl⟩,b⟩
 obtain ⟨h3,h4,rfl,c,D⟩:=aU c
 dsimp only [jg] at c
 refine ww (mb z (nt (aj (bw c z ?_ ?_))))
 {
 refine fun d5 c=>al (tn (aj (au (ww ?_))))
 obtain ⟨k,d6,c⟩:=bn c
 obtain ⟨d7,d8,d9⟩:=aV d6
 refine mz (aJ z z uI sI b.sv1 d7 d8) ?_
 obtain ⟨h5,e0,e2⟩:=b.og1 d9
 obtain ⟨b6,b7,b8,b9,rfl,c1,c2,c3,c4,-⟩:=e0
 refine mz (xN (cs:=[U6 k.ID.ab,U6 k.ID.Seq,U6 k.ae,b6,b7,b8,b9]) z (et (o:=0) e2 z)) ?_
 obtain ⟨h6,h7,e3,e4,b⟩:=b.box [Zu,Zu,Zu,Zs,Zs,Zs,Zs] 46
 refine wa e3 e4 (bxk b z sI (oJ 3 z (oC (oS (ak c1)) (oC (oS (ak c2)) (oC (oS (ak c3)) (oC (oS (ak c4)) oN))))) fun h8 b=>nt (ww (mF z fI (mz (xN (cs:=[U6 k.ID.ab,U6 k.ID.Seq]) z (b.fm 0 z)) (mF z fI (mz (xN (cs:=[U6 a1.ID.ab,U6 a1.ID.Seq]) z (b.ul 0 z)) (mb (wU z z krA uI krA krA krA uI uI (fun _ _ _=>by kernel_rfl) (fun _ _ _=>by kernel_rfl)) (mb z (bs c ?_ ?_)))))))))
 {
 refine fun g c=>gg g (xN z (b.fm 0 tz)) (gg g (xN z (b.ul 0 tz)) (bk c fun h9 e5 c=>dh ((av z z z (cvb g)).trans z) z (gO call140 z (vs:=[.agg #[U6 k.ID.ab,U6 k.ID.Seq,U6 k.ae,b6,b7,b8,b9],.agg #[U6 a1.ID.ab,U6 a1.ID.Seq,U6 a1.ae,p,q,s,u]]) z) (kcO (AW (c1.mono cS) (c2.mono cS) (c3.mono cS) (c4.mono cS) (b1.mono (cW _)) (b2.mono (cW _)) (b3.mono (cW _)) (b4.mono (cW _)) b.to0 e5) fun i0 b=>mb (bi g z z) (nt (bw c z ?_ ?_)))))
 {
 refine fun e6 c=>ww (mi z (nt (ar (eo (bh (bh ?_))))))
 replace c:=bz c D
 refine eo (bh ?_)
 replace c:=bz c b5
 cases c
 exact pI z z ⟨_,z,d,(aR (dt (Pt f 0) j b.aD.aD z)).bF⟩
}
 refine fun e6 c=>al (bJ (tn (wrl (mi z (mi z (nt ?_))))))
 cases c
 exact ⟨_,nls,_,D,fy z,b.aA.aA.aA.eu⟩
}
 refine fun g c=>go g (go g (go g (mb (aL g z z) (nt (cJ z (al (bJ (tn (wrl (mi z (mi z (nt ?_))))))))))))
 cases c
 exact ⟨_,nls,_,D,fy z,b.aA.aA.aA.eu⟩
}
 refine fun d5 c=>bH (aQ (aQ ?_))
 replace c:=bz c D
 refine cZ (tn ?_)
 cases c
 exact ⟨b5,fy z,(dt (Pt f 0) j b.ah.ah z).ah.ah.cv⟩
}
 rintro _ i1 ⟨c,⟨i2,rfl⟩,b⟩
 dsimp only [kD] at c
 refine aj (rg b 18 [0,1,0,4,0,16,48,0,128,496,0,1024,4080,0,8192,32752,65535,131071] [] mixed (sF 0 z z fI (sh _ 1 z (fun w b=>xN (cs:=[U6 a1.ID.ab,U6 a1.ID.Seq]) z (b.fO 0 z)) (sF 2 z z fI (sL 3 z z (·.bc1 z) (sF 4 z z fI (sL 5 z z (·.bc1 z) (sF 7 z z fI (sL 8 z z (·.bc1 z) (sF 10 z z fI (sL 11 z z (·.bc1 z) (sF 13 z z fI (sL 14 z z (·.bc1 z) (e1 6 z z fun w b=>?_))))))))))))))
 refine bk c fun M e7 c=>wec call141 [p] z z (kdI (lU (b1.mono (cW _)) b.to0 e7) fun N i3 b=>wn [14,13,11,10,8,7,3,2,1,0] b (pL z z (·.bc2 z) (pF z z fI (pL z z (·.bc2 z) (pF z z fI (pL z z (·.bc2 z) (pF z z fI (pL z z (·.bc2 z) (pF z z fI (pkr z z (fun w b=>xN (cs:=[U6 a1.ID.ab,U6 a1.ID.Seq]) z (b.ta 0 z)) (pF z z fI aT)))))))))) ?_)
 refine e1 9 z z fun w b=>bk c fun O e8 c=>wec call142 [q] z z (kdI (pN (b2.mono (cW _)) b.to0 e8) fun Q i4 b=>wn [14,13,11,10,3,2,1,0] b (pL z z (·.bc3 z) (pF z z fI (pL z z (·.bc3 z) (pF z z fI (pL z z (·.bc3 z) (pF z z fI (pkr z z (fun w b=>xN (cs:=[U6 a1.ID.ab,U6 a1.ID.Seq]) z (b.ul 0 z)) (pF z z fI aT)))))))) ?_)
 refine e1 12 z z fun w b=>bk c fun S e9 c=>wec call141 [s] z z (kdI (lU (b3.mono (cW _)) b.to0 e9) fun T i5 b=>wn [14,13,3,2,1,0] b (pL z z (·.bc4 z) (pF z z fI (pL z z (·.bc4 z) (pF z z fI (pkr z z (fun w b=>xN (cs:=[U6 a1.ID.ab,U6 a1.ID.Seq]) z (b.BI 0 z)) (pF z z fI aT)))))) (e1 15 z z fun w b=>bk c fun U f0 c=>wec call143 [u] z z ?_))
 refine kdI (lA (b4.mono (cW _)) b.to0 f0) fun V i6 b=>wn [3,2,1,0] b (pL z z (·.bc5 z) (pF z z fI (pkr z z (fun w b=>xN (cs:=[U6 a1.ID.ab,U6 a1.ID.Seq]) z (b.CT 0 z)) (pF z z fI aT)))) (wsr (.agg #[U6 a1.ID.ab,U6 a1.ID.Seq,U6 a1.ae,N,Q,T,V]) 16 rfl rfl rfl krA (fun w b=>by obtain ⟨_,_,hv_,_⟩:=b.sv0; rw [hv_]; obtain ⟨_,_,hv_,_⟩:=b.sv1; rw [hv_]; obtain ⟨_,_,hv_,_⟩:=b.sv2; rw [hv_]; obtain ⟨_,_,hv_,_⟩:=b.sv3; rw [hv_]; kernel_rfl) (e1 17 z z fun w b=>?_))
 replace b:=b.bq
 refine bxe b z sI (oJ 3 z (oC (oS b.sv4) (oC (oS b.sv3) (oC (oS b.sv2) (oC (oS b.sv1) oN))))) fun i7 b=>w0n b (bt ?_)
 refine fun w b=>tn (ww (mp z (mF z fI (mz (xN (cs:=[U6 a1.ID.ab,U6 a1.ID.Seq]) z (b.fm 0 z)) ?_))))
 replace b:=aR b.bq
 obtain ⟨F,f1,c⟩:=bn c
 refine wc call135 [Pt f 0,.agg #[U6 a1.ID.ab,U6 a1.ID.Seq]] z z z (kcI (pf b.to1 f1) fun i8 b=>?_)
 replace b:=bQ b
 refine mv (.tuple #[I6 F.1,.bool F.2]) z (mi z (mb z (mi z (mb z (nt (aj (ww (mb z (nt (bw c z ?_ ?_))))))))))
 {
 intro f2 c
 obtain ⟨i9,j0,W,f3⟩:=dP b
 replace W:=ez W
 subst W
 have b:=f3
 refine rg b 8 [0,1,3,7,0,0,63,127] [] mixed (sp 0 z z (sp 1 z z (sF 2 z z fI (sL 3 z z (·.bc0 z) (si 4 z z (sh _ 5 z (fun w b=>xN z (b.ta 0 tz)) ?_))))))
 obtain ⟨j1,f4,c⟩:=bn c
 obtain ⟨f5,f6,c5⟩:=aV f4
 refine sh _ 6 z (fun w b=>aJ z z uI sI b.sv1 f5 f6) (e1 7 z z fun w b=>?_)
 obtain ⟨j2,f7,j3⟩:=b.og1 c5
 obtain ⟨j4,j5,j6,j7,rfl,j8,j9,k0,k1,-⟩:=f7
 replace b:=b.de
 obtain ⟨k2,f8,i,b⟩:=b.cO
 replace d:=d.trans f8
 replace b:=b.bq
 obtain ⟨k3,c6,x,b⟩:=b.cO
 replace i:=i.mono (ro_le c6)
 replace d:=d.trans c6
 replace b:=b.bj
 obtain ⟨k4,X,B,b⟩:=b.cO
 replace i:=i.mono (ro_le X)
 replace x:=x.mono (ro_le X)
 replace d:=d.trans X
 replace b:=b.aA
 obtain ⟨k5,G,Y,b⟩:=b.cO
 replace i:=i.mono (ro_le G)
 replace x:=x.mono (ro_le G)
 replace B:=B.mono (ro_le G)
 replace d:=d.trans G
 replace b:=b.ah
 obtain ⟨k6,f9,b⟩:=b.sd (P:=prog) (t:=46) (y:=({a1 with dO:=M,aX:=O,dD:=S,Data:=U}:aw)) c5 0 (.agg #[U6 a1.ID.ab,U6 a1.ID.Seq,U6 a1.ae,N,Q,T,V]) sI (Nat.le_of_ble_eq_true z) (oJ 3 z (oC (oS (ak i)) (oC (oS (ak x)) (oC (oS (ak B)) (oC (oS (ak Y)) oN))))) (fun cs h=>⟨_,_,_,_,zO (bZ.len h) z,i,x,B,Y,oS (ak i),oS (ak x),oS (ak B),oS (ak Y)⟩)
 refine tu z (rn f9) (w0n b (bt ?_))
 refine fun w b=>tn (ww (mi z (nt (ar ?_))))
 cases c
 exact pI z z ⟨_,z,d,(aR (dt (Pt f 0) (({l:=(j.l.set F.1.toNat ({a1 with dO:=M,aX:=O,dD:=S,Data:=U}:aw))}:bN)) b.ah z)).bF⟩
}
 intro f2 c
 obtain ⟨k7,g0,Z,g1⟩:=dP b
 replace Z:=ez Z
 subst Z
 have b:=g1
 refine rg b 12 [0,0,2,6,14,0,0,64,254,511,1023,2047] [] mixed (sp 0 z z (sp 1 z z (sp 2 z z (sF 3 z z fI (sL 4 z z (·.bc0 z) (si 5 z z (sh _ 6 z (fun w b=>xN z (b.ta 0 tz)) (e1 7 z z fun w b=>?_))))))))
 replace b:=b.de
 obtain ⟨k8,g2,m,b⟩:=b.cO
 replace d:=d.trans g2
 replace b:=b.bq
 obtain ⟨k9,c7,A,b⟩:=b.cO
 replace m:=m.mono (ro_le c7)
 replace d:=d.trans c7
 replace b:=b.bj
 obtain ⟨l0,b0,H,b⟩:=b.cO
 replace m:=m.mono (ro_le b0)
 replace A:=A.mono (ro_le b0)
 replace d:=d.trans b0
 replace b:=b.aA
 obtain ⟨l1,J,c8,b⟩:=b.cO
 replace m:=m.mono (ro_le J)
 replace A:=A.mono (ro_le J)
 replace H:=H.mono (ro_le J)
 replace d:=d.trans J
 obtain ⟨c9,g3,g4,g5,b⟩:=b.lits (E:=bZ) (xs:=[({a1 with dO:=M,aX:=O,dD:=S,Data:=U}:aw)]) [[U6 a1.ID.ab,U6 a1.ID.Seq,U6 a1.ae,N,Q,T,V]] 46 1 z (bT.cons ⟨_,_,_,_,z,m,A,H,c8,oS (ak m),oS (ak A),oS (ak H),oS (ak c8)⟩ bT.nil)
 refine cj (v:=(.slice (some ⟨c9,0,none⟩) 1 1)) (w':=g3) z (dH krA g4 g5) (wn [5,4,3,2,1,0] b (pz (pL z z (·.bc1 z) (pF z z fI (pz (pz (pz aT)))))) (e1 8 z z fun w b=>?_))
 replace b:=b.aD
 obtain ⟨g6,g7,c⟩:=bn c
 refine wec call144 [g0,I6 F.1,(.slice (some ⟨c9,0,none⟩) 1 1)] z z (kdI (qp b.to2 g7) fun g8 l2 b=>wn [0] b (pz aT) (sp 9 z z (sF 10 z z fI (e1 11 z z fun w b=>?_))))
 replace b:=b.ah
 refine b1e g8 b z (oS b.sv1) sI fun l3 b=>w0n b (bt ?_)
 refine fun w b=>tn (ww (mi z (nt (ar ?_))))
 cases c
 exact pI z z ⟨_,z,d,(aR (dt (Pt f 0) (({l:=g6}:bN)) b.ah.ah z)).bF⟩
}
theorem xA {a0:(Option ai)} {p0:Value} {a1:aw} {k l m n:Value} (A:Rd cp R I k a1.dO) (B:Rd fU R I l a1.aX) (C:Rd cp R I m a1.dD) (D:Rd (cr .u8) R I n a1.Data) (b:St w0 w I [cX aM p0 a0] R) {r:(Int×(Option ai))} (c:lO a0 a1=some r) :
  Calls prog 19 #[p0,.agg #[U6 a1.ID.ab,U6 a1.ID.Seq,U6 a1.ae,k,l,m,n]] w fun e w'=>∃ (I':HL),e = .returned (.int .i64 r.1)∧I.le I'∧St w0 w' I' [cX aM p0 r.2] R:=by {
 rcases a0 with _ | g
 {
 dsimp only [lO] at c
 cases c
}
 replace b:=bQ b
 dsimp only [lO] at c
 refine c0 func19 z z ?_
 have i:=HL.le.refl I
 refine ww ?_
 obtain ⟨E,f4,c5,c6,b⟩:=b.box [U6 a1.ID.ab,U6 a1.ID.Seq,U6 a1.ae,k,l,m,n] 46
 refine wa c5 c6 (mi z (nt (aj (ww (mv (p0) z ?_)))))
 obtain ⟨h,f5,b2,f6,f7,f8,f9,g0,rfl,c7⟩:=bC b.ah
 have b:=c7
 refine mk (.bool false) (nt (cJ z (al (tn (aj ?_)))))
 obtain ⟨g1,c,b3⟩:=bn c
 refine vy (fun a w=>∃ (j:HL) (t:Int) (u:Int) (x:Int) (F:(List Nat)) (G:(List (Nat×Nat))) (H:(List Nat)) (J:(List Int)) (O:Bool) (P:Nat) (K:Value) (L:Value) (M:Value) (N:Value),(qt a1 g) (t,u,x,F,G,H,J,O)=some r∧fz 59 [0,3,5,6] [Pt h 0,Pt E 0,Pt P 0,.bool O] a∧I.le j∧Ro cp j K F∧Ro fU j L G∧Ro cp j M H∧Ro (cr .u8) j N J∧St w0 w j [aM (Pt h 0) g,cells E [U6 a1.ID.ab,U6 a1.ID.Seq,U6 a1.ae,k,l,m,n],cells P [U6 t,U6 u,U6 x,K,L,M,N]] R) ?_ ?_
 {
 have q:=HL.le.refl I
 refine rg b 13 [0,1,3,7,0,16,63,127,255,255,0,1535,4095] [] mixed (sp 0 z z (sp 1 z z (sF 2 z z fI (sL 3 z z (·.bc0 z) (sF 4 z z fI (sh _ 5 z (fun w b=>xN (cs:=[U6 a1.ID.ab,U6 a1.ID.Seq]) z (b.Bk 0 z)) (tZ 6 10 krA ?_ ?_)))))))
 {
 refine nx z z fun w b=>?_
 replace b:=b.aD
 obtain ⟨o,c8,c⟩:=bn c
 refine wec call56 [b2,.agg #[U6 a1.ID.ab,U6 a1.ID.Seq]] z z ((pU b.to1 c8).mono ?_)
 rintro _ g2 ⟨g3,Q,S,T,U,rfl,c9,b4,b5,b6,b7,b⟩
 refine ⟨_,z,?_⟩
 replace b:=b.of1
 replace q:=q.trans c9
 refine w0n b (sz (.tuple #[.agg #[U6 o.1.ID.ab,U6 o.1.ID.Seq,U6 o.1.ae,Q,S,T,U],.bool o.2]) 7 z z (sz (.agg #[U6 o.1.ID.ab,U6 o.1.ID.Seq,U6 o.1.ae,Q,S,T,U]) 8 z z (sb 9 z z (e1 10 z z fun w b=>?_))))
 obtain ⟨b8,d0,d1,d2,b⟩:=b.box [Zu,Zu,Zu,Zs,Zs,Zs,Zs] 46
 refine cj (v:=Pt b8 0) (w':=d0) z (yC krA d1 d2) (wn [9,8,7] b (pz (pz (pz aT))) (e1 11 z z fun w b=>bxe b z sI (oJ 3 z (oC (oS (ak b4)) (oC (oS (ak b5)) (oC (oS (ak b6)) (oC (oS (ak b7)) oN))))) fun g4 b=>wn [9] b (pz aT) (sb 12 z z (bt ?_))))
 intro w b
 refine ⟨z,?_⟩
 cases c
 exact ⟨_,_,_,_,_,_,_,_,_,b8,Q,S,T,U,b3,fy z,q,b4,b5,b6,b7,(aF (Pt h 0) g b.bM.bM.bM.bM.bM.de.bM.bM z).ah.aD.aD.eu⟩
}
 refine nx z z fun w b=>?_
 obtain ⟨b9,d3,d4,d5,b⟩:=b.box [Zu,Zu,Zu,Zs,Zs,Zs,Zs] 46
 refine cj (v:=Pt b9 0) (w':=d3) z (yC krA d4 d5) (wn [5,4,3,2,1,0] b (pkr z z (fun w b=>xN (cs:=[U6 a1.ID.ab,U6 a1.ID.Seq]) z (b.AZ 0 z)) (pF z z fI (pL z z (·.bc1 z) (pF z z fI (pz (pz aT)))))) (e1 6 z z fun w b=>?_))
 replace b:=b.aA
 obtain ⟨p,d6,c⟩:=bn c
 refine wec call56 [b2,.agg #[U6 a1.ID.ab,U6 a1.ID.Seq]] z z ((pU b.to1 d6).mono ?_)
 rintro _ g5 ⟨g6,V,W,X,Y,rfl,d7,c1,c2,c3,c4,b⟩
 refine ⟨_,z,?_⟩
 replace b:=b.of1
 replace q:=q.trans d7
 refine w0n b (sz (.tuple #[.agg #[U6 p.1.ID.ab,U6 p.1.ID.Seq,U6 p.1.ae,V,W,X,Y],.bool p.2]) 7 z z (sz (.agg #[U6 p.1.ID.ab,U6 p.1.ID.Seq,U6 p.1.ae,V,W,X,Y]) 8 z z (sb 9 z z (e1 11 z z fun w b=>?_))))
 replace b:=b.ah
 refine bxe b z sI (oJ 3 z (oC (oS (ak c1)) (oC (oS (ak c2)) (oC (oS (ak c3)) (oC (oS (ak c4)) oN))))) fun g7 b=>wn [9] b (pz aT) (sb 12 z z (bt ?_))
 intro w b
 refine ⟨z,?_⟩
 cases c
 exact ⟨_,_,_,_,_,_,_,_,_,b9,V,W,X,Y,b3,fy z,q,c1,c2,c3,c4,(aF (Pt h 0) g b.bM.bM.bM.bM.bM.de.bM.bM z).ah.aD.aD.eu⟩
}
 rintro _ g8 ⟨j,t,u,x,F,G,H,J,O,P,K,L,M,N,c,⟨g9,rfl⟩,y,d8,d9,e0,e2,b⟩
 dsimp only [qt] at c
 replace A:=A.mono (qK y)
 replace B:=B.mono (qK y)
 replace C:=C.mono (qK y)
 replace D:=D.mono (qK y)
 replace i:=i.trans y
 refine tn ?_
 obtain ⟨h0,c,s⟩:=ee c
 refine cR (fun a w =>(fF g a1) ()=some r∧fz 59 [0,3] [Pt h 0,Pt E 0] a∧St w0 w j [aM (Pt h 0) g,cells E [U6 a1.ID.ab,U6 a1.ID.Seq,U6 a1.ae,k,l,m,n]] R) ?_ ?_
 {
 refine au (ww (mb z (mb z (bs c ?_ ?_))))
 {
 refine fun d c=>gg d (xN z (b.ta 0 tz)) (gg d (xN z (b.fO 0 tz)) (bk c fun h1 e3 c=>dh ((av z z z (cvb d)).trans z) z (gO call57 z (vs:=[.agg #[U6 t,U6 u,U6 x,K,L,M,N],.agg #[U6 a1.ID.ab,U6 a1.ID.Seq,U6 a1.ae,k,l,m,n]]) z) (kcO (AE (a0:=({ID:=({ab:=t,Seq:=u}:cy),ae:=x,dO:=F,aX:=G,dD:=H,Data:=J}:aw)) (d8.mono cS) (d9.mono cS) (e0.mono cS) (e2.mono cS) (A.mono (cW _)) (B.mono (cW _)) (C.mono (cW _)) (D.mono (cW _)) b.to0 e3) fun h2 b=>mb (bi d z z) (mb z (nt (bw c z ?_ ?_))))))
 {
 refine fun e4 c=>ww (mi z (nt (ar (eo (bh ?_)))))
 replace c:=bz c s
 cases c
 exact pI z z ⟨_,z,i,(aR b).bF⟩
}
 refine fun e4 c=>ww (mb z (mb z (gg d (xF z fI z) (gg d (xF z fI z) (gg d (xL z (b.bc1 z)) (gb d z (gb d z (bs c ?_ ?_))))))))
 {
 refine fun f c=>go f (go f (go f (go f (go f (gb d (bi f z z) (mb (bi d z z) (mb z (nt (eG z (ww (mi z (nt (ar (eo (bh ?_)))))))))))))))
 replace c:=bz c s
 cases c
 exact pI z z ⟨_,z,i,(aR b).bF⟩
}
 refine fun f c=>gg f (xF z fI z) (gg f (xL z (b.bc1 z)) (gg f (xF z fI z) (gg f (xL z (b.bc2 z)) (gb f z (gb d (aL f z z) (mb (bi d z z) (mb z (nt (bw c z ?_ ?_)))))))))
 {
 refine fun e5 c=>ww (mi z (nt (ar (eo (bh ?_)))))
 replace c:=bz c s
 cases c
 exact pI z z ⟨_,z,i,(aR b).bF⟩
}
 refine fun e5 c=>aj ?_
 obtain ⟨h3,h4,h5,h6,h7,h8,h9,i0,Z,e6⟩:=bC b
 replace Z:=ez Z
 subst Z
 have b:=e6
 refine eU b mixed krA (qz (.bool _) z (qz (.bool _) z (qz (.bool _) z (qo (zW d) (qo (zW d) (qo (zW d) (qo (zW d) (qo (zW d) (qo (zW d) (qo (zW d) (qh (.bool _) (fun w b=>aL (zW d) z z) (qz (.bool _) z (hK ?_)))))))))))))
 refine fun w b=>tn (cJ z (al (bJ (tn ?_))))
 cases c
 exact ⟨s,fy z,(aF (Pt h 0) g b.aW.aW.aW.aW.aW.aW.aW.aW z).ah.ah.cv⟩
}
 refine fun d c=>go d (go d (go d (mb (aL d z z) (mb z (nt (cJ z (ww (mb z (mb z (go d (go d (go d (go d (go d (gu (gu (gu (gu (gu (go d (mb (aL d z z) (mb z (nt (cJ z (aj ?_)))))))))))))))))))))))))
 obtain ⟨i1,i2,i3,i4,i5,i6,i7,i8,b0,e7⟩:=bC b
 replace b0:=ez b0
 subst b0
 have b:=e7
 refine eU b mixed krA (qz (.bool _) z (qz (.bool _) z (qz (.bool _) z (qg _ (wA d) (fun w b=>xF z fI z) (qg _ (wA d) (fun w b=>xL z (b.bc8 z)) (qgz (Pt _ _) (wA d) z (qgz (Pt _ _) (wA d) z (qg _ (wA d) (fun w b=>xF z fI z) (qg _ (wA d) (fun w b=>xL z (b.bc0 z)) (qgz (.bool _) (wA d) z (qh (.bool _) (fun w b=>bi (wA d) z z) (qz (.bool _) z (hK ?_)))))))))))))
 refine fun w b=>tn (bw c z ?_ ?_)
 {
 refine fun e8 c=>ww (mi z (nt (ar (eo (bh ?_)))))
 replace c:=bz c s
 cases c
 exact pI z z ⟨_,z,i,(aR (aF (Pt h 0) g b.aW.aW.aW.aW.aW.aW.aW.aW z)).bF⟩
}
 refine fun e8 c=>al (bJ (tn ?_))
 cases c
 exact ⟨s,fy z,(aF (Pt h 0) g b.aW.aW.aW.aW.aW.aW.aW.aW z).ah.ah.cv⟩
}
 rintro _ i9 ⟨c,⟨j0,rfl⟩,b⟩
 dsimp only [fF] at c
 refine aj ?_
 obtain ⟨j1,j2,e9,j3,j4,j5,j6,j7,b1,f0⟩:=bC b
 replace b1:=ez b1
 subst b1
 have b:=f0
 refine rg b 7 [0,1,3,7,0,31,63] [] mixed (sp 0 z z (sp 1 z z (sF 2 z z fI (sL 3 z z (·.bc0 z) (sh _ 4 z (fun w b=>xN z (b.Bk 0 tz)) (e1 5 z z fun w b=>?_))))))
 replace b:=b.aD
 obtain ⟨f1,f2,c⟩:=bn c
 refine wec call58 [e9,.agg #[U6 a1.ID.ab,U6 a1.ID.Seq,U6 a1.ae,k,l,m,n]] z z ((wT (A.mono (cW _)) (B.mono (cW _)) (C.mono (cW _)) (D.mono (cW _)) b.to1 f2).mono ?_)
 rintro _ j8 ⟨j9,rfl,f3,b⟩
 refine ⟨_,z,?_⟩
 replace b:=b.of1
 replace i:=i.trans f3
 refine w0n b (si 6 z z (bt ?_))
 refine fun w b=>tn (ar ?_)
 cases c
 exact pI z z ⟨_,z,i,(aR (aF (Pt h 0) (({g with ft:=f1.2}:ai)) b.aW.aW.aW.aW.aW.bq.aW.aW z)).bF⟩
}
theorem pJ {a0:(Option cn)} {p0:Value} {a1:Int} (b:St w0 w I [cX cA p0 a0] R) {r:(Int×Bool)} (c:jh a0 a1=some r) :
  Calls prog 146 #[p0,U6 a1] w fun e w'=>e = .returned (.tuple #[I6 r.1,.bool r.2])∧St w0 w' I [cX cA p0 a0] R:=by {
 rcases a0 with _ | j
 {
 dsimp only [jh] at c
 cases c
}
 replace b:=bQ b
 dsimp only [jh] at c
 refine c0 func146 z z (ww ?_)
 obtain ⟨k,m,rfl,u⟩:=ec b
 have b:=u
 obtain ⟨f,T,v,x,b⟩:=b.box [Pt k 0] 101
 refine wa v x ?_
 obtain ⟨g,U,y,A,b⟩:=b.box [U6 a1] 26
 refine wa y A (mi z (mb z (nt (aj (ww (mL z (b.bc1 z) (mk (.bool false) (nt (cJ z (al (tn (ww (mL z (b.bc1 z) (mp z (mF z fI (mL z (b.bc2 z) (mz (bX z uI (b.oL 3 z)) (mk (.func (.func 198) #[] #[Pt f 0,Pt g 0]) (bk c fun t B c=>dh z z (er call179 (caps:=[]) z (vs:=[I6 ((j.rows).length:Int),.func (.func 198) #[] #[Pt f 0,Pt g 0]]) z) (Calls.mono (show Calls prog 179 #[I6 ((j.rows).length:Int),.func (.func 198) #[] #[Pt f 0,Pt g 0]] _ (fun e w'=>∃ (p:Int),p=t∧e = .returned (.int .i64 p)∧St w0 w' I [cells k [m],sR cq m j.rows,cells f [Pt k 0],cells g [U6 a1]] R) from ?_) ?_))))))))))))))))))))
 {
 clear c; have c:=B
 refine c0 func179 z z (ww (mi z (nt (ww (mi z (mi z (mi z (nt (aj (au ?_))))))))))
 obtain ⟨C,c⟩:=aS c
 refine bg (fun n a w=>∃ (h:Int) (l:Int),cU (jG j a1) n (h,l)=some t∧fz 26 [1,5,6] [.func (.func 198) #[] #[Pt f 0,Pt g 0],I6 h,I6 l] a∧St w0 w I [cells g [U6 a1],cells f [Pt k 0],cells k [m],sR cq m j.rows] R) C ⟨0,((j.rows).length:Int),c,fy z,b⟩ ?_
 rintro V _ W ⟨h,l,c,⟨X,rfl⟩,b⟩
 obtain ⟨Y,Z,rfl,c,q⟩:=aU c
 dsimp only [jG] at c
 refine aj (ww (mi z (mi z (mb z (nt (bw c z ?_ ?_))))))
 {
 refine fun D c=>al (tn (au (ww (mi z (mi z (mi z (mk (.int .u64 (u64.wrap (i64.wrap (h+l)))) (mi (xS deA z z) (mk (.int .i64 (i64.wrap (jq .u64 (u64.wrap (i64.wrap (h+l))) 1))) (mi z (nt (ww (mv (.func (.func 198) #[] #[Pt f 0,Pt g 0]) z (mi z ?_))))))))))))))
 refine bk c fun E F c=>dh z z (er call198 (caps:=[Pt f 0,Pt g 0]) z (vs:=[I6 (i64.wrap (jq .u64 (u64.wrap (i64.wrap (h+l))) 1))]) z) (Calls.mono (show Calls prog 198 #[I6 (i64.wrap (jq .u64 (u64.wrap (i64.wrap (h+l))) 1)),Pt f 0,Pt g 0] _ (fun e w'=>∃ (s:Bool),s=E∧e = .returned (.bool s)∧St w0 w' I [cells k [m],sR cq m j.rows,cells f [Pt k 0],cells g [U6 a1]] R) from ?_) ?_)
 {
 clear c; have c:=F
 refine c0 func198 z z (ww (mb z (nt (aj (eU b mixed krA (qh _ (fun w b=>xL z (b.bc1 z)) (qz (Pt _ _) z (qh _ (fun w b=>xF z fI z) (qh _ (fun w b=>xL z (b.bc2 z)) (qz (I6 _) z ?_))))))))))
 obtain ⟨b0,G,c⟩:=bn c
 obtain ⟨H,J,K⟩:=aV G
 refine qh _ (fun w b=>aJ z z uI sI (b.oL 3 z) H J) (qh _ (fun w b=>xG z fI z) (qh _ (fun w b=>xL z (b.Gz (N:=cq) (i:=(i64.wrap (jq .u64 (u64.wrap (i64.wrap (h+l))) 1)).toNat) (o:=0) 3 z K (fun _=>z))) (qh _ (fun w b=>xL z (b.bc0 z)) (qz (.bool _) z (qz (.bool _) z (hK ?_))))))
 refine fun w b=>tn (ar (pB z z ?_))
 cases c
 exact ⟨_,z,z,b.ah.aA.aA.eQ⟩
}
 rintro _ b1 ⟨s,rfl,rfl,b⟩
 refine ⟨_,z,?_⟩
 try dsimp only at c
 refine mb z (nt (bw c z ?_ ?_))
 {
 refine fun L c=>wrl (mi z (mi z (mi z (dv (bJ (tn ?_))))))
 cases c
 exact ⟨_,nls,_,l,q,fy z,b.ah.ah.aD.aA.eQ⟩
}
 refine fun L c=>wrl (mi z (mi z (dv (bJ (tn ?_)))))
 cases c
 exact ⟨_,nls,h,_,q,fy z,b.ah.ah.aD.aA.eQ⟩
}
 refine fun D c=>bH (aQ (aQ ?_))
 replace c:=bz c q
 refine cZ (tn (ww (mi z (mi z (nt (ar (pI z z ?_)))))))
 obtain rfl:=sj c
 exact ⟨h,z,z,b.ah.aA.aA.eQ⟩
}
 rintro _ b2 ⟨p,rfl,rfl,b⟩
 refine ⟨_,z,?_⟩
 try dsimp only at c
 refine mi z (nt (aj (eU b mixed krA (qz (I6 _) z (qz (I6 _) z (qh _ (fun w b=>xL z (b.bc2 z)) (qz (Pt _ _) z (qh _ (fun w b=>xF z fI z) (qh _ (fun w b=>xL z (b.bc0 z)) (qh _ (fun w b=>bX z uI (b.oL 1 z)) (qz (.bool _) z (qz (.bool _) z (bs c ?_ ?_)))))))))))))
 {
 refine fun d c=>qg _ d (fun w b=>xL z (b.bc2 z)) (qgz (Pt _ _) d z (qg _ d (fun w b=>xF z fI z) (qg _ d (fun w b=>xL z (b.bc0 z)) (qgz (I6 _) d z ?_))))
 obtain ⟨M,O,c⟩:=bn c
 obtain ⟨P,Q,S⟩:=aV O
 refine qg _ d (fun w b=>aJ z z uI sI (b.oL 1 z) P Q) (qg _ d (fun w b=>xG z fI z) (qg _ d (fun w b=>xL z (b.Gz (N:=cq) (i:=p.toNat) (o:=0) 1 z S (fun _=>z))) (qg _ d (fun w b=>xL z (b.bc3 z)) (qgz (.bool _) d z (qh (.bool _) (fun w b=>bi d z z) (qz (I6 _) z (qz (.bool _) z (hK ?_))))))))
 refine fun w b=>tn (ar ?_)
 cases c
 exact dI [I6 p,.bool (M.eW==a1)] z (rc z (rc z bl)) ⟨z,(aR (cY (Pt k 0) j b.ah.ah z)).bF⟩
}
 refine fun d c=>qo d (qo d (qo d (qo d (qo d (qo d (qo d (qo d (qo d (qo d (qh (.bool _) (fun w b=>aL d z z) (qz (I6 _) z (qz (.bool _) z (hK ?_)))))))))))))
 refine fun w b=>tn (ar ?_)
 cases c
 exact dI [I6 p,.bool false] z (rc z (rc z bl)) ⟨z,(aR (cY (Pt k 0) j b.ah.ah z)).bF⟩
}
theorem xZ {a0:(List bf)} {k:Value} {a1:Int} (j:Rd cD R I k a0) (b:St w0 w I [] R) {r:(cC)} (c:rT a0 a1=some r) :
  Calls prog 147 #[k,U6 a1] w fun e w'=>∃ (s:Value),e = .returned (.agg #[.bool r.Has,s])∧St w0 w' I [bp (cr .u8) s r.Val] R:=by {
 unfold rT at c
 refine c0 func147 z z (ww ?_)
 have A:=(ay j)
 obtain ⟨f,B,C,D,b⟩:=b.box [k] 238
 refine cK (v:=Pt f 0) (w':=B) z z (yC (by obtain ⟨_,_,hv_,_⟩:=A; rw [hv_]; kernel_rfl) C D) ?_
 obtain ⟨g,b3,E,F,b⟩:=b.box [U6 a1] 26
 refine wa E F ?_
 obtain ⟨m,b4,G,H,b⟩:=b.box [.bool false,Zs] 61
 refine wa G H (nt (ww (mL z (b.bc2 z) (mz (bX z uI (ay j)) (mk (.func (.func 199) #[] #[Pt f 0,Pt g 0]) (bk c fun t J c=>dh z z (er call179 (caps:=[]) z (vs:=[I6 ((a0).length:Int),.func (.func 199) #[] #[Pt f 0,Pt g 0]]) z) (Calls.mono (show Calls prog 179 #[I6 ((a0).length:Int),.func (.func 199) #[] #[Pt f 0,Pt g 0]] _ (fun e w'=>∃ (o:Int),o=t∧e = .returned (.int .i64 o)∧St w0 w' I [cells f [k],cells g [U6 a1],cells m [.bool false,Zs]] R) from ?_) ?_)))))))
 {
 clear c; have c:=J
 refine c0 func179 z z (ww (mi z (nt (ww (mi z (mi z (mi z (nt (aj (au ?_))))))))))
 obtain ⟨K,c⟩:=aS c
 refine bg (fun n a w=>∃ (h:Int) (i:Int),cU (tC a0 a1) n (h,i)=some t∧fz 26 [1,5,6] [.func (.func 199) #[] #[Pt f 0,Pt g 0],I6 h,I6 i] a∧St w0 w I [cells m [.bool false,Zs],cells g [U6 a1],cells f [k]] R) K ⟨0,((a0).length:Int),c,fy z,b⟩ ?_
 rintro b5 _ b6 ⟨h,i,c,⟨b7,rfl⟩,b⟩
 obtain ⟨b8,b9,rfl,c,p⟩:=aU c
 dsimp only [tC] at c
 refine aj (ww (mi z (mi z (mb z (nt (bw c z ?_ ?_))))))
 {
 refine fun L c=>al (tn (au (ww (mi z (mi z (mi z (mk (.int .u64 (u64.wrap (i64.wrap (h+i)))) (mi (xS deA z z) (mk (.int .i64 (i64.wrap (jq .u64 (u64.wrap (i64.wrap (h+i))) 1))) (mi z (nt (ww (mv (.func (.func 199) #[] #[Pt f 0,Pt g 0]) z (mi z ?_))))))))))))))
 refine bk c fun M N c=>dh z z (er call199 (caps:=[Pt f 0,Pt g 0]) z (vs:=[I6 (i64.wrap (jq .u64 (u64.wrap (i64.wrap (h+i))) 1))]) z) (Calls.mono (show Calls prog 199 #[I6 (i64.wrap (jq .u64 (u64.wrap (i64.wrap (h+i))) 1)),Pt f 0,Pt g 0] _ (fun e w'=>∃ (q:Bool),q=M∧e = .returned (.bool q)∧St w0 w' I [cells f [k],cells g [U6 a1],cells m [.bool false,Zs]] R) from ?_) ?_)
 {
 clear c; have c:=N
 refine c0 func199 z z (ww (mb z (nt (aj (eU b mixed krA (qh _ (fun w b=>xL z (b.bc2 z)) (qz (I6 _) z ?_)))))))
 obtain ⟨c1,O,c⟩:=bn c
 obtain ⟨P,Q,S⟩:=aV O
 refine qh _ (fun w b=>aJ z z uI sI (ay j) P Q) (qh _ (fun w b=>xG z fI z) ?_)
 obtain ⟨c2,T,U⟩:=Rd.lC j S
 obtain ⟨c3,rfl,c4,-⟩:=T
 refine qh _ (fun w b=>xL z ((U lr b) 0 _ z)) (qh _ (fun w b=>xL z (b.bc1 z)) (qz (.bool _) z (qz (.bool _) z (hK ?_))))
 refine fun w b=>tn (ar (pB z z ?_))
 cases c
 exact ⟨_,z,z,b.ah.aD.eu⟩
}
 rintro _ c5 ⟨q,rfl,rfl,b⟩
 refine ⟨_,z,?_⟩
 try dsimp only at c
 refine mb z (nt (bw c z ?_ ?_))
 {
 refine fun V c=>wrl (mi z (mi z (mi z (dv (bJ (tn ?_))))))
 cases c
 exact ⟨_,nls,_,i,p,fy z,b.ah.aD.eu⟩
}
 refine fun V c=>wrl (mi z (mi z (dv (bJ (tn ?_)))))
 cases c
 exact ⟨_,nls,h,_,p,fy z,b.ah.aD.eu⟩
}
 refine fun L c=>bH (aQ (aQ ?_))
 replace c:=bz c p
 refine cZ (tn (ww (mi z (mi z (nt (ar (pI z z ?_)))))))
 obtain rfl:=sj c
 exact ⟨h,z,z,b.ah.aD.eu⟩
}
 rintro _ c6 ⟨o,rfl,rfl,b⟩
 refine ⟨_,z,?_⟩
 try dsimp only at c
 refine mi z (nt (aj (ww (mi z (mb z (mb z (bs c ?_ ?_)))))))
 {
 refine fun d c=>go d (go d (go d (go d (go d (go d (mb (bi d z z) (nt (eG z (ww (mk (.agg #[.bool false,Zs]) ?_))))))))))
 replace b:=b.aD
 refine bxk b z sI (oC z (oC z oN)) fun c7 b=>nt (ar (bh ?_))
 replace b:=b.ba (cr .u8)
 cases c
 exact dI [.agg #[.bool false,Zs]] z (ea (rN (cs:=[.bool false,Zs]) z (b.fO 0 z)) bl) ⟨(.slice none 0 0),z,b.bF⟩
}
 refine fun d c=>gg d (xL z (b.bc0 z)) (gi d z (gi d z ?_))
 obtain ⟨c8,W,c⟩:=bn c
 obtain ⟨u,x,X⟩:=aV W
 refine gg d (aJ z z uI sI (ay j) u x) (gg d (xG z fI z) ?_)
 obtain ⟨c9,Y,y⟩:=Rd.lC j X
 obtain ⟨Z,rfl,b0,-⟩:=Y
 refine gg d (xL z ((y lr b) 2 _ z)) (mb (aL d z z) (nt (bw c z ?_ ?_)))
 {
 refine fun b1 c=>ww (mk (.agg #[.bool false,Zs]) ?_)
 replace b:=b.aD
 refine bxk b z sI (oC z (oC z oN)) fun d0 b=>nt (ar (bh ?_))
 replace b:=b.ba (cr .u8)
 cases c
 exact dI [.agg #[.bool false,Zs]] z (ea (rN (cs:=[.bool false,Zs]) z (b.fO 0 z)) bl) ⟨(.slice none 0 0),z,b.bF⟩
}
 refine fun b1 c=>al (tn (ww (mL z (b.bc0 z) (mi z (mi z (mz (aJ z z uI sI (ay j) u x) (mz (xG z fI z) (mL z ((y lr b) 3 _ z) (bk c fun d1 b2 c=>wc call143 [Z] z z z (kdI (lA (b0.mono (cW _)) b.to0 b2) fun l d2 b=>wv (.agg #[.bool true,l]) z z (by obtain ⟨_,_,hv_,_⟩:=b.sv0; rw [hv_]; kernel_rfl) ?_))))))))))
 replace b:=b.aA
 refine bxk b z sI (oC z (oC (oS b.sv1) oN)) fun d3 b=>nt (ar ?_)
 cases c
 exact dI [.agg #[.bool true,l]] z (ea (rN (cs:=[.bool true,l]) z (b.fm 0 z)) bl) ⟨l,z,b.ah.bF⟩
}
theorem qA {a0:(Option cn)} {p0:Value} {a1:Nat} {a2:Int} (a:St w0 w I [cX cA p0 a0] R) {r:(cC)} (b:fx a0 a1 a2=some r) :
  Calls prog 60 #[p0,F6 a1,U6 a2] w fun e w'=>∃ (g:Value),e = .returned (.agg #[.bool r.Has,g])∧St w0 w' I [bp (cr .u8) g r.Val,cX cA p0 a0] R:=by {
 rcases a0 with _ | k
 {
 dsimp only [fx] at b
 cases b
}
 replace a:=bQ a
 dsimp only [fx] at b
 refine c0 func60 z z (ww ?_)
 obtain ⟨B,C,l,m,a⟩:=a.box [.bool false,Zs] 61
 refine wa l m (nt (ww (mv (p0) z (mv (F6 _) z (bk b fun n o b=>wc call118 [F6 a1] z z z (kcO (dG a.to0 o) fun D a=>?_))))))
 replace a:=aR a.ah
 obtain ⟨c,p,b⟩:=bn b
 refine wc call146 [p0,U6 n] z z z (kcI (pJ a.to1 p) fun E a=>?_)
 replace a:=bQ a
 refine mv (.tuple #[I6 c.1,.bool c.2]) z (mi z (mb z (mi z (mb z (nt (aj (ww (mb z (mb z (nt (bw b z ?_ ?_)))))))))))
 {
 refine fun q b=>ww (mk (.agg #[.bool false,Zs]) ?_)
 replace a:=a.ah
 refine bxk a z sI (oC z (oC z oN)) fun F a=>nt (ar (bh ?_))
 replace a:=aR ((a.ba (cr .u8)).aD)
 cases b
 exact dI [.agg #[.bool false,Zs]] z (ea (rN (cs:=[.bool false,Zs]) z (a.ta 0 z)) bl) ⟨(.slice none 0 0),z,a.ah.cv⟩
}
 refine fun q b=>al (tn (ww (mv (p0) z ?_)))
 obtain ⟨s,G,rfl,t⟩:=ec a
 have a:=t
 refine mp z (mF z fI (mL z (a.bc0 z) (mi z ?_)))
 obtain ⟨H,u,b⟩:=bn b
 obtain ⟨v,x,d⟩:=aV u
 refine mz (aJ z z uI sI (a.oL 1 z) v x) (mz (xG z fI z) ?_)
 replace a:=a.ah
 obtain ⟨y,a⟩:=a.tR d
 refine mL z ((a.yV (N:=cq) (i:=c.1.toNat) 1 z d) 1 _ z) (mi z ?_)
 obtain ⟨J,h,a⟩:=a.cz
 obtain ⟨j,A,b⟩:=bn b
 refine wc call147 [y,U6 a2] z z z (kdI (xZ (a.jA h) a.to0 A) fun f K a=>?_)
 replace a:=(a.ah.bo h).bj
 refine bxk a z sI (oC z (oC (oS a.sv2) oN)) fun L a=>nt (ar ?_)
 replace a:=aR (cY (Pt s 0) k (St.sZ (N:=cq) a.aA.aD d).aA z)
 obtain rfl:=sj b
 exact dI [.agg #[.bool j.Has,f]] z (ea (rN (cs:=[.bool j.Has,f]) z (a.fO 0 z)) bl) ⟨f,z,a.aD.cv⟩
}
theorem fq {a0:Int} (b:St w0 w I [] R) {r:(Nat)} (a:eP a0=some r) :
  Calls prog 107 #[U6 a0] w fun e w'=>e = .returned (.float .f64 r)∧St w0 w' I [] R:=by {
 unfold eP at a
 refine c0 func107 z z (ww (mv (F6 _) z (nt (aj (ww (mi z (mi (xS deA z z) (mb z (nt (bw a z ?_ ?_))))))))))
 {
 refine fun c a=>ww (mi z (mi z (mk (.float .f64 (Int.toNat (yQ .u64 a0 9223372036854775808))) (mv (F6 _) z (nt (ar (bh ?_)))))))
 cases a
 exact dI [F6 (Int.toNat (yQ .u64 a0 9223372036854775808))] z (rc z bl) ⟨z,b.cT⟩
}
 refine fun c a=>al (tn (ww (mi z (mk (.int .u64 (Ez .u64 ((18446744073709551615):Int) a0)) (mk (.float .f64 (Int.toNat (Ez .u64 ((18446744073709551615):Int) a0))) (mv (F6 _) z (nt (ar ?_))))))))
 cases a
 exact dI [F6 (Int.toNat (Ez .u64 ((18446744073709551615):Int) a0))] z (rc z bl) ⟨z,b.cT⟩
}
theorem xH {a0:(Option cn)} {p0:Value} {a1 a2:Nat} {a3 a4:Int} (b:St w0 w I [cX cA p0 a0] R) {r:((List bP))} (c:ib a0 a1 a2 a3 a4=some r) :
  Calls prog 77 #[p0,F6 a1,F6 a2,U6 a3,I6 a4] w fun e w'=>∃ (I':HL) (D:Value),e = .returned (D)∧I.le I'∧St w0 w' I' [bp aH D r,cX cA p0 a0] R:=by {
 rcases a0 with _ | j
 {
 dsimp only [ib] at c
 cases c
}
 replace b:=bQ b
 dsimp only [ib] at c
 refine c0 func77 z z ?_
 have m:=HL.le.refl I
 refine ww (mv ((.slice none 0 0)) z (nt (aj (ww (mv (p0) z ?_)))))
 obtain ⟨h,c1,rfl,K⟩:=ec b
 have b:=K
 refine mk (.bool false) (nt (cJ z (al (tn (ww (mv ((.slice none 0 0)) z (nt (aj (ww (mp z (mv (F6 _) z (bk c fun L M c=>wc call118 [F6 a1] z z z (kcO (dG b.to0 M) fun c2 b=>?_)))))))))))))
 replace b:=aR (cY (Pt h 0) j b.ah.ah z)
 obtain ⟨y,O,c⟩:=bn c
 refine wc call146 [Pt h 0,U6 L] z z z (kcI (pJ b.to1 O) fun c3 b=>?_)
 replace b:=bQ b
 refine mv (.tuple #[I6 y.1,.bool y.2]) z (mi z (mb z (mi z (mb z (nt (au ?_))))))
 replace b:=b.ba aH
 obtain ⟨P,c⟩:=aS c
 refine bg (fun n a w=>∃ (A:HL) (p:(List bP)) (k:Int) (f:Value),cU (jJ j a2 a4 a3) n (p,k)=some r∧fz 80 [0,2,3,4,11,12] [Pt h 0,F6 a2,U6 a3,I6 a4,f,I6 k] a∧I.le A∧St w0 w A [bp aH f p,cA (Pt h 0) j] R) P ⟨_,[],y.1,Zs,c,fy z,lr,b⟩ ?_
 rintro c4 _ c5 ⟨A,p,k,f,c,⟨c6,rfl⟩,q,b⟩
 obtain ⟨c7,c8,rfl,c,s⟩:=aU c
 dsimp only [jJ] at c
 replace m:=m.trans q
 refine aj (aj ?_)
 obtain ⟨c9,d0,B,Q⟩:=ec b.ah
 replace B:=ez B
 subst B
 have b:=Q
 refine rg b 26 [0,0,2,6,14,30,63,127,255,511,1023,2047,255,8191,16383,32767,255,65791,262143,524287,1048575,2097151,4194303,2097151,16777215,33554431] [] mixed (si 0 z z (sp 1 z z (sp 2 z z (sF 3 z z fI (sL 4 z z (·.bc0 z) (sh _ 5 z (fun w b=>bX z uI (b.oL 1 z)) (sb 6 z z (sb 7 z z (bs c ?_ ?_)))))))))
 {
 refine fun d c=>sgz (Pt _ _) 8 z d z (sgz (Pt _ _) 9 z d z (sg _ 10 z d (fun w b=>xF z fI z) (sg _ 11 z d (fun w b=>xL z (b.bc0 z)) (sgz (I6 _) 12 z d z ?_))))
 obtain ⟨S,T,c⟩:=bn c
 obtain ⟨t,u,l⟩:=aV T
 refine sg _ 13 z d (fun w b=>aJ z z uI sI (b.oL 1 z) t u) (sg _ 14 z d (fun w b=>xG z fI z) (sg _ 15 z d (fun w b=>xL z (b.Gz (N:=cq) (i:=k.toNat) (o:=0) 1 z l (fun _=>z))) (sgz (F6 _) 16 z d z (iN 17 krA (nxe [18,19,20,21,22,23,24,25] krA z ((av z z z (cvb d)).trans z) ?_)))))
 clear b
 intro w b
 obtain ⟨d1,U,c⟩:=bn c
 refine wec call118 [F6 a2] z z (kcO (dG b.to0 U) fun d2 b=>wn [15,14,13,12,11,10,9,8] b (dx z (di ((av z z z (cvb d)).trans z) (fun w b=>xL z (b.Gz (N:=cq) (i:=k.toNat) (o:=0) 1 z l (fun _=>z)))) (dx z (di ((av z z z (cvb d)).trans z) (fun w b=>xG z fI z)) (dx z (di ((av z z z (cvb d)).trans z) (fun w b=>aJ z z uI sI (b.oL 1 z) t u)) (dx z (di ((av z z z (cvb d)).trans z) (fun w b=>z)) (dx z (di ((av z z z (cvb d)).trans z) (fun w b=>xL z (b.bc0 z))) (dx z (di ((av z z z (cvb d)).trans z) (fun w b=>xF z fI z)) (dx z (di ((av z z z (cvb d)).trans z) (fun w b=>z)) (dx z (di ((av z z z (cvb d)).trans z) (fun w b=>z)) aT)))))))) (sgz (.bool _) 18 z d z (sh (.bool _) 19 z (fun w b=>bi d z z) (sb 20 z z (bs c ?_ ?_)))))
 {
 refine fun g c=>sgz f 21 z g z (sg _ 22 z g (fun w b=>bX z uI b.sv2) (sgz (I6 _) 23 z g z (sgz (.bool _) 24 z g z (sh (.bool _) 25 z (fun w b=>bi g z z) (bt ?_)))))
 refine fun w b=>tn (bw c z ?_ ?_)
 {
 refine fun V c=>al (tn (aj (au (ww (mp z (mp z (mF z fI (mL z (b.bc0 z) (mi z (mz (aJ z z uI sI (b.oL 1 z) t u) (mz (xG z fI z) ?_)))))))))))
 replace b:=b.ah
 obtain ⟨W,b⟩:=b.tR l
 refine mL z ((b.yV (N:=cq) (i:=k.toNat) 1 z l) 1 _ z) (mi z ?_)
 obtain ⟨d3,F,b⟩:=b.cz
 obtain ⟨G,X,c⟩:=bn c
 refine wc call147 [W,U6 a3] z z z (kdI (xZ (b.jA F) b.to0 X) fun H d4 b=>?_)
 replace b:=b.ah.bo F
 obtain ⟨d5,d6,Y,Z,b⟩:=b.box [.bool false,Zs] 61
 refine wa Y Z (bxk b z sI (oC z (oC (oS b.sv2) oN)) fun d7 b=>nt (ww (mF z fI (mL z (b.bc0 z) (nt (bw c z ?_ ?_))))))
 {
 refine fun b0 c=>rg b 16 [0,0,2,6,14,0,62,126,254,510,0,1024,4094,8190,16383,32767] [15] mixed (sz (f) 0 z z (sp 1 z z (sp 2 z z (sF 3 z z fI (sL 4 z z (·.bc4 z) (si 5 z z (sh _ 6 z (fun w b=>aJ z z uI sI (b.ER 3 z) t u) (sh _ 7 z (fun w b=>xG z fI z) (sL 8 z z (fun b=>b.Lr (N:=cq) (i:=k.toNat) (o:=0) 3 z l (fun _=>z)) (sF 10 z z fI (sL 11 z z (·.bc0 z) (e1 9 z z fun w b=>?_))))))))))))
 refine bk c fun x b1 c=>wec call107 [U6 S.eW] z z (kcO (fq b.to0 b1) fun d8 b=>wn [11,10,0] b (pL z z (·.bc0 z) (pF z z fI (pz aT))) (wsr (.agg #[F6 x,H]) 12 rfl rfl rfl krA (fun w b=>by obtain ⟨_,_,hv_,_⟩:=b.sv2; rw [hv_]; kernel_rfl) ?_))
 refine e1 13 z z fun w b=>?_
 replace b:=b.aD
 obtain ⟨d9,b2,J,b⟩:=b.cO
 replace q:=q.trans b2
 obtain ⟨b3,b4,b5,b6,b⟩:=b.lits (E:=aH) (xs:=[({At:=x,Val:=G.Val}:bP)]) [[F6 x,H]] 152 1 z (bT.cons ⟨_,z,J,oS (ak J)⟩ bT.nil)
 refine cj (v:=(.slice (some ⟨b3,0,none⟩) 1 1)) (w':=b4) z (dH krA b5 b6) (wn [0] b (pz aT) (e1 14 z z fun w b=>?_))
 obtain ⟨b7,c⟩:=cF c
 replace b:=b.bq
 obtain ⟨C,b8,b9,b⟩:=bO Ak underlying81 b b.iL (cP b7 z) 81
 refine cj (v:=C) (w':=b8) z (ck z z b9) (w0n b (e1 15 z z fun w b=>cj (v:=C) (w':=w) z z (w0n b (bt ?_))))
 refine fun w b=>bJ (tn (wrl (mi z (mi z (mi z (nt ?_))))))
 cases c
 exact ⟨_,nls,_,(p++([({At:=x,Val:=G.Val}:bP)])),_,C,s,fy z,q,(cY (Pt h 0) j (St.sZ (N:=cq) b.bj.bj l).bj z).ah.cv⟩
}
 refine fun b0 c=>al (bJ (tn (wrl (mi z (mi z (mi z (nt ?_)))))))
 cases c
 exact ⟨_,nls,_,p,_,f,s,fy z,q,(cY (Pt h 0) j (St.sZ (N:=cq) b.aA.aD l).aA z).aA.cv⟩
}
 refine fun V c=>bH (aQ (aQ ?_))
 replace c:=bz c s
 refine cZ (tn (ww (mv (f) z (mv (f) z (nt (ar ?_))))))
 cases c
 exact dI [f] z (rc z bl) ⟨_,f,z,m,(aR (cY (Pt h 0) j b.ah.ah z)).ah.cv⟩
}
 refine fun g c=>so 21 z g (so 22 z g (so 23 z g (so 24 z g (sh (.bool _) 25 z (fun w b=>aL g z z) (bt ?_)))))
 refine fun w b=>tn (cJ z (bH (aQ (aQ ?_))))
 replace c:=bz c s
 refine cZ (tn (ww (mv (f) z (mv (f) z (nt (ar ?_))))))
 cases c
 exact dI [f] z (rc z bl) ⟨_,f,z,m,(aR (cY (Pt h 0) j b.ah.ah z)).ah.cv⟩
}
 refine fun d c=>so 8 z d (so 9 z d (so 10 z d (so 11 z d (so 12 z d (so 13 z d (so 14 z d (so 15 z d (so 16 z d (so 17 z d (so 18 z d (sh (.bool _) 19 z (fun w b=>aL d z z) (sb 20 z z (sq 21 z (sq 22 z (sq 23 z (sq 24 z (sh (.bool _) 25 z (fun w b=>aL z z z) (bt ?_))))))))))))))))))
 refine fun w b=>tn (cJ z (bH (aQ (aQ ?_))))
 replace c:=bz c s
 refine cZ (tn (ww (mv (f) z (mv (f) z (nt (ar ?_))))))
 cases c
 exact dI [f] z (rc z bl) ⟨_,f,z,m,(aR (cY (Pt h 0) j b.ah.ah z)).ah.cv⟩
}
theorem xu {a0:(Option ai)} {p0:Value} {a1:aw} {j k p q:Value} (s:Rd cp R I j a1.dO) (g:Rd fU R I k a1.aX) (g2:Rd cp R I p a1.dD) (g3:Rd (cr .u8) R I q a1.Data) (b:St w0 w I [cX aM p0 a0] R) {r:(bB)} (c:lN a0 a1=some r) :
  Calls prog 33 #[p0,.agg #[U6 a1.ID.ab,U6 a1.ID.Seq,U6 a1.ae,j,k,p,q]] w fun e w'=>∃ (I':HL) (U:Value) (V:Value),e = .returned (.agg #[I6 r.E,U6 r.ae,U6 r.Index,U,V])∧I.le I'∧St w0 w' I' [bp aK U r.dT,bp (eC aH) V r.aX,cX aM p0 a0] R:=by {
 rcases a0 with _ | d
 {
 dsimp only [lN] at c
 cases c
}
 replace b:=bQ b
 dsimp only [lN] at c
 refine c0 func33 z z ?_
 have t:=HL.le.refl I
 refine ww ?_
 obtain ⟨A,g4,b1,b2,b⟩:=b.box [U6 a1.ID.ab,U6 a1.ID.Seq,U6 a1.ae,j,k,p,q] 46
 refine wa b1 b2 ?_
 obtain ⟨l,g5,b3,b4,b⟩:=b.box [Zi,Zu,Zu,Zs,Zs] 33
 refine wa b3 b4 (nt (ww ?_))
 obtain ⟨m,g6,b5,b6,b⟩:=b.box [Zi,Zu,Zu,Zs,Zs] 33
 refine wa b5 b6 (nt (aj (ww (mv (p0) z ?_))))
 obtain ⟨f,g7,g8,g9,h0,h1,h2,h3,rfl,b7⟩:=bC b.aA
 have b:=b7
 refine mk (.bool false) (nt (cJ z (al (tn ?_))))
 obtain ⟨b8,c,b9⟩:=bn c
 refine cR (fun a w=>∃ (B:HL) (u:(List cC)) (o:Value),(nz a1 d) u=some r∧fz 55 [0,3,4,5] [Pt f 0,Pt A 0,Pt l 0,Pt m 0] a∧I.le B∧St w0 w B [aM (Pt f 0) d,cells A [U6 a1.ID.ab,U6 a1.ID.Seq,U6 a1.ae,j,k,p,q],cells l [Zi,Zu,Zu,Zs,Zs],cells m [Zi,Zu,Zu,o,Zs],bp aK o u] R) ?_ ?_
 {
 have H:=HL.le.refl I
 refine ww (mF z fI (mL z (b.zp z) (mz (bX z uI (ay s)) (mi z (nt (au ?_))))))
 replace b:=(aF (Pt f 0) d b.aW.aW.aW.aW.aW.aW.aW.aW z).ba aK
 obtain ⟨c1,c⟩:=aS c
 refine bg (fun n a w=>∃ (J:HL) (x:(List cC)) (K:Int) (C:Value),cU (jx a1 d) n (x,K)=some b8∧fz 55 [0,3,4,5,14,15,16] [Pt f 0,Pt A 0,Pt l 0,Pt m 0,j,I6 ((a1.dO).length:Int),I6 K] a∧I.le J∧St w0 w J [bp aK C x,aM (Pt f 0) d,cells m [Zi,Zu,Zu,C,Zs],cells l [Zi,Zu,Zu,Zs,Zs],cells A [U6 a1.ID.ab,U6 a1.ID.Seq,U6 a1.ae,j,k,p,q]] R) c1 ⟨_,[],0,Zs,c,fy z,lr,b⟩ ?_
 rintro h4 _ h5 ⟨J,x,K,C,c,⟨h6,rfl⟩,y,b⟩
 obtain ⟨h7,h8,rfl,c,W⟩:=aU c
 dsimp only [jx] at c
 replace s:=s.mono (qK y)
 replace H:=H.trans y
 refine ww (mb z (nt (aj (bw c z ?_ ?_))))
 {
 refine fun c2 c=>al (tn (aj (au (ww ?_))))
 obtain ⟨c3,c4,c⟩:=bn c
 obtain ⟨c5,c6,c7⟩:=aV c4
 refine mz (aJ z z uI sI (ay s) c5 c6) (mL z (fb s lr b c7 riA) (mv (F6 _) z (nt ?_)))
 obtain ⟨h9,c8,i0,i1,i2,i3,i4,i5,L,c9⟩:=bC b.ah
 replace L:=ez L
 subst L
 have b:=c9
 refine rg b 12 [0,1,0,4,12,28,0,124,252,511,1023,2047] [] mixed (sF 0 z z fI (sL 1 z z (·.bc9 z) (sp 2 z z (sp 3 z z (sF 4 z z fI (sL 5 z z (·.bc0 z) (sz (F6 _) 6 z z (e1 7 z z fun w b=>?_))))))))
 replace b:=b.ah
 obtain ⟨M,d0,c⟩:=bn c
 refine wec call60 [c8,F6 c3,U6 18446744073709551615] z z (kdJ (qA b.to1 d0) fun d1 i6 b=>wn [1,0] b (pL z z (·.zp z) (pF z z fI aT)) (e1 8 z z fun w b=>?_))
 obtain ⟨i7,d2,X,b⟩:=b.cO
 replace y:=y.trans d2
 obtain ⟨d3,d4,d5,d6,b⟩:=b.lits (E:=aK) (xs:=[M]) [[.bool M.Has,d1]] 61 1 z (bT.cons ⟨_,z,X,oS (ak X)⟩ bT.nil)
 refine cj (v:=(.slice (some ⟨d3,0,none⟩) 1 1)) (w':=d4) z (dH krA d5 d6) (wn [1,0] b (pL z z (·.zp z) (pF z z fI aT)) (e1 9 z z fun w b=>?_))
 obtain ⟨d7,c⟩:=cF c
 replace b:=b.ca
 obtain ⟨N,d8,d9,b⟩:=bO Af underlying30 b b.iL (cP d7 z) 30
 refine cj (v:=N) (w':=d8) z (ck z z d9) (w0n b (sF 10 z z fI (e1 11 z z fun w b=>?_)))
 replace b:=b.bR
 refine b1e N b z (oS b.sv1) sI fun i8 b=>w0n b (bt ?_)
 refine fun w b=>bJ (tn (wrl (mi z (mi z (nt ?_)))))
 cases c
 exact ⟨_,nls,_,(x++([M])),_,N,W,fy z,y,(aF (Pt f 0) d b.bR.bR.bR.bR.bR.bR.ca.bR z).bq.bq.aA.aA.bj.oB⟩
}
 refine fun c2 c=>bH (aQ (aQ ?_))
 replace c:=bz c W
 refine cZ (tn ?_)
 obtain rfl:=sj c
 exact ⟨_,x,C,b9,fy z,H,b.aD.aA.bj.bj.oB⟩
}
 rintro _ i9 ⟨B,u,o,c,⟨j0,rfl⟩,Y,b⟩
 dsimp only [nz] at c
 replace g:=g.mono (qK Y)
 replace t:=t.trans Y
 refine aj (ww (mF z fI (mL z (b.bc1 z) (mz (bX z uI (ay g)) (mi z (nt (au ?_)))))))
 replace b:=b.ah.sub.ba (eC aH)
 obtain ⟨e0,c⟩:=aS c
 refine bg (fun n a w=>∃ (O:HL) (D:(List (List bP))) (P:Int) (F:Value),cU (il a1 d u) n (D,P)=some r∧fz 55 [0,4,5,33,34,35] [Pt f 0,Pt l 0,Pt m 0,k,I6 ((a1.aX).length:Int),I6 P] a∧B.le O∧St w0 w O [bp (eC aH) F D,aM (Pt f 0) d,cells l [Zi,Zu,Zu,Zs,Zs],cells m [Zi,Zu,Zu,o,F],bp aK o u] R) e0 ⟨_,[],0,Zs,c,fy z,lr,b⟩ ?_
 rintro j1 _ j2 ⟨O,D,P,F,c,⟨j3,rfl⟩,h,b⟩
 obtain ⟨j4,j5,rfl,c,Z⟩:=aU c
 dsimp only [il] at c
 replace g:=g.mono (qK h)
 replace t:=t.trans h
 refine ww (mb z (nt (aj (bw c z ?_ ?_))))
 {
 refine fun e2 c=>al (tn (aj (au (ww ?_))))
 obtain ⟨G,e3,c⟩:=bn c
 obtain ⟨e4,e5,e6⟩:=aV e3
 refine mz (aJ z z uI sI (ay g) e4 e5) (mz (xN (cs:=[F6 G.1,F6 G.2]) z (sG g lr b e6 0 riA)) ?_)
 obtain ⟨j6,j7,e7,e8,b⟩:=b.box [Zf,Zf] 80
 refine wa e7 e8 (bxk b z sI (oC z (oC z oN)) fun j8 b=>nt ?_)
 obtain ⟨j9,e9,k0,k1,k2,k3,k4,k5,Q,f0⟩:=bC b.aD
 replace Q:=ez Q
 subst Q
 have b:=f0
 refine rg b 15 [0,1,0,4,12,28,0,64,0,256,1020,2044,4095,8191,16383] [] mixed (sF 0 z z fI (sL 1 z z (·.MP z) (sp 2 z z (sp 3 z z (sF 4 z z fI (sL 5 z z (·.bc0 z) (sh (Pt _ _) 6 z (fun w b=>fP (i:=0) z z uI sI deA deA) (sL 7 z z (·.bc8 z) (sh (Pt _ _) 8 z (fun w b=>fP (i:=1) z z uI sI deA deA) (sL 9 z z (·.bc8 z) (e1 10 z z fun w b=>?_)))))))))))
 replace b:=b.ah
 obtain ⟨b0,f1,c⟩:=bn c
 refine wec call77 [e9,F6 G.1,F6 G.2,U6 18446744073709551615,I6 64] z z ((xH b.to1 f1).mono ?_)
 rintro _ k6 ⟨k7,f2,rfl,f3,b⟩
 refine ⟨_,z,?_⟩
 replace b:=b.of2
 replace h:=h.trans f3
 refine wn [1,0] b (pL z z (·.MB z) (pF z z fI aT)) (e1 11 z z fun w b=>?_)
 obtain ⟨k8,f4,S,b⟩:=b.cO
 replace h:=h.trans f4
 obtain ⟨f5,f6,f7,f8,b⟩:=b.lits (E:=(eC aH)) (xs:=[b0]) [[f2]] 81 1 z (bT.cons ⟨_,z,S,oS (ak S)⟩ bT.nil)
 refine cj (v:=(.slice (some ⟨f5,0,none⟩) 1 1)) (w':=f6) z (dH (by obtain ⟨_,_,hv_,_⟩:=(ak S); rw [hv_]; kernel_rfl) f7 f8) (wn [1,0] b (pL z z (·.MB z) (pF z z fI aT)) (e1 12 z z fun w b=>?_))
 obtain ⟨f9,c⟩:=cF c
 replace b:=b.bR
 obtain ⟨T,g0,g1,b⟩:=bO Ai underlying31 b b.iL (cP f9 z) 31
 refine cj (v:=T) (w':=g0) z (ck z z g1) (w0n b (sF 13 z z fI (e1 14 z z fun w b=>?_)))
 replace b:=b.rm
 refine b1e T b z (oS b.sv1) sI fun k9 b=>w0n b (bt ?_)
 refine fun w b=>bJ (tn (wrl (mi z (mi z (nt ?_)))))
 cases c
 exact ⟨_,nls,_,(D++([b0])),_,T,Z,fy z,h,(aF (Pt f 0) d b.bR.bR.bR.bR.bR.bR.ca.bR z).de.aD.de.aA.bj.oB⟩
}
 refine fun e2 c=>bH (aQ (aQ ?_))
 replace c:=bz c Z
 refine cZ (tn (ww (mz (xN z (b.ul 0 tz)) ?_)))
 replace b:=b.aD
 refine bxk b z sI (oJ 3 z (oC (oS b.sv4) (oC (oS b.sv1) oN))) fun l0 b=>nt (ar ?_)
 replace b:=aR b.aD
 cases c
 exact prI z (rN z (b.fO 0 tz)) ⟨_,o,F,z,t,b.aD.bj.eu⟩
}
theorem vE {a0:(Option ai)} {p0:Value} {a1:aG} {c d f g n o p q:Value} (j:Rd cp R I c a1.br.dO) (k:Rd fU R I d a1.br.aX) (l:Rd cp R I f a1.br.dD) (m:Rd (cr .u8) R I g a1.br.Data) (M:Rd cG R I n a1.cw) (N:Rd aK R I o a1.R.dT) (O:Rd (eC aH) R I p a1.R.aX) (P:Rd cN R I q a1.dM) (a:St w0 w I [cX aM p0 a0] R) {r:(bU×(Option ai))} (b:lv a0 a1=some r) :
  Calls prog 48 #[p0,.agg #[U1 a1.Kind,U6 a1.ID.ab,U6 a1.ID.Seq,U6 a1.ae,U6 a1.Index,I6 a1.E,U6 a1.br.ID.ab,U6 a1.br.ID.Seq,U6 a1.br.ae,c,d,f,g,n,I6 a1.R.E,U6 a1.R.ae,U6 a1.R.Index,o,p,U6 a1.bY,q,U6 a1.ap.ID,I6 a1.ap.dn,I6 a1.ap.To,F6 a1.ap.Lo,F6 a1.ap.Hi,U6 a1.ap.Authority,I6 a1.ap.cx,.bool a1.On]] w fun e w'=>∃ (I':HL) (t:Value) (u:Value),e = .returned (.agg #[U1 r.1.Kind,U6 r.1.ID.ab,U6 r.1.ID.Seq,I6 r.1.R.E,U6 r.1.R.ae,U6 r.1.R.Index,t,u])∧I.le I'∧St w0 w' I' [bp aK t r.1.R.dT,bp (eC aH) u r.1.R.aX,cX aM p0 r.2] R:=by {
 unfold lv at b
 refine c0 func48 z z ?_
 have h:=HL.le.refl I
 refine ww ?_
 obtain ⟨Q,S,y,A,a⟩:=a.box [U1 a1.Kind,U6 a1.ID.ab,U6 a1.ID.Seq,U6 a1.ae,U6 a1.Index,I6 a1.E,U6 a1.br.ID.ab,U6 a1.br.ID.Seq,U6 a1.br.ae,c,d,f,g,n,I6 a1.R.E,U6 a1.R.ae,U6 a1.R.Index,o,p,U6 a1.bY,q,U6 a1.ap.ID,I6 a1.ap.dn,I6 a1.ap.To,F6 a1.ap.Lo,F6 a1.ap.Hi,U6 a1.ap.Authority,I6 a1.ap.cx,.bool a1.On] 49
 refine wa y A ?_
 obtain ⟨T,U,B,C,a⟩:=a.box [Zb,Zu,Zu,Zi,Zu,Zu,Zs,Zs] 35
 refine wa B C (nt (ww (mF z fI (mF z fI (mz (xN (cs:=[U6 a1.br.ID.ab,U6 a1.br.ID.Seq]) z (a.fO 6 z)) (mk (.agg #[U1 2,U6 a1.br.ID.ab,U6 a1.br.ID.Seq,Zi,Zu,Zu,Zs,Zs]) ?_))))))
 obtain ⟨V,W,D,F,a⟩:=a.box [Zb,Zu,Zu,Zi,Zu,Zu,Zs,Zs] 35
 refine wa D F (bxk a z sI (oJ 8 z oN) fun X a=>nt (aj (ww (mv (p0) z (mF z fI (mz (xN (cs:=[U6 a1.br.ID.ab,U6 a1.br.ID.Seq,U6 a1.br.ae,c,d,f,g]) z (a.ta 6 z)) ?_))))))
 replace a:=a.aA
 obtain ⟨G,H,b⟩:=bn b
 refine wc call19 [p0,.agg #[U6 a1.br.ID.ab,U6 a1.br.ID.Seq,U6 a1.br.ae,c,d,f,g]] z z z ((xA (j.mono (cW _)) (k.mono (cW _)) (l.mono (cW _)) (m.mono (cW _)) a.to1 H).mono ?_)
 rintro _ Y ⟨Z,rfl,i,a⟩
 refine ⟨_,z,?_⟩
 replace a:=a.of1
 replace j:=j.mono (qK i)
 replace k:=k.mono (qK i)
 replace l:=l.mono (qK i)
 replace m:=m.mono (qK i)
 replace h:=h.trans i
 refine mF z fI (mF z fI ?_)
 replace a:=a.ah
 refine byk (I6 G.1) a z sI (oC z oN) fun b0 a=>nt (ww (mF z fI (mF z fI (mL z (a.bc0 z) (mb z (nt (bw b z ?_ ?_)))))))
 {
 refine fun J b=>wrl (mv (p0) z (mF z fI (mz (xN (cs:=[U6 a1.br.ID.ab,U6 a1.br.ID.Seq,U6 a1.br.ae,c,d,f,g]) z (a.ul 6 z)) ?_)))
 replace a:=a.ah
 obtain ⟨s,K,b⟩:=bn b
 refine wc call33 [p0,.agg #[U6 a1.br.ID.ab,U6 a1.br.ID.Seq,U6 a1.br.ae,c,d,f,g]] z z z ((xu (j.mono (cW _)) (k.mono (cW _)) (l.mono (cW _)) (m.mono (cW _)) a.to1 K).mono ?_)
 rintro _ b1 ⟨b2,v,x,rfl,L,a⟩
 refine ⟨_,z,?_⟩
 replace a:=a.of3
 replace h:=h.trans L
 refine mF z fI ?_
 replace a:=a.aA
 refine byk (.agg #[I6 s.E,U6 s.ae,U6 s.Index,v,x]) a z sI (oJ 3 z (oC (oS a.sv1) (oC (oS a.sv2) oN))) fun b3 a=>nt (ww (mz (xN z (a.fm 0 tz)) ?_))
 replace a:=a.bj
 refine bxk a z sI (oJ 6 z (oC (oS a.sv2) (oC (oS a.sv3) oN))) fun b4 a=>nt (ar ?_)
 cases b
 exact prI z (rN z (a.fm 0 tz)) ⟨_,v,x,z,h,a.bj.bj.bj.eu⟩
}
 refine fun J b=>al (tn (ww (mz (xN z (a.fm 0 tz)) ?_)))
 replace a:=a.aD
 refine bxk a z sI (oJ 8 z oN) fun b5 a=>nt (ar ?_)
 replace a:=(a.ba aK).ba (eC aH)
 cases b
 exact prI z (rN z (a.ta 0 tz)) ⟨_,Zs,Zs,z,h,a.bj.ah.aD.eu⟩
}
theorem qa {a0:(List aw)} {b:Value} {a1 a2:Int} (a:St w0 w I [bp bZ b a0] R) {r:(List aw)} (d:gq a0 a1 a2=some r) :
  Calls prog 182 #[b,I6 a1,I6 a2] w fun e w'=>∃ (f:Value),e = .returned (f)∧St w0 w' I [bp bZ f r] R:=by {
 unfold gq at d
 obtain ⟨hg,d⟩:=cF d
 cases d
 obtain ⟨g,o,q⟩:=tB hg
 obtain ⟨j,rfl⟩:=Int.eq_ofNat_of_zero_le (Int.le_trans g o)
 obtain ⟨k,rfl⟩:=Int.eq_ofNat_of_zero_le g
 have hkj:k≤j:=by omega
 have hs:∀ w:World,(sizeOf 46).run prog w = .ok bZ.sz w:=sizeOf46
 obtain ⟨css,hr,a⟩:=a.cz
 obtain ⟨n,hn⟩:∃ n,css.length=n:=⟨_,rfl⟩
 have hln:a0.length=n:=hr.1.trans hn
 have hjn:j≤n:=by omega
 have hsv:dQ b n:=by have:=a.dy.2; rwa [hn] at this
 have hoc:=hr.xE
 refine c0 func182 z z (ww (mv ((.slice none 0 0)) z (nt (ww (mv (b) z (mi z (mi z (mv (b) z (mz (bX z underlying125 hsv) (Lh z z (Ed underlying125 hs z hsv z z z hkj hjn) fun s=>nt (aj (ww (mi z (mi z (mb z (nt (kp ((k:Int)==(j:Int)) (fun c=>?_) (fun c=>?_))))))))))))))))))
 {
 refine eG (cvb c) (ww (mv (b) z (mv (b) z (nt (ar (bh (dI [b] z (rc z bl) ?_)))))))
 rw [Ge c]
 exact ⟨_,z,(a.bo hr).bF⟩
}
 refine cJ (cvb c) ?_
 have hne:¬ ((k:Int)=(j:Int)):=by simpa using c
 have hlt:k<j:=by omega
 refine al (tn (ww (mv (b) z (mz (bX z underlying125 hsv) (mi z (nt (aj (rg a 8 [0,0,3,0,0,24,63,127] [7] mixed (sz (b) 0 z z (si 1 z z (sh ((dR bZ.sz b 0 k)) 2 z (fun w a=>dr (lo:=(0:Nat)) (hi:=(k:Nat)) underlying125 hs z hsv omA omA omA .i64 .i64 (.inr ⟨z,z⟩) (.inl z)) (sz (b) 3 z z (si 4 z z (sh ((dR bZ.sz b j n)) 5 z (fun w a=>dr (lo:=(j:Nat)) (hi:=(n:Nat)) underlying125 hs z hsv omA omA omA .i64 .i64 (.inl z) (.inr ⟨z,z⟩)) (e1 6 z z fun w a=>?_)))))))))))))))
 obtain ⟨p,hra,a⟩:=Bs (P:=prog) underlying125 hs a hn hlt hjn hoc 125
 refine cj (v:=(dR bZ.sz b 0 (k+(n - j)))) (w':=p) z (ck z z hra) ?_
 have hnl:=(show _ from a)
 clear hnl
 have i:(css.take k++(css.drop j++css.drop (k+(n - j)))).length=n:=by simp only [List.length_append,List.length_take,List.length_drop]; omega
 have hsm:=Gt a i (m:=(k+(n - j))) omA
 refine w0n a (e1 7 z z fun w a=>cj (v:=(dR bZ.sz b 0 (k+(n - j)))) (w':=w) z z (w0n a (bt ?_)))
 refine fun w a=>tn (ww (mv ((dR bZ.sz b 0 (k+(n - j)))) z (mv ((dR bZ.sz b 0 (k+(n - j)))) z (mz (bX z underlying125 hsm) (mi z (mv ((dR bZ.sz b (k+(n - j)) n)) (Cm underlying125 hs z hsv z z omA omA) ?_))))))
 obtain ⟨t,hrc,a⟩:=BS ua z (qR krA) a i (m:=(k+(n - j))) omA 0
 refine Gb z z (FM z hrc) (nt (ww (mv ((dR bZ.sz b 0 (k+(n - j)))) z (mv ((dR bZ.sz b 0 (k+(n - j)))) z (nt (ar (dI [(dR bZ.sz b 0 (k+(n - j)))] z (rc z bl) ?_)))))))
 replace a:=a.jP (l:=0) (h:=(k+(n - j))) (Nat.zero_le _) (by simp only [List.length_append,List.length_take,List.length_drop,List.length_replicate]; omega)
 rw [Ea hn hlt hjn (List.length_replicate ..)] at a
 exact ⟨_,z,(a.bo ((hr.take k).app (hr.drop j))).bF⟩
}
theorem wX {a0:(Option bN)} {p0:Value} {a1:cy} (a:St w0 w I [cX cb p0 a0] R) {r:(Bool×(Option bN))} (b:kW a0 a1=some r) :
  Calls prog 122 #[p0,.agg #[U6 a1.ab,U6 a1.Seq]] w fun e w'=>e = .returned (.bool r.1)∧St w0 w' I [cX cb p0 r.2] R:=by {
 rcases a0 with _ | p
 {
 dsimp only [kW] at b
 cases b
}
 replace a:=bQ a
 dsimp only [kW] at b
 refine c0 func122 z z (ww ?_)
 obtain ⟨q,s,d,f,a⟩:=a.box [U6 a1.ab,U6 a1.Seq] 28
 refine wa d f (mb z (nt (ww (mv (p0) z (mz (xN (cs:=[U6 a1.ab,U6 a1.Seq]) z (a.fm 0 z)) ?_)))))
 replace a:=aR a.ah
 obtain ⟨c,g,b⟩:=bn b
 refine wc call135 [p0,.agg #[U6 a1.ab,U6 a1.Seq]] z z z (kcI (pf a.to1 g) fun t a=>?_)
 replace a:=bQ a
 refine mv (.tuple #[I6 c.1,.bool c.2]) z (mi z (mb z (mi z (mb z (nt (aj (ww (mb z (nt (bw b z ?_ ?_))))))))))
 {
 refine fun h b=>wrl (mv (p0) z (mv (p0) z ?_))
 obtain ⟨i,j,rfl,k⟩:=dP a
 have a:=k
 refine mp z (mF z fI (mL z (a.bc0 z) (mi z (mi z (mi z ?_)))))
 replace a:=a.ah
 obtain ⟨m,n,b⟩:=bn b
 refine wc call182 [j,I6 c.1,I6 (i64.wrap (c.1+1))] z z z (kdI (qa a.to1 n) fun o u a=>mp z (mF z fI ?_))
 replace a:=a.ah
 refine b1k o a z (oS a.sv1) sI fun v a=>nt (ww (mb z (mb z (nt (ar ?_)))))
 cases b
 exact pB z z ⟨z,(aR (dt (Pt i 0) (({l:=m}:bN)) a.ah.ah z)).bF⟩
}
 refine fun h b=>al (tn (ww (mb z (mb z (nt (ar ?_))))))
 cases b
 exact pB z z ⟨z,(aR a).bF⟩
}
theorem oH {a0:(List (List Value))} {d:Value} {a1:Int} {a2:(List (List Value))} {g:Value} (c:St w0 w I [bp (nR 2) d a0,bp (nR 2) g a2] R) {r:(List (List Value))} (q:hZ a0 a1 a2=some r) :
  Calls prog 183 #[d,I6 a1,g] w fun e w'=>∃ (x:Value),e = .returned (x)∧St w0 w' I [bp (nR 2) x r] R:=by {
 unfold hZ at q
 obtain ⟨hg,q⟩:=cF q
 cases q
 obtain ⟨A,S,hrm⟩:=uM hg
 obtain ⟨k,rfl⟩:=Int.eq_ofNat_of_zero_le A
 have hsm:=uO hrm
 have hk:k≤a0.length:=by omega
 have hs:∀ w:World,(sizeOf 240).run prog w = .ok (nR 2).sz w:=sizeOf240
 have y:0<(nR 2).sz:=Nat.le_of_ble_eq_true rfl
 have hov:∀ (args:Array Value) (w:World),(callFunc 205 args).run prog w=(Extern.SlicesOverlaps.overlaps #[199,199] #[4] args >>= fun v=>(pure (.value v):Sem Next)).run prog w:=by intro args w; kernel_rfl
 obtain ⟨css,hr,c⟩:=c.cz
 replace c:=c.ah
 obtain ⟨dss,hq,c⟩:=c.cz
 replace c:=c.ah
 obtain ⟨n,hn⟩:∃ n,css.length=n:=⟨_,rfl⟩
 obtain ⟨m,hm'⟩:∃ m,dss.length=m:=⟨_,rfl⟩
 have hln:a0.length=n:=hr.1.trans hn
 have hlm:a2.length=m:=hq.1.trans hm'
 rw [hln] at hsm hk
 rw [hlm] at hsm
 have hsv:dQ d n:=by have:=c.dy.2; rwa [hn] at this
 have hsq:dQ g m:=by have:=c.ah.dy.2; rwa [hm'] at this
 have hoc:=hr.xE
 have hoq:=hq.xE
 have s:=wrap_add (a:=n) (b:=m) omA
 have t:=wrap_add (a:=k) (b:=m) omA
 have B:=sY (a:=n+m) (b:=k) omA omA
 have hrb:=cP (b:=32) hrm rfl
 rw [hln,hlm] at hrb
 refine c0 func183 z z (ww (mv ((.slice none 0 0)) z (nt (ww (mv (d) z (mi z (mv ((dR (nR 2).sz d k n)) (dr (lo:=(k:Nat)) (hi:=(n:Nat)) underlying199 hs z hsv omA omA omA .i64 .i64 (.inl z) (.inr ⟨z,z⟩)) (nt (ww (mv (g) z (mz (bX z underlying199 hsq) (mi z (nt (aj (ww (mi z (mb z (nt (kp ((m:Int)==0) (fun j=>?_) (fun j=>?_))))))))))))))))))))
 {
 refine eG (cvb j) (ww (mv (d) z (mv (d) z (nt (ar (bh (dI [d] z (rc z bl) ?_)))))))
 rw [xk (by rw [hlm]; exact j)]
 exact ⟨_,z,(c.bo hr).bF⟩
}
 refine cJ (cvb j) ?_
 have C:m≠0:=fun h=>by rw [h] at j; cases j
 have D:dss≠[]:=fun h=>C (by rw [← hm',h]; rfl)
 refine al (tn (ww (mv (d) z (mz (bX z underlying199 hsv) (mi z (nt (aj (ww (mi z (mi z (mb z (nt (kp ((k:Int)==(n:Int)) (fun o=>?_) (fun o=>?_))))))))))))))
 {
 refine eG (cvb o) (ww (mv (d) z (mv (g) z ?_)))
 replace c:=((c.bo hr).ah.bo hq).ah
 obtain ⟨f,u,hra,c⟩:=bO zw underlying199 c c.iL (cP hrm z) 199
 refine cK (v:=f) (w':=u) z z (ck z z hra) (mv (f) z (nt (ar (bh (dI [f] z (rc z bl) ?_)))))
 rw [xp (by rw [hln]; exact o)]
 exact ⟨_,z,c.bF⟩
}
 refine cJ (cvb o) ?_
 have hkn:k≠n:=fun h=>by rw [h] at o; simp at o
 have E:0<n:=by omega
 have F:css≠[]:=fun h=>by rw [h] at hn; simp at hn; omega
 refine al (tn (aj (ww (mi z (mi z (mi (eJ s z) (mv (d) z (mi (BY z underlying199 hsv) (mb z (nt (kp (decide (((n+m:Nat):Int)>(uQ d:Int))) (fun p=>?_) (fun p=>?_))))))))))))
 {
 refine eG (cvb p) (ww (mv (d) z (mi z (mv ((dR (nR 2).sz d 0 k)) (dr (lo:=(0:Nat)) (hi:=(k:Nat)) underlying199 hs z hsv omA omA omA .i64 .i64 (.inr ⟨z,z⟩) (.inl z)) (mi z (mi z (mi (eJ s z) (mi z (mi (eJ B z) ?_)))))))))
 obtain ⟨f,u,hra,i,zss,hzl,c⟩:=vo zw underlying3 c k (n+m - k) omA (by have:=of_decide_eq_true p; omega) (by rw [show k+(n+m - k)=n+m by omega]; exact hrb) y 199
 rw [show k+(n+m - k)=n+m by omega] at i
 refine cK (v:=f) (w':=u) z z (ck z z hra) (mv (f) z (nt (ww (mv (f) z (mi z (mv ((dR (nR 2).sz f k (n+m))) (dr (lo:=(k:Nat)) (hi:=((n+m):Nat)) underlying199 hs z i omA omA omA .i64 .i64 (.inl z) (.inr ⟨z,z⟩)) (mv (g) z ?_)))))))
 obtain ⟨G,H,c⟩:=dZ (P:=prog) (t2:=199) (ty:=3) underlying199 hs c c.aD k m (N:=n+m) olA olA omA olA (fk hoq _)
 refine cK (v:=.int .i64 (m:Nat)) (w':=G) z z (kq z z H) (nt (aj (rg c 9 [0,0,0,6,15,0,0,96,255] [] mixed (sz (f) 0 z z (si 1 z z (si 2 z z (sh (I6 _) 3 z (fun w c=>eJ t z) (sh ((dR (nR 2).sz f (k+m) (n+m))) 4 z (fun w c=>dr (lo:=((k+m):Nat)) (hi:=((n+m):Nat)) underlying199 hs z i omA omA omA .i64 .i64 (.inl z) (.inr ⟨z,z⟩)) (sz (d) 5 z z (si 6 z z (sh ((dR (nR 2).sz d k n)) 7 z (fun w c=>dr (lo:=(k:Nat)) (hi:=(n:Nat)) underlying199 hs z hsv omA omA omA .i64 .i64 (.inl z) (.inr ⟨z,z⟩)) (e1 8 z z fun w c=>?_))))))))))))
 obtain ⟨J,K,c⟩:=dZ (P:=prog) (t2:=199) (ty:=3) underlying199 hs c (c.ah.jP (l:=k) (h:=n) hk omA) (k+m) (n - k) (N:=n+m) olA olA omA olA (fk (kV (fk hoc _) _) _)
 refine cj (v:=.int .i64 ((n - k):Nat)) (w':=J) z (kq z z K) (w0n c (bt ?_))
 refine fun w c=>tn (ww (mv (f) z (mv (f) z (nt (ar (bh (dI [f] z (rc z bl) ?_)))))))
 rw [tE hn hm' hk hzl] at c
 exact ⟨_,z,(c.bo ((hr.take k).app (hq.app (hr.drop k)))).bF⟩
}
 refine cJ (cvb p) ?_
 have hup:n+m≤uQ d:=by have:=of_decide_eq_false p; omega
 obtain ⟨ess,hel,hem,hst'⟩:=c.zG (n+m) omA hup F
 rw [show n+m - css.length=m by omega] at hel
 have i:dQ (upV d (n+m)) (n+m):=by have:=hst'.dy.2; rwa [List.length_append,hn,hel] at this
 clear c
 have c:=hst'
 clear hst'
 refine al (tn (ww (mv (d) z (mi z (mi z (mi (eJ s z) (mv ((upV d (n+m))) (tJ underlying199 hs z hsv z hup E) (mv ((upV d (n+m))) z (nt (aj (ww (mv (g) z (mv ((upV d (n+m))) z (mi z (mi z (mi (eJ t z) (mv ((dR (nR 2).sz (upV d (n+m)) (k+m) (n+m))) (dr (lo:=((k+m):Nat)) (hi:=((n+m):Nat)) underlying199 hs z i omA omA omA .i64 .i64 (.inl z) (.inr ⟨z,z⟩)) (mb (BX z z z (hov _) (px z underlying199 hs c.ah (k+m) (N:=n+m) lnA omA D y)) (mb z (nt (eG z (aj (rg c 9 [0,0,0,6,15,0,0,96,255] [] mixed (sz ((upV d (n+m))) 0 z z (si 1 z z (si 2 z z (sh (I6 _) 3 z (fun w c=>eJ t z) (sh ((dR (nR 2).sz (upV d (n+m)) (k+m) (n+m))) 4 z (fun w c=>dr (lo:=((k+m):Nat)) (hi:=((n+m):Nat)) underlying199 hs z i omA omA omA .i64 .i64 (.inl z) (.inr ⟨z,z⟩)) (sz ((upV d (n+m))) 5 z z (si 6 z z (sh ((dR (nR 2).sz (upV d (n+m)) k (n+m))) 7 z (fun w c=>dr (lo:=(k:Nat)) (hi:=((n+m):Nat)) underlying199 hs z i omA omA omA .i64 .i64 (.inl z) (.inr ⟨z,z⟩)) (e1 8 z z fun w c=>?_))))))))))))))))))))))))))))))))
 obtain ⟨L,M,c⟩:=dZ (P:=prog) (t2:=199) (ty:=3) underlying199 hs c (c.jP (l:=k) (h:=n+m) omA lnA) (k+m) (n - k) (N:=n+m) olA olA omA olA (by rw [vj hn hm' hk hel]; exact kV hoc _)
 refine cj (v:=.int .i64 ((n - k):Nat)) (w':=L) z (kq z z M) (w0n c (bt ?_))
 refine fun w c=>tn (ww (mv ((upV d (n+m))) z (mi z (mv ((dR (nR 2).sz (upV d (n+m)) k (n+m))) (dr (lo:=(k:Nat)) (hi:=((n+m):Nat)) underlying199 hs z i omA omA omA .i64 .i64 (.inl z) (.inr ⟨z,z⟩)) (mv (g) z ?_)))))
 obtain ⟨O,Q,c⟩:=dZ (P:=prog) (t2:=199) (ty:=3) underlying199 hs c c.ah k m (N:=n+m) olA olA omA olA (fk hoq _)
 refine cK (v:=.int .i64 (m:Nat)) (w':=O) z z (kq z z Q) (nt (ww (mv ((upV d (n+m))) z (mv ((upV d (n+m))) z (nt (ar (bh (dI [(upV d (n+m))] z (rc z bl) ?_))))))))
 rw [tL hn hm' hk hel] at c
 exact ⟨_,z,(c.bo ((hr.take k).app (hq.app (hr.drop k)))).bF⟩
}
theorem pV {a0:(List bW)} {c:Value} {a1:Int} {a2:(List bW)} {d:Value} (b:St w0 w I [sR cq c a0,sR cq d a2] R) {r:(List bW)} (a:gn a0 a1 a2=some r) :
  Calls prog 183 #[c,I6 a1,d] w fun e w'=>∃ (f:Value),e = .returned (f)∧St w0 w' I [sR cq f r] R:=by {
 unfold gn at a
 obtain ⟨hg,a⟩:=cF a
 cases a
 obtain ⟨vs,us,g,h,b⟩:=b.JG
 refine Calls.mono (oH b.to2 (r:=ins (cq.cs a0 vs) a1 (cq.cs a2 us)) (by unfold hZ; rw [JH g h,hg]; rfl)) ?_
 rintro _ w' ⟨q,rfl,hst'⟩
 exact ⟨_,z,(hst'.of1.Ie g h).bF⟩
}
theorem wo {a0:bf} {f:Value} {a1 a2:Int} (i:Rd (cr .u8) R I f a0.Val) (d:St w0 w I [] R) {r:(Bool)} (c:rY a0 a1 a2=some r) :
  Calls prog 185 #[.agg #[U6 a0.ae,U6 a0.Index,.bool a0.Del,f],U6 a1,U6 a2] w fun e w'=>e = .returned (.bool r)∧St w0 w' I [] R:=by {
 unfold rY at c
 refine c0 func185 z z (ww ?_)
 obtain ⟨j,k,g,h,d⟩:=d.box [U6 a0.ae,U6 a0.Index,.bool a0.Del,f] 214
 refine wa g h (mb z (nt (ww (mF z fI (mL z (d.bc0 z) (mi z (mb z (mb z (bs c ?_ ?_)))))))))
 {
 refine fun a c=>go a (go a (go a (go a (go a (gu (gu (gu (gu (go a (mb (bi a z z) (mb z (nt (ar ?_)))))))))))))
 cases c
 exact pB z z ⟨z,d.cT⟩
}
 refine fun a c=>gg a (xF z fI z) (gg a (xL z (d.bc0 z)) (gi a z (gb a z (gb a z (bs c ?_ ?_)))))
 {
 refine fun b c=>gg b (xF z fI z) (gg b (xL z (d.bc0 z)) (gi b z (gb b z (gb a (bi b z z) (mb (aL a z z) (mb z (nt (ar ?_))))))))
 cases c
 exact pB z z ⟨z,d.cT⟩
}
 refine fun b c=>go b (go b (go b (go b (gb a (aL b z z) (mb (aL a z z) (mb z (nt (ar ?_))))))))
 cases c
 exact pB z z ⟨z,d.cT⟩
}
theorem ns {a0:(List bf)} {d:Value} {a1:Int} {a2:(List bf)} {g:Value} (c:St w0 w I [bp cD d a0,bp cD g a2] R) {r:(List bf)} (q:fc a0 a1 a2=some r) :
  Calls prog 186 #[d,I6 a1,g] w fun e w'=>∃ (x:Value),e = .returned (x)∧St w0 w' I [bp cD x r] R:=by {
 unfold fc at q
 obtain ⟨hg,q⟩:=cF q
 cases q
 obtain ⟨A,S,hrm⟩:=uM hg
 obtain ⟨k,rfl⟩:=Int.eq_ofNat_of_zero_le A
 have hsm:=uO hrm
 have hk:k≤a0.length:=by omega
 have hs:∀ w:World,(sizeOf 214).run prog w = .ok cD.sz w:=sizeOf214
 have y:0<cD.sz:=Nat.le_of_ble_eq_true rfl
 have hov:∀ (args:Array Value) (w:World),(callFunc 207 args).run prog w=(Extern.SlicesOverlaps.overlaps #[238,238] #[4] args >>= fun v=>(pure (.value v):Sem Next)).run prog w:=by intro args w; kernel_rfl
 obtain ⟨css,hr,c⟩:=c.cz
 replace c:=c.ah
 obtain ⟨dss,hq,c⟩:=c.cz
 replace c:=c.ah
 obtain ⟨n,hn⟩:∃ n,css.length=n:=⟨_,rfl⟩
 obtain ⟨m,hm'⟩:∃ m,dss.length=m:=⟨_,rfl⟩
 have hln:a0.length=n:=hr.1.trans hn
 have hlm:a2.length=m:=hq.1.trans hm'
 rw [hln] at hsm hk
 rw [hlm] at hsm
 have hsv:dQ d n:=by have:=c.dy.2; rwa [hn] at this
 have hsq:dQ g m:=by have:=c.ah.dy.2; rwa [hm'] at this
 have hoc:=hr.xE
 have hoq:=hq.xE
 have s:=wrap_add (a:=n) (b:=m) omA
 have t:=wrap_add (a:=k) (b:=m) omA
 have B:=sY (a:=n+m) (b:=k) omA omA
 have hrb:=cP (b:=48) hrm rfl
 rw [hln,hlm] at hrb
 refine c0 func186 z z (ww (mv ((.slice none 0 0)) z (nt (ww (mv (d) z (mi z (mv ((dR cD.sz d k n)) (dr (lo:=(k:Nat)) (hi:=(n:Nat)) underlying238 hs z hsv omA omA omA .i64 .i64 (.inl z) (.inr ⟨z,z⟩)) (nt (ww (mv (g) z (mz (bX z underlying238 hsq) (mi z (nt (aj (ww (mi z (mb z (nt (kp ((m:Int)==0) (fun j=>?_) (fun j=>?_))))))))))))))))))))
 {
 refine eG (cvb j) (ww (mv (d) z (mv (d) z (nt (ar (bh (dI [d] z (rc z bl) ?_)))))))
 rw [xk (by rw [hlm]; exact j)]
 exact ⟨_,z,(c.bo hr).bF⟩
}
 refine cJ (cvb j) ?_
 have C:m≠0:=fun h=>by rw [h] at j; cases j
 have D:dss≠[]:=fun h=>C (by rw [← hm',h]; rfl)
 refine al (tn (ww (mv (d) z (mz (bX z underlying238 hsv) (mi z (nt (aj (ww (mi z (mi z (mb z (nt (kp ((k:Int)==(n:Int)) (fun o=>?_) (fun o=>?_))))))))))))))
 {
 refine eG (cvb o) (ww (mv (d) z (mv (g) z ?_)))
 replace c:=((c.bo hr).ah.bo hq).ah
 obtain ⟨f,u,hra,c⟩:=bO Bp underlying238 c c.iL (cP hrm z) 238
 refine cK (v:=f) (w':=u) z z (ck z z hra) (mv (f) z (nt (ar (bh (dI [f] z (rc z bl) ?_)))))
 rw [xp (by rw [hln]; exact o)]
 exact ⟨_,z,c.bF⟩
}
 refine cJ (cvb o) ?_
 have hkn:k≠n:=fun h=>by rw [h] at o; simp at o
 have E:0<n:=by omega
 have F:css≠[]:=fun h=>by rw [h] at hn; simp at hn; omega
 refine al (tn (aj (ww (mi z (mi z (mi (eJ s z) (mv (d) z (mi (BY z underlying238 hsv) (mb z (nt (kp (decide (((n+m:Nat):Int)>(uQ d:Int))) (fun p=>?_) (fun p=>?_))))))))))))
 {
 refine eG (cvb p) (ww (mv (d) z (mi z (mv ((dR cD.sz d 0 k)) (dr (lo:=(0:Nat)) (hi:=(k:Nat)) underlying238 hs z hsv omA omA omA .i64 .i64 (.inr ⟨z,z⟩) (.inl z)) (mi z (mi z (mi (eJ s z) (mi z (mi (eJ B z) ?_)))))))))
 obtain ⟨f,u,hra,i,zss,hzl,c⟩:=vo Bp underlying3 c k (n+m - k) omA (by have:=of_decide_eq_true p; omega) (by rw [show k+(n+m - k)=n+m by omega]; exact hrb) y 238
 rw [show k+(n+m - k)=n+m by omega] at i
 refine cK (v:=f) (w':=u) z z (ck z z hra) (mv (f) z (nt (ww (mv (f) z (mi z (mv ((dR cD.sz f k (n+m))) (dr (lo:=(k:Nat)) (hi:=((n+m):Nat)) underlying238 hs z i omA omA omA .i64 .i64 (.inl z) (.inr ⟨z,z⟩)) (mv (g) z ?_)))))))
 obtain ⟨G,H,c⟩:=dZ (P:=prog) (t2:=238) (ty:=3) underlying238 hs c c.aD k m (N:=n+m) olA olA omA olA (fk hoq _)
 refine cK (v:=.int .i64 (m:Nat)) (w':=G) z z (kq z z H) (nt (aj (rg c 9 [0,0,0,6,15,0,0,96,255] [] mixed (sz (f) 0 z z (si 1 z z (si 2 z z (sh (I6 _) 3 z (fun w c=>eJ t z) (sh ((dR cD.sz f (k+m) (n+m))) 4 z (fun w c=>dr (lo:=((k+m):Nat)) (hi:=((n+m):Nat)) underlying238 hs z i omA omA omA .i64 .i64 (.inl z) (.inr ⟨z,z⟩)) (sz (d) 5 z z (si 6 z z (sh ((dR cD.sz d k n)) 7 z (fun w c=>dr (lo:=(k:Nat)) (hi:=(n:Nat)) underlying238 hs z hsv omA omA omA .i64 .i64 (.inl z) (.inr ⟨z,z⟩)) (e1 8 z z fun w c=>?_))))))))))))
 obtain ⟨J,K,c⟩:=dZ (P:=prog) (t2:=238) (ty:=3) underlying238 hs c (c.ah.jP (l:=k) (h:=n) hk omA) (k+m) (n - k) (N:=n+m) olA olA omA olA (fk (kV (fk hoc _) _) _)
 refine cj (v:=.int .i64 ((n - k):Nat)) (w':=J) z (kq z z K) (w0n c (bt ?_))
 refine fun w c=>tn (ww (mv (f) z (mv (f) z (nt (ar (bh (dI [f] z (rc z bl) ?_)))))))
 rw [tE hn hm' hk hzl] at c
 exact ⟨_,z,(c.bo ((hr.take k).app (hq.app (hr.drop k)))).bF⟩
}
 refine cJ (cvb p) ?_
 have hup:n+m≤uQ d:=by have:=of_decide_eq_false p; omega
 obtain ⟨ess,hel,hem,hst'⟩:=c.zG (n+m) omA hup F
 rw [show n+m - css.length=m by omega] at hel
 have i:dQ (upV d (n+m)) (n+m):=by have:=hst'.dy.2; rwa [List.length_append,hn,hel] at this
 clear c
 have c:=hst'
 clear hst'
 refine al (tn (ww (mv (d) z (mi z (mi z (mi (eJ s z) (mv ((upV d (n+m))) (tJ underlying238 hs z hsv z hup E) (mv ((upV d (n+m))) z (nt (aj (ww (mv (g) z (mv ((upV d (n+m))) z (mi z (mi z (mi (eJ t z) (mv ((dR cD.sz (upV d (n+m)) (k+m) (n+m))) (dr (lo:=((k+m):Nat)) (hi:=((n+m):Nat)) underlying238 hs z i omA omA omA .i64 .i64 (.inl z) (.inr ⟨z,z⟩)) (mb (BX z z z (hov _) (px z underlying238 hs c.ah (k+m) (N:=n+m) lnA omA D y)) (mb z (nt (eG z (aj (rg c 9 [0,0,0,6,15,0,0,96,255] [] mixed (sz ((upV d (n+m))) 0 z z (si 1 z z (si 2 z z (sh (I6 _) 3 z (fun w c=>eJ t z) (sh ((dR cD.sz (upV d (n+m)) (k+m) (n+m))) 4 z (fun w c=>dr (lo:=((k+m):Nat)) (hi:=((n+m):Nat)) underlying238 hs z i omA omA omA .i64 .i64 (.inl z) (.inr ⟨z,z⟩)) (sz ((upV d (n+m))) 5 z z (si 6 z z (sh ((dR cD.sz (upV d (n+m)) k (n+m))) 7 z (fun w c=>dr (lo:=(k:Nat)) (hi:=((n+m):Nat)) underlying238 hs z i omA omA omA .i64 .i64 (.inl z) (.inr ⟨z,z⟩)) (e1 8 z z fun w c=>?_))))))))))))))))))))))))))))))))
 obtain ⟨L,M,c⟩:=dZ (P:=prog) (t2:=238) (ty:=3) underlying238 hs c (c.jP (l:=k) (h:=n+m) omA lnA) (k+m) (n - k) (N:=n+m) olA olA omA olA (by rw [vj hn hm' hk hel]; exact kV hoc _)
 refine cj (v:=.int .i64 ((n - k):Nat)) (w':=L) z (kq z z M) (w0n c (bt ?_))
 refine fun w c=>tn (ww (mv ((upV d (n+m))) z (mi z (mv ((dR cD.sz (upV d (n+m)) k (n+m))) (dr (lo:=(k:Nat)) (hi:=((n+m):Nat)) underlying238 hs z i omA omA omA .i64 .i64 (.inl z) (.inr ⟨z,z⟩)) (mv (g) z ?_)))))
 obtain ⟨O,Q,c⟩:=dZ (P:=prog) (t2:=238) (ty:=3) underlying238 hs c c.ah k m (N:=n+m) olA olA omA olA (fk hoq _)
 refine cK (v:=.int .i64 (m:Nat)) (w':=O) z z (kq z z Q) (nt (ww (mv ((upV d (n+m))) z (mv ((upV d (n+m))) z (nt (ar (bh (dI [(upV d (n+m))] z (rc z bl) ?_))))))))
 rw [tL hn hm' hk hel] at c
 exact ⟨_,z,(c.bo ((hr.take k).app (hq.app (hr.drop k)))).bF⟩
}
theorem ym {a0:(Option cn)} {p0:Value} {a1:Nat} {a2:bf} {M:Value} (c5:Rd (cr .u8) R I M a2.Val) (b:St w0 w I [cX cA p0 a0] R) {r:((Option cn))} (c:jO a0 a1 a2=some r) :
  Calls prog 123 #[p0,F6 a1,.agg #[U6 a2.ae,U6 a2.Index,.bool a2.Del,M]] w fun e w'=>∃ (I':HL),e = .returned (.tuple #[])∧I.le I'∧St w0 w' I' [cX cA p0 r] R:=by {
 rcases a0 with _ | K
 {
 dsimp only [jO] at c
 cases c
}
 replace b:=bQ b
 dsimp only [jO] at c
 refine c0 func123 z z ?_
 have C:=HL.le.refl I
 refine ww ?_
 obtain ⟨g,h8,c6,c7,b⟩:=b.box [U6 a2.ae,U6 a2.Index,.bool a2.Del,M] 214
 refine wa c6 c7 (nt (aj (ww (mv (p0) z ?_))))
 obtain ⟨j,h9,rfl,c8⟩:=ec b.ah
 have b:=c8
 refine mk (.bool false) (nt (cJ z (al (tn (ww (mF z fI (mL z (b.bc2 z) (bk c fun c9 d0 c=>wc call143 [M] z z z (kdI (lA (c5.mono (cW _)) b.to0 d0) fun b2 i0 b=>mF z fI ?_)))))))))
 replace b:=b.aA
 refine b1k b2 b z (oS b.sv1) sI fun i1 b=>nt ?_
 obtain ⟨i2,c,b3⟩:=bn c
 refine cR (fun a w=>∃ (q:(List Int)) (k:Value),(oy a1 K a2) q=some r∧fz 93 [0,1,5] [Pt j 0,F6 a1,Pt g 0] a∧St w0 w I [cA (Pt j 0) K,cells g [U6 a2.ae,U6 a2.Index,.bool a2.Del,k],bp (cr .u8) k q] R) ?_ ?_
 {
 refine ww (mF z fI (mL z (b.bc0 z) (nt (bw c z ?_ ?_))))
 {
 refine fun d1 c=>wrl (mF z fI (byk (.slice none 0 0) b z sI (oC z oN) fun i3 b=>nt ?_))
 cases c
 exact ⟨([]),Zs,b3,fy z,(cY (Pt j 0) K (b.ba (cr .u8)).bj.bj z).ah.aD.aD.eu⟩
}
 refine fun d1 c=>al (tn ?_)
 cases c
 exact ⟨c9,b2,b3,fy z,(cY (Pt j 0) K b.aA.aA z).aD.aD.aD.eu⟩
}
 rintro _ i4 ⟨q,k,c,⟨i5,rfl⟩,b⟩
 dsimp only [oy] at c
 refine ww (mp z (mv (F6 _) z (bk c fun d2 d3 c=>wc call118 [F6 a1] z z z (kcO (dG b.to0 d3) fun i6 b=>?_))))
 replace b:=aR b
 obtain ⟨m,d4,c⟩:=bn c
 refine wc call146 [Pt j 0,U6 d2] z z z (kcI (pJ b.to1 d4) fun i7 b=>?_)
 replace b:=bQ b
 refine mv (.tuple #[I6 m.1,.bool m.2]) z (mi z (mb z (mi z (mb z (nt ?_)))))
 obtain ⟨i8,c,b4⟩:=bn c
 refine cR (fun a w=>∃ (A:cn),(mA m a2 q) A=some r∧fz 93 [0,5,6] [Pt j 0,Pt g 0,I6 m.1] a∧St w0 w I [cA (Pt j 0) A,cells g [U6 a2.ae,U6 a2.Index,.bool a2.Del,k],bp (cr .u8) k q] R) ?_ ?_
 {
 refine ww (mb z (mb z (nt (bw c z ?_ ?_))))
 {
 intro d5 c
 obtain ⟨i9,d6,Q,d7⟩:=ec b
 replace Q:=ez Q
 subst Q
 have b:=d7
 refine rg b 14 [0,0,2,6,14,0,0,64,192,448,1022,2047,4095,8191] [] mixed (sp 0 z z (sp 1 z z (sp 2 z z (sF 3 z z fI (sL 4 z z (·.bc0 z) (si 5 z z (sz (F6 _) 6 z z (e1 7 z z fun w b=>bk c fun b5 d8 c=>wec call118 [F6 a1] z z (kcO (dG b.to0 d8) fun j0 b=>wn [5,4,3,2,1,0] b (pz (pL z z (·.bc0 z) (pF z z fI (pz (pz (pz aT)))))) (sk (.agg #[U6 b5,Zs]) 8 z (e1 9 z z fun w b=>?_)))))))))))
 replace b:=b.ba cD
 obtain ⟨b6,d9,e0,e2,b⟩:=b.DY (N:=cq) (x:=({eW:=b5,l:=[]}:bW)) 240
 refine cj (v:=(.slice (some ⟨b6,0,none⟩) 1 1)) (w':=d9) z (dH krA e0 e2) (wn [5,4,3,2,1,0] b (pz (pL z z (·.bc1 z) (pF z z fI (pz (pz (pz aT)))))) (e1 10 z z fun w b=>?_))
 replace b:=b.aD
 obtain ⟨e3,e4,c⟩:=bn c
 refine wec call183 [d6,I6 m.1,(.slice (some ⟨b6,0,none⟩) 1 1)] z z (kdI (pV b.to2 e4) fun e5 j1 b=>wn [0] b (pz aT) (sp 11 z z (sF 12 z z fI (e1 13 z z fun w b=>?_))))
 replace b:=b.ah
 refine b1e e5 b z (oS (b.oL 1 z)) sI fun j2 b=>w0n b (bt ?_)
 refine fun w b=>tn ?_
 cases c
 exact ⟨_,b4,fy z,(cY (Pt j 0) (({rows:=e3}:cn)) b.ah.ah z).aD.aD.aD.eu⟩
}
 refine fun d5 c=>al (tn ?_)
 cases c
 exact ⟨K,b4,fy z,b.aD.aD.aD.eu⟩
}
 rintro _ j3 ⟨A,c,⟨j4,rfl⟩,b⟩
 dsimp only [mA] at c
 refine ww (mp z ?_)
 obtain ⟨j5,D,S,e6⟩:=ec b
 replace S:=ez S
 subst S
 have b:=e6
 refine mp z (mF z fI (mL z (b.bc0 z) (mi z ?_)))
 obtain ⟨s,e7,c⟩:=bn c
 obtain ⟨b7,b8,L⟩:=aV e7
 refine mz (aJ z z uI sI (b.oL 1 z) b7 b8) (mz (xG z fI z) ?_)
 replace b:=b.ah
 obtain ⟨p,b⟩:=b.tR L
 refine mL z ((b.yV (N:=cq) (i:=m.1.toNat) 1 z L) 1 _ z) ?_
 obtain ⟨u,j6,e8,e9,b⟩:=b.box [Zs] 238
 refine wa e8 e9 (b1k p b z (oS b.sv1) sI fun j7 b=>nt (ww (mL z (b.bc0 z) (mz (bX z uI b.sv1) (mk (.func (.func 184) #[] #[Pt u 0,Pt g 0]) (bk c fun b9 f0 c=>dh z z (er call179 (caps:=[]) z (vs:=[I6 ((s.l).length:Int),.func (.func 184) #[] #[Pt u 0,Pt g 0]]) z) (Calls.mono (show Calls prog 179 #[I6 ((s.l).length:Int),.func (.func 184) #[] #[Pt u 0,Pt g 0]] _ (fun e w'=>∃ (G:Int),G=b9∧e = .returned (.int .i64 G)∧St w0 w' I [cells j [D],bp cD p s.l,sU cq D A.rows m.1.toNat p,cells g [U6 a2.ae,U6 a2.Index,.bool a2.Del,k],bp (cr .u8) k q,cells u [p]] R) from ?_) ?_)))))))
 {
 clear c; have c:=f0
 refine c0 func179 z z (ww (mi z (nt (ww (mi z (mi z (mi z (nt (aj (au ?_))))))))))
 obtain ⟨f1,c⟩:=aS c
 refine bg (fun n a w=>∃ (B:Int) (F:Int),cU (kb s a2) n (B,F)=some b9∧fz 26 [1,5,6] [.func (.func 184) #[] #[Pt u 0,Pt g 0],I6 B,I6 F] a∧St w0 w I [cells u [p],bp cD p s.l,sU cq D A.rows m.1.toNat p,cells j [D],cells g [U6 a2.ae,U6 a2.Index,.bool a2.Del,k],bp (cr .u8) k q] R) f1 ⟨0,((s.l).length:Int),c,fy z,b⟩ ?_
 rintro j8 _ j9 ⟨B,F,c,⟨k0,rfl⟩,b⟩
 obtain ⟨k1,k2,rfl,c,T⟩:=aU c
 dsimp only [kb] at c
 refine aj (ww (mi z (mi z (mb z (nt (bw c z ?_ ?_))))))
 {
 refine fun f2 c=>al (tn (au (ww (mi z (mi z (mi z (mk (.int .u64 (u64.wrap (i64.wrap (B+F)))) (mi (xS deA z z) (mk (.int .i64 (i64.wrap (jq .u64 (u64.wrap (i64.wrap (B+F))) 1))) (mi z (nt (ww (mv (.func (.func 184) #[] #[Pt u 0,Pt g 0]) z (mi z ?_))))))))))))))
 refine bk c fun f3 f4 c=>dh z z (er call184 (caps:=[Pt u 0,Pt g 0]) z (vs:=[I6 (i64.wrap (jq .u64 (u64.wrap (i64.wrap (B+F))) 1))]) z) (Calls.mono (show Calls prog 184 #[I6 (i64.wrap (jq .u64 (u64.wrap (i64.wrap (B+F))) 1)),Pt u 0,Pt g 0] _ (fun e w'=>∃ (U:Bool),U=f3∧e = .returned (.bool U)∧St w0 w' I [cells j [D],bp cD p s.l,sU cq D A.rows m.1.toNat p,cells g [U6 a2.ae,U6 a2.Index,.bool a2.Del,k],bp (cr .u8) k q,cells u [p]] R) from ?_) ?_)
 {
 clear c; have c:=f4
 refine c0 func184 z z (ww (mb z (nt (aj ?_))))
 replace b:=b.ah
 obtain ⟨k3,V,b⟩:=b.cz
 refine rg b 11 [0,0,3,7,0,16,0,64,255,511,1023] [] mixed (sL 0 z z (·.bc1 z) (si 1 z z ?_))
 obtain ⟨J,f5,c⟩:=bn c
 obtain ⟨f6,f7,f8⟩:=aV f5
 refine sh _ 2 z (fun w b=>aJ z z uI sI (b.rsv 0 z V) f6 f7) ?_
 obtain ⟨k4,f9,g0⟩:=bT.get V f8
 obtain ⟨c1,rfl,g1,-⟩:=g0
 refine sh _ 3 z (fun w b=>xN (cs:=[U6 J.ae,U6 J.Index,.bool J.Del,c1]) z (et (o:=0) (b.uy 0 z f9) z)) (sF 4 z z fI (sL 5 z z (·.bc4 z) (sF 6 z z fI (sL 7 z z (·.bc4 z) (e1 8 z z fun w b=>bk c fun k5 g2 c=>wec call185 [.agg #[U6 J.ae,U6 J.Index,.bool J.Del,c1],U6 a2.ae,U6 a2.Index] z z (kcO (wo (g1.mono cS) b.to0 g2) fun k6 b=>w0n b (sb 9 z z (sb 10 z z ?_))))))))
 refine bt ?_
 intro w b
 replace b:=b.bo V
 refine tn (ar (pB z z ?_))
 cases c
 exact ⟨_,z,z,b.ah.bq.bq.bj.bj.bq.lh⟩
}
 rintro _ k7 ⟨U,rfl,rfl,b⟩
 refine ⟨_,z,?_⟩
 try dsimp only at c
 refine mb z (nt (bw c z ?_ ?_))
 {
 refine fun g3 c=>wrl (mi z (mi z (mi z (dv (bJ (tn ?_))))))
 cases c
 exact ⟨_,nls,_,F,T,fy z,b.bj.bj.aD.bj.bj.bq.lh⟩
}
 refine fun g3 c=>wrl (mi z (mi z (dv (bJ (tn ?_)))))
 cases c
 exact ⟨_,nls,B,_,T,fy z,b.bj.bj.aD.bj.bj.bq.lh⟩
}
 refine fun f2 c=>bH (aQ (aQ ?_))
 replace c:=bz c T
 refine cZ (tn (ww (mi z (mi z (nt (ar (pI z z ?_)))))))
 obtain rfl:=sj c
 exact ⟨B,z,z,b.bq.bq.bj.bj.bq.lh⟩
}
 rintro _ k8 ⟨G,rfl,rfl,b⟩
 refine ⟨_,z,?_⟩
 try dsimp only at c
 refine mi z (nt ?_)
 obtain ⟨k9,c,O⟩:=ee c
 refine cR (fun a w=>∃ (W:HL),(mf s G a2 q A m) ()=some r∧fz 93 [0,5,6,8,9] [Pt j 0,Pt g 0,I6 m.1,Pt u 0,I6 G] a∧I.le W∧St w0 w W [cells j [D],bp cD p s.l,sU cq D A.rows m.1.toNat p,cells g [U6 a2.ae,U6 a2.Index,.bool a2.Del,k],bp (cr .u8) k q,cells u [p]] R) ?_ ?_
 {
 have X:=HL.le.refl I
 refine aj ?_
 replace b:=b.ah
 obtain ⟨l0,H,b⟩:=b.cz
 refine eU b mixed krA (qz (I6 _) z (qh _ (fun w b=>xL z (b.bc5 z)) (qh _ (fun w b=>bX z uI (b.rsv 0 z H)) (qz (.bool _) z (qz (.bool _) z (bs c ?_ ?_))))))
 {
 refine fun d c=>qg _ d (fun w b=>xL z (b.bc5 z)) (qgz (I6 _) d z ?_)
 obtain ⟨l1,g4,c⟩:=bn c
 obtain ⟨Y,Z,b0⟩:=aV g4
 refine qg _ d (fun w b=>aJ z z uI sI (b.rsv 0 z H) Y Z) (qg _ d (fun w b=>xG z fI z) ?_)
 obtain ⟨l2,c2,g5⟩:=bT.get H b0
 obtain ⟨l3,rfl,l4,-⟩:=g5
 refine qg _ d (fun w b=>xL z ((b.uy 0 z c2) 0 _ z)) (qg _ d (fun w b=>xF z fI z) (qg _ d (fun w b=>xL z (b.bc3 z)) (qgz (.bool _) d z (qh (.bool _) (fun w b=>bi d z z) (qz (.bool _) z (bs c ?_ ?_))))))
 {
 refine fun f c=>qg _ f (fun w b=>xL z (b.bc5 z)) (qgz (I6 _) f z (qg _ f (fun w b=>aJ z z uI sI (b.rsv 0 z H) Y Z) (qg _ f (fun w b=>xG z fI z) (qg _ f (fun w b=>xL z ((b.uy 0 z c2) 1 _ z)) (qg _ f (fun w b=>xF z fI z) (qg _ f (fun w b=>xL z (b.bc3 z)) (qgz (.bool _) f z (qh (.bool _) (fun w b=>bi f z z) (hK ?_)))))))))
 intro w b
 replace b:=b.bo H
 refine tn (bw c z ?_ ?_)
 {
 refine fun g6 c=>ww (mL z (b.bc5 z) (mi z (mz (xN z (b.ul 0 tz)) (mz (aJ z z uI sI b.sv0 Y Z) ?_))))
 obtain ⟨l5,g7,l6⟩:=b.og0 b0
 obtain ⟨l7,rfl,l8,-⟩:=g7
 replace b:=b.bj
 obtain ⟨l9,g8,b1,b⟩:=b.cO
 replace C:=C.trans g8
 obtain ⟨m0,g9,b⟩:=b.sd (P:=prog) (t:=214) (y:=({a2 with Val:=q}:bf)) b0 0 (.agg #[U6 a2.ae,U6 a2.Index,.bool a2.Del,k]) sI (Nat.le_of_ble_eq_true z) (oJ 3 z (oC (oS (ak b1)) oN)) (fun cs h=>⟨_,zO (cD.len h) z,b1,oS (ak b1)⟩)
 refine yF z z (rn g9) (nt (ar (bh ?_)))
 replace c:=bz c O
 cases c
 exact dI [] z bl ⟨_,z,C,(aR (cY (Pt j 0) (({rows:=(A.rows.set m.1.toNat ({eW:=s.eW,l:=(s.l.set G.toNat ({a2 with Val:=q}:bf))}:bW))}:cn)) (St.yh (N:=cq) b.aD.ah L).ah z)).bF⟩
}
 refine fun g6 c=>al (tn ?_)
 cases c
 exact ⟨_,O,fy z,X,b.bq.bq.bq.bq.bj.bq.lh⟩
}
 refine fun f c=>qo f (qo f (qo f (qo f (qo f (qo f (qo f (qo f (qh (.bool _) (fun w b=>aL f z z) (hK ?_)))))))))
 intro w b
 replace b:=b.bo H
 refine tn (cJ z (al (tn ?_)))
 cases c
 exact ⟨_,O,fy z,X,b.bq.bq.bq.bq.bj.bq.lh⟩
}
 refine fun d c=>qo d (qo d (qo d (qo d (qo d (qo d (qo d (qo d (qh (.bool _) (fun w b=>aL d z z) (qz (.bool _) z (vJ ((av z z z z).trans z) z (vJ ((av z z z z).trans z) z (vJ ((av z z z z).trans z) z (vJ ((av z z z z).trans z) z (vJ ((av z z z z).trans z) z (vJ ((av z z z z).trans z) z (vJ ((av z z z z).trans z) z (vJ ((av z z z z).trans z) z (qh (.bool _) (fun w b=>aL z z z) (hK ?_)))))))))))))))))))
 intro w b
 replace b:=b.bo H
 refine tn (cJ z (al (tn ?_)))
 cases c
 exact ⟨_,O,fy z,X,b.bq.bq.bq.bq.bj.bq.lh⟩
}
 rintro _ m1 ⟨W,c,⟨m2,rfl⟩,h0,b⟩
 dsimp only [mf] at c
 replace C:=C.trans h0
 refine rg b 13 [0,1,3,7,0,0,0,0,128,480,1023,2047,4095] [] mixed (sp 0 z z (sp 1 z z (sF 2 z z fI (sL 3 z z (·.bc0 z) (si 4 z z (sL 5 z z (·.bc5 z) (si 6 z z (sh _ 7 z (fun w b=>xN z (b.ul 0 tz)) (e1 8 z z fun w b=>?_)))))))))
 replace b:=b.bj
 obtain ⟨m3,h1,c3,b⟩:=b.cO
 replace C:=C.trans h1
 obtain ⟨c4,h2,h3,h4,b⟩:=b.lits (E:=cD) (xs:=[({a2 with Val:=q}:bf)]) [[U6 a2.ae,U6 a2.Index,.bool a2.Del,k]] 214 1 z (bT.cons ⟨_,z,c3,oS (ak c3)⟩ bT.nil)
 refine cj (v:=(.slice (some ⟨c4,0,none⟩) 1 1)) (w':=h2) z (dH krA h3 h4) (wn [6,5,4,3,2,1,0] b (pz (pL z z (·.bc5 z) (pz (pL z z (·.bc1 z) (pF z z fI (pz (pz aT))))))) (e1 9 z z fun w b=>?_))
 replace b:=b.aD
 obtain ⟨h5,h6,c⟩:=bn c
 refine wec call186 [p,I6 G,(.slice (some ⟨c4,0,none⟩) 1 1)] z z (kdI (ns b.to2 h6) fun m4 m5 b=>wn [4,3,2,1,0] b (pz (pL z z (·.bc1 z) (pF z z fI (pz (pz aT))))) (sh _ 10 z (fun w b=>aJ z z uI sI (b.ER 2 z) b7 b8) (sh _ 11 z (fun w b=>xG z fI z) (e1 12 z z fun w b=>?_))))
 replace b:=b.aD
 obtain ⟨m6,h7,b⟩:=b.Fe (P:=prog) (t:=238) L b.sv1 sI
 refine tu z (rn h7) (w0n b (bt ?_))
 intro w b
 replace b:=aR (cY (Pt j 0) (({rows:=(A.rows.set m.1.toNat ({eW:=s.eW,l:=h5}:bW))}:cn)) (St.yh (N:=cq) b.ah L).ah z)
 cases c
 exact mj (vs:=[]) z bl ⟨_,z,C,b.bF⟩
}
theorem vZ {a0:(Option ai)} {p0:Value} {a1:aG} {i j k l g m p q:Value} (c7:Rd cp R I i a1.br.dO) (c8:Rd fU R I j a1.br.aX) (c9:Rd cp R I k a1.br.dD) (d0:Rd (cr .u8) R I l a1.br.Data) (s:Rd cG R I g a1.cw) (d1:Rd aK R I m a1.R.dT) (d2:Rd (eC aH) R I p a1.R.aX) (d3:Rd cN R I q a1.dM) (b:St w0 w I [cX aM p0 a0] R) {r:(bU×(Option ai))} (c:ke a0 a1=some r) :
  Calls prog 49 #[p0,.agg #[U1 a1.Kind,U6 a1.ID.ab,U6 a1.ID.Seq,U6 a1.ae,U6 a1.Index,I6 a1.E,U6 a1.br.ID.ab,U6 a1.br.ID.Seq,U6 a1.br.ae,i,j,k,l,g,I6 a1.R.E,U6 a1.R.ae,U6 a1.R.Index,m,p,U6 a1.bY,q,U6 a1.ap.ID,I6 a1.ap.dn,I6 a1.ap.To,F6 a1.ap.Lo,F6 a1.ap.Hi,U6 a1.ap.Authority,I6 a1.ap.cx,.bool a1.On]] w fun e w'=>∃ (I':HL) (N:Value) (O:Value),e = .returned (.agg #[U1 r.1.Kind,U6 r.1.ID.ab,U6 r.1.ID.Seq,I6 r.1.R.E,U6 r.1.R.ae,U6 r.1.R.Index,N,O])∧I.le I'∧St w0 w' I' [bp aK N r.1.R.dT,bp (eC aH) O r.1.R.aX,cX aM p0 r.2] R:=by {
 rcases a0 with _ | x
 {
 dsimp only [ke] at c
 cases c
}
 replace b:=bQ b
 dsimp only [ke] at c
 refine c0 func49 z z ?_
 have D:=HL.le.refl I
 refine ww ?_
 obtain ⟨y,d4,Q,S,b⟩:=b.box [U1 a1.Kind,U6 a1.ID.ab,U6 a1.ID.Seq,U6 a1.ae,U6 a1.Index,I6 a1.E,U6 a1.br.ID.ab,U6 a1.br.ID.Seq,U6 a1.br.ae,i,j,k,l,g,I6 a1.R.E,U6 a1.R.ae,U6 a1.R.Index,m,p,U6 a1.bY,q,U6 a1.ap.ID,I6 a1.ap.dn,I6 a1.ap.To,F6 a1.ap.Lo,F6 a1.ap.Hi,U6 a1.ap.Authority,I6 a1.ap.cx,.bool a1.On] 49
 refine wa Q S ?_
 obtain ⟨A,d5,T,U,b⟩:=b.box [Zb,Zu,Zu,Zi,Zu,Zu,Zs,Zs] 35
 refine wa T U (nt ?_)
 obtain ⟨V,c,F⟩:=bn c
 refine cR (fun a w=>∃ (G:HL) (H:ai),(oT a1) H=some r∧fz 46 [3,4] [Pt y 0,Pt A 0] a∧I.le G∧St w0 w G [cells y [U1 a1.Kind,U6 a1.ID.ab,U6 a1.ID.Seq,U6 a1.ae,U6 a1.Index,I6 a1.E,U6 a1.br.ID.ab,U6 a1.br.ID.Seq,U6 a1.br.ae,i,j,k,l,g,I6 a1.R.E,U6 a1.R.ae,U6 a1.R.Index,m,p,U6 a1.bY,q,U6 a1.ap.ID,I6 a1.ap.dn,I6 a1.ap.To,F6 a1.ap.Lo,F6 a1.ap.Hi,U6 a1.ap.Authority,I6 a1.ap.cx,.bool a1.On],cells A [Zb,Zu,Zu,Zi,Zu,Zu,Zs,Zs],aM p0 H] R) ?_ ?_
 {
 have t:=HL.le.refl I
 refine aj ?_
 obtain ⟨h,d6,W,d7,d8,d9,e0,e2,rfl,X⟩:=bC b.aD
 have b:=X
 refine rg b 12 [0,1,3,7,0,16,63,127,255,511,1023,2047] [] mixed (sp 0 z z (sp 1 z z (sF 2 z z fI (sL 3 z z (·.bc0 z) (sF 4 z z fI (sh _ 5 z (fun w b=>xN (cs:=[U6 a1.ID.ab,U6 a1.ID.Seq]) z (b.AZ 1 z)) (e1 6 z z fun w b=>?_)))))))
 replace b:=b.aD
 obtain ⟨B,Y,c⟩:=bn c
 refine wec call122 [W,.agg #[U6 a1.ID.ab,U6 a1.ID.Seq]] z z (kcI (wX b.to1 Y) fun e3 b=>w0n b (sb 7 z z (bs c ?_ ?_)))
 {
 refine fun d c=>sg _ 8 z d (fun w b=>xF z fI z) (sg _ 9 z d (fun w b=>xL z (b.bc9 z)) (sgz (.bool _) 10 z d z (sh (.bool _) 11 z (fun w b=>bi d z z) (bt ?_))))
 refine fun w b=>tn (bw c z ?_ ?_)
 {
 refine fun Z c=>ww (mF z fI (mL z (b.bc9 z) (mz (bX z uI (ay s)) (mi z (nt (au ?_))))))
 replace b:=aF (Pt h 0) (({x with ft:=B.2}:ai)) b.aW.aW.aW.aW.aW.bq.aW.aW z
 obtain ⟨b0,c⟩:=aS c
 refine bg (fun n a w=>∃ (J:HL) (u:ai) (K:Int),cU (gD a1) n (u,K)=some V∧fz 46 [0,3,4,20,21,22] [Pt h 0,Pt y 0,Pt A 0,g,I6 ((a1.cw).length:Int),I6 K] a∧I.le J∧St w0 w J [aM (Pt h 0) u,cells A [Zb,Zu,Zu,Zi,Zu,Zu,Zs,Zs],cells y [U1 a1.Kind,U6 a1.ID.ab,U6 a1.ID.Seq,U6 a1.ae,U6 a1.Index,I6 a1.E,U6 a1.br.ID.ab,U6 a1.br.ID.Seq,U6 a1.br.ae,i,j,k,l,g,I6 a1.R.E,U6 a1.R.ae,U6 a1.R.Index,m,p,U6 a1.bY,q,U6 a1.ap.ID,I6 a1.ap.dn,I6 a1.ap.To,F6 a1.ap.Lo,F6 a1.ap.Hi,U6 a1.ap.Authority,I6 a1.ap.cx,.bool a1.On]] R) b0 ⟨_,({x with ft:=B.2}:ai),0,c,fy z,lr,b⟩ ?_
 rintro e4 _ e5 ⟨J,u,K,c,⟨e6,rfl⟩,v,b⟩
 obtain ⟨e7,e8,rfl,c,P⟩:=aU c
 dsimp only [gD] at c
 replace s:=s.mono (qK v)
 replace t:=t.trans v
 refine ww (mb z (nt (aj (bw c z ?_ ?_))))
 {
 refine fun b1 c=>al (tn (aj (au (ww ?_))))
 obtain ⟨f,b2,c⟩:=bn c
 obtain ⟨b3,b4,b5⟩:=aV b2
 refine mz (aJ z z uI sI (ay s) b3 b4) ?_
 obtain ⟨e9,b6,b7⟩:=Rd.lC s b5
 obtain ⟨C,rfl,L,-⟩:=b6
 refine mz (xN (cs:=[F6 f.At,.bool f.Del,C]) z (et (o:=0) (b7 lr b) z)) ?_
 obtain ⟨f0,f1,b8,b9,b⟩:=b.box [Zf,.bool false,Zs] 41
 refine wa b8 b9 (bxk b z sI (oJ 2 z (oC (oS (ay L)) oN)) fun f2 b=>nt ?_)
 obtain ⟨f3,c1,f4,f5,f6,f7,f8,f9,M,c2⟩:=bC b.ah
 replace M:=ez M
 subst M
 have b:=c2
 refine rg b 16 [0,1,3,7,0,16,0,64,0,256,0,1024,0,4096,16320,32767] [] mixed (sp 0 z z (sp 1 z z (sF 2 z z fI (sL 3 z z (·.bc0 z) (sF 4 z z fI (sL 5 z z (·.bc8 z) (sF 6 z z fI (sL 7 z z (·.zp z) (sF 8 z z fI (sL 9 z z (·.zp z) (sF 10 z z fI (sL 11 z z (·.bc8 z) (sF 12 z z fI (wsr (C) 13 rfl rfl rfl krA (fun w b=>xL z (b.bc8 rfl)) (wsr (.agg #[U6 a1.ae,U6 a1.Index,.bool f.Del,C]) 14 rfl rfl rfl krA (fun w b=>by obtain ⟨_,_,hv_,_⟩:=(ay L); rw [hv_]; kernel_rfl) (e1 15 z z fun w b=>?_))))))))))))))))
 replace b:=b.ah
 obtain ⟨c3,c4,c⟩:=bn c
 refine wec call123 [c1,F6 f.At,.agg #[U6 a1.ae,U6 a1.Index,.bool f.Del,C]] z z ((ym (a2:=({a1 with Del:=f.Del,Val:=f.Val}:bf)) (L.mono (cW _)) b.to1 c4).mono ?_)
 rintro _ g0 ⟨g1,rfl,c5,b⟩
 refine ⟨_,z,?_⟩
 replace b:=b.of1
 replace v:=v.trans c5
 refine w0n b (bt ?_)
 refine fun w b=>bJ (tn (wrl (mi z (mi z (nt ?_)))))
 cases c
 exact ⟨_,nls,_,_,_,P,fy z,v,(aF (Pt h 0) (({u with store:=c3}:ai)) b.aW.aW.aW.aW.aW.aW.de.aW z).aA.aA.aD.eu⟩
}
 refine fun b1 c=>bH (aQ (aQ ?_))
 replace c:=bz c P
 refine cZ (tn ?_)
 obtain rfl:=sj c
 exact ⟨_,u,F,fy z,t,b.ah.aD.eu⟩
}
 refine fun Z c=>al (tn ?_)
 cases c
 exact ⟨_,_,F,fy z,t,(aF (Pt h 0) (({x with ft:=B.2}:ai)) b.aW.aW.aW.aW.aW.bq.aW.aW z).ah.aD.eu⟩
}
 refine fun d c=>so 8 z d (so 9 z d (so 10 z d (sh (.bool _) 11 z (fun w b=>aL d z z) (bt ?_))))
 refine fun w b=>tn (cJ z (al (tn ?_)))
 cases c
 exact ⟨_,_,F,fy z,t,(aF (Pt h 0) (({x with ft:=B.2}:ai)) b.aW.aW.aW.aW.aW.bq.aW.aW z).ah.aD.eu⟩
}
 rintro _ g2 ⟨G,H,c,⟨g3,rfl⟩,c6,b⟩
 dsimp only [oT] at c
 replace D:=D.trans c6
 refine ww (mF z fI (mz (xN (cs:=[U6 a1.ID.ab,U6 a1.ID.Seq]) z (b.fm 1 z)) (mk (.agg #[U1 3,U6 a1.ID.ab,U6 a1.ID.Seq,Zi,Zu,Zu,Zs,Zs]) ?_)))
 replace b:=b.ah
 refine bxk b z sI (oJ 8 z oN) fun g4 b=>nt (ar ?_)
 replace b:=aR (((b.ba aK).ba (eC aH)).bj)
 cases c
 exact prI z (rN z (b.ul 0 tz)) ⟨_,Zs,Zs,z,D,b.ah.aD.eu⟩
}
theorem qb {a0:aZ} {c d:Value} {a1:Int} (i:Rd aK R I c a0.r.dT) (j:Rd (eC aH) R I d a0.r.aX) (a:St w0 w I [] R) {r:(Int)} (b:iJ a0 a1=some r) :
  Calls prog 201 #[.agg #[U6 a0.cV,U6 a0.seq,I6 a0.r.E,U6 a0.r.ae,U6 a0.r.Index,c,d],U6 a1] w fun e w'=>e = .returned (.int .i64 r)∧St w0 w' I [] R:=by {
 unfold iJ at b
 refine c0 func201 z z (ww ?_)
 obtain ⟨k,l,f,g,a⟩:=a.box [U6 a0.cV,U6 a0.seq,I6 a0.r.E,U6 a0.r.ae,U6 a0.r.Index,c,d] 242
 refine wa f g (mi z (nt (ww (mF z fI (mL z (a.bc0 z) (mi z (bk b fun m h b=>wc call131 [U6 a0.cV,U6 a1] z z z (kcO (gK a.to0 h) fun n a=>mi z (nt (ar ?_))))))))))
 obtain rfl:=sj b
 exact pI z z ⟨z,a.cT⟩
}
theorem nB {a0:(Option bE)} {p0:Value} {a1:Int} (c:St w0 w I [cX bV p0 a0] R) {r:(Int×Bool)} (b:gy a0 a1=some r) :
  Calls prog 148 #[p0,U6 a1] w fun e w'=>e = .returned (.tuple #[I6 r.1,.bool r.2])∧St w0 w' I [cX bV p0 a0] R:=by {
 rcases a0 with _ | i
 {
 dsimp only [gy] at b
 cases b
}
 replace c:=bQ c
 dsimp only [gy] at b
 refine c0 func148 z z (ww (mi z (mb z (nt (aj (ww (mv (p0) z ?_)))))))
 obtain ⟨p,f,rfl,C⟩:=dJ c
 have c:=C
 refine mk (.bool false) (nt (cJ z (al (tn (ww (mp z (mp z (mF z fI (mL z (c.bc0 z) (mi z (bk b fun u D b=>dh z z (er call200 (caps:=[]) z (vs:=[f,U6 a1,.func (.func 201) #[] #[]]) z) (Calls.mono (show Calls prog 200 #[f,U6 a1,.func (.func 201) #[] #[]] _ (fun e w'=>∃ (q:Int) (s:Bool),(q,s)=u∧e = .returned (.tuple #[I6 q,.bool s])∧St w0 w' I [cells p [f],bp dF f i.l] R) from ?_) ?_))))))))))))
 {
 clear b; have b:=D
 refine c0 func200 z z (ww (mi z (mb z (nt (ww (mv (f) z (mz (bX z uI c.sv1) (mi z (nt (ww (mi z (mi z (mi z (nt ?_))))))))))))))
 obtain ⟨F,b,G⟩:=bn b
 refine cR (fun a w=>∃ (j:Int),(lI i a1) j=some u∧fz 49 [0,1,2,8,9] [f,U6 a1,.func (.func 201) #[] #[],I6 ((i.l).length:Int),I6 j] a∧St w0 w I [bp dF f i.l,cells p [f]] R) ?_ ?_
 {
 refine au ?_
 obtain ⟨H,b⟩:=aS b
 refine bg (fun n a w=>∃ (m:Int) (k:Int),cU (hH i a1) n (m,k)=some F∧fz 49 [0,1,2,8,9,10] [f,U6 a1,.func (.func 201) #[] #[],I6 ((i.l).length:Int),I6 k,I6 m] a∧St w0 w I [cells p [f],bp dF f i.l] R) H ⟨((i.l).length:Int),0,b,fy z,c⟩ ?_
 rintro b4 _ b5 ⟨m,k,b,⟨b6,rfl⟩,c⟩
 obtain ⟨b7,b8,rfl,b,t⟩:=aU b
 dsimp only [hH] at b
 refine aj (ww (mi z (mi z (mb z (nt (bw b z ?_ ?_))))))
 {
 refine fun J b=>al (tn (au (ww (mi z (mi z (mi z (mk (.int .u64 (u64.wrap (i64.wrap (k+m)))) (mi (xS deA z z) (mk (.int .i64 (i64.wrap (jq .u64 (u64.wrap (i64.wrap (k+m))) 1))) (mi z (nt (ww (mv (.func (.func 201) #[] #[]) z (mv (f) z (mi z ?_)))))))))))))))
 obtain ⟨g,K,b⟩:=bn b
 obtain ⟨L,M,N⟩:=aV K
 refine mz (aJ z z uI sI c.sv1 L M) ?_
 obtain ⟨b9,O,P⟩:=c.og1 N
 obtain ⟨v,x,rfl,Q,S,-⟩:=O
 refine mz (xN (cs:=[U6 g.cV,U6 g.seq,I6 g.r.E,U6 g.r.ae,U6 g.r.Index,v,x]) z (et (o:=0) P z)) (mi z (bk b fun c1 T b=>dh z z (er call201 (caps:=[]) z (vs:=[.agg #[U6 g.cV,U6 g.seq,I6 g.r.E,U6 g.r.ae,U6 g.r.Index,v,x],U6 a1]) z) (kcO (qb (Q.mono cS) (S.mono cS) c.to0 T) fun c2 c=>mb z (nt (bw b z ?_ ?_)))))
 {
 refine fun U b=>wrl (mi z (mi z (mi z (dv (bJ (tn ?_))))))
 cases b
 exact ⟨_,nls,m,_,t,fy z,c.ah.ah.cv⟩
}
 refine fun U b=>wrl (mi z (mi z (dv (bJ (tn ?_)))))
 cases b
 exact ⟨_,nls,_,k,t,fy z,c.ah.ah.cv⟩
}
 refine fun J b=>bH (aQ (aQ ?_))
 replace b:=bz b t
 refine cZ (tn ?_)
 obtain rfl:=sj b
 exact ⟨k,G,fy z,c.ah.cv⟩
}
 rintro _ c3 ⟨j,b,⟨c4,rfl⟩,c⟩
 dsimp only [lI] at b
 refine ww (mi z (mi z (mi z (mb z (mb z (bs b ?_ ?_))))))
 {
 refine fun d b=>gv (.func (.func 201) #[] #[]) d z (gv (f) d z (gi d z ?_))
 obtain ⟨h,V,b⟩:=bn b
 obtain ⟨W,X,Y⟩:=aV V
 refine gg d (aJ z z uI sI c.sv0 W X) ?_
 obtain ⟨c5,Z,b0⟩:=c.og0 Y
 obtain ⟨y,A,rfl,b1,b2,-⟩:=Z
 refine gg d (xN (cs:=[U6 h.cV,U6 h.seq,I6 h.r.E,U6 h.r.ae,U6 h.r.Index,y,A]) z (et (o:=0) b0 z)) (gi d z (bk b fun B b3 b=>dh ((av z z z (cvb d)).trans z) z (er call201 (caps:=[]) z (vs:=[.agg #[U6 h.cV,U6 h.seq,I6 h.r.E,U6 h.r.ae,U6 h.r.Index,y,A],U6 a1]) z) (kcO (qb (b1.mono cS) (b2.mono cS) c.to0 b3) fun c6 c=>gb d z (mb (bi d z z) (mi z (mb z (nt (ar (dI [I6 j,.bool (B==0)] z (rc z (rc z bl)) ?_)))))))))
 cases b
 exact ⟨j,(B==0),z,z,c.ah.cv⟩
}
 refine fun d b=>go d (go d (go d (go d (go d (go d (go d (go d (mb (aL d z z) (mi z (mb z (nt (ar (dI [I6 j,.bool false] z (rc z (rc z bl)) ?_)))))))))))))
 cases b
 exact ⟨j,false,z,z,c.ah.cv⟩
}
 rintro _ c7 ⟨q,s,rfl,rfl,c⟩
 refine ⟨_,z,?_⟩
 try dsimp only at b
 refine mi z (mb z (mi z (mb z (nt (ar ?_)))))
 cases b
 exact dI [I6 q,.bool s] z (rc z (rc z bl)) ⟨z,(aR (cQ (Pt p 0) i c.ah.ah z)).bF⟩
}
theorem nX {a0:(List aZ)} {d:Value} {a1:Int} {a2:(List aZ)} {g:Value} (c:St w0 w I [bp dF d a0,bp dF g a2] R) {r:(List aZ)} (q:fj a0 a1 a2=some r) :
  Calls prog 187 #[d,I6 a1,g] w fun e w'=>∃ (x:Value),e = .returned (x)∧St w0 w' I [bp dF x r] R:=by {
 unfold fj at q
 obtain ⟨hg,q⟩:=cF q
 cases q
 obtain ⟨A,S,hrm⟩:=uM hg
 obtain ⟨k,rfl⟩:=Int.eq_ofNat_of_zero_le A
 have hsm:=uO hrm
 have hk:k≤a0.length:=by omega
 have hs:∀ w:World,(sizeOf 242).run prog w = .ok dF.sz w:=sizeOf242
 have y:0<dF.sz:=Nat.le_of_ble_eq_true rfl
 have hov:∀ (args:Array Value) (w:World),(callFunc 209 args).run prog w=(Extern.SlicesOverlaps.overlaps #[204,204] #[4] args >>= fun v=>(pure (.value v):Sem Next)).run prog w:=by intro args w; kernel_rfl
 obtain ⟨css,hr,c⟩:=c.cz
 replace c:=c.ah
 obtain ⟨dss,hq,c⟩:=c.cz
 replace c:=c.ah
 obtain ⟨n,hn⟩:∃ n,css.length=n:=⟨_,rfl⟩
 obtain ⟨m,hm'⟩:∃ m,dss.length=m:=⟨_,rfl⟩
 have hln:a0.length=n:=hr.1.trans hn
 have hlm:a2.length=m:=hq.1.trans hm'
 rw [hln] at hsm hk
 rw [hlm] at hsm
 have hsv:dQ d n:=by have:=c.dy.2; rwa [hn] at this
 have hsq:dQ g m:=by have:=c.ah.dy.2; rwa [hm'] at this
 have hoc:=hr.xE
 have hoq:=hq.xE
 have s:=wrap_add (a:=n) (b:=m) omA
 have t:=wrap_add (a:=k) (b:=m) omA
 have B:=sY (a:=n+m) (b:=k) omA omA
 have hrb:=cP (b:=88) hrm rfl
 rw [hln,hlm] at hrb
 refine c0 func187 z z (ww (mv ((.slice none 0 0)) z (nt (ww (mv (d) z (mi z (mv ((dR dF.sz d k n)) (dr (lo:=(k:Nat)) (hi:=(n:Nat)) underlying204 hs z hsv omA omA omA .i64 .i64 (.inl z) (.inr ⟨z,z⟩)) (nt (ww (mv (g) z (mz (bX z underlying204 hsq) (mi z (nt (aj (ww (mi z (mb z (nt (kp ((m:Int)==0) (fun j=>?_) (fun j=>?_))))))))))))))))))))
 {
 refine eG (cvb j) (ww (mv (d) z (mv (d) z (nt (ar (bh (dI [d] z (rc z bl) ?_)))))))
 rw [xk (by rw [hlm]; exact j)]
 exact ⟨_,z,(c.bo hr).bF⟩
}
 refine cJ (cvb j) ?_
 have C:m≠0:=fun h=>by rw [h] at j; cases j
 have D:dss≠[]:=fun h=>C (by rw [← hm',h]; rfl)
 refine al (tn (ww (mv (d) z (mz (bX z underlying204 hsv) (mi z (nt (aj (ww (mi z (mi z (mb z (nt (kp ((k:Int)==(n:Int)) (fun o=>?_) (fun o=>?_))))))))))))))
 {
 refine eG (cvb o) (ww (mv (d) z (mv (g) z ?_)))
 replace c:=((c.bo hr).ah.bo hq).ah
 obtain ⟨f,u,hra,c⟩:=bO AG underlying204 c c.iL (cP hrm z) 204
 refine cK (v:=f) (w':=u) z z (ck z z hra) (mv (f) z (nt (ar (bh (dI [f] z (rc z bl) ?_)))))
 rw [xp (by rw [hln]; exact o)]
 exact ⟨_,z,c.bF⟩
}
 refine cJ (cvb o) ?_
 have hkn:k≠n:=fun h=>by rw [h] at o; simp at o
 have E:0<n:=by omega
 have F:css≠[]:=fun h=>by rw [h] at hn; simp at hn; omega
 refine al (tn (aj (ww (mi z (mi z (mi (eJ s z) (mv (d) z (mi (BY z underlying204 hsv) (mb z (nt (kp (decide (((n+m:Nat):Int)>(uQ d:Int))) (fun p=>?_) (fun p=>?_))))))))))))
 {
 refine eG (cvb p) (ww (mv (d) z (mi z (mv ((dR dF.sz d 0 k)) (dr (lo:=(0:Nat)) (hi:=(k:Nat)) underlying204 hs z hsv omA omA omA .i64 .i64 (.inr ⟨z,z⟩) (.inl z)) (mi z (mi z (mi (eJ s z) (mi z (mi (eJ B z) ?_)))))))))
 obtain ⟨f,u,hra,i,zss,hzl,c⟩:=vo AG underlying3 c k (n+m - k) omA (by have:=of_decide_eq_true p; omega) (by rw [show k+(n+m - k)=n+m by omega]; exact hrb) y 204
 rw [show k+(n+m - k)=n+m by omega] at i
 refine cK (v:=f) (w':=u) z z (ck z z hra) (mv (f) z (nt (ww (mv (f) z (mi z (mv ((dR dF.sz f k (n+m))) (dr (lo:=(k:Nat)) (hi:=((n+m):Nat)) underlying204 hs z i omA omA omA .i64 .i64 (.inl z) (.inr ⟨z,z⟩)) (mv (g) z ?_)))))))
 obtain ⟨G,H,c⟩:=dZ (P:=prog) (t2:=204) (ty:=3) underlying204 hs c c.aD k m (N:=n+m) olA olA omA olA (fk hoq _)
 refine cK (v:=.int .i64 (m:Nat)) (w':=G) z z (kq z z H) (nt (aj (rg c 9 [0,0,0,6,15,0,0,96,255] [] mixed (sz (f) 0 z z (si 1 z z (si 2 z z (sh (I6 _) 3 z (fun w c=>eJ t z) (sh ((dR dF.sz f (k+m) (n+m))) 4 z (fun w c=>dr (lo:=((k+m):Nat)) (hi:=((n+m):Nat)) underlying204 hs z i omA omA omA .i64 .i64 (.inl z) (.inr ⟨z,z⟩)) (sz (d) 5 z z (si 6 z z (sh ((dR dF.sz d k n)) 7 z (fun w c=>dr (lo:=(k:Nat)) (hi:=(n:Nat)) underlying204 hs z hsv omA omA omA .i64 .i64 (.inl z) (.inr ⟨z,z⟩)) (e1 8 z z fun w c=>?_))))))))))))
 obtain ⟨J,K,c⟩:=dZ (P:=prog) (t2:=204) (ty:=3) underlying204 hs c (c.ah.jP (l:=k) (h:=n) hk omA) (k+m) (n - k) (N:=n+m) olA olA omA olA (fk (kV (fk hoc _) _) _)
 refine cj (v:=.int .i64 ((n - k):Nat)) (w':=J) z (kq z z K) (w0n c (bt ?_))
 refine fun w c=>tn (ww (mv (f) z (mv (f) z (nt (ar (bh (dI [f] z (rc z bl) ?_)))))))
 rw [tE hn hm' hk hzl] at c
 exact ⟨_,z,(c.bo ((hr.take k).app (hq.app (hr.drop k)))).bF⟩
}
 refine cJ (cvb p) ?_
 have hup:n+m≤uQ d:=by have:=of_decide_eq_false p; omega
 obtain ⟨ess,hel,hem,hst'⟩:=c.zG (n+m) omA hup F
 rw [show n+m - css.length=m by omega] at hel
 have i:dQ (upV d (n+m)) (n+m):=by have:=hst'.dy.2; rwa [List.length_append,hn,hel] at this
 clear c
 have c:=hst'
 clear hst'
 refine al (tn (ww (mv (d) z (mi z (mi z (mi (eJ s z) (mv ((upV d (n+m))) (tJ underlying204 hs z hsv z hup E) (mv ((upV d (n+m))) z (nt (aj (ww (mv (g) z (mv ((upV d (n+m))) z (mi z (mi z (mi (eJ t z) (mv ((dR dF.sz (upV d (n+m)) (k+m) (n+m))) (dr (lo:=((k+m):Nat)) (hi:=((n+m):Nat)) underlying204 hs z i omA omA omA .i64 .i64 (.inl z) (.inr ⟨z,z⟩)) (mb (BX z z z (hov _) (px z underlying204 hs c.ah (k+m) (N:=n+m) lnA omA D y)) (mb z (nt (eG z (aj (rg c 9 [0,0,0,6,15,0,0,96,255] [] mixed (sz ((upV d (n+m))) 0 z z (si 1 z z (si 2 z z (sh (I6 _) 3 z (fun w c=>eJ t z) (sh ((dR dF.sz (upV d (n+m)) (k+m) (n+m))) 4 z (fun w c=>dr (lo:=((k+m):Nat)) (hi:=((n+m):Nat)) underlying204 hs z i omA omA omA .i64 .i64 (.inl z) (.inr ⟨z,z⟩)) (sz ((upV d (n+m))) 5 z z (si 6 z z (sh ((dR dF.sz (upV d (n+m)) k (n+m))) 7 z (fun w c=>dr (lo:=(k:Nat)) (hi:=((n+m):Nat)) underlying204 hs z i omA omA omA .i64 .i64 (.inl z) (.inr ⟨z,z⟩)) (e1 8 z z fun w c=>?_))))))))))))))))))))))))))))))))
 obtain ⟨L,M,c⟩:=dZ (P:=prog) (t2:=204) (ty:=3) underlying204 hs c (c.jP (l:=k) (h:=n+m) omA lnA) (k+m) (n - k) (N:=n+m) olA olA omA olA (by rw [vj hn hm' hk hel]; exact kV hoc _)
 refine cj (v:=.int .i64 ((n - k):Nat)) (w':=L) z (kq z z M) (w0n c (bt ?_))
 refine fun w c=>tn (ww (mv ((upV d (n+m))) z (mi z (mv ((dR dF.sz (upV d (n+m)) k (n+m))) (dr (lo:=(k:Nat)) (hi:=((n+m):Nat)) underlying204 hs z i omA omA omA .i64 .i64 (.inl z) (.inr ⟨z,z⟩)) (mv (g) z ?_)))))
 obtain ⟨O,Q,c⟩:=dZ (P:=prog) (t2:=204) (ty:=3) underlying204 hs c c.ah k m (N:=n+m) olA olA omA olA (fk hoq _)
 refine cK (v:=.int .i64 (m:Nat)) (w':=O) z z (kq z z Q) (nt (ww (mv ((upV d (n+m))) z (mv ((upV d (n+m))) z (nt (ar (bh (dI [(upV d (n+m))] z (rc z bl) ?_))))))))
 rw [tL hn hm' hk hel] at c
 exact ⟨_,z,(c.bo ((hr.take k).app (hq.app (hr.drop k)))).bF⟩
}
theorem rK {a0:(Option bE)} {p0:Value} {a1 a2:Int} {a3:bB} {j k:Value} (o:Ro aK I j a3.dT) (p:Ro (eC aH) I k a3.aX) (b:St w0 w I [cX bV p0 a0] R) {r:(Int×(Option bE))} (c:gX a0 a1 a2 a3=some r) :
  Calls prog 124 #[p0,U6 a1,U6 a2,.agg #[I6 a3.E,U6 a3.ae,U6 a3.Index,j,k]] w fun e w'=>e = .returned (.int .i64 r.1)∧St w0 w' I [cX bV p0 r.2] R:=by {
 rcases a0 with _ | i
 {
 dsimp only [gX] at c
 cases c
}
 replace b:=bQ b
 dsimp only [gX] at c
 refine c0 func124 z z (ww ?_)
 obtain ⟨m,d2,K,L,b⟩:=b.box [I6 a3.E,U6 a3.ae,U6 a3.Index,j,k] 33
 refine wa K L (mi z (nt (aj (au (ww (mv (p0) z ?_))))))
 obtain ⟨f,d3,rfl,M⟩:=dJ b.ah
 have b:=M
 refine mk (.bool false) (mb z (nt (cJ z (ww (mi z (mb z (mb z (nt (bw c z ?_ ?_)))))))))
 {
 refine fun N c=>ww (mi z (nt (ar (eo (bh ?_)))))
 cases c
 exact pI z z ⟨z,(aR (cQ (Pt f 0) i b.ah.ah z)).bF⟩
}
 refine fun N c=>al (bJ (tn (ww (mp z (mi z ?_)))))
 replace b:=aR (cQ (Pt f 0) i b.ah.ah z)
 obtain ⟨g,O,c⟩:=bn c
 refine wc call148 [Pt f 0,U6 a1] z z z (kcI (nB b.to1 O) fun d4 b=>?_)
 replace b:=bQ b
 refine mv (.tuple #[I6 g.1,.bool g.2]) z (mi z (mb z (mi z (mb z (nt ?_)))))
 obtain ⟨d5,c,q⟩:=ee c
 refine cR (fun a w =>(jS g i a1 a2 a3) ()=some r∧fz 66 [0,1,2,7,9,10] [Pt f 0,U6 a1,U6 a2,Pt m 0,I6 g.1,.bool g.2] a∧St w0 w I [bV (Pt f 0) i,cells m [I6 a3.E,U6 a3.ae,U6 a3.Index,j,k]] R) ?_ ?_
 {
 refine ww (mb z (mb z (bs c ?_ ?_)))
 {
 refine fun d c=>gp d z ?_
 obtain ⟨d6,d7,s,Q⟩:=dJ b
 replace s:=ez s
 subst s
 have b:=Q
 refine gp d z (gg d (xF z fI z) (gg d (xL z (b.bc0 z)) (gi d z ?_)))
 obtain ⟨d8,S,c⟩:=bn c
 obtain ⟨T,U,V⟩:=aV S
 refine gg d (aJ z z uI sI b.sv1 T U) (gg d (xG z fI z) ?_)
 obtain ⟨d9,W,X⟩:=b.og1 V
 obtain ⟨e0,e2,rfl,e3,e4,-⟩:=W
 refine gg d (xL z (X 1 _ z)) (gi d z (gb d z (mb (bi d z z) (nt (bw c z ?_ ?_)))))
 {
 refine fun Y c=>ww (mi z (nt (ar (bh ?_))))
 replace c:=bz c q
 cases c
 exact pI z z ⟨z,(aR (cQ (Pt f 0) i b.ah.ah z)).bF⟩
}
 refine fun Y c=>al (tn ?_)
 cases c
 exact ⟨q,fy z,(cQ (Pt f 0) i b.ah.ah z).ah.ah.cv⟩
}
 refine fun d c=>go d (go d (go d (go d (go d (go d (go d (go d (go d (go d (mb (aL d z z) (nt (cJ z (al (tn ?_))))))))))))))
 cases c
 exact ⟨q,fy z,b.ah.ah.cv⟩
}
 rintro _ e5 ⟨c,⟨e6,rfl⟩,b⟩
 dsimp only [jS] at c
 obtain ⟨e7,c,B⟩:=bn c
 refine cR (fun a w=>∃ (n:bE),(jN g a2 a3) n=some r∧fz 66 [0,2,7,9] [Pt f 0,U6 a2,Pt m 0,I6 g.1] a∧St w0 w I [bV (Pt f 0) n,cells m [I6 a3.E,U6 a3.ae,U6 a3.Index,j,k]] R) ?_ ?_
 {
 refine ww (mb z (mb z (nt (bw c z ?_ ?_))))
 {
 refine fun Z c=>wrl (mp z (mp z ?_))
 obtain ⟨e8,b0,u,b1⟩:=dJ b
 replace u:=ez u
 subst u
 have b:=b1
 refine mp z (mF z fI (mL z (b.bc0 z) (mi z (mi z (mk (.agg #[U6 a1,Zu,Zi,Zu,Zu,Zs,Zs]) ?_)))))
 have C:Ro aK I (.slice none 0 0) []:=dc
 have D:Ro (eC aH) I (.slice none 0 0) []:=dc
 obtain ⟨F,b2,b3,b4,b⟩:=b.lits (E:=dF) (xs:=[({cV:=a1,seq:=0,r:=ct}:aZ)]) [[U6 a1,Zu,Zi,Zu,Zu,Zs,Zs]] 242 1 z (bT.cons ⟨_,_,z,C,D,oS (ak C),oS (ak D)⟩ bT.nil)
 refine cK (v:=(.slice (some ⟨F,0,none⟩) 1 1)) (w':=b2) z z (dH krA b3 b4) ?_
 replace b:=b.aD
 obtain ⟨b5,b6,c⟩:=bn c
 refine wc call187 [b0,I6 g.1,(.slice (some ⟨F,0,none⟩) 1 1)] z z z (kdI (nX b.to2 b6) fun b7 e9 b=>mp z (mF z fI ?_))
 replace b:=b.ah
 refine b1k b7 b z (oS b.sv1) sI fun f0 b=>nt ?_
 cases c
 exact ⟨_,B,fy z,(cQ (Pt f 0) (({l:=b5}:bE)) b.ah.ah z).ah.ah.cv⟩
}
 refine fun Z c=>al (tn ?_)
 cases c
 exact ⟨i,B,fy z,b.ah.ah.cv⟩
}
 rintro _ f1 ⟨n,c,⟨f2,rfl⟩,b⟩
 dsimp only [jN] at c
 refine aj ?_
 obtain ⟨f3,f4,x,b8⟩:=dJ b
 replace x:=ez x
 subst x
 have b:=b8
 refine rg b 18 [0,1,3,7,0,0,32,96,224,0,0,0,1535,5631,13823,32767,65535,131071] [] mixed (sp 0 z z (sp 1 z z (sF 2 z z fI (sL 3 z z (·.bc0 z) (si 4 z z (sp 5 z z (sp 6 z z (sF 7 z z fI (sL 8 z z (·.bc0 z) (si 9 z z (si 10 z z (sh _ 11 z (fun w b=>xN z (b.ta 0 tz)) ?_))))))))))))
 obtain ⟨h,b9,c⟩:=bn c
 obtain ⟨G,H,A⟩:=aV b9
 refine sh _ 12 z (fun w b=>aJ z z uI sI b.sv1 G H) (sh _ 13 z (fun w b=>xG z fI z) (e1 14 z z fun w b=>?_))
 obtain ⟨f5,c1,f6⟩:=b.og1 A
 obtain ⟨f7,f8,rfl,f9,g0,-⟩:=c1
 replace b:=b.ah
 obtain ⟨g1,c2,b⟩:=b.sd (P:=prog) (t:=26) (y:=({h with seq:=a2}:aZ)) A 1 (.int .u64 a2) sI (Nat.le_of_ble_eq_true z) (oC z oN) (by rintro _ ⟨c3,c4,rfl,c5,c6,c7,c8⟩; exact ⟨c3,c4,rfl,c5,c6,c7,c8⟩)
 have J:=Gr A ({h with seq:=a2}:aZ)
 have c9:=Jy H g.1.toNat ({h with seq:=a2}:aZ)
 refine tu z (rn c2) (wn [11,9] b (pkr z z (fun w b=>xN z (b.ta 0 tz)) (pz aT)) (sh _ 15 z (fun w b=>aJ z z uI sI b.sv0 G c9) (sh _ 16 z (fun w b=>xG z fI z) (e1 17 z z fun w b=>?_))))
 obtain ⟨g2,d0,g3⟩:=b.og0 J
 obtain ⟨g4,g5,rfl,g6,g7,-⟩:=d0
 obtain ⟨g8,d1,b⟩:=b.sd (P:=prog) (t:=33) (y:=({cV:=({h with seq:=a2}:aZ).cV,seq:=({h with seq:=a2}:aZ).seq,r:=a3}:aZ)) J 2 (.agg #[I6 a3.E,U6 a3.ae,U6 a3.Index,j,k]) sI (Nat.le_of_ble_eq_true z) (oJ 3 z (oC (oS (ak o)) (oC (oS (ak p)) oN))) (by rintro _ ⟨g9,h0,rfl,h1,h2,h3,h4⟩; exact ⟨_,_,rfl,o,p,oS (ak o),oS (ak p)⟩)
 refine tu z (rn d1) (w0n b (bt ?_))
 refine fun w b=>tn (ww (mi z (nt (ar ?_))))
 cases c
 exact pI z z ⟨z,(aR (cQ (Pt f 0) (({l:=((n.l.set g.1.toNat ({h with seq:=a2}:aZ)).set g.1.toNat ({cV:=({h with seq:=a2}:aZ).cV,seq:=({h with seq:=a2}:aZ).seq,r:=a3}:aZ))}:bE)) b.ah z)).bF⟩
}
theorem qV {a0:(Option bE)} {p0:Value} {a1:Int} (a:St w0 w I [cX bV p0 a0] R) {r:(Int)} (b:fH a0 a1=some r) :
  Calls prog 61 #[p0,U6 a1] w fun e w'=>e = .returned (.int .u64 r)∧St w0 w' I [cX bV p0 a0] R:=by {
 rcases a0 with _ | d
 {
 dsimp only [fH] at b
 cases b
}
 replace a:=bQ a
 dsimp only [fH] at b
 refine c0 func61 z z (ww (mi z (nt (ww (mv (p0) z (mi z ?_))))))
 replace a:=aR a
 obtain ⟨c,f,b⟩:=bn b
 refine wc call148 [p0,U6 a1] z z z (kcI (nB a.to1 f) fun p a=>?_)
 replace a:=bQ a
 refine mv (.tuple #[I6 c.1,.bool c.2]) z (mi z (mb z (mi z (mb z (nt (aj (ww (mb z (mb z (nt (bw b z ?_ ?_)))))))))))
 {
 refine fun g b=>ww (mi z (nt (ar (bh ?_))))
 cases b
 exact pI z z ⟨z,(aR a).bF⟩
}
 refine fun g b=>al (tn (ww (mv (p0) z ?_)))
 obtain ⟨h,q,rfl,i⟩:=dJ a
 have a:=i
 refine mp z (mF z fI (mL z (a.bc0 z) (mi z ?_)))
 obtain ⟨s,j,b⟩:=bn b
 obtain ⟨k,l,m⟩:=aV j
 refine mz (aJ z z uI sI a.sv1 k l) (mz (xG z fI z) ?_)
 obtain ⟨t,n,o⟩:=a.og1 m
 obtain ⟨u,v,rfl,x,y,-⟩:=n
 refine mL z (o 1 _ z) (mi z (nt (ar ?_)))
 cases b
 exact pI z z ⟨z,(aR (cQ (Pt h 0) d a.ah.ah z)).bF⟩
}
theorem tj {a0:(Option ai)} {p0:Value} {a1:cy} (a:St w0 w I [cX aM p0 a0] R) {r:(bU)} (b:kz a0 a1=some r) :
  Calls prog 125 #[p0,.agg #[U6 a1.ab,U6 a1.Seq]] w fun e w'=>∃ (c:Value) (d:Value),e = .returned (.agg #[U1 r.Kind,U6 r.ID.ab,U6 r.ID.Seq,I6 r.R.E,U6 r.R.ae,U6 r.R.Index,c,d])∧St w0 w' I [bp aK c r.R.dT,bp (eC aH) d r.R.aX,cX aM p0 a0] R:=by {
 rcases a0 with _ | f
 {
 dsimp only [kz] at b
 cases b
}
 replace a:=bQ a
 dsimp only [kz] at b
 refine c0 func125 z z (ww ?_)
 obtain ⟨p,q,h,i,a⟩:=a.box [U6 a1.ab,U6 a1.Seq] 28
 refine wa h i ?_
 obtain ⟨s,t,j,k,a⟩:=a.box [Zb,Zu,Zu,Zi,Zu,Zu,Zs,Zs] 35
 refine wa j k (nt (aj (aj ?_)))
 obtain ⟨g,u,v,l,x,y,A,B,rfl,m⟩:=bC a.aD
 have a:=m
 refine rg a 10 [0,1,3,7,0,16,63,0,128,511] [] mixed (sp 0 z z (sp 1 z z (sF 2 z z fI (sL 3 z z (·.bc0 z) (sF 4 z z fI (sL 5 z z (·.bc9 z) (sF 7 z z fI (sL 8 z z (·.bc9 z) (e1 6 z z fun w a=>?_)))))))))
 replace a:=a.aA
 obtain ⟨C,n,b⟩:=bn b
 refine wec call61 [l,U6 a1.ab] z z (kcI (qV a.to1 n) fun D a=>wn [8,7] a (pL z z (·.bc9 z) (pF z z fI aT)) (sb 9 z z (bt ?_)))
 refine fun w a=>tn (bw b z ?_ ?_)
 {
 refine fun o b=>ww (mk (.agg #[Zb,Zu,Zu,Zi,Zu,Zu,Zs,Zs]) ?_)
 replace a:=a.bM
 refine bxk a z sI (oJ 8 z oN) fun F a=>nt (ar (bh ?_))
 replace a:=aR (aF (Pt g 0) f ((a.ba aK).ba (eC aH)).bR.bR.bR.bR.aW.bR.bR.bR z)
 cases b
 exact prI z (rN z (a.ul 0 tz)) ⟨(.slice none 0 0),Zs,z,a.ah.aD.eu⟩
}
 refine fun o b=>al (tn (ww (mz (xN (cs:=[U6 a1.ab,U6 a1.Seq]) z (a.AZ 0 z)) (mk (.agg #[I6 10,Zu,Zu,Zs,Zs]) (mk (.agg #[U1 4,U6 a1.ab,U6 a1.Seq,I6 10,Zu,Zu,Zs,Zs]) ?_)))))
 replace a:=a.bM
 refine bxk a z sI (oJ 8 z oN) fun G a=>nt (ar ?_)
 replace a:=aR (aF (Pt g 0) f ((a.ba aK).ba (eC aH)).bR.bR.bR.bR.aW.bR.bR.bR z)
 cases b
 exact prI z (rN z (a.ul 0 tz)) ⟨(.slice none 0 0),Zs,z,a.ah.aD.eu⟩
}
theorem qx {a0:(List dN)} {c:Value} (h:RdO cN R I c a0) (a:St w0 w I [] R) {r:(List dN)} (d:fw a0=some r) :
  Calls prog 126 #[c] w fun e w'=>∃ (i:Value),e = .returned (i)∧St w0 w' I [bp cN i r] R:=by {
 unfold fw at d
 obtain ⟨hg,d⟩:=cF d
 cases d
 have hsv:=yq h
 refine c0 func126 z z (ww (mv ((.slice none 0 0)) z (nt (aj (ww (mv (c) z (mb (yB z hsv z uI) (nt (kp (isNil c) (fun f=>?_) (fun f=>?_))))))))))
 {
 refine eG (cvb f) (ww (mv ((.slice none 0 0)) z (nt (ar (bh (dI [Zs] z (rc z bl) ?_))))))
 obtain rfl:=List.eq_nil_of_length_eq_zero (uW hsv f)
 exact ⟨_,z,(a.ba cN).bF⟩
}
 refine cJ (cvb f) (al (tn (ww ?_)))
 obtain ⟨b,j,ew,eb,a⟩:=a.lits (E:=cN) (xs:=[]) [] 156 0 z bT.nil
 refine cK (v:=(.slice (some ⟨b,0,none⟩) 0 0)) (w':=j) z z (dH krA ew eb) (mv (c) z ?_)
 obtain ⟨g,k,hr,a⟩:=bO Cw underlying47 a (Src.Jh a h) (cP hg z) 47
 refine cK (v:=g) (w':=k) z z (ck z z hr) (mv (g) z (nt (ar (dI [g] z (rc z bl) ?_))))
 rw [List.nil_append] at a
 exact ⟨_,z,a.bF⟩
}
theorem rQ {a0:bI} {c:Value} {a1:cy} (t:Rd cN R I c a0.dM) (a:St w0 w I [] R) {r:(Int)} (b:jZ a0 a1=some r) :
  Calls prog 129 #[.agg #[U6 a0.ID.ab,U6 a0.ID.Seq,I6 a0.E,U6 a0.ae,U6 a0.Index,U6 a0.bY,c],.agg #[U6 a1.ab,U6 a1.Seq]] w fun e w'=>e = .returned (.int .i64 r)∧St w0 w' I [] R:=by {
 unfold jZ at b
 refine c0 func129 z z (ww ?_)
 obtain ⟨u,x,i,j,a⟩:=a.box [U6 a0.ID.ab,U6 a0.ID.Seq,I6 a0.E,U6 a0.ae,U6 a0.Index,U6 a0.bY,c] 89
 refine wa i j ?_
 obtain ⟨y,A,k,l,a⟩:=a.box [U6 a1.ab,U6 a1.Seq] 28
 refine wa k l (mi z (nt (aj (rg a 15 [0,1,3,0,8,31,0,64,192,0,512,2047,4095,8191,16383] [] mixed (sF 0 z z fI (sF 1 z z fI (sL 2 z z (·.bc1 z) (sF 3 z z fI (sL 4 z z (·.bc0 z) (sF 6 z z fI (sF 7 z z fI (sL 8 z z (·.bc1 z) (sF 9 z z fI (sL 10 z z (·.bc0 z) (e1 5 z z fun w a=>bk b fun d m b=>wec call131 [U6 a0.ID.ab,U6 a1.ab] z z ?_)))))))))))))))
 refine kcO (gK a.to0 m) fun B a=>wn [10,9,8,7,6] a (pL z z (·.bc0 z) (pF z z fI (pL z z (·.bc1 z) (pF z z fI (pF z z fI aT))))) (e1 11 z z fun w a=>bk b fun f n b=>wec call131 [U6 a0.ID.Seq,U6 a1.Seq] z z (kcO (gK a.to0 n) fun C a=>w0n a (e1 12 z z fun w a=>?_)))
 obtain ⟨g,o,p,q,a⟩:=a.lits (E:=(cr .i64)) (xs:=[d,f]) [[I6 d],[I6 f]] 3 2 z (bT.cons z (bT.cons z bT.nil))
 refine cj (v:=(.slice (some ⟨g,0,none⟩) 2 2)) (w':=o) z (dH krA p q) (w0n a (e1 13 z z fun w a=>?_))
 obtain ⟨D,h,a⟩:=a.cz
 obtain ⟨F,s,b⟩:=bn b
 refine wec call130 [(.slice (some ⟨g,0,none⟩) 2 2)] z z (kcO (wC (a.jA h) a.to0 s) fun G a=>?_)
 replace a:=a.bo h
 refine w0n a (si 14 z z (bt ?_))
 refine fun w a=>tn (ar ?_)
 obtain rfl:=sj b
 exact pI z z ⟨z,a.cT⟩
}
theorem tm {a0:(Option ai)} {p0:Value} {a1:cy} (b:St w0 w I [cX aM p0 a0] R) {r:(Int×Bool)} (c:jl a0 a1=some r) :
  Calls prog 51 #[p0,.agg #[U6 a1.ab,U6 a1.Seq]] w fun e w'=>e = .returned (.tuple #[I6 r.1,.bool r.2])∧St w0 w' I [cX aM p0 a0] R:=by {
 rcases a0 with _ | d
 {
 dsimp only [jl] at c
 cases c
}
 replace b:=bQ b
 dsimp only [jl] at c
 refine c0 func51 z z (ww ?_)
 obtain ⟨C,c4,L,M,b⟩:=b.box [U6 a1.ab,U6 a1.Seq] 28
 refine wa L M (mi z (mb z (nt (aj ?_))))
 obtain ⟨v,l,m,p,q,g,s,t,rfl,N⟩:=bC b.ah
 have b:=N
 refine rg b 10 [0,1,3,7,0,31,63,63,255,511] [] mixed (sp 0 z z (sp 1 z z (sF 2 z z fI (sL 3 z z (·.bc0 z) (sh _ 4 z (fun w b=>xN (cs:=[U6 a1.ab,U6 a1.Seq]) z (b.Bk 0 z)) (e1 5 z z fun w b=>bk c fun G O c=>sB z (er call128 (caps:=[]) z (vs:=[g,.agg #[U6 a1.ab,U6 a1.Seq],.func (.func 129) #[] #[]]) z) (Calls.mono (show Calls prog 128 #[g,.agg #[U6 a1.ab,U6 a1.Seq],.func (.func 129) #[] #[]] _ (fun e w'=>∃ (x:Int) (y:Bool),(x,y)=G∧e = .returned (.tuple #[I6 x,.bool y])∧St w0 w' I [cells v [I6 d.wide,U6 d.cI,l,m,p,q,g,s,t],cX cA l d.store,cX cb m d.ft,cX bV p d.last,cX cH q d.book,bp bc g d.open_,bp cL s d.out,bp db t d.used,cells C [U6 a1.ab,U6 a1.Seq]] R) from ?_) ?_)))))))
 {
 clear c; have c:=O
 refine c0 func128 z z (ww ?_)
 obtain ⟨A,c5,P,Q,b⟩:=b.box [U6 a1.ab,U6 a1.Seq] 28
 refine wa P Q (mi z (mb z (nt (ww (mv (g) z (mz (bX z uI b.sv6) (mi z (nt (ww (mi z (mi z (mi z (nt ?_)))))))))))))
 obtain ⟨S,c,T⟩:=bn c
 refine cR (fun a w=>∃ (j:Int),(nv d a1) j=some G∧fz 49 [0,2,4,8,9] [g,.func (.func 129) #[] #[],Pt A 0,I6 ((d.open_).length:Int),I6 j] a∧St w0 w I [bp bc g d.open_,cells A [U6 a1.ab,U6 a1.Seq],cells v [I6 d.wide,U6 d.cI,l,m,p,q,g,s,t],cX cA l d.store,cX cb m d.ft,cX bV p d.last,cX cH q d.book,bp cL s d.out,bp db t d.used,cells C [U6 a1.ab,U6 a1.Seq]] R) ?_ ?_
 {
 refine au ?_
 obtain ⟨U,c⟩:=aS c
 refine bg (fun n a w=>∃ (u:Int) (k:Int),cU (jH d a1) n (u,k)=some S∧fz 49 [0,2,4,8,9,10] [g,.func (.func 129) #[] #[],Pt A 0,I6 ((d.open_).length:Int),I6 k,I6 u] a∧St w0 w I [cells A [U6 a1.ab,U6 a1.Seq],cells v [I6 d.wide,U6 d.cI,l,m,p,q,g,s,t],cX cA l d.store,cX cb m d.ft,cX bV p d.last,cX cH q d.book,bp bc g d.open_,bp cL s d.out,bp db t d.used,cells C [U6 a1.ab,U6 a1.Seq]] R) U ⟨((d.open_).length:Int),0,c,fy z,b⟩ ?_
 rintro c6 _ c7 ⟨u,k,c,⟨c8,rfl⟩,b⟩
 obtain ⟨c9,d0,rfl,c,D⟩:=aU c
 dsimp only [jH] at c
 refine aj (ww (mi z (mi z (mb z (nt (bw c z ?_ ?_))))))
 {
 refine fun V c=>al (tn (au (ww (mi z (mi z (mi z (mk (.int .u64 (u64.wrap (i64.wrap (k+u)))) (mi (xS deA z z) (mk (.int .i64 (i64.wrap (jq .u64 (u64.wrap (i64.wrap (k+u))) 1))) (mi z (nt (aj ?_))))))))))))
 replace b:=b.de
 obtain ⟨d1,F,b⟩:=b.cz
 refine rg b 8 [0,0,0,6,14,0,63,127] [] mixed (sz (.func (.func 129) #[] #[]) 0 z z (sz (g) 1 z z (si 2 z z ?_)))
 obtain ⟨h,W,c⟩:=bn c
 obtain ⟨X,Y,Z⟩:=aV W
 refine sh _ 3 z (fun w b=>aJ z z uI sI (b.rsv 0 z F) X Y) ?_
 obtain ⟨d2,b0,b1⟩:=bT.get F Z
 obtain ⟨H,rfl,b2,-⟩:=b1
 refine sh _ 4 z (fun w b=>xN (cs:=[U6 h.ID.ab,U6 h.ID.Seq,I6 h.E,U6 h.ae,U6 h.Index,U6 h.bY,H]) z (et (o:=0) (b.uy 0 z b0) z)) (sh _ 5 z (fun w b=>xN (cs:=[U6 a1.ab,U6 a1.Seq]) z (b.fO 0 z)) (e1 6 z z fun w b=>bk c fun d3 b3 c=>sB z (er call129 (caps:=[]) z (vs:=[.agg #[U6 h.ID.ab,U6 h.ID.Seq,I6 h.E,U6 h.ae,U6 h.Index,U6 h.bY,H],.agg #[U6 a1.ab,U6 a1.Seq]]) z) ?_))
 refine kcO (rQ (b2.mono cS) b.to0 b3) fun d4 b=>w0n b (sb 7 z z (bt ?_))
 intro w b
 replace b:=b.bo F
 refine tn (bw c z ?_ ?_)
 {
 refine fun b4 c=>wrl (mi z (mi z (mi z (dv (bJ (tn ?_))))))
 cases c
 exact ⟨_,nls,u,_,D,fy z,b.ca.ca.ca.aA.ca.ca.ca.ca.ca.ca.zi⟩
}
 refine fun b4 c=>wrl (mi z (mi z (dv (bJ (tn ?_)))))
 cases c
 exact ⟨_,nls,_,k,D,fy z,b.ca.ca.ca.aA.ca.ca.ca.ca.ca.ca.zi⟩
}
 refine fun V c=>bH (aQ (aQ ?_))
 replace c:=bz c D
 refine cZ (tn ?_)
 obtain rfl:=sj c
 exact ⟨k,T,fy z,b.ca.ca.ca.bM.bM.bM.bM.bM.bM.ca.zi⟩
}
 rintro _ d5 ⟨j,c,⟨d6,rfl⟩,b⟩
 dsimp only [nv] at c
 refine aj ?_
 obtain ⟨d7,B,b⟩:=b.cz
 refine rg b 16 [0,0,0,6,14,30,30,30,222,478,30,2046,4094,8190,4095,32767] [] mixed (si 0 z z (si 1 z z (si 2 z z (sb 3 z z (sb 4 z z (bs c ?_ ?_))))))
 {
 refine fun f c=>sgz (.func (.func 129) #[] #[]) 5 z f z (sgz g 6 z f z (sgz (I6 _) 7 z f z ?_))
 obtain ⟨i,b5,c⟩:=bn c
 obtain ⟨b6,b7,b8⟩:=aV b5
 refine sg _ 8 z f (fun w b=>aJ z z uI sI (b.rsv 0 z B) b6 b7) ?_
 obtain ⟨d8,b9,c1⟩:=bT.get B b8
 obtain ⟨J,rfl,c2,-⟩:=c1
 refine sg _ 9 z f (fun w b=>xN (cs:=[U6 i.ID.ab,U6 i.ID.Seq,I6 i.E,U6 i.ae,U6 i.Index,U6 i.bY,J]) z (et (o:=0) (b.uy 0 z b9) z)) (sg _ 10 z f (fun w b=>xN (cs:=[U6 a1.ab,U6 a1.Seq]) z (b.fO 0 z)) (iN 11 krA (nxe [12,13,14,15] krA z ((av z z z (cvb f)).trans z) ?_)))
 clear b
 intro w b
 obtain ⟨K,c3,c⟩:=bn c
 refine sB z (er call129 (caps:=[]) z (vs:=[.agg #[U6 i.ID.ab,U6 i.ID.Seq,I6 i.E,U6 i.ae,U6 i.Index,U6 i.bY,J],.agg #[U6 a1.ab,U6 a1.Seq]]) z) (kcO (rQ (c2.mono cS) b.to0 c3) fun d9 b=>wn [0] b (pz aT) (sgz (.bool _) 12 z f z (sh (.bool _) 13 z (fun w b=>bi f z z) (si 14 z z (sb 15 z z (bt ?_))))))
 intro w b
 replace b:=b.bo B
 refine tn (ar (dI [I6 j,.bool (K==0)] z (rc z (rc z bl)) ?_))
 cases c
 exact ⟨j,(K==0),z,z,b.ca.ca.ca.aA.ca.ca.ca.ca.ca.tU⟩
}
 refine fun f c=>so 5 z f (so 6 z f (so 7 z f (so 8 z f (so 9 z f (so 10 z f (so 11 z f (so 12 z f (sh (.bool _) 13 z (fun w b=>aL f z z) (si 14 z z (sb 15 z z (bt ?_)))))))))))
 intro w b
 replace b:=b.bo B
 refine tn (ar (dI [I6 j,.bool false] z (rc z (rc z bl)) ?_))
 cases c
 exact ⟨j,false,z,z,b.ca.ca.ca.aA.ca.ca.ca.ca.ca.tU⟩
}
 rintro _ e0 ⟨x,y,rfl,rfl,b⟩
 refine ⟨_,z,?_⟩
 try dsimp only at c
 refine w0n b (si 6 z z (sb 7 z z (si 8 z z (sb 9 z z (bt ?_)))))
 refine fun w b=>tn (ar ?_)
 cases c
 exact dI [I6 x,.bool y] z (rc z (rc z bl)) ⟨z,(aR (aF (Pt v 0) d b.aW.aW.aW.aW.aW.aW.aW.aW z)).bF⟩
}
theorem nr {a0:(List bI)} {d:Value} {a1:Int} {a2:(List bI)} {g:Value} (c:St w0 w I [bp bc d a0,bp bc g a2] R) {r:(List bI)} (q:eE a0 a1 a2=some r) :
  Calls prog 127 #[d,I6 a1,g] w fun e w'=>∃ (x:Value),e = .returned (x)∧St w0 w' I [bp bc x r] R:=by {
 unfold eE at q
 obtain ⟨hg,q⟩:=cF q
 cases q
 obtain ⟨A,S,hrm⟩:=uM hg
 obtain ⟨k,rfl⟩:=Int.eq_ofNat_of_zero_le A
 have hsm:=uO hrm
 have hk:k≤a0.length:=by omega
 have hs:∀ w:World,(sizeOf 89).run prog w = .ok bc.sz w:=sizeOf89
 have y:0<bc.sz:=Nat.le_of_ble_eq_true rfl
 have hov:∀ (args:Array Value) (w:World),(callFunc 188 args).run prog w=(Extern.SlicesOverlaps.overlaps #[65,65] #[4] args >>= fun v=>(pure (.value v):Sem Next)).run prog w:=by intro args w; kernel_rfl
 obtain ⟨css,hr,c⟩:=c.cz
 replace c:=c.ah
 obtain ⟨dss,hq,c⟩:=c.cz
 replace c:=c.ah
 obtain ⟨n,hn⟩:∃ n,css.length=n:=⟨_,rfl⟩
 obtain ⟨m,hm'⟩:∃ m,dss.length=m:=⟨_,rfl⟩
 have hln:a0.length=n:=hr.1.trans hn
 have hlm:a2.length=m:=hq.1.trans hm'
 rw [hln] at hsm hk
 rw [hlm] at hsm
 have hsv:dQ d n:=by have:=c.dy.2; rwa [hn] at this
 have hsq:dQ g m:=by have:=c.ah.dy.2; rwa [hm'] at this
 have hoc:=hr.xE
 have hoq:=hq.xE
 have s:=wrap_add (a:=n) (b:=m) omA
 have t:=wrap_add (a:=k) (b:=m) omA
 have B:=sY (a:=n+m) (b:=k) omA omA
 have hrb:=cP (b:=72) hrm rfl
 rw [hln,hlm] at hrb
 refine c0 func127 z z (ww (mv ((.slice none 0 0)) z (nt (ww (mv (d) z (mi z (mv ((dR bc.sz d k n)) (dr (lo:=(k:Nat)) (hi:=(n:Nat)) underlying65 hs z hsv omA omA omA .i64 .i64 (.inl z) (.inr ⟨z,z⟩)) (nt (ww (mv (g) z (mz (bX z underlying65 hsq) (mi z (nt (aj (ww (mi z (mb z (nt (kp ((m:Int)==0) (fun j=>?_) (fun j=>?_))))))))))))))))))))
 {
 refine eG (cvb j) (ww (mv (d) z (mv (d) z (nt (ar (bh (dI [d] z (rc z bl) ?_)))))))
 rw [xk (by rw [hlm]; exact j)]
 exact ⟨_,z,(c.bo hr).bF⟩
}
 refine cJ (cvb j) ?_
 have C:m≠0:=fun h=>by rw [h] at j; cases j
 have D:dss≠[]:=fun h=>C (by rw [← hm',h]; rfl)
 refine al (tn (ww (mv (d) z (mz (bX z underlying65 hsv) (mi z (nt (aj (ww (mi z (mi z (mb z (nt (kp ((k:Int)==(n:Int)) (fun o=>?_) (fun o=>?_))))))))))))))
 {
 refine eG (cvb o) (ww (mv (d) z (mv (g) z ?_)))
 replace c:=((c.bo hr).ah.bo hq).ah
 obtain ⟨f,u,hra,c⟩:=bO vC underlying65 c c.iL (cP hrm z) 65
 refine cK (v:=f) (w':=u) z z (ck z z hra) (mv (f) z (nt (ar (bh (dI [f] z (rc z bl) ?_)))))
 rw [xp (by rw [hln]; exact o)]
 exact ⟨_,z,c.bF⟩
}
 refine cJ (cvb o) ?_
 have hkn:k≠n:=fun h=>by rw [h] at o; simp at o
 have E:0<n:=by omega
 have F:css≠[]:=fun h=>by rw [h] at hn; simp at hn; omega
 refine al (tn (aj (ww (mi z (mi z (mi (eJ s z) (mv (d) z (mi (BY z underlying65 hsv) (mb z (nt (kp (decide (((n+m:Nat):Int)>(uQ d:Int))) (fun p=>?_) (fun p=>?_))))))))))))
 {
 refine eG (cvb p) (ww (mv (d) z (mi z (mv ((dR bc.sz d 0 k)) (dr (lo:=(0:Nat)) (hi:=(k:Nat)) underlying65 hs z hsv omA omA omA .i64 .i64 (.inr ⟨z,z⟩) (.inl z)) (mi z (mi z (mi (eJ s z) (mi z (mi (eJ B z) ?_)))))))))
 obtain ⟨f,u,hra,i,zss,hzl,c⟩:=vo vC underlying3 c k (n+m - k) omA (by have:=of_decide_eq_true p; omega) (by rw [show k+(n+m - k)=n+m by omega]; exact hrb) y 65
 rw [show k+(n+m - k)=n+m by omega] at i
 refine cK (v:=f) (w':=u) z z (ck z z hra) (mv (f) z (nt (ww (mv (f) z (mi z (mv ((dR bc.sz f k (n+m))) (dr (lo:=(k:Nat)) (hi:=((n+m):Nat)) underlying65 hs z i omA omA omA .i64 .i64 (.inl z) (.inr ⟨z,z⟩)) (mv (g) z ?_)))))))
 obtain ⟨G,H,c⟩:=dZ (P:=prog) (t2:=65) (ty:=3) underlying65 hs c c.aD k m (N:=n+m) olA olA omA olA (fk hoq _)
 refine cK (v:=.int .i64 (m:Nat)) (w':=G) z z (kq z z H) (nt (aj (rg c 9 [0,0,0,6,15,0,0,96,255] [] mixed (sz (f) 0 z z (si 1 z z (si 2 z z (sh (I6 _) 3 z (fun w c=>eJ t z) (sh ((dR bc.sz f (k+m) (n+m))) 4 z (fun w c=>dr (lo:=((k+m):Nat)) (hi:=((n+m):Nat)) underlying65 hs z i omA omA omA .i64 .i64 (.inl z) (.inr ⟨z,z⟩)) (sz (d) 5 z z (si 6 z z (sh ((dR bc.sz d k n)) 7 z (fun w c=>dr (lo:=(k:Nat)) (hi:=(n:Nat)) underlying65 hs z hsv omA omA omA .i64 .i64 (.inl z) (.inr ⟨z,z⟩)) (e1 8 z z fun w c=>?_))))))))))))
 obtain ⟨J,K,c⟩:=dZ (P:=prog) (t2:=65) (ty:=3) underlying65 hs c (c.ah.jP (l:=k) (h:=n) hk omA) (k+m) (n - k) (N:=n+m) olA olA omA olA (fk (kV (fk hoc _) _) _)
 refine cj (v:=.int .i64 ((n - k):Nat)) (w':=J) z (kq z z K) (w0n c (bt ?_))
 refine fun w c=>tn (ww (mv (f) z (mv (f) z (nt (ar (bh (dI [f] z (rc z bl) ?_)))))))
 rw [tE hn hm' hk hzl] at c
 exact ⟨_,z,(c.bo ((hr.take k).app (hq.app (hr.drop k)))).bF⟩
}
 refine cJ (cvb p) ?_
 have hup:n+m≤uQ d:=by have:=of_decide_eq_false p; omega
 obtain ⟨ess,hel,hem,hst'⟩:=c.zG (n+m) omA hup F
 rw [show n+m - css.length=m by omega] at hel
 have i:dQ (upV d (n+m)) (n+m):=by have:=hst'.dy.2; rwa [List.length_append,hn,hel] at this
 clear c
 have c:=hst'
 clear hst'
 refine al (tn (ww (mv (d) z (mi z (mi z (mi (eJ s z) (mv ((upV d (n+m))) (tJ underlying65 hs z hsv z hup E) (mv ((upV d (n+m))) z (nt (aj (ww (mv (g) z (mv ((upV d (n+m))) z (mi z (mi z (mi (eJ t z) (mv ((dR bc.sz (upV d (n+m)) (k+m) (n+m))) (dr (lo:=((k+m):Nat)) (hi:=((n+m):Nat)) underlying65 hs z i omA omA omA .i64 .i64 (.inl z) (.inr ⟨z,z⟩)) (mb (BX z z z (hov _) (px z underlying65 hs c.ah (k+m) (N:=n+m) lnA omA D y)) (mb z (nt (eG z (aj (rg c 9 [0,0,0,6,15,0,0,96,255] [] mixed (sz ((upV d (n+m))) 0 z z (si 1 z z (si 2 z z (sh (I6 _) 3 z (fun w c=>eJ t z) (sh ((dR bc.sz (upV d (n+m)) (k+m) (n+m))) 4 z (fun w c=>dr (lo:=((k+m):Nat)) (hi:=((n+m):Nat)) underlying65 hs z i omA omA omA .i64 .i64 (.inl z) (.inr ⟨z,z⟩)) (sz ((upV d (n+m))) 5 z z (si 6 z z (sh ((dR bc.sz (upV d (n+m)) k (n+m))) 7 z (fun w c=>dr (lo:=(k:Nat)) (hi:=((n+m):Nat)) underlying65 hs z i omA omA omA .i64 .i64 (.inl z) (.inr ⟨z,z⟩)) (e1 8 z z fun w c=>?_))))))))))))))))))))))))))))))))
 obtain ⟨L,M,c⟩:=dZ (P:=prog) (t2:=65) (ty:=3) underlying65 hs c (c.jP (l:=k) (h:=n+m) omA lnA) (k+m) (n - k) (N:=n+m) olA olA omA olA (by rw [vj hn hm' hk hel]; exact kV hoc _)
 refine cj (v:=.int .i64 ((n - k):Nat)) (w':=L) z (kq z z M) (w0n c (bt ?_))
 refine fun w c=>tn (ww (mv ((upV d (n+m))) z (mi z (mv ((dR bc.sz (upV d (n+m)) k (n+m))) (dr (lo:=(k:Nat)) (hi:=((n+m):Nat)) underlying65 hs z i omA omA omA .i64 .i64 (.inl z) (.inr ⟨z,z⟩)) (mv (g) z ?_)))))
 obtain ⟨O,Q,c⟩:=dZ (P:=prog) (t2:=65) (ty:=3) underlying65 hs c c.ah k m (N:=n+m) olA olA omA olA (fk hoq _)
 refine cK (v:=.int .i64 (m:Nat)) (w':=O) z z (kq z z Q) (nt (ww (mv ((upV d (n+m))) z (mv ((upV d (n+m))) z (nt (ar (bh (dI [(upV d (n+m))] z (rc z bl) ?_))))))))
 rw [tL hn hm' hk hel] at c
 exact ⟨_,z,(c.bo ((hr.take k).app (hq.app (hr.drop k)))).bF⟩
}
theorem vX {a0:(Option ai)} {p0:Value} {a1:Int} {a2:aG} {u x y A B j k p:Value} (f8:Ro cp I u a2.br.dO) (f9:Ro fU I x a2.br.aX) (g0:Ro cp I y a2.br.dD) (g1:Ro (cr .u8) I A a2.br.Data) (g2:Ro cG I B a2.cw) (L:Ro aK I j a2.R.dT) (M:Ro (eC aH) I k a2.R.aX) (b6:Ro cN I p a2.dM) (b:St w0 w I [cX aM p0 a0] R) {r:(bU×(Option ai))} (c:iX a0 a1 a2=some r) :
  Calls prog 50 #[p0,U6 a1,.agg #[U1 a2.Kind,U6 a2.ID.ab,U6 a2.ID.Seq,U6 a2.ae,U6 a2.Index,I6 a2.E,U6 a2.br.ID.ab,U6 a2.br.ID.Seq,U6 a2.br.ae,u,x,y,A,B,I6 a2.R.E,U6 a2.R.ae,U6 a2.R.Index,j,k,U6 a2.bY,p,U6 a2.ap.ID,I6 a2.ap.dn,I6 a2.ap.To,F6 a2.ap.Lo,F6 a2.ap.Hi,U6 a2.ap.Authority,I6 a2.ap.cx,.bool a2.On]] w fun e w'=>∃ (I':HL) (X:Value) (Y:Value),e = .returned (.agg #[U1 r.1.Kind,U6 r.1.ID.ab,U6 r.1.ID.Seq,I6 r.1.R.E,U6 r.1.R.ae,U6 r.1.R.Index,X,Y])∧I.le I'∧Ro aK I' X r.1.R.dT∧Ro (eC aH) I' Y r.1.R.aX∧St w0 w' I' [cX aM p0 r.2] R:=by {
 rcases a0 with _ | d
 {
 dsimp only [iX] at c
 cases c
}
 replace b:=bQ b
 dsimp only [iX] at c
 refine c0 func50 z z ?_
 have m:=HL.le.refl I
 refine ww ?_
 obtain ⟨q,g3,b7,b8,b⟩:=b.box [U1 a2.Kind,U6 a2.ID.ab,U6 a2.ID.Seq,U6 a2.ae,U6 a2.Index,I6 a2.E,U6 a2.br.ID.ab,U6 a2.br.ID.Seq,U6 a2.br.ae,u,x,y,A,B,I6 a2.R.E,U6 a2.R.ae,U6 a2.R.Index,j,k,U6 a2.bY,p,U6 a2.ap.ID,I6 a2.ap.dn,I6 a2.ap.To,F6 a2.ap.Lo,F6 a2.ap.Hi,U6 a2.ap.Authority,I6 a2.ap.cx,.bool a2.On] 49
 refine wa b7 b8 ?_
 obtain ⟨s,g4,b9,c1,b⟩:=b.box [Zb,Zu,Zu,Zi,Zu,Zu,Zs,Zs] 35
 refine wa b9 c1 (nt (ww (mF z fI (mz (xN (cs:=[I6 a2.R.E,U6 a2.R.ae,U6 a2.R.Index,j,k]) z (b.fO 14 z)) ?_))))
 obtain ⟨t,g5,c2,c3,b⟩:=b.box [Zi,Zu,Zu,Zs,Zs] 33
 refine wa c2 c3 (bxk b z sI (oJ 3 z (oC (oS (ak L)) (oC (oS (ak M)) oN))) fun g6 b=>nt (ww (mF z fI (mL z (b.bc2 z) (mi z (mF z fI (byk (U6 a2.ae) b z sI (oC z oN) fun g7 b=>mF z fI (byk (U6 a1) b z sI (oC z oN) fun g8 b=>nt ?_))))))))
 obtain ⟨g9,c,N⟩:=bn c
 refine cR (fun a w=>∃ (g:Int) (C:(List cC)) (D:(List (List bP))) (n:Value) (o:Value),(jT a2 d a1) (g,C,D)=some r∧fz 103 [0,1,5,6,7] [p0,U6 a1,Pt q 0,Pt s 0,Pt t 0] a∧Ro aK I n C∧Ro (eC aH) I o D∧St w0 w I [aM p0 d,cells q [U1 a2.Kind,U6 a2.ID.ab,U6 a2.ID.Seq,U6 a2.ae,U6 a2.Index,I6 a2.E,U6 a2.br.ID.ab,U6 a2.br.ID.Seq,U6 a2.br.ae,u,x,y,A,B,I6 a2.R.E,U6 a2.R.ae,U6 a2.R.Index,j,k,U6 a2.bY,p,U6 a2.ap.ID,I6 a2.ap.dn,I6 a2.ap.To,F6 a2.ap.Lo,F6 a2.ap.Hi,U6 a2.ap.Authority,I6 a2.ap.cx,.bool a2.On],cells s [Zb,Zu,Zu,Zi,Zu,Zu,Zs,Zs],cells t [I6 g,U6 a2.ae,U6 a1,n,o]] R) ?_ ?_
 {
 refine aj ?_
 obtain ⟨O,h0,h1,h2,h3,h4,h5,h6,rfl,c4⟩:=bC b.aA
 have b:=c4
 refine eU b mixed krA (qh _ (fun w b=>xF z fI z) (qh _ (fun w b=>xL z (b.bc8 z)) (qz (.bool _) z (qz (.bool _) z (bs c ?_ ?_)))))
 {
 refine fun f c=>qg _ f (fun w b=>xF z fI z) (qg _ f (fun w b=>xL z (b.zp z)) (qgz (Pt _ _) f z (qgz (Pt _ _) f z (qg _ f (fun w b=>xF z fI z) (qg _ f (fun w b=>xL z (b.bc0 z)) (qgz (.bool _) f z (qh (.bool _) (fun w b=>bi f z z) (hK ?_))))))))
 refine fun w b=>tn (bw c z ?_ ?_)
 {
 refine fun c5 c=>wrl (mF z fI (mL z (b.zp z) (mi z (mk (.agg #[I6 9,U6 a2.ae,U6 a1,Zs,Zs]) ?_))))
 replace b:=b.bM
 refine bxk b z sI (oJ 5 z oN) fun h7 b=>nt ?_
 have c6:Ro aK I (.slice none 0 0) []:=dc
 have c7:Ro (eC aH) I (.slice none 0 0) []:=dc
 cases c
 exact ⟨_,([]),([]),Zs,Zs,N,fy z,c6,c7,(aF (Pt O 0) d b.bM.bM.bM.bM.bM.bM.bM.bM z).ah.aD.aA.aA.eQ⟩
}
 refine fun c5 c=>al (tn ?_)
 cases c
 exact ⟨_,_,_,j,k,N,fy z,L,M,(aF (Pt O 0) d b.aW.aW.aW.aW.aW.aW.aW.aW z).ah.aD.aA.aA.eQ⟩
}
 refine fun f c=>qo f (qo f (qo f (qo f (qo f (qo f (qo f (qh (.bool _) (fun w b=>aL f z z) (hK ?_))))))))
 refine fun w b=>tn (cJ z (al (tn ?_)))
 cases c
 exact ⟨_,_,_,j,k,N,fy z,L,M,(aF (Pt O 0) d b.aW.aW.aW.aW.aW.aW.aW.aW z).ah.aD.aA.aA.eQ⟩
}
 rintro _ h8 ⟨g,C,D,n,o,c,⟨h9,rfl⟩,F,G,b⟩
 dsimp only [jT] at c
 obtain ⟨i0,c,P⟩:=ee c
 refine cR (fun a w =>(mw d a2 g a1 C D) ()=some r∧fz 103 [0,1,5,6,7] [p0,U6 a1,Pt q 0,Pt s 0,Pt t 0] a∧St w0 w I [aM p0 d,cells q [U1 a2.Kind,U6 a2.ID.ab,U6 a2.ID.Seq,U6 a2.ae,U6 a2.Index,I6 a2.E,U6 a2.br.ID.ab,U6 a2.br.ID.Seq,U6 a2.br.ae,u,x,y,A,B,I6 a2.R.E,U6 a2.R.ae,U6 a2.R.Index,j,k,U6 a2.bY,p,U6 a2.ap.ID,I6 a2.ap.dn,I6 a2.ap.To,F6 a2.ap.Lo,F6 a2.ap.Hi,U6 a2.ap.Authority,I6 a2.ap.cx,.bool a2.On],cells s [Zb,Zu,Zu,Zi,Zu,Zu,Zs,Zs],cells t [I6 g,U6 a2.ae,U6 a1,n,o]] R) ?_ ?_
 {
 refine ww (mF z fI (mL z (b.bc3 z) (mb z (mb z (bs c ?_ ?_)))))
 {
 refine fun i c=>gg i (xF z fI z) (gg i (xF z fI z) (gg i (xL z (b.bc1 z)) (gb i z (mb (bi i z z) (nt (bw c z ?_ ?_))))))
 {
 refine fun c8 c=>ww (mk (.agg #[Zb,Zu,Zu,Zi,Zu,Zu,Zs,Zs]) ?_)
 replace b:=b.aD
 refine bxk b z sI (oJ 8 z oN) fun i1 b=>nt (ar (bh ?_))
 replace c:=bz c P
 have c9:Ro aK I (.slice none 0 0) []:=dc
 have d0:Ro (eC aH) I (.slice none 0 0) []:=dc
 replace b:=aR b.ah
 cases c
 exact prI z (rN z (b.fO 0 tz)) ⟨_,Zs,Zs,z,m,c9,d0,b.bF⟩
}
 refine fun c8 c=>al (tn ?_)
 cases c
 exact ⟨P,fy z,b.aA.aA.aA.aA.eQ⟩
}
 refine fun i c=>go i (go i (go i (go i (mb (aL i z z) (nt (cJ z (al (tn ?_))))))))
 cases c
 exact ⟨P,fy z,b.aA.aA.aA.aA.eQ⟩
}
 rintro _ i2 ⟨c,⟨i3,rfl⟩,b⟩
 dsimp only [mw] at c
 refine aj (aj ?_)
 obtain ⟨l,i4,i5,d1,i6,i7,i8,i9,rfl,d2⟩:=bC b
 have b:=d2
 refine rg b 13 [0,1,3,7,0,16,48,0,128,384,0,2047,4095] [] mixed (sp 0 z z (sp 1 z z (sF 2 z z fI (sL 3 z z (·.bc0 z) (sF 4 z z fI (sF 5 z z fI (sL 6 z z (·.bc8 z) (sF 7 z z fI (sF 8 z z fI (sL 9 z z (·.bc8 z) (sh _ 10 z (fun w b=>xN z (b.Lt 0 tz)) (e1 11 z z fun w b=>?_))))))))))))
 replace b:=b.aA
 obtain ⟨h,d3,c⟩:=bn c
 refine wec call124 [d1,U6 a2.ID.ab,U6 a2.ID.Seq,.agg #[I6 g,U6 a2.ae,U6 a1,n,o]] z z (kcI (rK (a3:=({E:=g,ae:=a2.ae,Index:=a1,dT:=C,aX:=D}:bB)) F G b.to1 d3) fun j0 b=>w0n b (sb 12 z z (bt ?_)))
 refine fun w b=>tn (bw c z ?_ ?_)
 {
 refine fun d4 c=>ww (mp z (mF z fI (mz (xN (cs:=[U6 a2.ID.ab,U6 a2.ID.Seq]) z (b.Bk 1 z)) ?_)))
 replace b:=aR (aF (Pt l 0) (({d with last:=h.2}:ai)) b.aW.aW.aW.aW.bj.aW.aW.aW z)
 obtain ⟨j1,d5,c⟩:=bn c
 refine wc call125 [Pt l 0,.agg #[U6 a2.ID.ab,U6 a2.ID.Seq]] z z z ((tj b.to1 d5).mono ?_)
 rintro _ j2 ⟨d6,d7,rfl,b⟩
 refine ⟨_,z,?_⟩
 replace b:=(bQ b.of3.aD).bj
 refine bxk b z sI (oJ 6 z (oC (oS b.sv2) (oC (oS b.sv3) oN))) fun j3 b=>nt (ar (bh ?_))
 replace b:=b.aD
 obtain ⟨j4,d8,Q,b⟩:=b.cO
 replace m:=m.trans d8
 replace b:=b.aD
 obtain ⟨j5,Z,d9,b⟩:=b.cO
 replace Q:=Q.mono (ro_le Z)
 replace m:=m.trans Z
 replace b:=aR b.ah
 cases c
 exact prI z (rN z (b.fO 0 tz)) ⟨_,d6,d7,z,m,Q,d9,b.bF⟩
}
 refine fun d4 c=>al (tn ?_)
 obtain ⟨e0,c,b0⟩:=bn c
 refine cR (fun a w=>∃ (S:HL) (T:ai),(lS a2 g a1 C D) T=some r∧fz 103 [5,6,7] [Pt q 0,Pt s 0,Pt t 0] a∧I.le S∧St w0 w S [cells q [U1 a2.Kind,U6 a2.ID.ab,U6 a2.ID.Seq,U6 a2.ae,U6 a2.Index,I6 a2.E,U6 a2.br.ID.ab,U6 a2.br.ID.Seq,U6 a2.br.ae,u,x,y,A,B,I6 a2.R.E,U6 a2.R.ae,U6 a2.R.Index,j,k,U6 a2.bY,p,U6 a2.ap.ID,I6 a2.ap.dn,I6 a2.ap.To,F6 a2.ap.Lo,F6 a2.ap.Hi,U6 a2.ap.Authority,I6 a2.ap.cx,.bool a2.On],cells s [Zb,Zu,Zu,Zi,Zu,Zu,Zs,Zs],cells t [I6 g,U6 a2.ae,U6 a1,n,o],aM (Pt l 0) T] R) ?_ ?_
 {
 have H:=HL.le.refl I
 refine ww (mF z fI (mL z (b.bc8 z) (mb z (nt (bw c z ?_ ?_)))))
 {
 refine fun e2 c=>ww (mF z fI (mz (xN (cs:=[U6 a2.ID.ab,U6 a2.ID.Seq]) z (b.Bk 1 z)) (mF z fI (mL z (b.zp z) (mF z fI (mL z (b.bc8 z) (mi z (mF z fI (mL z (b.bc8 z) (mk (.agg #[U6 a2.ID.ab,U6 a2.ID.Seq,I6 g,U6 a2.ae,U6 a1,U6 a2.bY,Zs]) ?_))))))))))
 obtain ⟨b1,j6,e3,e4,b⟩:=b.box [Zu,Zu,Zi,Zu,Zu,Zu,Zs] 89
 refine wa e3 e4 (bxk b z sI (oJ 7 z oN) fun j7 b=>nt ?_)
 obtain ⟨j8,c,b2⟩:=bn c
 refine cR (fun a w=>∃ (J:(List dN)) (K:Value),(mn d h a2 g a1) J=some e0∧fz 103 [0,5,6,7,8] [Pt l 0,Pt q 0,Pt s 0,Pt t 0,Pt b1 0] a∧St w0 w I [aM (Pt l 0) ({d with last:=h.2}:ai),cells q [U1 a2.Kind,U6 a2.ID.ab,U6 a2.ID.Seq,U6 a2.ae,U6 a2.Index,I6 a2.E,U6 a2.br.ID.ab,U6 a2.br.ID.Seq,U6 a2.br.ae,u,x,y,A,B,I6 a2.R.E,U6 a2.R.ae,U6 a2.R.Index,j,k,U6 a2.bY,p,U6 a2.ap.ID,I6 a2.ap.dn,I6 a2.ap.To,F6 a2.ap.Lo,F6 a2.ap.Hi,U6 a2.ap.Authority,I6 a2.ap.cx,.bool a2.On],cells s [Zb,Zu,Zu,Zi,Zu,Zu,Zs,Zs],cells t [I6 g,U6 a2.ae,U6 a1,n,o],cells b1 [U6 a2.ID.ab,U6 a2.ID.Seq,I6 g,U6 a2.ae,U6 a1,U6 a2.bY,K],bp cN K J] R) ?_ ?_
 {
 refine ww (mF z fI (mL z (b.MP z) (mb z (nt (bw c z ?_ ?_)))))
 {
 refine fun e5 c=>wrl (mF z fI (mL z (b.bc9 z) (bk c fun e6 e7 c=>wc call126 [p] z z z (kdI (qx (RdO.Aw b6 _) b.to0 e7) fun b3 j9 b=>mF z fI ?_))))
 replace b:=b.ah
 refine b1k b3 b z (oS b.sv1) sI fun k0 b=>nt ?_
 obtain rfl:=sj c
 exact ⟨e6,b3,b2,fy z,(aF (Pt l 0) (({d with last:=h.2}:ai)) b.ca.ca.ca.ca.de.ca.ca.ca z).aD.aD.bq.bq.bq.bq.lh⟩
}
 refine fun e5 c=>al (tn ?_)
 cases c
 exact ⟨([]),Zs,b2,fy z,(aF (Pt l 0) (({d with last:=h.2}:ai)) (b.ba cN).ca.ca.ca.ca.de.ca.ca.ca z).ah.aD.bq.bq.bq.bq.lh⟩
}
 rintro _ k1 ⟨J,K,c,⟨k2,rfl⟩,b⟩
 dsimp only [mn] at c
 refine ww (mp z (mF z fI (mz (xN (cs:=[U6 a2.ID.ab,U6 a2.ID.Seq]) z (b.fO 1 z)) ?_)))
 replace b:=aR b
 obtain ⟨U,e8,c⟩:=bn c
 refine wc call51 [Pt l 0,.agg #[U6 a2.ID.ab,U6 a2.ID.Seq]] z z z (kcI (tm b.to1 e8) fun k3 b=>?_)
 replace b:=bQ b
 refine mv (.tuple #[I6 U.1,.bool U.2]) z (mi z (mb z (mi z (mb z (nt ?_)))))
 obtain ⟨k4,k5,k6,k7,k8,e9,k9,l0,V,f0⟩:=bC b
 replace V:=ez V
 subst V
 have b:=f0
 refine rg b 12 [0,0,2,6,14,0,0,64,254,511,1023,2047] [] mixed (sp 0 z z (sp 1 z z (sp 2 z z (sF 3 z z fI (sL 4 z z (·.bc0 z) (si 5 z z (sh _ 6 z (fun w b=>xN z (b.MO 0 tz)) (e1 7 z z fun w b=>?_))))))))
 replace b:=b.rm
 obtain ⟨l1,f1,b4,b⟩:=b.cO
 replace H:=H.trans f1
 obtain ⟨b5,f2,f3,f4,b⟩:=b.lits (E:=bc) (xs:=[({a2 with E:=g,Index:=a1,dM:=J}:bI)]) [[U6 a2.ID.ab,U6 a2.ID.Seq,I6 g,U6 a2.ae,U6 a1,U6 a2.bY,K]] 89 1 z (bT.cons ⟨_,z,b4,oS (ak b4)⟩ bT.nil)
 refine cj (v:=(.slice (some ⟨b5,0,none⟩) 1 1)) (w':=f2) z (dH krA f3 f4) (wn [5,4,3,2,1,0] b (pz (pL z z (·.bc1 z) (pF z z fI (pz (pz (pz aT)))))) (e1 8 z z fun w b=>?_))
 replace b:=b.de
 obtain ⟨f5,f6,c⟩:=bn c
 refine wec call127 [e9,I6 U.1,(.slice (some ⟨b5,0,none⟩) 1 1)] z z (kdI (nr b.to2 f6) fun f7 l2 b=>wn [0] b (pz aT) (sp 9 z z (sF 10 z z fI (e1 11 z z fun w b=>?_))))
 replace b:=b.ah
 refine b1e f7 b z (oS b.sv1) sI fun l3 b=>w0n b (bt ?_)
 refine fun w b=>tn ?_
 cases c
 exact ⟨_,_,b0,fy z,H,(aF (Pt l 0) (({wide:=({d with last:=h.2}:ai).wide,cI:=({d with last:=h.2}:ai).cI,store:=({d with last:=h.2}:ai).store,ft:=({d with last:=h.2}:ai).ft,last:=({d with last:=h.2}:ai).last,book:=({d with last:=h.2}:ai).book,open_:=f5,out:=({d with last:=h.2}:ai).out,used:=({d with last:=h.2}:ai).used}:ai)) b.aW.aW.aA.aW.aW.aW.aW.aW z).aA.aA.aA.eQ⟩
}
 refine fun e2 c=>al (tn ?_)
 cases c
 exact ⟨_,_,b0,fy z,H,(aF (Pt l 0) (({d with last:=h.2}:ai)) b.aW.aW.aW.aW.bj.aW.aW.aW z).aA.aA.aA.eQ⟩
}
 rintro _ l4 ⟨S,T,c,⟨l5,rfl⟩,W,b⟩
 dsimp only [lS] at c
 replace F:=F.mono (ro_le W)
 replace G:=G.mono (ro_le W)
 replace m:=m.trans W
 refine ww (mF z fI (mz (xN (cs:=[U6 a2.ID.ab,U6 a2.ID.Seq]) z (b.fm 1 z)) (mz (xN z (b.ta 0 tz)) (wv (.agg #[U1 4,U6 a2.ID.ab,U6 a2.ID.Seq,I6 g,U6 a2.ae,U6 a1,n,o]) z z (by obtain ⟨_,_,hv_,_⟩:=(ak G); rw [hv_]; obtain ⟨_,_,hv_,_⟩:=(ak F); rw [hv_]; kernel_rfl) ?_))))
 replace b:=b.ah
 refine bxk b z sI (oJ 6 z (oC (oS (ak F)) (oC (oS (ak G)) oN))) fun l6 b=>nt (ar ?_)
 replace b:=aR b.aA
 cases c
 exact prI z (rN z (b.fO 0 tz)) ⟨_,n,o,z,m,F,G,b.bF⟩
}
end Go.Proofs.YtgnkkopjkgdieaaGreat
