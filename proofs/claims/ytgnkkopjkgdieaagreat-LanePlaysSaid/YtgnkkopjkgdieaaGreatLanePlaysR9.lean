/- A part of the proof. -/
import Derived.Test.YtgnkkopjkgdieaaGreatLanePlaysR8
set_option linter.unusedVariables false
set_option linter.unusedSimpArgs false
set_option maxRecDepth 100000
set_option maxHeartbeats 4000000
namespace Go.Proofs.YtgnkkopjkgdieaaGreat
open Go Go.V
open _root_.Go.Proofs.Tryz IntKind
variable {w0 w:World} {I:HL} {R:SP}
attribute [local irreducible] wpList Code.wp wpQuiet Calls bodyPost Oper.wp wpS Nx gE YieldsIn
theorem qR {a0:(Option ae)} {p0:Value} (a:St w0 w I [cE aD p0 a0] R) {r:((List bK))} (b:jd a0=some r) :
  Calls prog 87 #[p0] w fun e w'=>∃ (d:Value),e = .returned (d)∧St w0 w' I [aZ lW d r,cE aD p0 a0] R:=by {
 rcases a0 with _ | f
 {
 dsimp only [jd] at b
 cases b
}
 {
 replace a:=bD a
 dsimp only [jd] at b
 refine c0 func87 z ntmps87 (ww (mv ((.slice none 0 0)) z (nt (wp_seq (ww (mv (p0) z ?_))))))
 obtain ⟨g,k,h,l,m,n,o,p,rfl,i⟩:=bc a
 have a:=i
 refine mk (.bool false) (nt (bT z (wp_skip (tn (ww (mp z (mp z (mf z underlying111 z sizeOf103 (ml z isAgg103 (a.bc0 z) ?_)))))))))
 replace a:=a.ay
 obtain ⟨q,j,b⟩:=bn b
 refine wc call155 [h] z z z (kcb (sR a.to1 j) fun c s a=>?_)
 replace a:=a.of2
 refine mv (c) z (nt (wp_ret ?_))
 cases b
 exact aU [c] results87 (rc z ah) ⟨c,z,(aJ (aq (Pt g 0) f a.bH.bH.bH.bH.bH.cV.bH.bH z)).ab.cd⟩
}
}
theorem sS {a0:(Option ae)} {p0:Value} {a1:bK} (a:St w0 w I [cE aD p0 a0] R) {r:(al×Bool)} (c:kQ a0 a1=some r) :
  Calls prog 88 #[p0,.agg #[U6 a1.Session,U6 a1.Seq]] w fun e w'=>∃ (I':HL) (j:Value) (k:Value) (l:Value) (m:Value),e = .returned (.tuple #[.agg #[U6 r.1.ID.Session,U6 r.1.ID.Seq,U6 r.1.Epoch,j,k,l,m],.bool r.2])∧I.le I'∧Ro bV I' j r.1.Gets∧Ro gn I' k r.1.Scans∧Ro bV I' l r.1.Puts∧Ro (cg .u8) I' m r.1.Data∧St w0 w' I' [cE aD p0 a0] R:=by {
 rcases a0 with _ | s
 {
 dsimp only [kQ] at c
 cases c
}
 {
 replace a:=bD a
 dsimp only [kQ] at c
 refine c0 func88 z ntmps88 ?_
 have i:=HL.le.refl I
 refine ww ?_
 obtain ⟨E,F,t,u,a⟩:=a.box [U6 a1.Session,U6 a1.Seq] 28
 refine wa t u ?_
 obtain ⟨G,H,v,x,a⟩:=a.box [Zu,Zu,Zu,Zs,Zs,Zs,Zs] 46
 refine wa v x (mb z (nt (wp_seq (ww (mv (p0) z ?_)))))
 obtain ⟨y,J,A,K,L,M,N,O,rfl,B⟩:=bc a.ay
 have a:=B
 refine mk (.bool false) (nt (bT z (wp_skip (tn (wp_seq (rg a 10 [0,1,3,7,0,31,63,63,255,511] [] mixed (sp 0 z z (sp 1 z z (sf 2 z z underlying111 z sizeOf103 (sl 3 z z isAgg103 (fun w a=>a.bc0 z) (sh _ 4 z (fun w a=>av (cs:=[U6 a1.Session,U6 a1.Seq]) z isAgg28 sizeOf28 (a.vR 0 z)) (e1 5 z z fun w a=>?_))))))))))))
 replace a:=a.ay
 obtain ⟨b,C,c⟩:=bn c
 refine wec call56 [A,.agg #[U6 a1.Session,U6 a1.Seq]] z z ((mA a.to1 C).mono ?_)
 rintro _ P ⟨I247,d,f,g,h,rfl,D,n,o,p,q,a⟩
 refine ⟨_,z,?_⟩
 replace a:=a.of1
 replace i:=i.trans D
 refine w0n a (sz (.agg #[U6 b.1.ID.Session,U6 b.1.ID.Seq,U6 b.1.Epoch,d,f,g,h]) 6 z z (sb 7 z z (e1 8 z z fun w a=>?_)))
 replace a:=a.bH
 refine bxe a z sizeOf46 (oJ 3 z (oC (oS (ag n)) (oC (oS (ag o)) (oC (oS (ag p)) (oC (oS (ag q)) oN))))) fun Q a=>w0n a (sb 9 z z (bi ?_))
 intro w a
 refine tn (wp_ret ?_)
 replace a:=aJ (aq (Pt y 0) s a.bH.bH.bH.bH.bH.cV.bH.bH z)
 cases c
 exact aU [.agg #[U6 b.1.ID.Session,U6 b.1.ID.Seq,U6 b.1.Epoch,d,f,g,h],.bool b.2] results88 (bj (bF (cs:=[U6 b.1.ID.Session,U6 b.1.ID.Seq,U6 b.1.Epoch,d,f,g,h]) z isAgg46 sizeOf46 (a.eI 0 z)) (rc z ah)) ⟨_,d,f,g,h,z,i,n,o,p,q,a.bo⟩
}
}
theorem ll {a0:Int} (a:St w0 w I [] R) {r:(Nat)} (b:ni a0=some r) :
  Calls prog 90 #[I6 a0] w fun e w'=>e = .returned (.float .f64 r)∧St w0 w' I [] R:=by {
 unfold ni at b
 refine c0 func90 z ntmps90 (ww (mv (F6 _) z (nt (ww ?_))))
 obtain ⟨c,d,f,g,a⟩:=a.er (E:=bV) (xs:=[(0:Nat),(4607182418800017408:Nat),(13830554455654793216:Nat),(4612811918334230528:Nat),(9094988921128908188:Nat),(18318360957983683996:Nat),(4602678819172646912:Nat),(4613937818241073152:Nat)]) [[Zf],[F6 (4607182418800017408:Nat)],[F6 (13830554455654793216:Nat)],[F6 (4612811918334230528:Nat)],[F6 (9094988921128908188:Nat)],[F6 (18318360957983683996:Nat)],[F6 (4602678819172646912:Nat)],[F6 (4613937818241073152:Nat)]] 37 8 z (bz.cons z (bz.cons z (bz.cons z (bz.cons z (bz.cons z (bz.cons z (bz.cons z (bz.cons z bz.nil))))))))
 refine bY (v:=(.slice (some ⟨c,0,none⟩) 8 8)) (w':=d) z z (di (by kernel_rfl) f g) (mv ((.slice (some ⟨c,0,none⟩) 8 8)) z (nt (ww (mv ((.slice (some ⟨c,0,none⟩) 8 8)) z (mi z (mi (yM (by decide) z z) ?_))))))
 obtain ⟨h,i,b⟩:=bn b
 obtain ⟨j,k,l⟩:=aK i
 refine mz (az z z underlying43 sizeOf37 a.sv0 j k) (ml z isAgg37 (a.ol0 l (by rintro _ rfl; rfl)) (mv (F6 _) z (nt (wp_ret ?_))))
 obtain rfl:=sj b
 exact aU [F6 h] results90 (rc z ah) ⟨z,a.bQ⟩
}
theorem tC {a0:(Option ae)} {p0:Value} {a1:Nat} (a:St w0 w I [cE aD p0 a0] R) {r:(cp)} (b:lG a0 a1=some r) :
  Calls prog 21 #[p0,F6 a1] w fun e w'=>∃ (d:Value),e = .returned (.agg #[.bool r.Has,d])∧St w0 w' I [aZ (cg .u8) d r.Val,cE aD p0 a0] R:=by {
 rcases a0 with _ | g
 {
 dsimp only [lG] at b
 cases b
}
 {
 replace a:=bD a
 dsimp only [lG] at b
 refine c0 func21 z ntmps21 (ww ?_)
 obtain ⟨n,o,h,i,a⟩:=a.box [.bool false,Zs] 61
 refine wa h i (nt (wp_seq (ww (mv (p0) z ?_))))
 obtain ⟨j,k,p,q,s,t,u,v,rfl,l⟩:=bc a.ab
 have a:=l
 refine mk (.bool false) (nt (bT z (wp_skip (tn (ww (mp z (mp z (mf z underlying111 z sizeOf101 (ml z isAgg101 (a.bc0 z) (mv (F6 _) z ?_))))))))))
 replace a:=a.ab
 obtain ⟨f,m,b⟩:=bn b
 refine wc call60 [k,F6 a1,U6 18446744073709551615] z z z (kcb (mZ a.to1 m) fun c x a=>?_)
 replace a:=a.of2.bO
 refine bxk a z sizeOf61 (oC z (oC (oS a.sv1) oN)) fun y a=>nt (wp_ret ?_)
 replace a:=aJ (aq (Pt j 0) g a.bO.bO.bO.bO.bO.bO.bH.bO z)
 obtain rfl:=sj b
 exact aU [.agg #[.bool f.Has,c]] results21 (bj (bF (cs:=[.bool f.Has,c]) z isAgg61 sizeOf61 (a.eI 0 z)) ah) ⟨c,z,a.ay.cd⟩
}
}
theorem oQ {a0:(Option ae)} {p0:Value} {a1:Int} (b:St w0 w I [cE aD p0 a0] R) {r:(Int)} (a:fq a0 a1=some r) :
  Calls prog 63 #[p0,U6 a1] w fun e w'=>e = .returned (.int .i64 r)∧St w0 w' I [cE aD p0 a0] R:=by {
 rcases a0 with _ | d
 {
 dsimp only [fq] at a
 cases a
}
 {
 replace b:=bD b
 dsimp only [fq] at a
 refine c0 func63 z ntmps63 (ww (mi z (nt (wp_seq (wp_block (ww (mv (p0) z ?_)))))))
 obtain ⟨c,i,j,k,l,m,n,o,rfl,f⟩:=bc b
 have b:=f
 refine mk (.bool false) (mb z (wv (.int .u64 a1) ((ar z z z z).trans z) z z (wv (Pt c 0) ((ar z z z z).trans z) z z (wv (Pt c 0) ((ar z z z z).trans z) z z (wv (Pt c 1) ((ar z z z z).trans z) z (aO z underlying111 z sizeOf26 z) (wv (.int .u64 d.epoch) ((ar z z z z).trans z) z (ao z isAgg26 (b.bc0 z)) (wv (.bool (decide (a1≥d.epoch))) ((ar z z z z).trans z) z z (mb (aE z z z) (mb z (nt (bw a z ?_ ?_)))))))))))
 {
 intro g a
 refine ww (mi z (nt (wp_ret (dj (aI ?_)))))
 cases a
 exact aU [I6 2] results63 (rc z ah) ⟨z,(aJ (aq (Pt c 0) d b.aG.aG.aG.aG.aG.aG.aG.aG z)).bo⟩
}
 {
 intro g a
 refine ww (mi z (mi z (mi z (mp z (mp z (mf z underlying111 z sizeOf26 (ml z isAgg26 (b.bc0 z) (mb z (mb z (nt (bw a z ?_ ?_)))))))))))
 {
 intro h a
 refine ww (mi z (nt (wp_ret (dj (aI ?_)))))
 cases a
 exact aU [I6 9] results63 (rc z ah) ⟨z,(aJ (aq (Pt c 0) d b.aG.aG.aG.aG.aG.aG.aG.aG z)).bo⟩
}
 {
 intro h a
 refine wp_skip (bB (tn (ww (mi z (nt (wp_ret ?_))))))
 cases a
 exact aU [Zi] results63 (rc z ah) ⟨z,(aJ (aq (Pt c 0) d b.aG.aG.aG.aG.aG.aG.aG.aG z)).bo⟩
}
}
}
}
theorem tH {a0:(Option ae)} {p0:Value} {a1:Nat} {a2:Int} (a:St w0 w I [cE aD p0 a0] R) {r:(cp×Int)} (b:lL a0 a1 a2=some r) :
  Calls prog 25 #[p0,F6 a1,U6 a2] w fun e w'=>∃ (d:Value),e = .returned (.tuple #[.agg #[.bool r.1.Has,d],I6 r.2])∧St w0 w' I [aZ (cg .u8) d r.1.Val,cE aD p0 a0] R:=by {
 rcases a0 with _ | g
 {
 dsimp only [lL] at b
 cases b
}
 {
 replace a:=bD a
 dsimp only [lL] at b
 refine c0 func25 z ntmps25 (ww ?_)
 obtain ⟨q,s,h,i,a⟩:=a.box [.bool false,Zs] 61
 refine wa h i (mi z (nt (wp_seq (ww (mv (p0) z (mi z ?_))))))
 replace a:=aJ a.ab
 obtain ⟨j,k,b⟩:=bn b
 refine wc call63 [p0,U6 a2] z z z (kca (oQ a.to1 k) fun t a=>?_)
 replace a:=bD a.of1
 refine mi z (nt (ww (mi z (mb z (nt (bw b z ?_ ?_))))))
 {
 intro l b
 refine ww (mk (.agg #[.bool false,Zs]) (mi z ?_))
 replace a:=a.ab
 refine bxk a z sizeOf61 (oC z (oC z oN)) fun u a=>mi z (nt (wp_ret (aI ?_)))
 replace a:=aJ ((a.aX (cg .u8)).ay)
 cases b
 exact aU [.agg #[.bool false,Zs],I6 j] results25 (bj (bF (cs:=[.bool false,Zs]) z isAgg61 sizeOf61 (a.pQ 0 z)) (rc z ah)) ⟨(.slice none 0 0),z,a.ab.cd⟩
}
 {
 intro l b
 refine wp_skip (tn (ww (mv (p0) z ?_)))
 obtain ⟨m,n,v,x,y,A,B,C,rfl,o⟩:=bc a
 have a:=o
 refine mp z (mf z underlying111 z sizeOf101 (ml z isAgg101 (a.bc0 z) (mv (F6 _) z (mi z ?_))))
 replace a:=a.ab
 obtain ⟨f,p,b⟩:=bn b
 refine wc call60 [n,F6 a1,U6 a2] z z z (kcb (mZ a.to1 p) fun c D a=>?_)
 replace a:=a.of2.bO
 refine bxk a z sizeOf61 (oC z (oC (oS a.sv1) oN)) fun E a=>mi z (nt (wp_ret ?_))
 replace a:=aJ (aq (Pt m 0) g a.bO.bO.bO.bO.bO.bO.bH.bO z)
 cases b
 exact aU [.agg #[.bool f.Has,c],Zi] results25 (bj (bF (cs:=[.bool f.Has,c]) z isAgg61 sizeOf61 (a.eI 0 z)) (rc z ah)) ⟨c,z,a.ay.cd⟩
}
}
}
theorem tB {a0:(Option ae)} {p0:Value} {a1:Int} (b:St w0 w I [cE aD p0 a0] R) {r:((List cW))} (c:lJ a0 a1=some r) :
  Calls prog 15 #[p0,I6 a1] w fun e w'=>∃ (q:Value),e = .returned (q)∧St w0 w' I [aZ cb q r,cE aD p0 a0] R:=by {
 rcases a0 with _ | f
 {
 dsimp only [lJ] at c
 cases c
}
 {
 replace b:=bD b
 dsimp only [lJ] at c
 refine c0 func15 z ntmps15 (ww (mv ((.slice none 0 0)) z (nt (ww (mv ((.slice none 0 0)) z (nt (wp_seq (ww (mv (p0) z ?_)))))))))
 obtain ⟨s,t,u,x,y,A,i,B,rfl,C⟩:=bc b
 have b:=C
 refine mk (.bool false) (nt (bT z (wp_skip (tn (wp_seq (ww (mp z (mp z (mf z underlying111 z sizeOf50 (ml z isAgg50 (b.bc0 z) (mz (bW z underlying50 b.sv6) (mi z (nt (wp_block ?_))))))))))))))
 replace b:=b.aX cb
 obtain ⟨D,c⟩:=aS c
 refine bf (fun n a w=>∃ (j:Int) (h:(List cW)) (g:Value),cP (im f a1) n (j,h)=some r∧fz 30 [1,5,14,15,16] [I6 a1,g,i,I6 ((f.out).length:Int),I6 j] a∧St w0 w I [aZ cb g h,cells s [I6 f.wide,U6 f.epoch,t,u,x,y,A,i,B],cE cI t f.store,cE bP u f.locks,cE ca x f.last,cE cL y f.book,aZ aH A f.open_,aZ cb i f.out,aZ cH B f.used] R) D ⟨0,[],Zs,c,fy z,b⟩ ?_
 rintro b0 _ b1 ⟨j,h,g,c,⟨b2,rfl⟩,b⟩
 obtain ⟨b3,b4,rfl,c,k⟩:=aV c
 dsimp only [im] at c
 refine ww (mb z (nt (wp_seq (bw c z ?_ ?_))))
 {
 intro F c
 refine wp_skip (tn (wp_seq (wp_block (ww ?_))))
 obtain ⟨d,G,c⟩:=bn c
 obtain ⟨H,J,K⟩:=aK G
 refine mz (az z z underlying50 sizeOf53 b.sv7 H J) ?_
 obtain ⟨b5,L,M⟩:=b.og7 K
 obtain ⟨l,rfl,m,-⟩:=L
 refine mz (av (cs:=[I6 d.To,U6 d.N,U6 d.Rule,U6 d.Epoch,F6 d.W.At,.bool d.W.Del,l]) z isAgg53 sizeOf53 (dO (o:=0) M z)) ?_
 obtain ⟨b6,b7,O,P,b⟩:=b.box [Zi,Zu,Zu,Zu,Zf,.bool false,Zs] 53
 refine wa O P (bxk b z sizeOf53 (oJ 6 z (oC (oS (ag m)) oN)) fun b8 b=>nt (ww (mf z underlying53 z sizeOf3 (ml z isAgg3 (b.bc0 z) (mi z (mb z (nt (bw c z ?_ ?_))))))))
 {
 intro Q c
 refine wrl (mv (g) z (mz (av (cs:=[I6 d.To,U6 d.N,U6 d.Rule,U6 d.Epoch,F6 d.W.At,.bool d.W.Del,l]) z isAgg53 sizeOf53 (b.eD 0 z)) ?_))
 obtain ⟨S,T,U,V,b⟩:=b.er (E:=cb) (xs:=[d]) [[I6 d.To,U6 d.N,U6 d.Rule,U6 d.Epoch,F6 d.W.At,.bool d.W.Del,l]] 53 1 z (bz.cons ⟨_,z,m,oS (ag m)⟩ bz.nil)
 refine bY (v:=(.slice (some ⟨S,0,none⟩) 1 1)) (w':=T) z z (di (by kernel_rfl) U V) ?_
 obtain ⟨X,c⟩:=cw c
 replace b:=b.ay
 obtain ⟨p,Y,Z,b⟩:=bE sD underlying50 b b.jr (cF X z) 50
 refine bY (v:=p) (w':=Y) z z (bU z z Z) (mv (p) z (dk (bB (tn (wrl (mi z (mi z (nt ?_))))))))
 cases c
 exact ⟨_,nls,_,(h++([d])),p,k,fy z,b.bq.bq.bq.bq.bq.bq.bq.bq.bH.ri⟩
}
 {
 intro Q c
 refine wp_skip (bB (tn (wrl (mi z (mi z (nt ?_))))))
 cases c
 exact ⟨_,nls,_,h,g,k,fy z,b.bO.bO.bO.bO.bO.bO.bO.bO.bO.ri⟩
}
}
 {
 intro F c
 refine wp_exit (aQ (aQ ?_))
 replace c:=bg c k
 refine cZ (tn (ww (mv (g) z (mv (g) z (nt (wp_ret ?_))))))
 cases c
 exact aU [g] results15 (rc z ah) ⟨g,z,(aJ (aq (Pt s 0) f b.bH.bH.bH.bH.bH.bH.bH.bH z)).ab.cd⟩
}
}
}
theorem tw {a0:ai} {p0:Value} {a1:Int} (b:St w0 w I [aL p0 a0] R) {r:((List cW))} (c:nK a0 a1=some r) :
  Calls prog 92 #[p0,I6 a1] w fun e w'=>∃ (s:Value),e = .returned (s)∧St w0 w' I [aZ cb s r,aL p0 a0] R:=by {
 unfold nK at c
 refine c0 func92 z ntmps92 (ww (mv ((.slice none 0 0)) z (nt (ww (mv ((.slice none 0 0)) z (nt (wp_seq (ww (mi z (nt (wp_block ?_)))))))))))
 replace b:=b.aX cb
 obtain ⟨B,c⟩:=aS c
 refine bf (fun n a w=>∃ (g:(List cW)) (h:Int) (f:Value),cP (ij a0 a1) n (g,h)=some r∧fz 37 [0,1,5,6] [p0,I6 a1,f,I6 h] a∧St w0 w I [aZ cb f g,aL p0 a0] R) B ⟨[],0,Zs,c,fy z,b⟩ ?_
 rintro T _ U ⟨g,h,f,c,⟨V,rfl⟩,b⟩
 obtain ⟨X,Y,rfl,c,i⟩:=aV c
 dsimp only [ij] at c
 refine wp_seq (ww (mi z (mv (p0) z ?_)))
 obtain ⟨j,Z,b0,b1,b2,b3,b4,b5,⟨rfl,k,l,m,p⟩,C⟩:=bd b.ab
 have b:=C
 refine mp z (mf z underlying130 z sizeOf50 (ml z isAgg50 (b.bc0 z) (mz (bW z underlying50 b.sv2) (mb z (nt (bw c z ?_ ?_))))))
 {
 intro D c
 refine wp_skip (tn (wp_seq (wp_block (ww (mp z (mp z (mf z underlying130 z sizeOf50 (ml z isAgg50 (b.bc0 z) (mi z ?_)))))))))
 obtain ⟨d,F,c⟩:=bn c
 obtain ⟨t,u,G⟩:=aK F
 refine mz (az z z underlying50 sizeOf53 b.sv2 t u) (mz (aR z underlying53 z sizeOf3 z) ?_)
 obtain ⟨b6,H,x⟩:=b.og2 G
 obtain ⟨y,rfl,A,-⟩:=H
 refine ml z isAgg3 (x 0 _ z) (mi z (mb z (nt (bw c z ?_ ?_))))
 {
 intro J c
 refine wrl (mv (f) z (mp z (mp z (mf z underlying130 z sizeOf50 (ml z isAgg50 (b.bc0 z) (mi z (mz (az z z underlying50 sizeOf53 b.sv2 t u) (mz (av (cs:=[I6 d.To,U6 d.N,U6 d.Rule,U6 d.Epoch,F6 d.W.At,.bool d.W.Del,y]) z isAgg53 sizeOf53 (dO (o:=0) x z)) ?_))))))))
 obtain ⟨K,L,M,O,b⟩:=b.er (E:=cb) (xs:=[d]) [[I6 d.To,U6 d.N,U6 d.Rule,U6 d.Epoch,F6 d.W.At,.bool d.W.Del,y]] 53 1 z (bz.cons ⟨_,z,A,oS (ag A)⟩ bz.nil)
 refine bY (v:=(.slice (some ⟨K,0,none⟩) 1 1)) (w':=L) z z (di (by kernel_rfl) M O) ?_
 obtain ⟨P,c⟩:=cw c
 replace b:=b.aW
 obtain ⟨q,Q,S,b⟩:=bE sD underlying50 b b.jr (cF P z) 50
 refine bY (v:=q) (w':=Q) z z (bU z z S) (mv (q) z (dk (bB (tn (wrl (mi z (mi z (mi z (nt ?_)))))))))
 cases c
 exact ⟨_,nls,(g++([d])),_,q,i,fy z,(aj (Pt j 0) a0 b.aW.aW.aW.aW ⟨z,k,l,m,p⟩).ab.cd⟩
}
 {
 intro J c
 refine wp_skip (bB (tn (wrl (mi z (mi z (mi z (nt ?_)))))))
 cases c
 exact ⟨_,nls,g,_,f,i,fy z,(aj (Pt j 0) a0 b.ap.ap.ap.ap ⟨z,k,l,m,p⟩).ab.cd⟩
}
}
 {
 intro D c
 refine wp_exit (aQ (aQ ?_))
 replace c:=bg c i
 refine cZ (tn (ww (mv (f) z (mv (f) z (nt (wp_ret ?_))))))
 cases c
 exact aU [f] results92 (rc z ah) ⟨f,z,(aj (Pt j 0) a0 b.ap.ap.ap.ap ⟨z,k,l,m,p⟩).ab.cd⟩
}
}
theorem sN {a0:(List cW)} {i:Value} {a1:(List cW)} {j:Value} (m:Ro cb I i a0) (p:Ro cb I j a1) (b:St w0 w I [] R) {r:(Bool)} (c:kX a0 a1=some r) :
  Calls prog 91 #[i,j] w fun e w'=>e = .returned (.bool r)∧St w0 w' I [] R:=by {
 unfold kX at c
 refine c0 func91 z ntmps91 (ww (mb z (nt (wp_seq (ww (mv (i) z (mz (bW z underlying50 (ag m)) (mv (j) z (mz (bW z underlying50 (ag p)) (mb z (nt (bw c z ?_ ?_))))))))))))
 {
 intro T c
 cases c
}
 {
 intro T c
 refine wp_skip (tn (wp_seq (ww (mi z (nt (wp_block ?_))))))
 obtain ⟨U,c⟩:=aS c
 refine bf (fun n a w=>∃ (A:Int),cP (jh a0 a1) n A=some r∧fz 83 [0,1,5] [i,j,I6 A] a∧St w0 w I [] R) U ⟨0,c,fy z,b⟩ ?_
 rintro d0 _ d1 ⟨A,c,⟨d2,rfl⟩,b⟩
 obtain ⟨d3,V,rfl,c,H⟩:=aV c
 dsimp only [jh] at c
 refine wp_seq (ww (mi z (mv (i) z (mz (bW z underlying50 (ag m)) (mb z (nt (bw c z ?_ ?_)))))))
 {
 intro X c
 refine wp_skip (tn (wp_seq (wp_block (wp_seq ?_))))
 obtain ⟨d4,c,J⟩:=bn c
 refine qT (fun a w=>∃ (G:Bool),(kC A) G=some V∧fz 83 [0,1,5,82] [i,j,I6 A,.bool G] a∧St w0 w I [] R) ?_ ?_
 {
 refine rg b 66 [0,0,3,7,15,0,0,96,224,480,1023,2047,4095,4095,16383,32767,65535,4095,4095,397311,921599,1970175,4194303,8388607,16777215,33554431,33554431,134217727,268435455,536870911,33554431,33554431,3254779903,7549747199,16139681791,34359738367,68719476735,137438953471,274877906943,274877906943,1099511627775,2199023255551,4398046511103,274877906943,274877906943,26663156973567,61847529062399,132216273240063,281474976710655,562949953421311,1125899906842623,2251799813685247,2251799813685247,9007199254740991,18014398509481983,36028797018963967,72057594037927935,2251799813685247,2251799813685247,434597364041252863,1011058116344676351,2163979620951523327,4469822630165217279,9223372036854775807,18446744073709551615,36893488147419103231] [] mixed (sz (i) 0 z z (si 1 z z ?_))
 obtain ⟨k,Y,c⟩:=bn c
 obtain ⟨q,s,Z⟩:=aK Y
 refine sh _ 2 z (fun w b=>az z z underlying50 sizeOf53 (ag m) q s) (sh _ 3 z (fun w b=>aR z underlying53 z sizeOf3 z) ?_)
 obtain ⟨d5,b0,t⟩:=Ro.jV m Z
 obtain ⟨B,rfl,C,-⟩:=b0
 refine sl 4 z z isAgg3 (fun w b=>(t lr b) 0 _ z) (sz (j) 5 z z (si 6 z z ?_))
 obtain ⟨l,b1,c⟩:=bn c
 obtain ⟨u,x,b2⟩:=aK b1
 refine sh _ 7 z (fun w b=>az z z underlying50 sizeOf53 (ag p) u x) (sh _ 8 z (fun w b=>aR z underlying53 z sizeOf3 z) ?_)
 obtain ⟨d6,b3,y⟩:=Ro.jV p b2
 obtain ⟨D,rfl,F,-⟩:=b3
 refine sl 9 z z isAgg3 (fun w b=>(y lr b) 0 _ z) (sb 10 z z (sb 11 z z (bs c ?_ ?_)))
 {
 intro f c
 cases c
}
 {
 intro f c
 refine sgz i 12 z f z (sgz (I6 _) 13 z f z (sg _ 14 z f (fun w b=>az z z underlying50 sizeOf53 (ag m) q s) (sg _ 15 z f (fun w b=>aR z underlying53 z sizeOf26 z) (sg _ 16 z f (fun w b=>ao z isAgg26 ((t lr b) 1 _ z)) (sgz j 17 z f z (sgz (I6 _) 18 z f z (sg _ 19 z f (fun w b=>az z z underlying50 sizeOf53 (ag p) u x) (sg _ 20 z f (fun w b=>aR z underlying53 z sizeOf26 z) (sg _ 21 z f (fun w b=>ao z isAgg26 ((y lr b) 1 _ z)) (sgz (.bool _) 22 z f z (sh (.bool _) 23 z (fun w b=>aE f z z) (sb 24 z z (bs c ?_ ?_)))))))))))))
 {
 intro g c
 cases c
}
 {
 intro g c
 refine sgz i 25 z g z (sgz (I6 _) 26 z g z (sg _ 27 z g (fun w b=>az z z underlying50 sizeOf53 (ag m) q s) (sg _ 28 z g (fun w b=>aR z underlying53 z sizeOf26 z) (sg _ 29 z g (fun w b=>ao z isAgg26 ((t lr b) 2 _ z)) (sgz j 30 z g z (sgz (I6 _) 31 z g z (sg _ 32 z g (fun w b=>az z z underlying50 sizeOf53 (ag p) u x) (sg _ 33 z g (fun w b=>aR z underlying53 z sizeOf26 z) (sg _ 34 z g (fun w b=>ao z isAgg26 ((y lr b) 2 _ z)) (sgz (.bool _) 35 z g z (sh (.bool _) 36 z (fun w b=>aE g z z) (sb 37 z z (bs c ?_ ?_)))))))))))))
 {
 intro h c
 cases c
}
 {
 intro h c
 refine sgz i 38 z h z (sgz (I6 _) 39 z h z (sg _ 40 z h (fun w b=>az z z underlying50 sizeOf53 (ag m) q s) (sg _ 41 z h (fun w b=>aR z underlying53 z sizeOf26 z) (sg _ 42 z h (fun w b=>ao z isAgg26 ((t lr b) 3 _ z)) (sgz j 43 z h z (sgz (I6 _) 44 z h z (sg _ 45 z h (fun w b=>az z z underlying50 sizeOf53 (ag p) u x) (sg _ 46 z h (fun w b=>aR z underlying53 z sizeOf26 z) (sg _ 47 z h (fun w b=>ao z isAgg26 ((y lr b) 3 _ z)) (sgz (.bool _) 48 z h z (sh (.bool _) 49 z (fun w b=>aE h z z) (sb 50 z z (bs c ?_ ?_)))))))))))))
 {
 intro d c
 cases c
}
 {
 intro d c
 refine sgz i 51 z d z (sgz (I6 _) 52 z d z (sg _ 53 z d (fun w b=>az z z underlying50 sizeOf53 (ag m) q s) (sg _ 54 z d (fun w b=>aR z underlying53 z sizeOf41 z) (sg _ 55 z d (fun w b=>av (cs:=[F6 k.W.At,.bool k.W.Del,B]) z isAgg41 sizeOf41 (dO (o:=4) (t lr b) z)) (sgz j 57 z d z (sgz (I6 _) 58 z d z (sg _ 59 z d (fun w b=>az z z underlying50 sizeOf53 (ag p) u x) (sg _ 60 z d (fun w b=>aR z underlying53 z sizeOf41 z) (sg _ 61 z d (fun w b=>av (cs:=[F6 l.W.At,.bool l.W.Del,D]) z isAgg41 sizeOf41 (dO (o:=4) (y lr b) z)) (pC 56 62 (by kernel_rfl) ?_ ?_))))))))))
 {
 refine nxe [62,63,64,65] (by kernel_rfl) z ((ar z z z (cvb d)).trans z) ?_
 clear b
 intro w b
 obtain ⟨K,b4,b5,b6,b⟩:=b.er (E:=cG) (xs:=[k.W]) [[F6 k.W.At,.bool k.W.Del,B]] 41 1 z (bz.cons ⟨_,z,C,oS (ag C)⟩ bz.nil)
 refine bS (v:=(.slice (some ⟨K,0,none⟩) 1 1)) (w':=b4) z (di (by kernel_rfl) b5 b6) (wn [61,60,59,58,57] b (cX z (cT ((ar z z z (cvb d)).trans z) (fun w b=>av (cs:=[F6 l.W.At,.bool l.W.Del,D]) z isAgg41 sizeOf41 (dO (o:=4) (y lr b) z))) (cX z (cT ((ar z z z (cvb d)).trans z) (fun w b=>aR z underlying53 z sizeOf41 z)) (cX z (cT ((ar z z z (cvb d)).trans z) (fun w b=>az z z underlying50 sizeOf53 (ag p) u x)) (cX z (cT ((ar z z z (cvb d)).trans z) (fun w b=>z)) (cX z (cT ((ar z z z (cvb d)).trans z) (fun w b=>z)) bu))))) (ia 62 (by kernel_rfl) (nxe [63,64,65] (by kernel_rfl) z ((ar z z z (cvb d)).trans z) ?_)))
 clear b
 intro w b
 obtain ⟨L,b7,b8,b9,b⟩:=b.er (E:=cG) (xs:=[l.W]) [[F6 l.W.At,.bool l.W.Del,D]] 41 1 z (bz.cons ⟨_,z,F,oS (ag F)⟩ bz.nil)
 refine bS (v:=(.slice (some ⟨L,0,none⟩) 1 1)) (w':=b7) z (di (by kernel_rfl) b8 b9) (w0n b (ia 63 (by kernel_rfl) (nxe [64,65] (by kernel_rfl) z ((ar z z z (cvb d)).trans z) ?_)))
 clear b
 intro w b
 replace b:=b.ab
 obtain ⟨d7,M,b⟩:=b.cx
 replace b:=b.ab
 obtain ⟨d8,N,b⟩:=b.cx
 obtain ⟨d9,c1,c⟩:=bn c
 refine wec call18 [(.slice (some ⟨K,0,none⟩) 1 1),(.slice (some ⟨L,0,none⟩) 1 1)] z z (kca (lO (b.pG M) (b.nf N) b.to0 c1) fun e0 b=>?_)
 replace b:=(b.of0.ab.ba M).ab.ba N
 refine w0n b (sgz (.bool _) 64 z d z (sh (.bool _) 65 z (fun w b=>aE d z z) (bi ?_)))
 intro w b
 refine ⟨z,?_⟩
 cases c
 exact ⟨_,J,fy z,b.bQ⟩
}
 {
 refine nxe [56,63,64,65] (by kernel_rfl) z ((ar z z z (cvb d)).trans z) ?_
 clear b
 intro w b
 obtain ⟨O,c2,c3,c4,b⟩:=b.er (E:=cG) (xs:=[l.W]) [[F6 l.W.At,.bool l.W.Del,D]] 41 1 z (bz.cons ⟨_,z,F,oS (ag F)⟩ bz.nil)
 refine bS (v:=(.slice (some ⟨O,0,none⟩) 1 1)) (w':=c2) z (di (by kernel_rfl) c3 c4) (wn [55,54,53,52,51] b (cX z (cT ((ar z z z (cvb d)).trans z) (fun w b=>av (cs:=[F6 k.W.At,.bool k.W.Del,B]) z isAgg41 sizeOf41 (dO (o:=4) (t lr b) z))) (cX z (cT ((ar z z z (cvb d)).trans z) (fun w b=>aR z underlying53 z sizeOf41 z)) (cX z (cT ((ar z z z (cvb d)).trans z) (fun w b=>az z z underlying50 sizeOf53 (ag m) q s)) (cX z (cT ((ar z z z (cvb d)).trans z) (fun w b=>z)) (cX z (cT ((ar z z z (cvb d)).trans z) (fun w b=>z)) bu))))) (ia 56 (by kernel_rfl) (nxe [63,64,65] (by kernel_rfl) z ((ar z z z (cvb d)).trans z) ?_)))
 clear b
 intro w b
 obtain ⟨P,c5,c6,c7,b⟩:=b.er (E:=cG) (xs:=[k.W]) [[F6 k.W.At,.bool k.W.Del,B]] 41 1 z (bz.cons ⟨_,z,C,oS (ag C)⟩ bz.nil)
 refine bS (v:=(.slice (some ⟨P,0,none⟩) 1 1)) (w':=c5) z (di (by kernel_rfl) c6 c7) (w0n b (ia 63 (by kernel_rfl) (nxe [64,65] (by kernel_rfl) z ((ar z z z (cvb d)).trans z) ?_)))
 clear b
 intro w b
 obtain ⟨e1,Q,b⟩:=b.cx
 replace b:=b.ab
 obtain ⟨e2,S,b⟩:=b.cx
 obtain ⟨e3,c8,c⟩:=bn c
 refine wec call18 [(.slice (some ⟨P,0,none⟩) 1 1),(.slice (some ⟨O,0,none⟩) 1 1)] z z (kca (lO (b.pG Q) (b.nf S) b.to0 c8) fun e4 b=>?_)
 replace b:=(b.of0.ab.ba Q).ab.ba S
 refine w0n b (sgz (.bool _) 64 z d z (sh (.bool _) 65 z (fun w b=>aE d z z) (bi ?_)))
 intro w b
 refine ⟨z,?_⟩
 cases c
 exact ⟨_,J,fy z,b.bQ⟩
}
}
}
}
}
}
 {
 rintro _ e5 ⟨G,c,⟨e6,rfl⟩,b⟩
 dsimp only [kC] at c
 refine tn (bw c z ?_ ?_)
 {
 intro c9 c
 cases c
}
 {
 intro c9 c
 refine wp_skip (bB (tn (wrl (mi z (mi z (mi z (nt ?_)))))))
 cases c
 exact ⟨_,nls,_,H,fy z,b.bQ⟩
}
}
}
 {
 intro X c
 refine wp_exit (aQ (aQ ?_))
 replace c:=bg c H
 refine cZ (tn (ww (mb z (nt (wp_ret ?_)))))
 cases c
 exact aU [.bool true] results91 (rc z ah) ⟨z,b.bQ⟩
}
}
}
theorem sZ {a0:(Option ae)} {p0:Value} {a1:Int} (a:St w0 w I [cE aD p0 a0] R) {r:(Int)} (b:kY a0 a1=some r) :
  Calls prog 22 #[p0,U6 a1] w fun e w'=>e = .returned (.int .u64 r)∧St w0 w' I [cE aD p0 a0] R:=by {
 rcases a0 with _ | c
 {
 dsimp only [kY] at b
 cases b
}
 {
 replace a:=bD a
 dsimp only [kY] at b
 refine c0 func22 z ntmps22 (ww (mi z (nt (wp_seq (ww (mv (p0) z ?_))))))
 obtain ⟨d,j,k,f,l,m,n,o,rfl,g⟩:=bc a
 have a:=g
 refine mk (.bool false) (nt (bT z (wp_skip (tn (ww (mp z (mp z (mf z underlying111 z sizeOf105 (ml z isAgg105 (a.bc0 z) (mi z ?_))))))))))
 replace a:=a.ap
 obtain ⟨h,i,b⟩:=bn b
 refine wc call61 [f,U6 a1] z z z (kca (nE a.to1 i) fun p a=>?_)
 replace a:=a.of1
 refine mi z (nt (wp_ret ?_))
 obtain rfl:=sj b
 exact aU [U6 h] results22 (rc z ah) ⟨z,(aJ (aq (Pt d 0) c a.aG.aG.aG.aG.aY.aG.aG.aG z)).bo⟩
}
}
theorem rz {a0:(Option ck)} {p0:Value} {a1 a2:Int} (a:St w0 w I [cE ca p0 a0] R) {r:(bp×Int)} (c:fZ a0 a1 a2=some r) :
  Calls prog 82 #[p0,U6 a1,U6 a2] w fun e w'=>∃ (I':HL) (n:Value) (p:Value),e = .returned (.tuple #[.agg #[I6 r.1.E,U6 r.1.Epoch,U6 r.1.Index,n,p],I6 r.2])∧I.le I'∧Ro aA I' n r.1.Gots∧Ro (dG aw) I' p r.1.Scans∧St w0 w' I' [cE ca p0 a0] R:=by {
 rcases a0 with _ | i
 {
 dsimp only [fZ] at c
 cases c
}
 {
 replace a:=bD a
 dsimp only [fZ] at c
 refine c0 func82 z ntmps82 ?_
 have f:=HL.le.refl I
 refine ww ?_
 obtain ⟨N,O,u,v,a⟩:=a.box [Zi,Zu,Zu,Zs,Zs] 33
 refine wa u v (mi z (nt (ww (mv (p0) z (mi z ?_)))))
 replace a:=aJ a.ab
 obtain ⟨q,x,c⟩:=bn c
 refine wc call148 [p0,U6 a1] z z z (kca (kL a.to1 x) fun P a=>?_)
 replace a:=bD a.of1
 refine mv (.tuple #[I6 q.1,.bool q.2]) z (mi z (mb z (mi z (mb z (nt (wp_seq (wp_block (ww (mb z (mb z (mb z (bs c ?_ ?_))))))))))))
 {
 intro b c
 refine go b (go b (go b (go b (go b (go b (go b (go b (go b (go b (mb (aM b z z) (mb z (nt (dq z (ww (mk (.agg #[Zi,Zu,Zu,Zs,Zs]) ?_)))))))))))))))
 replace a:=a.ab
 refine bxk a z sizeOf33 (oJ 5 z oN) fun Q a=>mi z (nt (wp_ret (dj (aI ?_))))
 have y:Ro aA I (.slice none 0 0) []:=cv
 have A:Ro (dG aw) I (.slice none 0 0) []:=cv
 replace a:=aJ a.ab
 cases c
 exact aU [.agg #[Zi,Zu,Zu,Zs,Zs],I6 2] results82 (bj (bF (cs:=[Zi,Zu,Zu,Zs,Zs]) z isAgg33 sizeOf33 (a.eI 0 z)) (rc z ah)) ⟨_,Zs,Zs,z,f,y,A,a.bo⟩
}
 {
 intro b c
 refine gv (p0) b z ?_
 obtain ⟨j,S,rfl,B⟩:=dH a
 have a:=B
 refine gp b z (gg b (aO z underlying206 z sizeOf204 z) (gg b (ao z isAgg204 (a.bc0 z)) (gi b z ?_)))
 obtain ⟨d,C,c⟩:=bn c
 obtain ⟨k,l,D⟩:=aK C
 refine gg b (az z z underlying204 sizeOf242 a.sv1 k l) (gg b (aR z underlying242 z sizeOf26 z) ?_)
 obtain ⟨T,F,m⟩:=a.og1 D
 obtain ⟨g,h,rfl,s,t,-⟩:=F
 refine gg b (ao z isAgg26 (m 1 _ z)) (gi b z (gb b z (mb (aE b z z) (mb z (nt (bw c z ?_ ?_))))))
 {
 intro G c
 refine ww (mk (.agg #[Zi,Zu,Zu,Zs,Zs]) ?_)
 replace a:=a.ay
 refine bxk a z sizeOf33 (oJ 5 z oN) fun U a=>mi z (nt (wp_ret (dj (aI ?_))))
 have H:Ro aA I (.slice none 0 0) []:=cv
 have J:Ro (dG aw) I (.slice none 0 0) []:=cv
 replace a:=aJ (cR (Pt j 0) i a.ay.ay z)
 cases c
 exact aU [.agg #[Zi,Zu,Zu,Zs,Zs],I6 2] results82 (bj (bF (cs:=[Zi,Zu,Zu,Zs,Zs]) z isAgg33 sizeOf33 (a.eI 0 z)) (rc z ah)) ⟨_,Zs,Zs,z,f,H,J,a.bo⟩
}
 {
 intro G c
 refine ww (mp z (mp z (mf z underlying206 z sizeOf204 (ml z isAgg204 (a.bc0 z) (mi z (mz (az z z underlying204 sizeOf242 a.sv1 k l) (mz (aR z underlying242 z sizeOf26 z) (ml z isAgg26 (m 1 _ z) (mi z (mb z (mb z (nt (bw c z ?_ ?_)))))))))))))
 {
 intro K c
 refine ww (mk (.agg #[Zi,Zu,Zu,Zs,Zs]) ?_)
 replace a:=a.ay
 refine bxk a z sizeOf33 (oJ 5 z oN) fun V a=>mi z (nt (wp_ret (dj (aI ?_))))
 have L:Ro aA I (.slice none 0 0) []:=cv
 have M:Ro (dG aw) I (.slice none 0 0) []:=cv
 replace a:=aJ (cR (Pt j 0) i a.ay.ay z)
 cases c
 exact aU [.agg #[Zi,Zu,Zu,Zs,Zs],I6 10] results82 (bj (bF (cs:=[Zi,Zu,Zu,Zs,Zs]) z isAgg33 sizeOf33 (a.eI 0 z)) (rc z ah)) ⟨_,Zs,Zs,z,f,L,M,a.bo⟩
}
 {
 intro K c
 refine wp_skip (bB (tn (ww (mp z (mp z (mf z underlying206 z sizeOf204 (ml z isAgg204 (a.bc0 z) (mi z (mz (az z z underlying204 sizeOf242 a.sv1 k l) (mz (aR z underlying242 z sizeOf33 z) (mz (av (cs:=[I6 d.r.E,U6 d.r.Epoch,U6 d.r.Index,g,h]) z isAgg33 sizeOf33 (dO (o:=2) m z)) ?_)))))))))))
 replace a:=a.ay
 refine bxk a z sizeOf33 (oJ 3 z (oC (oS (ag s)) (oC (oS (ag t)) oN))) fun W a=>mi z (nt (wp_ret ?_))
 replace a:=aJ (cR (Pt j 0) i a.ay.ay z)
 cases c
 exact aU [.agg #[I6 d.r.E,U6 d.r.Epoch,U6 d.r.Index,g,h],Zi] results82 (bj (bF (cs:=[I6 d.r.E,U6 d.r.Epoch,U6 d.r.Index,g,h]) z isAgg33 sizeOf33 (a.eI 0 z)) (rc z ah)) ⟨_,g,h,z,f,s,t,a.bo⟩
}
}
}
}
}
theorem ry {a0:(Option ae)} {p0:Value} {a1:bK} (a:St w0 w I [cE aD p0 a0] R) {r:(bp×Int)} (c:jD a0 a1=some r) :
  Calls prog 37 #[p0,.agg #[U6 a1.Session,U6 a1.Seq]] w fun e w'=>∃ (I':HL) (h:Value) (i:Value),e = .returned (.tuple #[.agg #[I6 r.1.E,U6 r.1.Epoch,U6 r.1.Index,h,i],I6 r.2])∧I.le I'∧Ro aA I' h r.1.Gots∧Ro (dG aw) I' i r.1.Scans∧St w0 w' I' [cE aD p0 a0] R:=by {
 rcases a0 with _ | l
 {
 dsimp only [jD] at c
 cases c
}
 {
 replace a:=bD a
 dsimp only [jD] at c
 refine c0 func37 z ntmps37 ?_
 have g:=HL.le.refl I
 refine ww ?_
 obtain ⟨x,y,m,n,a⟩:=a.box [U6 a1.Session,U6 a1.Seq] 28
 refine wa m n ?_
 obtain ⟨A,B,o,p,a⟩:=a.box [Zi,Zu,Zu,Zs,Zs] 33
 refine wa o p (mi z (nt (wp_seq (ww (mv (p0) z ?_)))))
 obtain ⟨q,C,D,s,F,G,H,J,rfl,t⟩:=bc a.ay
 have a:=t
 refine mk (.bool false) (nt (bT z (wp_skip (tn (wp_seq (rg a 13 [0,1,3,7,0,16,0,64,255,511,511,2047,4095] [] mixed (sp 0 z z (sp 1 z z (sf 2 z z underlying111 z sizeOf105 (sl 3 z z isAgg105 (fun w a=>a.bc0 z) (sf 4 z z underlying28 z sizeOf26 (sl 5 z z isAgg26 (fun w a=>a.bc9 z) (sf 6 z z underlying28 z sizeOf26 (sl 7 z z isAgg26 (fun w a=>a.bc9 z) (e1 8 z z fun w a=>?_)))))))))))))))
 replace a:=a.ap
 obtain ⟨b,u,c⟩:=bn c
 refine wec call82 [s,U6 a1.Session,U6 a1.Seq] z z ((rz a.to1 u).mono ?_)
 rintro _ K ⟨I3197,d,f,rfl,v,j,k,a⟩
 refine ⟨_,z,?_⟩
 replace a:=a.of1
 replace g:=g.trans v
 refine w0n a (sz (.agg #[I6 b.1.E,U6 b.1.Epoch,U6 b.1.Index,d,f]) 9 z z (si 10 z z (e1 11 z z fun w a=>?_)))
 replace a:=a.bH
 refine bxe a z sizeOf33 (oJ 3 z (oC (oS (ag j)) (oC (oS (ag k)) oN))) fun L a=>w0n a (si 12 z z (bi ?_))
 intro w a
 refine tn (wp_ret ?_)
 replace a:=aJ (aq (Pt q 0) l a.bH.bH.bH.bH.aW.bH.bH.bH z)
 cases c
 exact aU [.agg #[I6 b.1.E,U6 b.1.Epoch,U6 b.1.Index,d,f],I6 b.2] results37 (bj (bF (cs:=[I6 b.1.E,U6 b.1.Epoch,U6 b.1.Index,d,f]) z isAgg33 sizeOf33 (a.eI 0 z)) (rc z ah)) ⟨_,d,f,z,g,j,k,a.bo⟩
}
}
theorem tE {a0:(Option cB)} {p0:Value} {a1 a2:Int} (b:St w0 w I [cE cL p0 a0] R) {r:(dr×Bool)} (d:lU a0 a1 a2=some r) :
  Calls prog 156 #[p0,U6 a1,U6 a2] w fun e w'=>e = .returned (.tuple #[.agg #[U6 r.1.ID,I6 r.1.From,I6 r.1.To,F6 r.1.Lo,F6 r.1.Hi,U6 r.1.Authority,I6 r.1.Quota],.bool r.2])∧St w0 w' I [cE cL p0 a0] R:=by {
 rcases a0 with _ | i
 {
 dsimp only [lU] at d
 cases d
}
 {
 replace b:=bD b
 dsimp only [lU] at d
 refine c0 func156 z ntmps156 (ww ?_)
 obtain ⟨p,G,q,s,b⟩:=b.box [Zu,Zi,Zi,Zf,Zf,Zu,Zi] 39
 refine wa q s (mb z (nt (wp_seq (ww (mv (p0) z ?_)))))
 obtain ⟨j,H,rfl,t⟩:=eE b.ab
 have b:=t
 refine mk (.bool false) (nt (bT z (wp_skip (tn (wp_seq (ww (mp z (mp z (mf z underlying209 z sizeOf207 (ml z isAgg207 (b.bc0 z) (mz (bW z underlying207 b.sv1) (mi z (mi z (nt (wp_block ?_)))))))))))))))
 replace b:=cY (Pt j 0) i b.ab.ab z
 obtain ⟨u,d⟩:=aS d
 refine bf (fun n a w=>∃ (m:Int),cP (gf i a1 a2) n m=some r∧fz 55 [0,1,2,6,8] [Pt j 0,U6 a1,U6 a2,Pt p 0,I6 m] a∧St w0 w I [cL (Pt j 0) i,cells p [Zu,Zi,Zi,Zf,Zf,Zu,Zi]] R) u ⟨(i64.wrap (((i.l).length:Int) - 1)),d,fy z,b⟩ ?_
 rintro J _ K ⟨m,d,⟨L,rfl⟩,b⟩
 obtain ⟨M,N,rfl,d,k⟩:=aV d
 dsimp only [gf] at d
 refine wp_seq (ww (mi z (mb z (nt (bw d z ?_ ?_)))))
 {
 intro v d
 refine wp_skip (tn (wp_seq (wp_block (ww (mp z ?_)))))
 obtain ⟨O,P,o,x⟩:=eE b
 replace o:=dF o
 subst o
 have b:=x
 refine mp z (mf z underlying209 z sizeOf207 (ml z isAgg207 (b.bc0 z) (mi z ?_)))
 obtain ⟨c,y,d⟩:=bn d
 obtain ⟨A,B,C⟩:=aK y
 refine mz (az z z underlying207 sizeOf224 b.sv1 A B) (mz (av (cs:=[U6 c.r.ID,I6 c.r.From,I6 c.r.To,F6 c.r.Lo,F6 c.r.Hi,U6 c.r.Authority,I6 c.r.Quota,U6 c.from_,U6 c.to_]) z isAgg224 sizeOf224 (b.Fu C 0 (by rintro _ rfl; rfl))) ?_)
 obtain ⟨Q,S,D,E,b⟩:=b.box [Zu,Zi,Zi,Zf,Zf,Zu,Zi,Zu,Zu] 224
 refine wa D E (bxk b z sizeOf224 (oJ 9 z oN) fun T b=>nt (ww (mf z underlying224 z sizeOf39 (mf z underlying39 z sizeOf26 (ml z isAgg26 (b.bc0 z) (mi z (mb z (mb z (bs d ?_ ?_)))))))))
 {
 intro g d
 refine gg g (aO z underlying224 z sizeOf26 z) (gg g (ao z isAgg26 (b.bc0 z)) (gi g z (gb g z (mb (aM g z z) (mb z (bs d ?_ ?_))))))
 {
 intro f d
 refine gg f (aO z underlying224 z sizeOf26 z) (gg f (ao z isAgg26 (b.bc0 z)) (gb f z (gb f z (bs d ?_ ?_))))
 {
 intro h d
 refine go h (go h (go h (go h (gb f (aM h z z) (mb (aM f z z) (nt (dq z (ww (mf z underlying224 z sizeOf39 (mz (av (cs:=[U6 c.r.ID,I6 c.r.From,I6 c.r.To,F6 c.r.Lo,F6 c.r.Hi,U6 c.r.Authority,I6 c.r.Quota]) z isAgg39 sizeOf39 (b.eD 0 z)) ?_))))))))))
 replace b:=b.ap
 refine bxk b z sizeOf39 (oJ 7 z oN) fun U b=>mb z (nt (wp_ret (dj (aI (aI ?_)))))
 replace d:=bg d k
 refine dj (aI ?_)
 replace b:=aJ (cY (Pt j 0) i b.ap.ap z)
 cases d
 exact aU [.agg #[U6 c.r.ID,I6 c.r.From,I6 c.r.To,F6 c.r.Lo,F6 c.r.Hi,U6 c.r.Authority,I6 c.r.Quota],.bool true] results156 (bj (bF (cs:=[U6 c.r.ID,I6 c.r.From,I6 c.r.To,F6 c.r.Lo,F6 c.r.Hi,U6 c.r.Authority,I6 c.r.Quota]) z isAgg39 sizeOf39 (b.eI 0 z)) (rc z ah)) ⟨z,b.bo⟩
}
 {
 intro h d
 refine gg h (aO z underlying224 z sizeOf26 z) (gg h (ao z isAgg26 (b.bc0 z)) (gi h z (gb h z (gb f (aE h z z) (mb (aM f z z) (nt (bw d z ?_ ?_)))))))
 {
 intro F d
 refine ww (mf z underlying224 z sizeOf39 (mz (av (cs:=[U6 c.r.ID,I6 c.r.From,I6 c.r.To,F6 c.r.Lo,F6 c.r.Hi,U6 c.r.Authority,I6 c.r.Quota]) z isAgg39 sizeOf39 (b.eD 0 z)) ?_))
 replace b:=b.ap
 refine bxk b z sizeOf39 (oJ 7 z oN) fun V b=>mb z (nt (wp_ret (dj (aI (aI ?_)))))
 replace d:=bg d k
 refine dj (aI ?_)
 replace b:=aJ (cY (Pt j 0) i b.ap.ap z)
 cases d
 exact aU [.agg #[U6 c.r.ID,I6 c.r.From,I6 c.r.To,F6 c.r.Lo,F6 c.r.Hi,U6 c.r.Authority,I6 c.r.Quota],.bool true] results156 (bj (bF (cs:=[U6 c.r.ID,I6 c.r.From,I6 c.r.To,F6 c.r.Lo,F6 c.r.Hi,U6 c.r.Authority,I6 c.r.Quota]) z isAgg39 sizeOf39 (b.eI 0 z)) (rc z ah)) ⟨z,b.bo⟩
}
 {
 intro F d
 refine wp_skip (bB (tn (wrl (mi z (mi z (mi z (nt ?_)))))))
 cases d
 exact ⟨_,nls,_,k,fy z,(cY (Pt j 0) i b.ay.ay z).ay.ab.cd⟩
}
}
}
 {
 intro f d
 refine go f (go f (go f (go f (gu (gu (gu (gu (go f (mb (aE f z z) (nt (bT z (wp_skip (bB (tn (wrl (mi z (mi z (mi z (nt ?_)))))))))))))))))))
 cases d
 exact ⟨_,nls,_,k,fy z,(cY (Pt j 0) i b.ay.ay z).ay.ab.cd⟩
}
}
 {
 intro g d
 refine go g (go g (go g (go g (mb (aE g z z) (mb z (gz (gz (gz (gz (gu (gu (gu (gu (gz (mb (aE z z z) (nt (bT z (wp_skip (bB (tn (wrl (mi z (mi z (mi z (nt ?_)))))))))))))))))))))))))
 cases d
 exact ⟨_,nls,_,k,fy z,(cY (Pt j 0) i b.ay.ay z).ay.ab.cd⟩
}
}
 {
 intro v d
 refine wp_exit (aQ (aQ ?_))
 replace d:=bg d k
 refine cZ (tn (ww (mk (.agg #[Zu,Zi,Zi,Zf,Zf,Zu,Zi]) ?_)))
 replace b:=b.ab
 refine bxk b z sizeOf39 (oJ 7 z oN) fun W b=>mb z (nt (wp_ret ?_))
 replace b:=aJ b.ab
 cases d
 exact aU [.agg #[Zu,Zi,Zi,Zf,Zf,Zu,Zi],.bool false] results156 (bj (bF (cs:=[Zu,Zi,Zi,Zf,Zf,Zu,Zi]) z isAgg39 sizeOf39 (b.eI 0 z)) (rc z ah)) ⟨z,b.bo⟩
}
}
}
theorem td {a0:(Option ae)} {p0:Value} {a1 a2:Int} (b:St w0 w I [cE aD p0 a0] R) {r:(dr×Int)} (d:kO a0 a1 a2=some r) :
  Calls prog 94 #[p0,U6 a1,U6 a2] w fun e w'=>e = .returned (.tuple #[.agg #[U6 r.1.ID,I6 r.1.From,I6 r.1.To,F6 r.1.Lo,F6 r.1.Hi,U6 r.1.Authority,I6 r.1.Quota],I6 r.2])∧St w0 w' I [cE aD p0 a0] R:=by {
 rcases a0 with _ | g
 {
 dsimp only [kO] at d
 cases d
}
 {
 replace b:=bD b
 dsimp only [kO] at d
 refine c0 func94 z ntmps94 (ww ?_)
 obtain ⟨i,x,k,l,b⟩:=b.box [Zu,Zi,Zi,Zf,Zf,Zu,Zi] 39
 refine wa k l (mi z (nt ?_))
 obtain ⟨y,d,h⟩:=dY d
 refine cQ (fun a w =>(gO g a1 a2) ()=some r∧fz 36 [0,1,2,6] [p0,U6 a1,U6 a2,Pt i 0] a∧St w0 w I [aD p0 g,cells i [Zu,Zi,Zi,Zf,Zf,Zu,Zi]] R) ?_ ?_
 {
 refine ww (mv (p0) z (mi z ?_))
 replace b:=aJ b.ab
 obtain ⟨m,n,d⟩:=bn d
 refine wc call63 [p0,U6 a2] z z z (kca (oQ b.to1 n) fun A b=>?_)
 replace b:=bD b.of1
 refine mi z (nt (ww (mi z (mb z (mb z (bs d ?_ ?_))))))
 {
 intro f d
 refine gi f z (gb f z (mb (aM f z z) (nt (bw d z ?_ ?_))))
 {
 intro o d
 refine ww (mk (.agg #[Zu,Zi,Zi,Zf,Zf,Zu,Zi]) (mi z ?_))
 replace b:=b.ab
 refine bxk b z sizeOf39 (oJ 7 z oN) fun B b=>mi z (nt (wp_ret (aI ?_)))
 replace d:=bg d h
 replace b:=aJ b.ab
 cases d
 exact aU [.agg #[Zu,Zi,Zi,Zf,Zf,Zu,Zi],I6 m] results94 (bj (bF (cs:=[Zu,Zi,Zi,Zf,Zf,Zu,Zi]) z isAgg39 sizeOf39 (b.eI 0 z)) (rc z ah)) ⟨z,b.bo⟩
}
 {
 intro o d
 refine wp_skip (tn ?_)
 cases d
 exact ⟨h,fy z,b.ab.ab.cd⟩
}
}
 {
 intro f d
 refine go f (go f (mb (aE f z z) (nt (bT z (wp_skip (tn ?_))))))
 cases d
 exact ⟨h,fy z,b.ab.ab.cd⟩
}
}
 {
 rintro _ C ⟨d,⟨D,rfl⟩,b⟩
 dsimp only [gO] at d
 refine ww (mv (p0) z ?_)
 obtain ⟨j,E,F,G,p,H,J,K,rfl,q⟩:=bc b
 have b:=q
 refine mp z (mf z underlying111 z sizeOf107 (ml z isAgg107 (b.bc0 z) (mi z (mi z ?_))))
 replace b:=b.aY
 obtain ⟨c,s,d⟩:=bn d
 refine wc call156 [p,U6 a1,U6 a2] z z z (kca (tE b.to1 s) fun L b=>?_)
 replace b:=b.of1
 refine mv (.tuple #[.agg #[U6 c.1.ID,I6 c.1.From,I6 c.1.To,F6 c.1.Lo,F6 c.1.Hi,U6 c.1.Authority,I6 c.1.Quota],.bool c.2]) z (mv (.agg #[U6 c.1.ID,I6 c.1.From,I6 c.1.To,F6 c.1.Lo,F6 c.1.Hi,U6 c.1.Authority,I6 c.1.Quota]) z (mb z ?_))
 obtain ⟨M,N,t,u,b⟩:=b.box [Zu,Zi,Zi,Zf,Zf,Zu,Zi] 39
 refine wa t u (bxk b z sizeOf39 (oJ 7 z oN) fun O b=>mb z (nt (wp_seq (ww (mb z (mb z (nt (bw d z ?_ ?_))))))))
 {
 intro v d
 refine ww (mk (.agg #[Zu,Zi,Zi,Zf,Zf,Zu,Zi]) ?_)
 replace b:=b.bO
 refine bxk b z sizeOf39 (oJ 7 z oN) fun P b=>mi z (nt (wp_ret (aI ?_)))
 replace b:=aJ (aq (Pt j 0) g b.bO.bO.bO.aW.bO.bO.bO.bO z)
 cases d
 exact aU [.agg #[Zu,Zi,Zi,Zf,Zf,Zu,Zi],I6 12] results94 (bj (bF (cs:=[Zu,Zi,Zi,Zf,Zf,Zu,Zi]) z isAgg39 sizeOf39 (b.eI 0 z)) (rc z ah)) ⟨z,b.bo⟩
}
 {
 intro v d
 refine wp_skip (tn (ww (mz (av (cs:=[U6 c.1.ID,I6 c.1.From,I6 c.1.To,F6 c.1.Lo,F6 c.1.Hi,U6 c.1.Authority,I6 c.1.Quota]) z isAgg39 sizeOf39 (b.eD 0 z)) ?_)))
 replace b:=b.bO
 refine bxk b z sizeOf39 (oJ 7 z oN) fun Q b=>mi z (nt (wp_ret ?_))
 replace b:=aJ (aq (Pt j 0) g b.bO.bO.bO.aW.bO.bO.bO.bO z)
 cases d
 exact aU [.agg #[U6 c.1.ID,I6 c.1.From,I6 c.1.To,F6 c.1.Lo,F6 c.1.Hi,U6 c.1.Authority,I6 c.1.Quota],Zi] results94 (bj (bF (cs:=[U6 c.1.ID,I6 c.1.From,I6 c.1.To,F6 c.1.Lo,F6 c.1.Hi,U6 c.1.Authority,I6 c.1.Quota]) z isAgg39 sizeOf39 (b.eI 0 z)) (rc z ah)) ⟨z,b.bo⟩
}
}
}
}
theorem xD {a0:(List cD)} {j:Value} {a1 a2:Int} (i:Rd dQ R I j a0) (c:St w0 w I [] R) {r:(dr×Bool)} (b:rY a0 a1 a2=some r) :
  Calls prog 95 #[j,U6 a1,U6 a2] w fun e w'=>e = .returned (.tuple #[.agg #[U6 r.1.ID,I6 r.1.From,I6 r.1.To,F6 r.1.Lo,F6 r.1.Hi,U6 r.1.Authority,I6 r.1.Quota],.bool r.2])∧St w0 w' I [] R:=by {
 unfold rY at b
 refine c0 func95 z ntmps95 (ww ?_)
 obtain ⟨H,X,M,N,c⟩:=c.box [Zu,Zi,Zi,Zf,Zf,Zu,Zi] 39
 refine wa M N (mb z (nt (ww (mk (.agg #[Zu,Zi,Zi,Zf,Zf,Zu,Zi]) ?_))))
 obtain ⟨J,Y,O,P,c⟩:=c.box [Zu,Zi,Zi,Zf,Zf,Zu,Zi] 39
 refine wa O P (bxk c z sizeOf39 (oJ 7 z oN) fun Z c=>nt (ww (mb z (nt ?_))))
 obtain ⟨Q,b,S⟩:=bn b
 refine cQ (fun a w=>∃ (u:Int) (v:Int) (x:Int) (y:Nat) (A:Nat) (B:Int) (C:Int) (K:Bool),(rF) (u,v,x,y,A,B,C,K)=some r∧fz 59 [6,8,9] [Pt H 0,Pt J 0,.bool K] a∧St w0 w I [cells H [Zu,Zi,Zi,Zf,Zf,Zu,Zi],cells J [U6 u,I6 v,I6 x,F6 y,F6 A,U6 B,I6 C]] R) ?_ ?_
 {
 refine ww (mi z (nt (wp_block ?_)))
 obtain ⟨T,b⟩:=aS b
 refine bf (fun n a w=>∃ (k:Int) (l:Int) (m:Int) (o:Nat) (p:Nat) (q:Int) (s:Int) (L:Int) (t:Bool),cP (lQ a0 a1 a2) n (k,l,m,o,p,q,s,L,t)=some Q∧fz 59 [0,1,2,6,8,9,10] [j,U6 a1,U6 a2,Pt H 0,Pt J 0,.bool t,I6 L] a∧St w0 w I [cells J [U6 k,I6 l,I6 m,F6 o,F6 p,U6 q,I6 s],cells H [Zu,Zi,Zi,Zf,Zf,Zu,Zi]] R) T ⟨0,0,0,(0:Nat),(0:Nat),0,0,0,false,b,fy z,c⟩ ?_
 rintro b0 _ b1 ⟨k,l,m,o,p,q,s,L,t,b,⟨b2,rfl⟩,c⟩
 obtain ⟨b3,b4,rfl,b,D⟩:=aV b
 dsimp only [lQ] at b
 refine wp_seq (ww (mi z (mv (j) z (mz (bW z underlying127 (au i)) (mb z (nt (bw b z ?_ ?_)))))))
 {
 intro U b
 refine wp_skip (tn (wp_seq (wp_block (ww (mv (j) z (mi z ?_))))))
 obtain ⟨h,V,b⟩:=bn b
 obtain ⟨E,F,G⟩:=aK V
 refine mz (az z z underlying127 sizeOf144 (au i) E F) (mz (aR z underlying144 z sizeOf39 z) (mz (aR z underlying39 z sizeOf26 z) (ml z isAgg26 (dR i lr c G (by rintro _ rfl; rfl)) (mi z (mb z (mb z (bs b ?_ ?_)))))))
 {
 intro f b
 refine gv (j) f z (gi f z (gg f (az z z underlying127 sizeOf144 (au i) E F) (gg f (aR z underlying144 z sizeOf26 z) (gg f (ao z isAgg26 (dR i lr c G (by rintro _ rfl; rfl))) (gi f z (gb f z (mb (aM f z z) (mb z (bs b ?_ ?_)))))))))
 {
 intro d b
 refine gv (j) d z (gi d z (gg d (az z z underlying127 sizeOf144 (au i) E F) (gg d (aR z underlying144 z sizeOf26 z) (gg d (ao z isAgg26 (dR i lr c G (by rintro _ rfl; rfl))) (gb d z (gb d z (bs b ?_ ?_)))))))
 {
 intro g b
 refine go g (go g (go g (go g (go g (go g (go g (gb d (aM g z z) (mb (aM d z z) (nt (dq z (ww (mv (j) z (mi z (mz (az z z underlying127 sizeOf144 (au i) E F) (mz (aR z underlying144 z sizeOf39 z) (mz (av (cs:=[U6 h.R.ID,I6 h.R.From,I6 h.R.To,F6 h.R.Lo,F6 h.R.Hi,U6 h.R.Authority,I6 h.R.Quota]) z isAgg39 sizeOf39 (pH i lr c G 0 (by rintro _ rfl; rfl))) (bxk c z sizeOf39 (oJ 7 z oN) fun b5 c=>nt (wrl (mb z (dk (bB (tn (wrl (mi z (mi z (mi z (nt ?_)))))))))))))))))))))))))))
 cases b
 exact ⟨_,nls,_,_,_,_,_,_,_,_,true,D,fy z,c.ab.ab.cd⟩
}
 {
 intro g b
 refine gi g z (gv (j) g z (gi g z (gg g (az z z underlying127 sizeOf144 (au i) E F) (gg g (aR z underlying144 z sizeOf26 z) (gg g (ao z isAgg26 (dR i lr c G (by rintro _ rfl; rfl))) (gb g z (gb d (aE g z z) (mb (aM d z z) (nt (bw b z ?_ ?_))))))))))
 {
 intro W b
 refine ww (mv (j) z (mi z (mz (az z z underlying127 sizeOf144 (au i) E F) (mz (aR z underlying144 z sizeOf39 z) (mz (av (cs:=[U6 h.R.ID,I6 h.R.From,I6 h.R.To,F6 h.R.Lo,F6 h.R.Hi,U6 h.R.Authority,I6 h.R.Quota]) z isAgg39 sizeOf39 (pH i lr c G 0 (by rintro _ rfl; rfl))) (bxk c z sizeOf39 (oJ 7 z oN) fun b6 c=>nt (wrl (mb z (dk (bB (tn (wrl (mi z (mi z (mi z (nt ?_))))))))))))))))
 cases b
 exact ⟨_,nls,_,_,_,_,_,_,_,_,true,D,fy z,c.ab.ab.cd⟩
}
 {
 intro W b
 refine wp_skip (bB (tn (wrl (mi z (mi z (mi z (nt ?_)))))))
 cases b
 exact ⟨_,nls,k,l,m,o,p,q,s,_,t,D,fy z,c.ab.ab.cd⟩
}
}
}
 {
 intro d b
 refine go d (go d (go d (go d (go d (go d (go d (gu (gu (gu (gu (gu (gu (gu (go d (mb (aE d z z) (nt (bT z (wp_skip (bB (tn (wrl (mi z (mi z (mi z (nt ?_)))))))))))))))))))))))))
 cases b
 exact ⟨_,nls,k,l,m,o,p,q,s,_,t,D,fy z,c.ab.ab.cd⟩
}
}
 {
 intro f b
 refine go f (go f (go f (go f (go f (go f (go f (mb (aE f z z) (mb z (gz (gz (gz (gz (gz (gz (gz (gu (gu (gu (gu (gu (gu (gu (gz (mb (aE z z z) (nt (bT z (wp_skip (bB (tn (wrl (mi z (mi z (mi z (nt ?_))))))))))))))))))))))))))))))))))
 cases b
 exact ⟨_,nls,k,l,m,o,p,q,s,_,t,D,fy z,c.ab.ab.cd⟩
}
}
 {
 intro U b
 refine wp_exit (aQ (aQ ?_))
 replace b:=bg b D
 refine cZ (tn ?_)
 cases b
 exact ⟨k,l,m,o,p,q,s,t,S,fy z,c.ab.cd⟩
}
}
 {
 rintro _ b7 ⟨u,v,x,y,A,B,C,K,b,⟨b8,rfl⟩,c⟩
 dsimp only [rF] at b
 refine ww (mz (av (cs:=[U6 u,I6 v,I6 x,F6 y,F6 A,U6 B,I6 C]) z isAgg39 sizeOf39 (c.eI 0 z)) (mb z (bxk c z sizeOf39 (oJ 7 z oN) fun b9 c=>mb z (nt (wp_ret ?_)))))
 cases b
 exact aU [.agg #[U6 u,I6 v,I6 x,F6 y,F6 A,U6 B,I6 C],.bool K] results95 (bj (bF (cs:=[U6 u,I6 v,I6 x,F6 y,F6 A,U6 B,I6 C]) z isAgg39 sizeOf39 (c.eD 0 z)) (rc z ah)) ⟨z,c.bQ⟩
}
}
theorem tD {a0 a1:dr} (b:St w0 w I [] R) {r:(Bool)} (a:lH a0 a1=some r) :
  Calls prog 96 #[.agg #[U6 a0.ID,I6 a0.From,I6 a0.To,F6 a0.Lo,F6 a0.Hi,U6 a0.Authority,I6 a0.Quota],.agg #[U6 a1.ID,I6 a1.From,I6 a1.To,F6 a1.Lo,F6 a1.Hi,U6 a1.Authority,I6 a1.Quota]] w fun e w'=>e = .returned (.bool r)∧St w0 w' I [] R:=by {
 unfold lH at a
 refine c0 func96 z ntmps96 (ww ?_)
 obtain ⟨p,q,j,k,b⟩:=b.box [U6 a0.ID,I6 a0.From,I6 a0.To,F6 a0.Lo,F6 a0.Hi,U6 a0.Authority,I6 a0.Quota] 39
 refine wa j k ?_
 obtain ⟨s,t,l,m,b⟩:=b.box [U6 a1.ID,I6 a1.From,I6 a1.To,F6 a1.Lo,F6 a1.Hi,U6 a1.Authority,I6 a1.Quota] 39
 refine wa l m (mb z (nt (ww (mf z underlying39 z sizeOf26 (ml z isAgg26 (b.bc1 z) (mf z underlying39 z sizeOf26 (ml z isAgg26 (b.bc0 z) (mb z (mb z (bs a ?_ ?_))))))))))
 {
 intro c a
 refine gg c (aO z underlying39 z sizeOf3 z) (gg c (ao z isAgg3 (b.bc1 z)) (gg c (aO z underlying39 z sizeOf3 z) (gg c (ao z isAgg3 (b.bc0 z)) (gb c z (mb (aM c z z) (mb z (bs a ?_ ?_)))))))
 {
 intro d a
 refine gg d (aO z underlying39 z sizeOf3 z) (gg d (ao z isAgg3 (b.bc1 z)) (gg d (aO z underlying39 z sizeOf3 z) (gg d (ao z isAgg3 (b.bc0 z)) (gb d z (mb (aM d z z) (mb z (bs a ?_ ?_)))))))
 {
 intro f a
 refine gg f (aO z underlying39 z sizeOf37 z) (gg f (ao z isAgg37 (b.bc1 z)) (gg f (aO z underlying39 z sizeOf37 z) (gg f (ao z isAgg37 (b.bc0 z)) ?_)))
 obtain ⟨u,n,a⟩:=bn a
 refine de ((ar z z z (cvb f)).trans z) z (js call20 z (vs:=[F6 a0.Lo,F6 a1.Lo]) z) (kca (et b.to0 n) fun v b=>?_)
 replace b:=b.of0
 refine mb (aM f z z) (mb z (bs a ?_ ?_))
 {
 intro g a
 refine gg g (aO z underlying39 z sizeOf37 z) (gg g (ao z isAgg37 (b.bc1 z)) (gg g (aO z underlying39 z sizeOf37 z) (gg g (ao z isAgg37 (b.bc0 z)) ?_)))
 obtain ⟨x,o,a⟩:=bn a
 refine de ((ar z z z (cvb g)).trans z) z (js call20 z (vs:=[F6 a0.Hi,F6 a1.Hi]) z) (kca (et b.to0 o) fun y b=>?_)
 replace b:=b.of0
 refine mb (aM g z z) (mb z (bs a ?_ ?_))
 {
 intro h a
 refine gg h (aO z underlying39 z sizeOf26 z) (gg h (ao z isAgg26 (b.bc1 z)) (gg h (aO z underlying39 z sizeOf26 z) (gg h (ao z isAgg26 (b.bc0 z)) (gb h z (mb (aM h z z) (mb z (bs a ?_ ?_)))))))
 {
 intro i a
 refine gg i (aO z underlying39 z sizeOf3 z) (gg i (ao z isAgg3 (b.bc1 z)) (gg i (aO z underlying39 z sizeOf3 z) (gg i (ao z isAgg3 (b.bc0 z)) (gb i z (mb (aM i z z) (mb z (nt (wp_ret ?_))))))))
 cases a
 exact aU [.bool (a0.Quota==a1.Quota)] results96 (rc z ah) ⟨z,b.bQ⟩
}
 {
 intro i a
 cases a
}
}
 {
 intro h a
 cases a
}
}
 {
 intro g a
 cases a
}
}
 {
 intro f a
 cases a
}
}
 {
 intro d a
 cases a
}
}
 {
 intro c a
 cases a
}
}
end Go.Proofs.YtgnkkopjkgdieaaGreat
