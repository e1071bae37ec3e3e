/- A part of the proof. -/
import Derived.Test.YtgnkkopjkgdieaaGreatLaneBytesR0
set_option linter.unusedVariables false
set_option linter.unusedSimpArgs false
set_option maxRecDepth 100000
set_option maxHeartbeats 4000000
namespace Go.Proofs.YtgnkkopjkgdieaaGreat
open Go Go.V
open _root_.Go.Proofs.Tryz IntKind
variable {w0 w:World} {I:HL} {R:SP}
attribute [local irreducible] wpList Code.wp wpQuiet Calls bodyPost Oper.wp wpS Nx kL YieldsIn
theorem nu {a0:(List bI)} {b:Value} {a1 a2:Int} (a:St w0 w I [bp bc b a0] R) {r:(List bI)} (d:eD a0 a1 a2=some r) :
  Calls prog 52 #[b,I6 a1,I6 a2] w fun e w'=>∃ (f:Value),e = .returned (f)∧St w0 w' I [bp bc f r] R:=by {
 unfold eD at d
 obtain ⟨hg,d⟩:=cF d
 cases d
 obtain ⟨g,o,q⟩:=tB hg
 obtain ⟨j,rfl⟩:=Int.eq_ofNat_of_zero_le (Int.le_trans g o)
 obtain ⟨k,rfl⟩:=Int.eq_ofNat_of_zero_le g
 have hkj:k≤j:=by omega
 have hs:∀ w:World,(sizeOf 89).run prog w = .ok bc.sz w:=sizeOf89
 obtain ⟨css,hr,a⟩:=a.cz
 obtain ⟨n,hn⟩:∃ n,css.length=n:=⟨_,rfl⟩
 have hln:a0.length=n:=hr.1.trans hn
 have hjn:j≤n:=by omega
 have hsv:dQ b n:=by have:=a.dy.2; rwa [hn] at this
 have hoc:=hr.xE
 refine c0 func52 z z (ww (mv ((.slice none 0 0)) z (nt (ww (mv (b) z (mi z (mi z (mv (b) z (mz (bX z underlying65 hsv) (Lh z z (Ed underlying65 hs z hsv z z z hkj hjn) fun s=>nt (aj (ww (mi z (mi z (mb z (nt (kp ((k:Int)==(j:Int)) (fun c=>?_) (fun c=>?_))))))))))))))))))
 {
 refine eG (cvb c) (ww (mv (b) z (mv (b) z (nt (ar (bh (dI [b] z (rc z bl) ?_)))))))
 rw [Ge c]
 exact ⟨_,z,(a.bo hr).bF⟩
}
 refine cJ (cvb c) ?_
 have hne:¬ ((k:Int)=(j:Int)):=by simpa using c
 have hlt:k<j:=by omega
 refine al (tn (ww (mv (b) z (mz (bX z underlying65 hsv) (mi z (nt (aj (rg a 8 [0,0,3,0,0,24,63,127] [7] mixed (sz (b) 0 z z (si 1 z z (sh ((dR bc.sz b 0 k)) 2 z (fun w a=>dr (lo:=(0:Nat)) (hi:=(k:Nat)) underlying65 hs z hsv omA omA omA .i64 .i64 (.inr ⟨z,z⟩) (.inl z)) (sz (b) 3 z z (si 4 z z (sh ((dR bc.sz b j n)) 5 z (fun w a=>dr (lo:=(j:Nat)) (hi:=(n:Nat)) underlying65 hs z hsv omA omA omA .i64 .i64 (.inl z) (.inr ⟨z,z⟩)) (e1 6 z z fun w a=>?_)))))))))))))))
 obtain ⟨p,hra,a⟩:=Bs (P:=prog) underlying65 hs a hn hlt hjn hoc 65
 refine cj (v:=(dR bc.sz b 0 (k+(n - j)))) (w':=p) z (ck z z hra) ?_
 have hnl:=(show _ from a)
 clear hnl
 have i:(css.take k++(css.drop j++css.drop (k+(n - j)))).length=n:=by simp only [List.length_append,List.length_take,List.length_drop]; omega
 have hsm:=Gt a i (m:=(k+(n - j))) omA
 refine w0n a (e1 7 z z fun w a=>cj (v:=(dR bc.sz b 0 (k+(n - j)))) (w':=w) z z (w0n a (bt ?_)))
 refine fun w a=>tn (ww (mv ((dR bc.sz b 0 (k+(n - j)))) z (mv ((dR bc.sz b 0 (k+(n - j)))) z (mz (bX z underlying65 hsm) (mi z (mv ((dR bc.sz b (k+(n - j)) n)) (Cm underlying65 hs z hsv z z omA omA) ?_))))))
 obtain ⟨t,hrc,a⟩:=BS vC z (qR krA) a i (m:=(k+(n - j))) omA 0
 refine Gb z z (FM z hrc) (nt (ww (mv ((dR bc.sz b 0 (k+(n - j)))) z (mv ((dR bc.sz b 0 (k+(n - j)))) z (nt (ar (dI [(dR bc.sz b 0 (k+(n - j)))] z (rc z bl) ?_)))))))
 replace a:=a.jP (l:=0) (h:=(k+(n - j))) (Nat.zero_le _) (by simp only [List.length_append,List.length_take,List.length_drop,List.length_replicate]; omega)
 rw [Ea hn hlt hjn (List.length_replicate ..)] at a
 exact ⟨_,z,(a.bo ((hr.take k).app (hr.drop j))).bF⟩
}
theorem qY {a0:(Option cg)} {p0:Value} {a1 a2:Int} (b:St w0 w I [cX cH p0 a0] R) {r:(Bool×(Option cg))} (c:gF a0 a1 a2=some r) :
  Calls prog 54 #[p0,U6 a1,U6 a2] w fun e w'=>e = .returned (.bool r.1)∧St w0 w' I [cX cH p0 r.2] R:=by {
 rcases a0 with _ | i
 {
 dsimp only [gF] at c
 cases c
}
 replace b:=bQ b
 dsimp only [gF] at c
 refine c0 func54 z z (ww (mb z (nt (aj (ww (mv (p0) z ?_))))))
 obtain ⟨g,E,rfl,u⟩:=eF b
 have b:=u
 refine mk (.bool false) (nt (cJ z (al (tn (ww (mb z (nt (aj (ww (mp z (mp z (mF z fI (mL z (b.bc0 z) (mz (bX z uI b.sv1) (mi z (nt (au ?_)))))))))))))))))
 replace b:=dk (Pt g 0) i b.ah.ah z
 obtain ⟨v,c⟩:=aS c
 refine bg (fun n a w=>∃ (f:cg) (j:Int) (h:Bool),cU (gY i a1 a2) n (f,j,h)=some r∧fz 52 [0,1,2,7,15,16] [Pt g 0,U6 a1,U6 a2,.bool h,I6 ((i.l).length:Int),I6 j] a∧St w0 w I [cH (Pt g 0) f] R) v ⟨i,0,false,c,fy z,b⟩ ?_
 rintro F _ G ⟨f,j,h,c,⟨H,rfl⟩,b⟩
 obtain ⟨J,K,rfl,c,k⟩:=aU c
 dsimp only [gY] at c
 refine ww (mb z (nt (aj (bw c z ?_ ?_))))
 {
 refine fun x c=>al (tn (aj (au (ww (mi z (mi z (nt (ww (mp z ?_)))))))))
 obtain ⟨L,M,m,A⟩:=eF b
 replace m:=ez m
 subst m
 have b:=A
 refine mp z (mF z fI (mL z (b.bc0 z) (mi z ?_)))
 obtain ⟨s,B,c⟩:=bn c
 obtain ⟨o,p,q⟩:=aV B
 refine mz (aJ z z uI sI b.sv1 o p) (mz (xG z fI z) (mz (xG z fI z) (mL z (b.ol1 q riA) (mi z (mb z (mb z (bs c ?_ ?_)))))))
 {
 refine fun d c=>gp d z (gp d z (gg d (xF z fI z) (gg d (xL z (b.bc0 z)) (gi d z (gg d (aJ z z uI sI b.sv1 o p) (gg d (xG z fI z) (gg d (xL z (b.ol1 q riA)) (gb d z (mb (bi d z z) (nt (bw c z ?_ ?_)))))))))))
 {
 refine fun C c=>wrl (mp z (mp z (mF z fI (mL z (b.bc0 z) (mi z (mi z (mk (.int .u64 (if 1>a2 then 1 else a2)) (mz (aJ z z uI sI b.sv1 o p) (mz (xG z fI z) ?_)))))))))
 replace b:=b.ah
 obtain ⟨N,D,b⟩:=b.sd (P:=prog) (t:=26) (y:=({s with to_:=(if 1>a2 then 1 else a2)}:dj)) q 8 (.int .u64 (if 1>a2 then 1 else a2)) sI (Nat.le_of_ble_eq_true z) (oC z oN) riA
 refine yF z z (rn D) (mb z (dv (bJ (tn (wrl (mi z (mi z (nt ?_))))))))
 cases c
 exact ⟨_,nls,_,_,true,k,fy z,(dk (Pt g 0) (({l:=(f.l.set j.toNat ({s with to_:=(if 1>a2 then 1 else a2)}:dj))}:cg)) b.ah z).bF⟩
}
 refine fun C c=>al (bJ (tn (wrl (mi z (mi z (nt ?_))))))
 cases c
 exact ⟨_,nls,f,_,h,k,fy z,(dk (Pt g 0) f b.ah.ah z).bF⟩
}
 refine fun d c=>go d (go d (go d (go d (go d (go d (go d (go d (go d (mb (aL d z z) (nt (cJ z (al (bJ (tn (wrl (mi z (mi z (nt ?_))))))))))))))))))
 cases c
 exact ⟨_,nls,f,_,h,k,fy z,(dk (Pt g 0) f b.ah.ah z).bF⟩
}
 refine fun x c=>bH (aQ (aQ ?_))
 replace c:=bz c k
 refine cZ (tn (ww (mb z (mb z (nt (ar ?_))))))
 cases c
 exact pB z z ⟨z,(aR b).bF⟩
}
theorem vY {a0:(Option cg)} {p0:Value} {a1:dV} {a2:Int} (a:St w0 w I [cX cH p0 a0] R) {r:((Option cg))} (b:iZ a0 a1 a2=some r) :
  Calls prog 53 #[p0,.agg #[U6 a1.ID,I6 a1.dn,I6 a1.To,F6 a1.Lo,F6 a1.Hi,U6 a1.Authority,I6 a1.cx],U6 a2] w fun e w'=>e = .returned (.tuple #[])∧St w0 w' I [cX cH p0 r] R:=by {
 rcases a0 with _ | h
 {
 dsimp only [iZ] at b
 cases b
}
 replace a:=bQ a
 dsimp only [iZ] at b
 refine c0 func53 z z (ww ?_)
 obtain ⟨B,C,i,j,a⟩:=a.box [U6 a1.ID,I6 a1.dn,I6 a1.To,F6 a1.Lo,F6 a1.Hi,U6 a1.Authority,I6 a1.cx] 39
 refine wa i j (nt (aj (ww (mv (p0) z ?_))))
 obtain ⟨c,D,rfl,k⟩:=eF a.ah
 have a:=k
 refine mk (.bool false) (nt (cJ z (al (tn (ww (mp z (mF z fI (mL z (a.bc2 z) (mi z ?_)))))))))
 replace a:=aR (dk (Pt c 0) h a.ah.ah z)
 obtain ⟨m,n,b⟩:=bn b
 refine wc call54 [Pt c 0,U6 a1.ID,U6 a2] z z z (kcI (qY a.to1 n) fun F a=>?_)
 rcases f:m.2 with _ | o
 · rw [f] at b; cases b
 rw [f] at b a; dsimp only at b; replace a:=bQ a
 refine nt ?_
 obtain ⟨G,H,d,p⟩:=eF a
 replace d:=ez d
 subst d
 have a:=p
 refine rg a 13 [0,0,2,6,14,0,0,96,224,510,1023,2047,4095] [] mixed (sp 0 z z (sp 1 z z (sp 2 z z (sF 3 z z fI (sL 4 z z (·.bc0 z) (sh _ 5 z (fun w a=>xN z (a.ta 0 tz)) (si 6 z z (sk (.agg #[U6 a1.ID,I6 a1.dn,I6 a1.To,F6 a1.Lo,F6 a1.Hi,U6 a1.Authority,I6 a1.cx,U6 a2,Zu]) 7 z (e1 8 z z fun w a=>?_)))))))))
 obtain ⟨q,s,t,u,a⟩:=a.lits (E:=jR) (xs:=[({r:=a1,from_:=a2,to_:=0}:dj)]) [[U6 a1.ID,I6 a1.dn,I6 a1.To,F6 a1.Lo,F6 a1.Hi,U6 a1.Authority,I6 a1.cx,U6 a2,Zu]] 224 1 z (bT.cons z bT.nil)
 refine cj (v:=(.slice (some ⟨q,0,none⟩) 1 1)) (w':=s) z (dH krA t u) (wn [4,3,2,1,0] a (pL z z (·.bc1 z) (pF z z fI (pz (pz (pz aT))))) (e1 9 z z fun w a=>?_))
 obtain ⟨x,b⟩:=cF b
 replace a:=a.aD
 obtain ⟨g,y,A,a⟩:=bO DZ underlying207 a a.iL (cP x z) 207
 refine cj (v:=g) (w':=y) z (ck z z A) (wn [0] a (pz aT) (sp 10 z z (sF 11 z z fI (e1 12 z z fun w a=>?_))))
 replace a:=a.aD
 refine b1e g a z (oS a.sv1) sI fun J a=>w0n a (bt ?_)
 intro w a
 replace a:=aR (dk (Pt c 0) (({l:=(o.l++([({r:=a1,from_:=a2,to_:=0}:dj)]))}:cg)) a.ah.ah z)
 cases b
 exact mj (vs:=[]) z bl ⟨z,a.bF⟩
}
theorem rL {a0:da} {a1:Int} (a:St w0 w I [] R) {r:(Int)} (b:kh a0 a1=some r) :
  Calls prog 133 #[.agg #[U6 a0.jW,U6 a0.cI,I6 a0.n],U6 a1] w fun e w'=>e = .returned (.int .i64 r)∧St w0 w' I [] R:=by {
 unfold kh at b
 refine c0 func133 z z (ww ?_)
 obtain ⟨g,h,c,d,a⟩:=a.box [U6 a0.jW,U6 a0.cI,I6 a0.n] 189
 refine wa c d (mi z (nt (ww (mF z fI (mL z (a.bc0 z) (mi z (bk b fun i f b=>wc call131 [U6 a0.jW,U6 a1] z z z (kcO (gK a.to0 f) fun j a=>mi z (nt (ar ?_))))))))))
 obtain rfl:=sj b
 exact pI z z ⟨z,a.cT⟩
}
theorem pH {a0:(List da)} {d:Value} {a1:Int} {a2:(List da)} {g:Value} (c:St w0 w I [bp db d a0,bp db g a2] R) {r:(List da)} (q:fa a0 a1 a2=some r) :
  Calls prog 134 #[d,I6 a1,g] w fun e w'=>∃ (x:Value),e = .returned (x)∧St w0 w' I [bp db x r] R:=by {
 unfold fa at q
 obtain ⟨hg,q⟩:=cF q
 cases q
 obtain ⟨A,S,hrm⟩:=uM hg
 obtain ⟨k,rfl⟩:=Int.eq_ofNat_of_zero_le A
 have hsm:=uO hrm
 have hk:k≤a0.length:=by omega
 have hs:∀ w:World,(sizeOf 189).run prog w = .ok db.sz w:=sizeOf189
 have y:0<db.sz:=Nat.le_of_ble_eq_true rfl
 have hov:∀ (args:Array Value) (w:World),(callFunc 191 args).run prog w=(Extern.SlicesOverlaps.overlaps #[109,109] #[4] args >>= fun v=>(pure (.value v):Sem Next)).run prog w:=by intro args w; kernel_rfl
 obtain ⟨css,hr,c⟩:=c.cz
 replace c:=c.ah
 obtain ⟨dss,hq,c⟩:=c.cz
 replace c:=c.ah
 obtain ⟨n,hn⟩:∃ n,css.length=n:=⟨_,rfl⟩
 obtain ⟨m,hm'⟩:∃ m,dss.length=m:=⟨_,rfl⟩
 have hln:a0.length=n:=hr.1.trans hn
 have hlm:a2.length=m:=hq.1.trans hm'
 rw [hln] at hsm hk
 rw [hlm] at hsm
 have hsv:dQ d n:=by have:=c.dy.2; rwa [hn] at this
 have hsq:dQ g m:=by have:=c.ah.dy.2; rwa [hm'] at this
 have hoc:=hr.xE
 have hoq:=hq.xE
 have s:=wrap_add (a:=n) (b:=m) omA
 have t:=wrap_add (a:=k) (b:=m) omA
 have B:=sY (a:=n+m) (b:=k) omA omA
 have hrb:=cP (b:=24) hrm rfl
 rw [hln,hlm] at hrb
 refine c0 func134 z z (ww (mv ((.slice none 0 0)) z (nt (ww (mv (d) z (mi z (mv ((dR db.sz d k n)) (dr (lo:=(k:Nat)) (hi:=(n:Nat)) underlying109 hs z hsv omA omA omA .i64 .i64 (.inl z) (.inr ⟨z,z⟩)) (nt (ww (mv (g) z (mz (bX z underlying109 hsq) (mi z (nt (aj (ww (mi z (mb z (nt (kp ((m:Int)==0) (fun j=>?_) (fun j=>?_))))))))))))))))))))
 {
 refine eG (cvb j) (ww (mv (d) z (mv (d) z (nt (ar (bh (dI [d] z (rc z bl) ?_)))))))
 rw [xk (by rw [hlm]; exact j)]
 exact ⟨_,z,(c.bo hr).bF⟩
}
 refine cJ (cvb j) ?_
 have C:m≠0:=fun h=>by rw [h] at j; cases j
 have D:dss≠[]:=fun h=>C (by rw [← hm',h]; rfl)
 refine al (tn (ww (mv (d) z (mz (bX z underlying109 hsv) (mi z (nt (aj (ww (mi z (mi z (mb z (nt (kp ((k:Int)==(n:Int)) (fun o=>?_) (fun o=>?_))))))))))))))
 {
 refine eG (cvb o) (ww (mv (d) z (mv (g) z ?_)))
 replace c:=((c.bo hr).ah.bo hq).ah
 obtain ⟨f,u,hra,c⟩:=bO AM underlying109 c c.iL (cP hrm z) 109
 refine cK (v:=f) (w':=u) z z (ck z z hra) (mv (f) z (nt (ar (bh (dI [f] z (rc z bl) ?_)))))
 rw [xp (by rw [hln]; exact o)]
 exact ⟨_,z,c.bF⟩
}
 refine cJ (cvb o) ?_
 have hkn:k≠n:=fun h=>by rw [h] at o; simp at o
 have E:0<n:=by omega
 have F:css≠[]:=fun h=>by rw [h] at hn; simp at hn; omega
 refine al (tn (aj (ww (mi z (mi z (mi (eJ s z) (mv (d) z (mi (BY z underlying109 hsv) (mb z (nt (kp (decide (((n+m:Nat):Int)>(uQ d:Int))) (fun p=>?_) (fun p=>?_))))))))))))
 {
 refine eG (cvb p) (ww (mv (d) z (mi z (mv ((dR db.sz d 0 k)) (dr (lo:=(0:Nat)) (hi:=(k:Nat)) underlying109 hs z hsv omA omA omA .i64 .i64 (.inr ⟨z,z⟩) (.inl z)) (mi z (mi z (mi (eJ s z) (mi z (mi (eJ B z) ?_)))))))))
 obtain ⟨f,u,hra,i,zss,hzl,c⟩:=vo AM underlying3 c k (n+m - k) omA (by have:=of_decide_eq_true p; omega) (by rw [show k+(n+m - k)=n+m by omega]; exact hrb) y 109
 rw [show k+(n+m - k)=n+m by omega] at i
 refine cK (v:=f) (w':=u) z z (ck z z hra) (mv (f) z (nt (ww (mv (f) z (mi z (mv ((dR db.sz f k (n+m))) (dr (lo:=(k:Nat)) (hi:=((n+m):Nat)) underlying109 hs z i omA omA omA .i64 .i64 (.inl z) (.inr ⟨z,z⟩)) (mv (g) z ?_)))))))
 obtain ⟨G,H,c⟩:=dZ (P:=prog) (t2:=109) (ty:=3) underlying109 hs c c.aD k m (N:=n+m) olA olA omA olA (fk hoq _)
 refine cK (v:=.int .i64 (m:Nat)) (w':=G) z z (kq z z H) (nt (aj (rg c 9 [0,0,0,6,15,0,0,96,255] [] mixed (sz (f) 0 z z (si 1 z z (si 2 z z (sh (I6 _) 3 z (fun w c=>eJ t z) (sh ((dR db.sz f (k+m) (n+m))) 4 z (fun w c=>dr (lo:=((k+m):Nat)) (hi:=((n+m):Nat)) underlying109 hs z i omA omA omA .i64 .i64 (.inl z) (.inr ⟨z,z⟩)) (sz (d) 5 z z (si 6 z z (sh ((dR db.sz d k n)) 7 z (fun w c=>dr (lo:=(k:Nat)) (hi:=(n:Nat)) underlying109 hs z hsv omA omA omA .i64 .i64 (.inl z) (.inr ⟨z,z⟩)) (e1 8 z z fun w c=>?_))))))))))))
 obtain ⟨J,K,c⟩:=dZ (P:=prog) (t2:=109) (ty:=3) underlying109 hs c (c.ah.jP (l:=k) (h:=n) hk omA) (k+m) (n - k) (N:=n+m) olA olA omA olA (fk (kV (fk hoc _) _) _)
 refine cj (v:=.int .i64 ((n - k):Nat)) (w':=J) z (kq z z K) (w0n c (bt ?_))
 refine fun w c=>tn (ww (mv (f) z (mv (f) z (nt (ar (bh (dI [f] z (rc z bl) ?_)))))))
 rw [tE hn hm' hk hzl] at c
 exact ⟨_,z,(c.bo ((hr.take k).app (hq.app (hr.drop k)))).bF⟩
}
 refine cJ (cvb p) ?_
 have hup:n+m≤uQ d:=by have:=of_decide_eq_false p; omega
 obtain ⟨ess,hel,hem,hst'⟩:=c.zG (n+m) omA hup F
 rw [show n+m - css.length=m by omega] at hel
 have i:dQ (upV d (n+m)) (n+m):=by have:=hst'.dy.2; rwa [List.length_append,hn,hel] at this
 clear c
 have c:=hst'
 clear hst'
 refine al (tn (ww (mv (d) z (mi z (mi z (mi (eJ s z) (mv ((upV d (n+m))) (tJ underlying109 hs z hsv z hup E) (mv ((upV d (n+m))) z (nt (aj (ww (mv (g) z (mv ((upV d (n+m))) z (mi z (mi z (mi (eJ t z) (mv ((dR db.sz (upV d (n+m)) (k+m) (n+m))) (dr (lo:=((k+m):Nat)) (hi:=((n+m):Nat)) underlying109 hs z i omA omA omA .i64 .i64 (.inl z) (.inr ⟨z,z⟩)) (mb (BX z z z (hov _) (px z underlying109 hs c.ah (k+m) (N:=n+m) lnA omA D y)) (mb z (nt (eG z (aj (rg c 9 [0,0,0,6,15,0,0,96,255] [] mixed (sz ((upV d (n+m))) 0 z z (si 1 z z (si 2 z z (sh (I6 _) 3 z (fun w c=>eJ t z) (sh ((dR db.sz (upV d (n+m)) (k+m) (n+m))) 4 z (fun w c=>dr (lo:=((k+m):Nat)) (hi:=((n+m):Nat)) underlying109 hs z i omA omA omA .i64 .i64 (.inl z) (.inr ⟨z,z⟩)) (sz ((upV d (n+m))) 5 z z (si 6 z z (sh ((dR db.sz (upV d (n+m)) k (n+m))) 7 z (fun w c=>dr (lo:=(k:Nat)) (hi:=((n+m):Nat)) underlying109 hs z i omA omA omA .i64 .i64 (.inl z) (.inr ⟨z,z⟩)) (e1 8 z z fun w c=>?_))))))))))))))))))))))))))))))))
 obtain ⟨L,M,c⟩:=dZ (P:=prog) (t2:=109) (ty:=3) underlying109 hs c (c.jP (l:=k) (h:=n+m) omA lnA) (k+m) (n - k) (N:=n+m) olA olA omA olA (by rw [vj hn hm' hk hel]; exact kV hoc _)
 refine cj (v:=.int .i64 ((n - k):Nat)) (w':=L) z (kq z z M) (w0n c (bt ?_))
 refine fun w c=>tn (ww (mv ((upV d (n+m))) z (mi z (mv ((dR db.sz (upV d (n+m)) k (n+m))) (dr (lo:=(k:Nat)) (hi:=((n+m):Nat)) underlying109 hs z i omA omA omA .i64 .i64 (.inl z) (.inr ⟨z,z⟩)) (mv (g) z ?_)))))
 obtain ⟨O,Q,c⟩:=dZ (P:=prog) (t2:=109) (ty:=3) underlying109 hs c c.ah k m (N:=n+m) olA olA omA olA (fk hoq _)
 refine cK (v:=.int .i64 (m:Nat)) (w':=O) z z (kq z z Q) (nt (ww (mv ((upV d (n+m))) z (mv ((upV d (n+m))) z (nt (ar (bh (dI [(upV d (n+m))] z (rc z bl) ?_))))))))
 rw [tL hn hm' hk hel] at c
 exact ⟨_,z,(c.bo ((hr.take k).app (hq.app (hr.drop k)))).bF⟩
}
theorem CC {a0:bK} {f:Value} {a1:Int} (n:Rd (cr .u8) R I f a0.Val) (b:St w0 w I [] R) {r:(bK)} (c:wR a0 a1=some r) :
  Calls prog 17 #[.agg #[F6 a0.At,.bool a0.Del,f],I6 a1] w fun e w'=>∃ (i:Value),e = .returned (.agg #[F6 r.At,.bool r.Del,i])∧St w0 w' I [bp (cr .u8) i r.Val] R:=by {
 unfold wR at c
 refine c0 func17 z z (ww ?_)
 obtain ⟨j,C,o,p,b⟩:=b.box [F6 a0.At,.bool a0.Del,f] 41
 refine wa o p ?_
 obtain ⟨l,D,q,s,b⟩:=b.box [Zf,.bool false,Zs] 41
 refine wa q s (nt (ww (mi z (mk (.int .i64 (if 0>a1 then 0 else a1)) ?_))))
 obtain ⟨t,c⟩:=cF c
 obtain ⟨g,u,x,b⟩:=run_mk (k:=.i64) (k':=.i64) (zm:=0) xh b t deA z
 refine cK (v:=g) (w':=u) z z (Mr z z x) (mv (g) z (nt (ww (mv (g) z (mF z fI (mL z (b.bc2 z) ?_))))))
 obtain ⟨y,A,b⟩:=Dr (P:=prog) (t2:=22) (ty:=3) underlying22 sizeOf5 b (Src.vf b n pe)
 refine cK (v:=.int .i64 ((min (a0.Val).length ((List.replicate (Int.toNat (if 0>a1 then 0 else a1)) 0)).length:Nat):Int)) (w':=y) z z (kq z z A) (nt ?_)
 obtain ⟨E,c,m⟩:=bn c
 refine cR (fun a w=>∃ (h:(List Int)) (d:Value),(uo a0) h=some r∧fz 21 [2,4,5] [Pt j 0,Pt l 0,d] a∧St w0 w I [cells j [F6 a0.At,.bool a0.Del,f],cells l [Zf,.bool false,Zs],bp (cr .u8) d h] R) ?_ ?_
 {
 refine ww (mF z fI (mL z (b.bc2 z) (nt (bw c z ?_ ?_))))
 {
 refine fun B c=>wrl (mv ((.slice none 0 0)) z (nt ?_))
 cases c
 exact ⟨([]),Zs,m,fy z,(b.ba (cr .u8)).aD.aA.eu⟩
}
 refine fun B c=>al (tn ?_)
 cases c
 exact ⟨(cpy (List.replicate (Int.toNat (if 0>a1 then 0 else a1)) 0) a0.Val),g,m,fy z,b.ah.aD.eu⟩
}
 rintro _ F ⟨h,d,c,⟨G,rfl⟩,b⟩
 dsimp only [uo] at c
 refine ww (mF z fI (mL z (b.bc0 z) (mF z fI (mL z (b.bc0 z) (mv (d) z (wv (.agg #[F6 a0.At,.bool a0.Del,d]) z z (by obtain ⟨_,_,hv_,_⟩:=b.sv2; rw [hv_]; kernel_rfl) ?_))))))
 replace b:=b.ah
 refine bxk b z sI (oJ 2 z (oC (oS b.sv2) oN)) fun H b=>nt (ar ?_)
 cases c
 exact prI z (rN z (b.fm 0 tz)) ⟨d,z,b.aD.bF⟩
}
theorem xt {a0:(Option ai)} {p0:Value} {a1:Int} {a2:aG} {u x A B C D F G:Value} (q7:Rd cp R I u a2.br.dO) (q8:Rd fU R I x a2.br.aX) (q9:Rd cp R I A a2.br.dD) (s0:Rd (cr .u8) R I B a2.br.Data) (c1:Rd cG R I C a2.cw) (s1:Rd aK R I D a2.R.dT) (s2:Rd (eC aH) R I F a2.R.aX) (s3:Rd cN R I G a2.dM) (b:St w0 w I [cX aM p0 a0] R) {r:(bU×(Option ai))} (c:km a0 a1 a2=some r) :
  Calls prog 55 #[p0,U6 a1,.agg #[U1 a2.Kind,U6 a2.ID.ab,U6 a2.ID.Seq,U6 a2.ae,U6 a2.Index,I6 a2.E,U6 a2.br.ID.ab,U6 a2.br.ID.Seq,U6 a2.br.ae,u,x,A,B,C,I6 a2.R.E,U6 a2.R.ae,U6 a2.R.Index,D,F,U6 a2.bY,G,U6 a2.ap.ID,I6 a2.ap.dn,I6 a2.ap.To,F6 a2.ap.Lo,F6 a2.ap.Hi,U6 a2.ap.Authority,I6 a2.ap.cx,.bool a2.On]] w fun e w'=>∃ (I':HL) (e6:Value) (e7:Value),e = .returned (.agg #[U1 r.1.Kind,U6 r.1.ID.ab,U6 r.1.ID.Seq,I6 r.1.R.E,U6 r.1.R.ae,U6 r.1.R.Index,e6,e7])∧I.le I'∧Ro aK I' e6 r.1.R.dT∧Ro (eC aH) I' e7 r.1.R.aX∧St w0 w' I' [cX aM p0 r.2] R:=by {
 rcases a0 with _ | d
 {
 dsimp only [km] at c
 cases c
}
 replace b:=bQ b
 dsimp only [km] at c
 refine c0 func55 z z ?_
 have L:=HL.le.refl I
 refine ww ?_
 obtain ⟨m,s4,g8,g9,b⟩:=b.box [U1 a2.Kind,U6 a2.ID.ab,U6 a2.ID.Seq,U6 a2.ae,U6 a2.Index,I6 a2.E,U6 a2.br.ID.ab,U6 a2.br.ID.Seq,U6 a2.br.ae,u,x,A,B,C,I6 a2.R.E,U6 a2.R.ae,U6 a2.R.Index,D,F,U6 a2.bY,G,U6 a2.ap.ID,I6 a2.ap.dn,I6 a2.ap.To,F6 a2.ap.Lo,F6 a2.ap.Hi,U6 a2.ap.Authority,I6 a2.ap.cx,.bool a2.On] 49
 refine wa g8 g9 ?_
 obtain ⟨p,s5,h0,h1,b⟩:=b.box [Zb,Zu,Zu,Zi,Zu,Zu,Zs,Zs] 35
 refine wa h0 h1 (nt (ww (mF z fI (mF z fI (mL z (b.bc1 z) (mF z fI (mL z (b.bc1 z) (mi z (mk (.agg #[I6 a2.R.E,U6 a2.ae,U6 a1,Zs,Zs]) ?_)))))))))
 obtain ⟨q,s6,h2,h3,b⟩:=b.box [Zi,Zu,Zu,Zs,Zs] 33
 refine wa h2 h3 (bxk b z sI (oJ 5 z oN) fun s7 b=>nt (aj ?_))
 obtain ⟨f,T,U,V,X,Y,Z,s,rfl,h4⟩:=bC b.aA
 have b:=h4
 refine rg b 13 [0,1,3,7,0,16,48,127,255,511,511,1023,4095] [] mixed (sp 0 z z (sp 1 z z (sF 2 z z fI (sL 3 z z (·.bc0 z) (sF 4 z z fI (sF 5 z z fI (sL 6 z z (·.zp z) (e1 7 z z fun w b=>bk c fun e8 h5 c=>sB z (er call132 (caps:=[]) z (vs:=[s,U6 a2.ap.ID,.func (.func 133) #[] #[]]) z) (Calls.mono (show Calls prog 132 #[s,U6 a2.ap.ID,.func (.func 133) #[] #[]] _ (fun e w'=>∃ (j:Int) (M:Bool),(j,M)=e8∧e = .returned (.tuple #[I6 j,.bool M])∧St w0 w' I [cells f [I6 d.wide,U6 d.cI,T,U,V,X,Y,Z,s],cX cA T d.store,cX cb U d.ft,cX bV V d.last,cX cH X d.book,bp bc Y d.open_,bp cL Z d.out,bp db s d.used,cells m [U1 a2.Kind,U6 a2.ID.ab,U6 a2.ID.Seq,U6 a2.ae,U6 a2.Index,I6 a2.E,U6 a2.br.ID.ab,U6 a2.br.ID.Seq,U6 a2.br.ae,u,x,A,B,C,I6 a2.R.E,U6 a2.R.ae,U6 a2.R.Index,D,F,U6 a2.bY,G,U6 a2.ap.ID,I6 a2.ap.dn,I6 a2.ap.To,F6 a2.ap.Lo,F6 a2.ap.Hi,U6 a2.ap.Authority,I6 a2.ap.cx,.bool a2.On],cells p [Zb,Zu,Zu,Zi,Zu,Zu,Zs,Zs],cells q [I6 a2.R.E,U6 a2.ae,U6 a1,Zs,Zs]] R) from ?_) ?_)))))))))
 {
 clear c; have c:=h5
 refine c0 func132 z z (ww (mi z (mb z (nt (ww (mv (s) z (mz (bX z uI b.sv7) (mi z (nt (ww (mi z (mi z (mi z (nt ?_))))))))))))))
 obtain ⟨h6,c,h7⟩:=bn c
 refine cR (fun a w=>∃ (Q:Int),(lq d a2) Q=some e8∧fz 49 [0,1,2,8,9] [s,U6 a2.ap.ID,.func (.func 133) #[] #[],I6 ((d.used).length:Int),I6 Q] a∧St w0 w I [bp db s d.used,cells f [I6 d.wide,U6 d.cI,T,U,V,X,Y,Z,s],cX cA T d.store,cX cb U d.ft,cX bV V d.last,cX cH X d.book,bp bc Y d.open_,bp cL Z d.out,cells m [U1 a2.Kind,U6 a2.ID.ab,U6 a2.ID.Seq,U6 a2.ae,U6 a2.Index,I6 a2.E,U6 a2.br.ID.ab,U6 a2.br.ID.Seq,U6 a2.br.ae,u,x,A,B,C,I6 a2.R.E,U6 a2.R.ae,U6 a2.R.Index,D,F,U6 a2.bY,G,U6 a2.ap.ID,I6 a2.ap.dn,I6 a2.ap.To,F6 a2.ap.Lo,F6 a2.ap.Hi,U6 a2.ap.Authority,I6 a2.ap.cx,.bool a2.On],cells p [Zb,Zu,Zu,Zi,Zu,Zu,Zs,Zs],cells q [I6 a2.R.E,U6 a2.ae,U6 a1,Zs,Zs]] R) ?_ ?_
 {
 refine au ?_
 obtain ⟨h8,c⟩:=aS c
 refine bg (fun n a w=>∃ (b0:Int) (S:Int),cU (iw d a2) n (b0,S)=some h6∧fz 49 [0,1,2,8,9,10] [s,U6 a2.ap.ID,.func (.func 133) #[] #[],I6 ((d.used).length:Int),I6 S,I6 b0] a∧St w0 w I [cells f [I6 d.wide,U6 d.cI,T,U,V,X,Y,Z,s],cX cA T d.store,cX cb U d.ft,cX bV V d.last,cX cH X d.book,bp bc Y d.open_,bp cL Z d.out,bp db s d.used,cells q [I6 a2.R.E,U6 a2.ae,U6 a1,Zs,Zs],cells p [Zb,Zu,Zu,Zi,Zu,Zu,Zs,Zs],cells m [U1 a2.Kind,U6 a2.ID.ab,U6 a2.ID.Seq,U6 a2.ae,U6 a2.Index,I6 a2.E,U6 a2.br.ID.ab,U6 a2.br.ID.Seq,U6 a2.br.ae,u,x,A,B,C,I6 a2.R.E,U6 a2.R.ae,U6 a2.R.Index,D,F,U6 a2.bY,G,U6 a2.ap.ID,I6 a2.ap.dn,I6 a2.ap.To,F6 a2.ap.Lo,F6 a2.ap.Hi,U6 a2.ap.Authority,I6 a2.ap.cx,.bool a2.On]] R) h8 ⟨((d.used).length:Int),0,c,fy z,b⟩ ?_
 rintro s8 _ s9 ⟨b0,S,c,⟨t0,rfl⟩,b⟩
 obtain ⟨t1,t2,rfl,c,d0⟩:=aU c
 dsimp only [iw] at c
 refine aj (ww (mi z (mi z (mb z (nt (bw c z ?_ ?_))))))
 {
 refine fun h9 c=>al (tn (au (ww (mi z (mi z (mi z (mk (.int .u64 (u64.wrap (i64.wrap (S+b0)))) (mi (xS deA z z) (mk (.int .i64 (i64.wrap (jq .u64 (u64.wrap (i64.wrap (S+b0))) 1))) (mi z (nt (ww (mv (.func (.func 133) #[] #[]) z (mv (s) z (mi z ?_)))))))))))))))
 obtain ⟨b1,i0,c⟩:=bn c
 obtain ⟨i1,i2,i3⟩:=aV i0
 refine mz (aJ z z uI sI b.sv7 i1 i2) (mz (xN (cs:=[U6 b1.jW,U6 b1.cI,I6 b1.n]) z (b.ME i3 0 riA)) (mi z ?_))
 refine bk c fun t3 i4 c=>dh z z (er call133 (caps:=[]) z (vs:=[.agg #[U6 b1.jW,U6 b1.cI,I6 b1.n],U6 a2.ap.ID]) z) (kcO (rL b.to0 i4) fun t4 b=>mb z (nt (bw c z ?_ ?_)))
 {
 refine fun i5 c=>wrl (mi z (mi z (mi z (dv (bJ (tn ?_))))))
 cases c
 exact ⟨_,nls,b0,_,d0,fy z,b.bR.bR.bR.bR.bR.bR.bR.bR.bR.bR.bR.AV⟩
}
 refine fun i5 c=>wrl (mi z (mi z (dv (bJ (tn ?_)))))
 cases c
 exact ⟨_,nls,_,S,d0,fy z,b.bR.bR.bR.bR.bR.bR.bR.bR.bR.bR.bR.AV⟩
}
 refine fun h9 c=>bH (aQ (aQ ?_))
 replace c:=bz c d0
 refine cZ (tn ?_)
 obtain rfl:=sj c
 exact ⟨S,h7,fy z,b.bM.ca.bR.ca.ca.ca.ca.ca.ca.ca.bR.AV⟩
}
 rintro _ t5 ⟨Q,c,⟨t6,rfl⟩,b⟩
 dsimp only [lq] at c
 refine ww (mi z (mi z (mi z (mb z (mb z (bs c ?_ ?_))))))
 {
 refine fun i c=>gv (.func (.func 133) #[] #[]) i z (gv (s) i z (gi i z ?_))
 obtain ⟨b2,i6,c⟩:=bn c
 obtain ⟨i7,i8,i9⟩:=aV i6
 refine gg i (aJ z z uI sI b.sv0 i7 i8) (gg i (xN (cs:=[U6 b2.jW,U6 b2.cI,I6 b2.n]) z (b.Nc i9 0 riA)) (gi i z ?_))
 refine bk c fun e9 j0 c=>dh ((av z z z (cvb i)).trans z) z (er call133 (caps:=[]) z (vs:=[.agg #[U6 b2.jW,U6 b2.cI,I6 b2.n],U6 a2.ap.ID]) z) (kcO (rL b.to0 j0) fun t7 b=>gb i z (mb (bi i z z) (mi z (mb z (nt (ar (dI [I6 Q,.bool (e9==0)] z (rc z (rc z bl)) ?_)))))))
 cases c
 exact ⟨Q,(e9==0),z,z,b.bR.bR.bR.aA.bR.bR.bR.bR.bR.bR.bR.AV⟩
}
 refine fun i c=>go i (go i (go i (go i (go i (go i (go i (go i (mb (aL i z z) (mi z (mb z (nt (ar (dI [I6 Q,.bool false] z (rc z (rc z bl)) ?_)))))))))))))
 cases c
 exact ⟨Q,false,z,z,b.bR.bR.bR.aA.bR.bR.bR.bR.bR.bR.bR.AV⟩
}
 rintro _ t8 ⟨j,M,rfl,rfl,b⟩
 refine ⟨_,z,?_⟩
 try dsimp only at c
 refine w0n b (sz (.tuple #[I6 j,.bool M]) 8 z z (si 9 z z (sb 10 z z (si 11 z z (sb 12 z z (bt ?_))))))
 refine fun w b=>tn (ww (mi z (nt ?_)))
 obtain ⟨t9,c,d1⟩:=bn c
 refine cR (fun a w=>∃ (H:Int),(nw a2 d a1 M j) H=some r∧fz 170 [0,5,6,7,8,9,10] [Pt f 0,Pt m 0,Pt p 0,Pt q 0,I6 j,.bool M,I6 H] a∧St w0 w I [aM (Pt f 0) d,cells m [U1 a2.Kind,U6 a2.ID.ab,U6 a2.ID.Seq,U6 a2.ae,U6 a2.Index,I6 a2.E,U6 a2.br.ID.ab,U6 a2.br.ID.Seq,U6 a2.br.ae,u,x,A,B,C,I6 a2.R.E,U6 a2.R.ae,U6 a2.R.Index,D,F,U6 a2.bY,G,U6 a2.ap.ID,I6 a2.ap.dn,I6 a2.ap.To,F6 a2.ap.Lo,F6 a2.ap.Hi,U6 a2.ap.Authority,I6 a2.ap.cx,.bool a2.On],cells p [Zb,Zu,Zu,Zi,Zu,Zu,Zs,Zs],cells q [I6 a2.R.E,U6 a2.ae,U6 a1,Zs,Zs]] R) ?_ ?_
 {
 refine aj (eU b mixed krA (qz (.bool _) z (qz (.bool _) z (bs c ?_ ?_))))
 {
 refine fun h c=>qgz (Pt _ _) h z (qgz (Pt _ _) h z (qg _ h (fun w b=>xF z fI z) (qg _ h (fun w b=>xL z (b.bc0 z)) (qgz (I6 _) h z ?_))))
 obtain ⟨j1,j2,c⟩:=bn c
 obtain ⟨f0,f1,f2⟩:=aV j2
 refine qg _ h (fun w b=>aJ z z uI sI b.sv7 f0 f1) (qg _ h (fun w b=>xG z fI z) (qg _ h (fun w b=>xL z (b.ol7 f2 riA)) (qg _ h (fun w b=>xF z fI z) (qg _ h (fun w b=>xL z (b.bc8 z)) (qgz (.bool _) h z (qh (.bool _) (fun w b=>bi h z z) (hK ?_)))))))
 refine fun w b=>tn (bw c z ?_ ?_)
 {
 refine fun j3 c=>wrl (mp z (mp z (mF z fI (mL z (b.bc0 z) (mi z (mz (aJ z z uI sI b.sv7 f0 f1) (mz (xG z fI z) (mL z (b.ol7 f2 riA) (mi z (nt ?_))))))))))
 cases c
 exact ⟨j1.n,d1,fy z,(aF (Pt f 0) d b.aW.aW.aW.aW.aW.aW.aW.aW z).aA.aA.aA.aA.eQ⟩
}
 refine fun j3 c=>al (tn ?_)
 cases c
 exact ⟨_,d1,fy z,(aF (Pt f 0) d b.aW.aW.aW.aW.aW.aW.aW.aW z).aA.aA.aA.aA.eQ⟩
}
 refine fun h c=>qo h (qo h (qo h (qo h (qo h (qo h (qo h (qo h (qo h (qo h (qo h (qh (.bool _) (fun w b=>aL h z z) (hK ?_))))))))))))
 refine fun w b=>tn (cJ z (al (tn ?_)))
 cases c
 exact ⟨_,d1,fy z,(aF (Pt f 0) d b.aW.aW.aW.aW.aW.aW.aW.aW z).aA.aA.aA.aA.eQ⟩
}
 rintro _ u0 ⟨H,c,⟨u1,rfl⟩,b⟩
 dsimp only [nw] at c
 obtain ⟨u2,c,b6⟩:=bn c
 refine cR (fun a w=>∃ (J:Int),(lj d a2 a1 M j H) J=some r∧fz 170 [0,5,6,7,8,9,10] [Pt f 0,Pt m 0,Pt p 0,Pt q 0,I6 j,.bool M,I6 H] a∧St w0 w I [aM (Pt f 0) d,cells m [U1 a2.Kind,U6 a2.ID.ab,U6 a2.ID.Seq,U6 a2.ae,U6 a2.Index,I6 a2.E,U6 a2.br.ID.ab,U6 a2.br.ID.Seq,U6 a2.br.ae,u,x,A,B,C,I6 a2.R.E,U6 a2.R.ae,U6 a2.R.Index,D,F,U6 a2.bY,G,U6 a2.ap.ID,I6 a2.ap.dn,I6 a2.ap.To,F6 a2.ap.Lo,F6 a2.ap.Hi,U6 a2.ap.Authority,I6 a2.ap.cx,.bool a2.On],cells p [Zb,Zu,Zu,Zi,Zu,Zu,Zs,Zs],cells q [I6 J,U6 a2.ae,U6 a1,Zs,Zs]] R) ?_ ?_
 {
 refine au (ww (mF z fI (mL z (b.bc3 z) (mb z (mb z (nt (bw c z ?_ ?_)))))))
 {
 refine fun j4 c=>al (bJ (tn ?_))
 cases c
 exact ⟨_,b6,fy z,b.aA.aA.aA.aA.eQ⟩
}
 refine fun j4 c=>aj ?_
 obtain ⟨u3,u4,u5,u6,u7,u9,v0,v1,d2,j5⟩:=bC b
 replace d2:=ez d2
 subst d2
 have b:=j5
 refine eU b mixed krA (qh _ (fun w b=>xF z fI z) (qh _ (fun w b=>xL z (b.bc8 z)) (qz (Pt _ _) z (qz (Pt _ _) z (qh _ (fun w b=>xF z fI z) (qh _ (fun w b=>xL z (b.bc0 z)) (qz (.bool _) z (qz (.bool _) z (hK ?_)))))))))
 refine fun w b=>tn (bw c z ?_ ?_)
 {
 refine fun j6 c=>wrl (mF z fI ?_)
 replace b:=b.bR
 refine byk (I6 9) b z sI (oC z oN) fun v2 b=>dv (bJ (tn ?_))
 cases c
 exact ⟨_,b6,fy z,(aF (Pt f 0) d b.bM.bM.bM.bM.bM.bM.bM.bM z).ah.aA.aA.aA.eQ⟩
}
 refine fun j6 c=>ww (mF z fI (mL z (b.bc8 z) (mz (bX z uI (ay c1)) (mb z (mb z (nt (bw c z ?_ ?_)))))))
 {
 refine fun j7 c=>wrl (mF z fI ?_)
 replace b:=b.bR
 refine byk (I6 1) b z sI (oC z oN) fun v3 b=>dv (bJ (tn ?_))
 cases c
 exact ⟨_,b6,fy z,(aF (Pt f 0) d b.bM.bM.bM.bM.bM.bM.bM.bM z).ah.aA.aA.aA.eQ⟩
}
 refine fun j7 c=>ww (mi z (mF z fI (mF z fI (mL z (b.bc8 z) (mb z (mb z (nt (bw c z ?_ ?_))))))))
 {
 refine fun j8 c=>wrl (mF z fI ?_)
 replace b:=b.bR
 refine byk (I6 13) b z sI (oC z oN) fun v4 b=>dv (bJ (tn ?_))
 cases c
 exact ⟨_,b6,fy z,(aF (Pt f 0) d b.bM.bM.bM.bM.bM.bM.bM.bM z).ah.aA.aA.aA.eQ⟩
}
 refine fun j8 c=>al (bJ (tn ?_))
 cases c
 exact ⟨_,b6,fy z,(aF (Pt f 0) d b.aW.aW.aW.aW.aW.aW.aW.aW z).aA.aA.aA.aA.eQ⟩
}
 rintro _ v5 ⟨J,c,⟨v6,rfl⟩,b⟩
 dsimp only [lj] at c
 refine aj (aj ?_)
 obtain ⟨v7,v8,v9,j9,x0,x1,x2,k0,d3,k1⟩:=bC b
 replace d3:=ez d3
 subst d3
 have b:=k1
 refine rg b 13 [0,1,3,7,0,16,48,0,128,384,0,2047,4095] [] mixed (sp 0 z z (sp 1 z z (sF 2 z z fI (sL 3 z z (·.bc0 z) (sF 4 z z fI (sF 5 z z fI (sL 6 z z (·.bc8 z) (sF 7 z z fI (sF 8 z z fI (sL 9 z z (·.bc8 z) (sh _ 10 z (fun w b=>xN z (b.Lt 0 tz)) (e1 11 z z fun w b=>?_))))))))))))
 have b7:Ro aK I (.slice none 0 0) []:=dc
 have b8:Ro (eC aH) I (.slice none 0 0) []:=dc
 replace b:=b.aA
 obtain ⟨c2,k2,c⟩:=bn c
 refine wec call124 [j9,U6 a2.ID.ab,U6 a2.ID.Seq,.agg #[I6 J,U6 a2.ae,U6 a1,Zs,Zs]] z z (kcI (rK (a3:=({E:=J,ae:=a2.ae,Index:=a1,dT:=[],aX:=[]}:bB)) b7 b8 b.to1 k2) fun x3 b=>w0n b (sb 12 z z (bt ?_)))
 refine fun w b=>tn (bw c z ?_ ?_)
 {
 refine fun k3 c=>ww (mp z (mF z fI (mz (xN (cs:=[U6 a2.ID.ab,U6 a2.ID.Seq]) z (b.Bk 1 z)) ?_)))
 replace b:=aR (aF (Pt f 0) (({d with last:=c2.2}:ai)) b.aW.aW.aW.aW.bj.aW.aW.aW z)
 obtain ⟨x4,k4,c⟩:=bn c
 refine wc call125 [Pt f 0,.agg #[U6 a2.ID.ab,U6 a2.ID.Seq]] z z z ((tj b.to1 k4).mono ?_)
 rintro _ x5 ⟨k5,k6,rfl,b⟩
 refine ⟨_,z,?_⟩
 replace b:=(bQ b.of3.aD).bj
 refine bxk b z sI (oJ 6 z (oC (oS b.sv2) (oC (oS b.sv3) oN))) fun x6 b=>nt (ar (bh ?_))
 replace b:=b.aD
 obtain ⟨x7,k7,d4,b⟩:=b.cO
 replace L:=L.trans k7
 replace b:=b.aD
 obtain ⟨x8,f3,k8,b⟩:=b.cO
 replace d4:=d4.mono (ro_le f3)
 replace L:=L.trans f3
 replace b:=aR b.ah
 cases c
 exact prI z (rN z (b.fO 0 tz)) ⟨_,k5,k6,z,L,d4,k8,b.bF⟩
}
 refine fun k3 c=>al (tn ?_)
 obtain ⟨k9,c,f4⟩:=bn c
 refine cR (fun a w=>∃ (d5:HL) (d6:ai),(nA a2 J a1) d6=some r∧fz 170 [5,6,7] [Pt m 0,Pt p 0,Pt q 0] a∧I.le d5∧St w0 w d5 [cells m [U1 a2.Kind,U6 a2.ID.ab,U6 a2.ID.Seq,U6 a2.ae,U6 a2.Index,I6 a2.E,U6 a2.br.ID.ab,U6 a2.br.ID.Seq,U6 a2.br.ae,u,x,A,B,C,I6 a2.R.E,U6 a2.R.ae,U6 a2.R.Index,D,F,U6 a2.bY,G,U6 a2.ap.ID,I6 a2.ap.dn,I6 a2.ap.To,F6 a2.ap.Lo,F6 a2.ap.Hi,U6 a2.ap.Authority,I6 a2.ap.cx,.bool a2.On],cells p [Zb,Zu,Zu,Zi,Zu,Zu,Zs,Zs],cells q [I6 J,U6 a2.ae,U6 a1,Zs,Zs],aM (Pt f 0) d6] R) ?_ ?_
 {
 have c3:=HL.le.refl I
 refine ww (mF z fI (mL z (b.zp z) (mb z (nt (bw c z ?_ ?_)))))
 {
 intro l0 c
 obtain ⟨x9,c,f5⟩:=bn c
 refine cR (fun a w=>∃ (g:ai),(nE j a2 H) g=some k9∧fz 170 [0,5,6,7,8,10] [Pt f 0,Pt m 0,Pt p 0,Pt q 0,I6 j,I6 H] a∧St w0 w I [aM (Pt f 0) g,cells m [U1 a2.Kind,U6 a2.ID.ab,U6 a2.ID.Seq,U6 a2.ae,U6 a2.Index,I6 a2.E,U6 a2.br.ID.ab,U6 a2.br.ID.Seq,U6 a2.br.ae,u,x,A,B,C,I6 a2.R.E,U6 a2.R.ae,U6 a2.R.Index,D,F,U6 a2.bY,G,U6 a2.ap.ID,I6 a2.ap.dn,I6 a2.ap.To,F6 a2.ap.Lo,F6 a2.ap.Hi,U6 a2.ap.Authority,I6 a2.ap.cx,.bool a2.On],cells p [Zb,Zu,Zu,Zi,Zu,Zu,Zs,Zs],cells q [I6 J,U6 a2.ae,U6 a1,Zs,Zs]] R) ?_ ?_
 {
 refine ww (mb z (mb z (nt (bw c z ?_ ?_))))
 {
 refine fun l1 c=>rg b 15 [0,0,2,6,14,0,0,64,192,448,960,2046,4095,8191,16383] [] mixed (sp 0 z z (sp 1 z z (sp 2 z z (sF 3 z z fI (sL 4 z z (·.bc1 z) (si 5 z z (sF 6 z z fI (sF 7 z z fI (sL 8 z z (·.bc8 z) (sk (.agg #[U6 a2.ap.ID,Zu,Zi]) 9 z (e1 10 z z fun w b=>?_)))))))))))
 obtain ⟨f6,l2,l3,l4,b⟩:=b.lits (E:=db) (xs:=[({jW:=a2.ap.ID,cI:=0,n:=0}:da)]) [[U6 a2.ap.ID,Zu,Zi]] 189 1 z (bT.cons z bT.nil)
 refine cj (v:=(.slice (some ⟨f6,0,none⟩) 1 1)) (w':=l2) z (dH krA l3 l4) (wn [5,4,3,2,1,0] b (pz (pL z z (·.bc2 z) (pF z z fI (pz (pz (pz aT)))))) (e1 11 z z fun w b=>?_))
 replace b:=b.bM
 obtain ⟨l5,l6,c⟩:=bn c
 refine wec call134 [k0,I6 j,(.slice (some ⟨f6,0,none⟩) 1 1)] z z (kdI (pH b.to2 l6) fun l7 y0 b=>wn [0] b (pz aT) (sp 12 z z (sF 13 z z fI (e1 14 z z fun w b=>?_))))
 replace b:=b.aD
 refine b1e l7 b z (oS b.sv1) sI fun y1 b=>w0n b (bt ?_)
 refine fun w b=>tn ?_
 cases c
 exact ⟨_,f5,fy z,(aF (Pt f 0) (({d with last:=c2.2,used:=l5}:ai)) b.ah.aW.aW.aW.bq.aW.aW.aW z).aA.aA.aA.aA.eQ⟩
}
 refine fun l1 c=>al (tn ?_)
 cases c
 exact ⟨_,f5,fy z,(aF (Pt f 0) (({d with last:=c2.2}:ai)) b.aW.aW.aW.aW.bj.aW.aW.aW z).aA.aA.aA.aA.eQ⟩
}
 rintro _ y2 ⟨g,c,⟨y3,rfl⟩,b⟩
 dsimp only [nE] at c
 refine aj ?_
 obtain ⟨y4,c4,c5,c6,c7,c8,b9,c9,d7,l8⟩:=bC b
 replace d7:=ez d7
 subst d7
 have b:=l8
 refine rg b 20 [0,1,3,7,0,0,32,96,224,0,0,1024,0,4096,3583,19967,52735,131071,262143,524287] [] mixed (sp 0 z z (sp 1 z z (sF 2 z z fI (sL 3 z z (·.bc0 z) (si 4 z z (sp 5 z z (sp 6 z z (sF 7 z z fI (sL 8 z z (·.bc0 z) (si 9 z z (sF 10 z z fI (sL 11 z z (·.bc8 z) (si 12 z z (si 13 z z ?_))))))))))))))
 obtain ⟨k,l9,c⟩:=bn c
 obtain ⟨f7,f8,f9⟩:=aV l9
 refine sh _ 14 z (fun w b=>aJ z z uI sI b.sv7 f7 f8) (sh _ 15 z (fun w b=>xG z fI z) (e1 16 z z fun w b=>?_))
 replace b:=b.aW
 obtain ⟨y5,m0,b⟩:=b.sd (P:=prog) (t:=26) (y:=({k with cI:=a2.ae}:da)) f9 1 (.int .u64 a2.ae) sI (Nat.le_of_ble_eq_true z) (oC z oN) riA
 have m1:=Gr f9 ({k with cI:=a2.ae}:da)
 have m2:=Jy f8 j.toNat ({k with cI:=a2.ae}:da)
 refine tu z (rn m0) (wn [13,12,9] b (pz (pz (pz aT))) (sh _ 17 z (fun w b=>aJ z z uI sI b.sv0 f7 m2) (sh _ 18 z (fun w b=>xG z fI z) (e1 19 z z fun w b=>?_))))
 obtain ⟨y6,m3,b⟩:=b.sd (P:=prog) (t:=3) (y:=({jW:=({k with cI:=a2.ae}:da).jW,cI:=({k with cI:=a2.ae}:da).cI,n:=(i64.wrap (H+1))}:da)) m1 2 (.int .i64 (i64.wrap (H+1))) sI (Nat.le_of_ble_eq_true z) (oC z oN) riA
 refine tu z (rn m3) (w0n b (bt ?_))
 refine fun w b=>tn (rg b 36 [0,0,2,6,14,0,32,96,0,0,512,1536,3840,7936,16128,32512,0,65536,196608,0,524288,0,2097152,6291456,14680064,0,33554432,100663296,234881024,534781696,1073741792,2147483616,4294967294,8589934591,17179869183,34359738367] [] mixed (sp 0 z z (sp 1 z z (sp 2 z z (sF 3 z z fI (sL 4 z z (·.bc1 z) (sF 5 z z fI (sF 6 z z fI (sL 7 z z (·.bc8 z) (sp 8 z z (sF 9 z z fI (sF 10 z z fI (sL 11 z z (·.bc8 z) (sF 16 z z fI (sF 17 z z fI (sL 18 z z (·.bc8 z) (sF 19 z z fI (sL 20 z z (·.bc8 z) (sF 21 z z fI (sL 22 z z (·.bc8 z) ?_))))))))))))))))))))
 obtain ⟨b3,m4,c⟩:=bn c
 obtain ⟨g0,g1,m5⟩:=aV m4
 refine sh _ 23 z (fun w b=>aJ z z uI sI (ay c1) g0 g1) ?_
 obtain ⟨y7,m6,g2⟩:=Rd.lC c1 m5
 obtain ⟨d8,rfl,m7,-⟩:=m6
 refine sh _ 24 z (fun w b=>xN (cs:=[F6 b3.At,.bool b3.Del,d8]) z (et (o:=0) (g2 lr b) z)) (sp 25 z z (sp 26 z z (sF 27 z z fI (sL 28 z z (·.bc1 z) (e1 12 z z fun w b=>bk c fun g3 m8 c=>sB z (er call15 (caps:=[]) z (vs:=[Pt f 0,I6 a2.ap.To]) z) (Calls.mono (show Calls prog 15 #[Pt f 0,I6 a2.ap.To] _ (fun e w'=>∃ (O:(List dw)) (d9:Value),O=g3∧e = .returned (d9)∧St w0 w' I [bp cL d9 O,cells f [I6 g.wide,U6 g.cI,c4,c5,c6,c7,c8,b9,c9],cX cA c4 g.store,cX cb c5 g.ft,cX bV c6 g.last,cX cH c7 g.book,bp bc c8 g.open_,bp cL b9 g.out,bp db c9 ((g.used.set j.toNat ({k with cI:=a2.ae}:da)).set j.toNat ({jW:=({k with cI:=a2.ae}:da).jW,cI:=({k with cI:=a2.ae}:da).cI,n:=(i64.wrap (H+1))}:da)),cells m [U1 a2.Kind,U6 a2.ID.ab,U6 a2.ID.Seq,U6 a2.ae,U6 a2.Index,I6 a2.E,U6 a2.br.ID.ab,U6 a2.br.ID.Seq,U6 a2.br.ae,u,x,A,B,C,I6 a2.R.E,U6 a2.R.ae,U6 a2.R.Index,D,F,U6 a2.bY,G,U6 a2.ap.ID,I6 a2.ap.dn,I6 a2.ap.To,F6 a2.ap.Lo,F6 a2.ap.Hi,U6 a2.ap.Authority,I6 a2.ap.cx,.bool a2.On],cells p [Zb,Zu,Zu,Zi,Zu,Zu,Zs,Zs],cells q [I6 J,U6 a2.ae,U6 a1,Zs,Zs]] R) from ?_) ?_))))))
 {
 clear c; have c:=m8
 refine c0 func15 z z (ww (mv ((.slice none 0 0)) z (nt (ww (mv ((.slice none 0 0)) z (nt (aj (ww (mp z (mk (.bool false) (nt (cJ z (al (tn (aj (ww (mp z (mp z (mF z fI (mL z (b.bc1 z) (mz (bX z uI b.sv7) (mi z (nt (au ?_))))))))))))))))))))))))
 replace b:=b.ba cL
 obtain ⟨m9,c⟩:=aS c
 refine bg (fun n a w=>∃ (e0:Int) (b4:(List dw)) (K:Value),cU (jD g a2) n (e0,b4)=some g3∧fz 30 [1,5,14,15,16] [I6 a2.ap.To,K,b9,I6 ((g.out).length:Int),I6 e0] a∧St w0 w I [bp cL K b4,bp db c9 ((g.used.set j.toNat ({k with cI:=a2.ae}:da)).set j.toNat ({jW:=({k with cI:=a2.ae}:da).jW,cI:=({k with cI:=a2.ae}:da).cI,n:=(i64.wrap (H+1))}:da)),cells f [I6 g.wide,U6 g.cI,c4,c5,c6,c7,c8,b9,c9],cX cA c4 g.store,cX cb c5 g.ft,cX bV c6 g.last,cX cH c7 g.book,bp bc c8 g.open_,bp cL b9 g.out,cells m [U1 a2.Kind,U6 a2.ID.ab,U6 a2.ID.Seq,U6 a2.ae,U6 a2.Index,I6 a2.E,U6 a2.br.ID.ab,U6 a2.br.ID.Seq,U6 a2.br.ae,u,x,A,B,C,I6 a2.R.E,U6 a2.R.ae,U6 a2.R.Index,D,F,U6 a2.bY,G,U6 a2.ap.ID,I6 a2.ap.dn,I6 a2.ap.To,F6 a2.ap.Lo,F6 a2.ap.Hi,U6 a2.ap.Authority,I6 a2.ap.cx,.bool a2.On],cells p [Zb,Zu,Zu,Zi,Zu,Zu,Zs,Zs],cells q [I6 J,U6 a2.ae,U6 a1,Zs,Zs]] R) m9 ⟨0,[],Zs,c,fy z,b⟩ ?_
 rintro y8 _ y9 ⟨e0,b4,K,c,⟨A0,rfl⟩,b⟩
 obtain ⟨A1,A2,rfl,c,e2⟩:=aU c
 dsimp only [jD] at c
 refine ww (mb z (nt (aj (bw c z ?_ ?_))))
 {
 refine fun n0 c=>al (tn (aj (au (ww ?_))))
 obtain ⟨l,n1,c⟩:=bn c
 obtain ⟨n2,n3,n4⟩:=aV n1
 refine mz (aJ z z uI sI b.sv8 n2 n3) ?_
 obtain ⟨A3,n5,n6⟩:=b.og8 n4
 obtain ⟨g4,rfl,e3,-⟩:=n5
 refine mz (xN (cs:=[I6 l.To,U6 l.N,U6 l.ap,U6 l.ae,F6 l.W.At,.bool l.W.Del,g4]) z (et (o:=0) n6 z)) ?_
 obtain ⟨A4,A5,n7,n8,b⟩:=b.box [Zi,Zu,Zu,Zu,Zf,.bool false,Zs] 53
 refine wa n7 n8 (bxk b z sI (oJ 6 z (oC (oS (ak e3)) oN)) fun A6 b=>nt (ww (mF z fI (mL z (b.bc0 z) (mi z (mb z (nt (bw c z ?_ ?_))))))))
 {
 refine fun n9 c=>wrl (mv (K) z (mz (xN z (b.fm 0 tz)) ?_))
 obtain ⟨o1,o2,o3,o4,b⟩:=b.lits (E:=cL) (xs:=[l]) [[I6 l.To,U6 l.N,U6 l.ap,U6 l.ae,F6 l.W.At,.bool l.W.Del,g4]] 53 1 z (bT.cons ⟨_,z,e3,oS (ak e3)⟩ bT.nil)
 refine cK (v:=(.slice (some ⟨o1,0,none⟩) 1 1)) (w':=o2) z z (dH krA o3 o4) ?_
 obtain ⟨o5,c⟩:=cF c
 replace b:=b.aD
 obtain ⟨e4,o6,o7,b⟩:=bO vu underlying50 b b.iL (cP o5 z) 50
 refine cK (v:=e4) (w':=o6) z z (ck z z o7) (mv (e4) z (dv (bJ (tn (wrl (mi z (mi z (nt ?_))))))))
 cases c
 exact ⟨_,nls,_,(b4++([l])),e4,e2,fy z,b.uc.uc.uc.uc.uc.uc.uc.uc.uc.uc.uc.kA.wW⟩
}
 refine fun n9 c=>al (bJ (tn (wrl (mi z (mi z (nt ?_))))))
 cases c
 exact ⟨_,nls,_,b4,K,e2,fy z,b.rm.rm.rm.rm.rm.rm.rm.rm.rm.rm.rm.rm.wW⟩
}
 refine fun n0 c=>bH (aQ (aQ ?_))
 replace c:=bz c e2
 refine cZ (tn (ww (mv (K) z (mv (K) z (nt (ar (dI [K] z (rc z bl) ?_)))))))
 obtain rfl:=sj c
 exact ⟨b4,K,z,z,b.kA.kA.kA.bj.kA.kA.kA.kA.kA.kA.kA.kA.wW⟩
}
 rintro _ A7 ⟨O,d9,rfl,rfl,b⟩
 refine ⟨_,z,?_⟩
 try dsimp only at c
 refine wn [28,27,26,25,24,23,22,21,20,19,18,17,16,7,6,5,4,3,2,1,0] b (pL z z (·.bc1 z) (pF z z fI (pz (pz (pkr z z (fun w b=>xN (cs:=[F6 b3.At,.bool b3.Del,d8]) z (et (o:=0) (g2 lr b) z)) (pkr z z (fun w b=>aJ z z uI sI (ay c1) g0 g1) (pL z z (·.bc9 z) (pF z z fI (pL z z (·.bc9 z) (pF z z fI (pL z z (·.bc9 z) (pF z z fI (pF z z fI (pL z z (·.bc9 z) (pF z z fI (pF z z fI (pL z z (·.bc1 z) (pF z z fI (pz (pz (pz aT))))))))))))))))))))) (sh _ 13 z (fun w b=>bX z uI b.sv0) (si 14 z z (sk (.int .u64 (u64.wrap (i64.wrap (((O).length:Int)+1)))) 15 z (e1 29 z z fun w b=>?_))))
 refine bk c fun b5 o8 c=>wec call17 [.agg #[F6 b3.At,.bool b3.Del,d8],I6 g.wide] z z (kdI (CC (m7.mono (cW _)) b.to0 o8) fun g5 A8 b=>wn [15,14,13,20,19,18,17,16,7,6,5,4,3,2,1,0] b (pkr z z (fun w b=>by kernel_rfl) (pz (pkr z z (fun w b=>bX z uI b.sv1) (pL z z (·.zp z) (pF z z fI (pL z z (·.zp z) (pF z z fI (pF z z fI (pL z z (·.zp z) (pF z z fI (pF z z fI (pL z z (·.bc2 z) (pF z z fI (pz (pz (pz aT)))))))))))))))) ?_)
 refine wsr (.agg #[I6 a2.ap.To,U6 (u64.wrap (i64.wrap (((O).length:Int)+1))),U6 a2.ap.ID,U6 a2.ae,F6 b5.At,.bool b5.Del,g5]) 30 rfl rfl rfl krA (fun w b=>by obtain ⟨_,_,hv_,_⟩:=b.sv0; rw [hv_]; kernel_rfl) (e1 31 z z fun w b=>?_)
 obtain ⟨A9,o9,g6,b⟩:=b.cO
 replace c3:=c3.trans o9
 obtain ⟨q0,q1,q2,q3,b⟩:=b.lits (E:=cL) (xs:=[({To:=a2.ap.To,N:=(u64.wrap (i64.wrap (((O).length:Int)+1))),ap:=a2.ap.ID,ae:=a2.ae,W:=b5}:dw)]) [[I6 a2.ap.To,U6 (u64.wrap (i64.wrap (((O).length:Int)+1))),U6 a2.ap.ID,U6 a2.ae,F6 b5.At,.bool b5.Del,g5]] 53 1 z (bT.cons ⟨_,z,g6,oS (ak g6)⟩ bT.nil)
 refine cj (v:=(.slice (some ⟨q0,0,none⟩) 1 1)) (w':=q1) z (dH krA q2 q3) (wn [4,3,2,1,0] b (pL z z (·.bc2 z) (pF z z fI (pz (pz (pz aT))))) (e1 32 z z fun w b=>?_))
 obtain ⟨q4,c⟩:=cF c
 replace b:=b.bM
 obtain ⟨g7,q5,q6,b⟩:=bO vu underlying50 b b.iL (cP q4 z) 50
 refine cj (v:=g7) (w':=q5) z (ck z z q6) (wn [0] b (pz aT) (sp 33 z z (sF 34 z z fI (e1 35 z z fun w b=>?_))))
 replace b:=b.aA
 refine b1e g7 b z (oS b.sv1) sI fun B0 b=>w0n b (bt ?_)
 refine fun w b=>tn ?_
 cases c
 exact ⟨_,_,f4,fy z,c3,(aF (Pt f 0) (({g with out:=(g.out++([({To:=a2.ap.To,N:=(u64.wrap (i64.wrap (((O).length:Int)+1))),ap:=a2.ap.ID,ae:=a2.ae,W:=b5}:dw)])),used:=((g.used.set j.toNat ({k with cI:=a2.ae}:da)).set j.toNat ({jW:=({k with cI:=a2.ae}:da).jW,cI:=({k with cI:=a2.ae}:da).cI,n:=(i64.wrap (H+1))}:da))}:ai)) b.ca.aD.ca.ca.ca.ca.ca.aW z).bq.bq.bq.eQ⟩
}
 refine fun l0 c=>al (tn ?_)
 cases c
 exact ⟨_,_,f4,fy z,c3,(aF (Pt f 0) (({d with last:=c2.2}:ai)) b.aW.aW.aW.aW.bj.aW.aW.aW z).aA.aA.aA.eQ⟩
}
 rintro _ B1 ⟨d5,d6,c,⟨B2,rfl⟩,e5,b⟩
 dsimp only [nA] at c
 replace b7:=b7.mono (ro_le e5)
 replace b8:=b8.mono (ro_le e5)
 replace L:=L.trans e5
 refine ww (mF z fI (mz (xN (cs:=[U6 a2.ID.ab,U6 a2.ID.Seq]) z (b.fm 1 z)) (mz (xN z (b.ta 0 tz)) (mk (.agg #[U1 4,U6 a2.ID.ab,U6 a2.ID.Seq,I6 J,U6 a2.ae,U6 a1,Zs,Zs]) ?_))))
 replace b:=b.ah
 refine bxk b z sI (oJ 6 z (oC (oS (ak b7)) (oC (oS (ak b8)) oN))) fun B3 b=>nt (ar ?_)
 replace b:=aR b.aA
 cases c
 exact prI z (rN z (b.fO 0 tz)) ⟨_,Zs,Zs,z,L,b7,b8,b.bF⟩
}
theorem sQ {a0:(Option ai)} {p0:Value} {a1:Int} {a2:aG} {g h i j k l m n:Value} (o:Ro cp I g a2.br.dO) (p:Ro fU I h a2.br.aX) (q:Ro cp I i a2.br.dD) (s:Ro (cr .u8) I j a2.br.Data) (t:Ro cG I k a2.cw) (u:Ro aK I l a2.R.dT) (v:Ro (eC aH) I m a2.R.aX) (x:Ro cN I n a2.dM) (a:St w0 w I [cX aM p0 a0] R) {r:(bU×(Option ai))} (b:df a0 a1 a2=some r) :
  Calls prog 14 #[p0,U6 a1,.agg #[U1 a2.Kind,U6 a2.ID.ab,U6 a2.ID.Seq,U6 a2.ae,U6 a2.Index,I6 a2.E,U6 a2.br.ID.ab,U6 a2.br.ID.Seq,U6 a2.br.ae,g,h,i,j,k,I6 a2.R.E,U6 a2.R.ae,U6 a2.R.Index,l,m,U6 a2.bY,n,U6 a2.ap.ID,I6 a2.ap.dn,I6 a2.ap.To,F6 a2.ap.Lo,F6 a2.ap.Hi,U6 a2.ap.Authority,I6 a2.ap.cx,.bool a2.On]] w fun e w'=>∃ (I':HL) (F:Value) (G:Value),e = .returned (.agg #[U1 r.1.Kind,U6 r.1.ID.ab,U6 r.1.ID.Seq,I6 r.1.R.E,U6 r.1.R.ae,U6 r.1.R.Index,F,G])∧I.le I'∧Ro aK I' F r.1.R.dT∧Ro (eC aH) I' G r.1.R.aX∧St w0 w' I' [cX aM p0 r.2] R:=by {
 rcases a0 with _ | f
 {
 dsimp only [df] at b
 cases b
}
 replace a:=bQ a
 dsimp only [df] at b
 refine c0 func14 z z ?_
 have c:=HL.le.refl I
 refine ww ?_
 obtain ⟨h2,h3,W,X,a⟩:=a.box [U1 a2.Kind,U6 a2.ID.ab,U6 a2.ID.Seq,U6 a2.ae,U6 a2.Index,I6 a2.E,U6 a2.br.ID.ab,U6 a2.br.ID.Seq,U6 a2.br.ae,g,h,i,j,k,I6 a2.R.E,U6 a2.R.ae,U6 a2.R.Index,l,m,U6 a2.bY,n,U6 a2.ap.ID,I6 a2.ap.dn,I6 a2.ap.To,F6 a2.ap.Lo,F6 a2.ap.Hi,U6 a2.ap.Authority,I6 a2.ap.cx,.bool a2.On] 49
 refine wa W X ?_
 obtain ⟨h4,h5,Y,Z,a⟩:=a.box [Zb,Zu,Zu,Zi,Zu,Zu,Zs,Zs] 35
 refine wa Y Z (nt (aj (ww (mv (p0) z ?_))))
 obtain ⟨d,h6,h7,h8,H,h9,i0,i1,rfl,b0⟩:=bC a.aD
 have a:=b0
 refine mk (.bool false) (nt (cJ z (al (tn (aj (ww (mF z fI (mL z (a.bc9 z) (nt (au (ww (mb z (mb z (nt (bw b z ?_ ?_)))))))))))))))
 {
 refine fun b1 b=>ww (mp z (mz (xN z (a.AZ 0 tz)) ?_))
 replace a:=aR (aF (Pt d 0) f a.aW.aW.aW.aW.aW.aW.aW.aW z)
 obtain ⟨b2,b3,b⟩:=bn b
 refine wc call47 [Pt d 0,.agg #[U1 a2.Kind,U6 a2.ID.ab,U6 a2.ID.Seq,U6 a2.ae,U6 a2.Index,I6 a2.E,U6 a2.br.ID.ab,U6 a2.br.ID.Seq,U6 a2.br.ae,g,h,i,j,k,I6 a2.R.E,U6 a2.R.ae,U6 a2.R.Index,l,m,U6 a2.bY,n,U6 a2.ap.ID,I6 a2.ap.dn,I6 a2.ap.To,F6 a2.ap.Lo,F6 a2.ap.Hi,U6 a2.ap.Authority,I6 a2.ap.cx,.bool a2.On]] z z z ((xK (o.mono cS) (p.mono cS) (q.mono cS) (s.mono cS) (t.mono cS) (u.mono cS) (v.mono cS) (x.mono cS) a.to1 b3).mono ?_)
 rintro _ i2 ⟨b4,b5,rfl,a⟩
 refine ⟨_,z,?_⟩
 replace a:=a.of3.aD
 rcases J:b2.2 with _ | i3
 · rw [J] at b; cases b
 rw [J] at b a; dsimp only at b; replace a:=bQ a
 replace a:=a.aA
 refine bxk a z sI (oJ 6 z (oC (oS a.sv2) (oC (oS a.sv3) oN))) fun i4 a=>nt (ar (eo (bh ?_)))
 replace a:=a.aD
 obtain ⟨i5,b6,A,a⟩:=a.cO
 replace c:=c.trans b6
 replace a:=a.aD
 obtain ⟨i6,K,b7,a⟩:=a.cO
 replace A:=A.mono (ro_le K)
 replace c:=c.trans K
 replace a:=aR a.ah
 cases b
 exact prI z (rN z (a.fO 0 tz)) ⟨_,b4,b5,z,c,A,b7,a.bF⟩
}
 refine fun b1 b=>ww (mb z (mb z (nt (bw b z ?_ ?_))))
 {
 refine fun b8 b=>ww (mp z (mz (xN z (a.AZ 0 tz)) ?_))
 replace a:=aR (aF (Pt d 0) f a.aW.aW.aW.aW.aW.aW.aW.aW z)
 obtain ⟨b9,c1,b⟩:=bn b
 refine wc call48 [Pt d 0,.agg #[U1 a2.Kind,U6 a2.ID.ab,U6 a2.ID.Seq,U6 a2.ae,U6 a2.Index,I6 a2.E,U6 a2.br.ID.ab,U6 a2.br.ID.Seq,U6 a2.br.ae,g,h,i,j,k,I6 a2.R.E,U6 a2.R.ae,U6 a2.R.Index,l,m,U6 a2.bY,n,U6 a2.ap.ID,I6 a2.ap.dn,I6 a2.ap.To,F6 a2.ap.Lo,F6 a2.ap.Hi,U6 a2.ap.Authority,I6 a2.ap.cx,.bool a2.On]] z z z ((vE (o.mono cS) (p.mono cS) (q.mono cS) (s.mono cS) (t.mono cS) (u.mono cS) (v.mono cS) (x.mono cS) a.to1 c1).mono ?_)
 rintro _ i7 ⟨i8,c2,c3,rfl,c4,a⟩
 refine ⟨_,z,?_⟩
 replace a:=a.of3
 replace c:=c.trans c4
 replace a:=a.aD
 rcases L:b9.2 with _ | i9
 · rw [L] at b; cases b
 rw [L] at b a; dsimp only at b; replace a:=bQ a
 replace a:=a.aA
 refine bxk a z sI (oJ 6 z (oC (oS a.sv2) (oC (oS a.sv3) oN))) fun j0 a=>nt (ar (eo (bh ?_)))
 replace a:=a.aD
 obtain ⟨j1,c5,B,a⟩:=a.cO
 replace c:=c.trans c5
 replace a:=a.aD
 obtain ⟨j2,M,c6,a⟩:=a.cO
 replace B:=B.mono (ro_le M)
 replace c:=c.trans M
 replace a:=aR a.ah
 cases b
 exact prI z (rN z (a.fO 0 tz)) ⟨_,c2,c3,z,c,B,c6,a.bF⟩
}
 refine fun b8 b=>ww (mb z (mb z (nt (bw b z ?_ ?_))))
 {
 refine fun c7 b=>ww (mp z (mz (xN z (a.AZ 0 tz)) ?_))
 replace a:=aR (aF (Pt d 0) f a.aW.aW.aW.aW.aW.aW.aW.aW z)
 obtain ⟨c8,c9,b⟩:=bn b
 refine wc call49 [Pt d 0,.agg #[U1 a2.Kind,U6 a2.ID.ab,U6 a2.ID.Seq,U6 a2.ae,U6 a2.Index,I6 a2.E,U6 a2.br.ID.ab,U6 a2.br.ID.Seq,U6 a2.br.ae,g,h,i,j,k,I6 a2.R.E,U6 a2.R.ae,U6 a2.R.Index,l,m,U6 a2.bY,n,U6 a2.ap.ID,I6 a2.ap.dn,I6 a2.ap.To,F6 a2.ap.Lo,F6 a2.ap.Hi,U6 a2.ap.Authority,I6 a2.ap.cx,.bool a2.On]] z z z ((vZ (o.mono cS) (p.mono cS) (q.mono cS) (s.mono cS) (t.mono cS) (u.mono cS) (v.mono cS) (x.mono cS) a.to1 c9).mono ?_)
 rintro _ j3 ⟨j4,d0,d1,rfl,d2,a⟩
 refine ⟨_,z,?_⟩
 replace a:=a.of3
 replace c:=c.trans d2
 replace a:=a.aD
 rcases N:c8.2 with _ | j5
 · rw [N] at b; cases b
 rw [N] at b a; dsimp only at b; replace a:=bQ a
 replace a:=a.aA
 refine bxk a z sI (oJ 6 z (oC (oS a.sv2) (oC (oS a.sv3) oN))) fun j6 a=>nt (ar (eo (bh ?_)))
 replace a:=a.aD
 obtain ⟨j7,d3,C,a⟩:=a.cO
 replace c:=c.trans d3
 replace a:=a.aD
 obtain ⟨j8,O,d4,a⟩:=a.cO
 replace C:=C.mono (ro_le O)
 replace c:=c.trans O
 replace a:=aR a.ah
 cases b
 exact prI z (rN z (a.fO 0 tz)) ⟨_,d0,d1,z,c,C,d4,a.bF⟩
}
 refine fun c7 b=>ww (mb z (mb z (nt (bw b z ?_ ?_))))
 {
 refine fun d5 b=>ww (mp z (mi z (mz (xN z (a.AZ 0 tz)) ?_)))
 replace a:=aR (aF (Pt d 0) f a.aW.aW.aW.aW.aW.aW.aW.aW z)
 obtain ⟨d6,d7,b⟩:=bn b
 refine wc call50 [Pt d 0,U6 a1,.agg #[U1 a2.Kind,U6 a2.ID.ab,U6 a2.ID.Seq,U6 a2.ae,U6 a2.Index,I6 a2.E,U6 a2.br.ID.ab,U6 a2.br.ID.Seq,U6 a2.br.ae,g,h,i,j,k,I6 a2.R.E,U6 a2.R.ae,U6 a2.R.Index,l,m,U6 a2.bY,n,U6 a2.ap.ID,I6 a2.ap.dn,I6 a2.ap.To,F6 a2.ap.Lo,F6 a2.ap.Hi,U6 a2.ap.Authority,I6 a2.ap.cx,.bool a2.On]] z z z ((vX o p q s t u v x a.to1 d7).mono ?_)
 rintro _ j9 ⟨k0,d8,d9,rfl,e0,P,Q,a⟩
 refine ⟨_,z,?_⟩
 replace a:=a.of1
 replace c:=c.trans e0
 rcases S:d6.2 with _ | k1
 · rw [S] at b; cases b
 rw [S] at b a; dsimp only at b; replace a:=bQ a
 replace a:=a.ah
 refine bxk a z sI (oJ 6 z (oC (oS (ak P)) (oC (oS (ak Q)) oN))) fun k2 a=>nt (ar (eo (bh ?_)))
 replace a:=aR a.ah
 cases b
 exact prI z (rN z (a.fO 0 tz)) ⟨_,d8,d9,z,c,P,Q,a.bF⟩
}
 refine fun d5 b=>ww (mb z (mb z (nt (bw b z ?_ ?_))))
 {
 refine fun e2 b=>ww (mp z (mF z fI (mz (xN (cs:=[U6 a2.ID.ab,U6 a2.ID.Seq]) z (a.AZ 1 z)) ?_)))
 replace a:=aR (aF (Pt d 0) f a.aW.aW.aW.aW.aW.aW.aW.aW z)
 obtain ⟨y,e3,b⟩:=bn b
 refine wc call51 [Pt d 0,.agg #[U6 a2.ID.ab,U6 a2.ID.Seq]] z z z (kcI (tm a.to1 e3) fun k3 a=>?_)
 replace a:=bQ a
 refine mv (.tuple #[I6 y.1,.bool y.2]) z (mi z (mb z (mi z (mb z (nt (ww (mb z (nt (bw b z ?_ ?_)))))))))
 {
 refine fun e4 b=>wrl (mp z (mp z ?_))
 obtain ⟨k4,k5,k6,k7,k8,e5,k9,l0,D,e6⟩:=bC a
 replace D:=ez D
 subst D
 have a:=e6
 refine mp z (mF z fI (mL z (a.bc0 z) (mi z (mi z (mi z ?_)))))
 replace a:=a.bq
 obtain ⟨e7,e8,b⟩:=bn b
 refine wc call52 [e5,I6 y.1,I6 (i64.wrap (y.1+1))] z z z (kdI (nu a.to1 e8) fun e9 l1 a=>mp z (mF z fI ?_))
 replace a:=a.ah
 refine b1k e9 a z (oS a.sv1) sI fun l2 a=>dv (bJ (tn (ww (mk (.agg #[Zb,Zu,Zu,Zi,Zu,Zu,Zs,Zs]) ?_))))
 replace a:=a.bM
 refine bxk a z sI (oJ 8 z oN) fun l3 a=>nt (ar ?_)
 have f0:Ro aK I (.slice none 0 0) []:=dc
 have f1:Ro (eC aH) I (.slice none 0 0) []:=dc
 replace a:=aR (aF (Pt d 0) (({f with open_:=e7}:ai)) a.bM.bM.bj.bM.bM.bM.bM.bM z)
 cases b
 exact prI z (rN z (a.fO 0 tz)) ⟨_,Zs,Zs,z,c,f0,f1,a.bF⟩
}
 refine fun e4 b=>al (bJ (tn (ww (mk (.agg #[Zb,Zu,Zu,Zi,Zu,Zu,Zs,Zs]) ?_))))
 replace a:=a.ah
 refine bxk a z sI (oJ 8 z oN) fun l4 a=>nt (ar ?_)
 have f2:Ro aK I (.slice none 0 0) []:=dc
 have f3:Ro (eC aH) I (.slice none 0 0) []:=dc
 replace a:=aR a.ah
 cases b
 exact prI z (rN z (a.fO 0 tz)) ⟨_,Zs,Zs,z,c,f2,f3,a.bF⟩
}
 refine fun e2 b=>ww (mb z (mb z (nt (bw b z ?_ ?_))))
 {
 refine fun f4 b=>ww (mF z fI (mL z (a.bc9 z) (nt (bw b z ?_ ?_))))
 {
 refine fun f5 b=>rg a 11 [0,1,3,7,0,16,0,64,192,448,1023] [] mixed (sp 0 z z (sp 1 z z (sF 2 z z fI (sL 3 z z (·.bc0 z) (sF 4 z z fI (sh _ 5 z (fun w a=>xN (cs:=[U6 a2.ap.ID,I6 a2.ap.dn,I6 a2.ap.To,F6 a2.ap.Lo,F6 a2.ap.Hi,U6 a2.ap.Authority,I6 a2.ap.cx]) z (a.AZ 21 z)) (sp 6 z z (sp 7 z z (sF 8 z z fI (sL 9 z z (·.bc0 z) (e1 10 z z fun w a=>?_)))))))))))
 replace a:=a.bj
 obtain ⟨f6,f7,b⟩:=bn b
 refine wec call53 [H,.agg #[U6 a2.ap.ID,I6 a2.ap.dn,I6 a2.ap.To,F6 a2.ap.Lo,F6 a2.ap.Hi,U6 a2.ap.Authority,I6 a2.ap.cx],U6 f.cI] z z (kcI (vY a.to1 f7) fun l5 a=>w0n a (bt ?_))
 refine fun w a=>bJ (tn (ww (mk (.agg #[Zb,Zu,Zu,Zi,Zu,Zu,Zs,Zs]) ?_)))
 replace a:=a.bM
 refine bxk a z sI (oJ 8 z oN) fun l6 a=>nt (ar ?_)
 have f8:Ro aK I (.slice none 0 0) []:=dc
 have f9:Ro (eC aH) I (.slice none 0 0) []:=dc
 replace a:=aR (aF (Pt d 0) (({f with book:=f6}:ai)) a.bM.bM.bM.bj.bM.bM.bM.bM z)
 cases b
 exact prI z (rN z (a.fO 0 tz)) ⟨_,Zs,Zs,z,c,f8,f9,a.bF⟩
}
 refine fun f5 b=>rg a 12 [0,1,3,7,0,16,48,0,128,384,896,2047] [] mixed (sp 0 z z (sp 1 z z (sF 2 z z fI (sL 3 z z (·.bc0 z) (sF 4 z z fI (sF 5 z z fI (sL 6 z z (·.bc9 z) (sp 7 z z (sp 8 z z (sF 9 z z fI (sL 10 z z (·.bc0 z) (e1 11 z z fun w a=>?_))))))))))))
 replace a:=a.bj
 obtain ⟨g0,g1,b⟩:=bn b
 refine wec call54 [H,U6 a2.ap.ID,U6 f.cI] z z (kcI (qY a.to1 g1) fun l7 a=>w0n a (bt ?_))
 refine fun w a=>bJ (tn (ww (mk (.agg #[Zb,Zu,Zu,Zi,Zu,Zu,Zs,Zs]) ?_)))
 replace a:=a.bM
 refine bxk a z sI (oJ 8 z oN) fun l8 a=>nt (ar ?_)
 have g2:Ro aK I (.slice none 0 0) []:=dc
 have g3:Ro (eC aH) I (.slice none 0 0) []:=dc
 replace a:=aR (aF (Pt d 0) (({f with book:=g0.2}:ai)) a.bM.bM.bM.bj.bM.bM.bM.bM z)
 cases b
 exact prI z (rN z (a.fO 0 tz)) ⟨_,Zs,Zs,z,c,g2,g3,a.bF⟩
}
 refine fun f4 b=>ww (mb z (mb z (nt (bw b z ?_ ?_))))
 {
 refine fun g4 b=>ww (mp z (mi z (mz (xN z (a.AZ 0 tz)) ?_)))
 replace a:=aR (aF (Pt d 0) f a.aW.aW.aW.aW.aW.aW.aW.aW z)
 obtain ⟨g5,g6,b⟩:=bn b
 refine wc call55 [Pt d 0,U6 a1,.agg #[U1 a2.Kind,U6 a2.ID.ab,U6 a2.ID.Seq,U6 a2.ae,U6 a2.Index,I6 a2.E,U6 a2.br.ID.ab,U6 a2.br.ID.Seq,U6 a2.br.ae,g,h,i,j,k,I6 a2.R.E,U6 a2.R.ae,U6 a2.R.Index,l,m,U6 a2.bY,n,U6 a2.ap.ID,I6 a2.ap.dn,I6 a2.ap.To,F6 a2.ap.Lo,F6 a2.ap.Hi,U6 a2.ap.Authority,I6 a2.ap.cx,.bool a2.On]] z z z ((xt (o.mono cS) (p.mono cS) (q.mono cS) (s.mono cS) (t.mono cS) (u.mono cS) (v.mono cS) (x.mono cS) a.to1 g6).mono ?_)
 rintro _ l9 ⟨m0,g7,g8,rfl,g9,T,U,a⟩
 refine ⟨_,z,?_⟩
 replace a:=a.of1
 replace c:=c.trans g9
 rcases V:g5.2 with _ | m1
 · rw [V] at b; cases b
 rw [V] at b a; dsimp only at b; replace a:=bQ a
 replace a:=a.ah
 refine bxk a z sI (oJ 6 z (oC (oS (ak T)) (oC (oS (ak U)) oN))) fun m2 a=>nt (ar (eo (bh ?_)))
 replace a:=aR a.ah
 cases b
 exact prI z (rN z (a.fO 0 tz)) ⟨_,g7,g8,z,c,T,U,a.bF⟩
}
 refine fun g4 b=>al (bJ (tn (ww (mk (.agg #[Zb,Zu,Zu,Zi,Zu,Zu,Zs,Zs]) ?_))))
 replace a:=a.bM
 refine bxk a z sI (oJ 8 z oN) fun m3 a=>nt (ar ?_)
 have h0:Ro aK I (.slice none 0 0) []:=dc
 have h1:Ro (eC aH) I (.slice none 0 0) []:=dc
 replace a:=aR (aF (Pt d 0) f a.bM.bM.bM.bM.bM.bM.bM.bM z)
 cases b
 exact prI z (rN z (a.fO 0 tz)) ⟨_,Zs,Zs,z,c,h0,h1,a.bF⟩
}
theorem sS {a0:(Option ai)} {p0:Value} (a:St w0 w I [cX aM p0 a0] R) {r:(Int)} (b:kX a0=some r) :
  Calls prog 24 #[p0] w fun e w'=>e = .returned (.int .u64 r)∧St w0 w' I [cX aM p0 a0] R:=by {
 rcases a0 with _ | c
 {
 dsimp only [kX] at b
 cases b
}
 replace a:=bQ a
 dsimp only [kX] at b
 refine c0 func24 z z (ww (mi z (nt (aj (ww (mv (p0) z ?_))))))
 obtain ⟨d,g,h,i,j,k,l,m,rfl,f⟩:=bC a
 have a:=f
 refine mk (.bool false) (nt (cJ z (al (tn (ww (mp z (mp z (mF z fI (mL z (a.bc0 z) (mi z (nt (ar ?_))))))))))))
 cases b
 exact pI z z ⟨z,(aR (aF (Pt d 0) c a.aW.aW.aW.aW.aW.aW.aW.aW z)).bF⟩
}
theorem tf  (a:St w0 w I [] R) {r:(Bool)} (b:oZ=some r) :
  Calls prog 12 #[] w fun e w'=>∃ (I':HL),e = .returned (.bool r)∧I.le I'∧St w0 w' I' [] R:=by {
 unfold oZ at b
 refine c0 func12 z z ?_
 have f:=HL.le.refl I
 refine ww (mb z (nt (ww (bk b fun C i b=>wc call13 [I6 4] z z z (kdI (yP a.to0 i) fun c D a=>mv (c) z (nt (ww (mv (c) z (mk (.agg #[U1 1,Zu,Zu,U6 1,Zu,Zi,Zu,Zu,Zu,Zs,Zs,Zs,Zs,Zs,Zi,Zu,Zu,Zs,Zs,Zu,Zs,Zu,Zi,Zi,Zf,Zf,Zu,Zi,.bool false]) ?_)))))))))
 replace a:=aR a
 have j:Ro cp I (.slice none 0 0) []:=dc
 have k:Ro fU I (.slice none 0 0) []:=dc
 have l:Ro cp I (.slice none 0 0) []:=dc
 have m:Ro (cr .u8) I (.slice none 0 0) []:=dc
 have n:Ro cG I (.slice none 0 0) []:=dc
 have o:Ro aK I (.slice none 0 0) []:=dc
 have p:Ro (eC aH) I (.slice none 0 0) []:=dc
 have q:Ro cN I (.slice none 0 0) []:=dc
 obtain ⟨s,t,b⟩:=bn b
 refine wc call14 [c,U6 1,.agg #[U1 1,Zu,Zu,U6 1,Zu,Zi,Zu,Zu,Zu,Zs,Zs,Zs,Zs,Zs,Zi,Zu,Zu,Zs,Zs,Zu,Zs,Zu,Zi,Zi,Zf,Zf,Zu,Zi,.bool false]] z z z ((sQ (a2:=({Kind:=1,ID:=({ab:=0,Seq:=0}:cy),ae:=1,Index:=0,E:=0,br:=dX,cw:=[],R:=ct,bY:=0,dM:=[],ap:=dY,On:=false}:aG)) j k l m n o p q a.to1 t).mono ?_)
 rintro _ F ⟨G,H,J,rfl,u,v,x,a⟩
 refine ⟨_,z,?_⟩
 replace a:=a.of1
 replace f:=f.trans u
 rcases g:s.2 with _ | K
 · rw [g] at b; cases b
 rw [g] at b a; dsimp only at b; replace a:=bQ a
 obtain ⟨L,M,y,A,a⟩:=a.box [Zb,Zu,Zu,Zi,Zu,Zu,Zs,Zs] 35
 refine wa y A (bxk a z sI (oJ 6 z (oC (oS (ak v)) (oC (oS (ak x)) oN))) fun N a=>nt (ww (mF z fI (mL z (a.bc0 z) (mb z (mb z (bs b ?_ ?_)))))))
 {
 refine fun d b=>gv (c) d z ?_
 replace a:=aR a.ah
 obtain ⟨O,B,b⟩:=bn b
 refine dh ((av z z z (cvb d)).trans z) z (gO call24 z (vs:=[c]) z) (kcI (sS a.to1 B) fun P a=>?_)
 replace a:=bQ a
 refine gb d z (mb (bi d z z) (mb z (bs b ?_ ?_)))
 {
 refine fun h b=>mb (bi h z z) (mb z (nt (ar ?_)))
 cases b
 exact pB z z ⟨_,z,f,a.cT⟩
}
 intro h b
 cases b
}
 intro d b
 cases b
}
theorem Bu {a0:Int} (a:St w0 w I [] R) {r:(aq)} (b:xm a0=some r) :
  Calls prog 26 #[I6 a0] w fun e w'=>∃ (c:Value),e = .returned (c)∧St w0 w' I [bm c r] R:=by {
 unfold xm at b
 refine c0 func26 z z (ww (mv (.pointer none) z (nt (ww (mi z (mk (.agg #[I6 a0,U6 1,Zs,Zs,Zs,Zs,Zs,Zs,Zs]) ?_))))))
 obtain ⟨d,l,f,g,a⟩:=a.box [I6 a0,U6 1,Zs,Zs,Zs,Zs,Zs,Zs,Zs] 130
 refine wa f g (mp z (nt (ar ?_)))
 have h:Ro dK I (.slice none 0 0) []:=dc
 have i:Ro bZ I (.slice none 0 0) []:=dc
 have j:Ro fK I (.slice none 0 0) []:=dc
 have k:Ro fi I (.slice none 0 0) []:=dc
 cases b
 exact pP z z ⟨_,z,(aC (Pt d 0) (({zJ:=a0,ae:=1,V:=[],H:=[],A:=[],B:=[],Open:=[],Out:=[],pT:=[]}:aq)) (((a.ba bc).ba cL).ba eL).ah.aD.aA ⟨z,h,i,j,k⟩).bF⟩
}
theorem sK {a0:ao} {p0:Value} {a1:(List Int)} {c:Value} (f:Rd (cr .u8) R I c a1) (a:St w0 w I [bL p0 a0] R) {r:(ao)} (b:jz a0 a1=some r) :
  Calls prog 167 #[p0,c] w fun e w'=>e = .returned (p0)∧St w0 w' I [bL p0 r] R:=by {
 unfold jz at b
 refine c0 func167 z z (ww (mv (.pointer none) z (nt (ww (mv (p0) z (mv (p0) z ?_))))))
 obtain ⟨g,l,rfl,h⟩:=oQ a
 have a:=h
 refine mp z (mF z fI (mL z (a.bc0 z) (mv (c) z ?_)))
 obtain ⟨i,b⟩:=cF b
 replace a:=a.ah
 obtain ⟨d,j,k,a⟩:=bO xh underlying22 a (Src.vf a f pe) (cP i z) 22
 refine cK (v:=d) (w':=j) z z (ck z z k) (mp z (mF z fI ?_))
 replace a:=a.ah
 refine b1k d a z (oS a.sv1) sI fun m a=>nt (ww (mp z (mp z (nt (ar ?_)))))
 cases b
 exact pP z z ⟨z,(fQ (Pt g 0) (({p:=(a0.p++a1)}:ao)) a.ah.ah z).bF⟩
}
theorem az {a0:ao} {p0:Value} {a1 a2:Int} (c:St w0 w I [bL p0 a0] R) {r:(ao)} (b:ax a0 a1 a2=some r) :
  Calls prog 111 #[p0,U6 a1,I6 a2] w fun e w'=>e = .returned (p0)∧St w0 w' I [bL p0 r] R:=by {
 unfold ax at b
 refine c0 func111 z z (ww (mv (.pointer none) z (nt (aj (ww (mi z (mi z (nt (au ?_)))))))))
 obtain ⟨j,b⟩:=aS b
 refine bg (fun n a w=>∃ (f:ao) (d:Int),cU (jf a2 a1) n (f,d)=some r∧fz 22 [0,1,8,9] [p0,U6 a1,I6 a2,I6 d] a∧St w0 w I [bL p0 f] R) j ⟨a0,0,b,fy z,c⟩ ?_
 rintro t _ u ⟨f,d,b,⟨x,rfl⟩,c⟩
 obtain ⟨y,A,rfl,b,g⟩:=aU b
 dsimp only [jf] at b
 refine ww (mb z (nt (aj (bw b z ?_ ?_))))
 {
 refine fun k b=>al (tn (aj (au (ww (mi z (mi z (nt (wrl (mv (p0) z (mi z (mi z (mi z ?_))))))))))))
 obtain ⟨l,b⟩:=cF b
 refine mi (xS (of_decide_eq_true l) z z) (mk (.int .u8 (u8.wrap (jq .u64 a1 (i64.wrap (8*d))))) ?_)
 obtain ⟨h,m,o,p,c⟩:=c.lits (E:=(cr .u8)) (xs:=[(u8.wrap (jq .u64 a1 (i64.wrap (8*d))))]) [[U1 (u8.wrap (jq .u64 a1 (i64.wrap (8*d))))]] 5 1 z (bT.cons z bT.nil)
 refine cK (v:=(.slice (some ⟨h,0,none⟩) 1 1)) (w':=m) z z (dH krA o p) ?_
 obtain ⟨B,i,c⟩:=c.cz
 replace c:=c.ah
 obtain ⟨q,s,b⟩:=bn b
 refine wc call167 [p0,(.slice (some ⟨h,0,none⟩) 1 1)] z z z (kcI (sK (c.sub.jA i) c.to1 s) fun C c=>?_)
 replace c:=c.ah.bo i
 refine dv (bJ (tn (wrl (mi z (mi z (nt ?_))))))
 cases b
 exact ⟨_,nls,q,_,g,fy z,c.ah.bF⟩
}
 refine fun k b=>bH (aQ (aQ ?_))
 replace b:=bz b g
 refine cZ (tn (ww (mv (p0) z (mv (p0) z (nt (ar ?_))))))
 cases b
 exact dI [p0] z (rc z bl) ⟨z,c.bF⟩
}
theorem yn {a0:(Option cn)} {p0:Value} (a:St w0 w I [cX cA p0 a0] R) {r:(Int)} (b:pg a0=some r) :
  Calls prog 168 #[p0] w fun e w'=>e = .returned (.int .i64 r)∧St w0 w' I [cX cA p0 a0] R:=by {
 rcases a0 with _ | c
 {
 dsimp only [pg] at b
 cases b
}
 replace a:=bQ a
 dsimp only [pg] at b
 refine c0 func168 z z (ww (mi z (nt (aj (ww (mv (p0) z ?_))))))
 obtain ⟨d,g,rfl,f⟩:=ec a
 have a:=f
 refine mk (.bool false) (nt (cJ z (al (tn (ww (mp z (mp z (mF z fI (mL z (a.bc0 z) (mz (bX z uI (a.oL 1 z)) (mi z (nt (ar ?_)))))))))))))
 cases b
 exact pI z z ⟨z,(aR (cY (Pt d 0) c a.ah.ah z)).bF⟩
}
theorem lG {a0:ao} {p0:Value} {a1:Bool} (b:St w0 w I [bL p0 a0] R) {r:(ao)} (a:iW a0 a1=some r) :
  Calls prog 119 #[p0,.bool a1] w fun e w'=>e = .returned (p0)∧St w0 w' I [bL p0 r] R:=by {
 unfold iW at a
 refine c0 func119 z z (ww (mv (.pointer none) z (nt (aj (ww (mb z (nt (bw a z ?_ ?_))))))))
 {
 refine fun c a=>ww (mv (p0) z (bk a fun g d a=>wc call111 [p0,U6 1,I6 1] z z z (kcI (az b.to1 d) fun h b=>mv (p0) z (nt (ar (bh ?_))))))
 cases a
 exact dI [p0] z (rc z bl) ⟨z,b.bF⟩
}
 refine fun c a=>al (tn (ww (mv (p0) z (bk a fun i f a=>wc call111 [p0,Zu,I6 1] z z z (kcI (az b.to1 f) fun j b=>mv (p0) z (nt (ar ?_)))))))
 cases a
 exact dI [p0] z (rc z bl) ⟨z,b.bF⟩
}
theorem ei {a0:ao} {p0:Value} {a1:(List Int)} {b:Value} (d:Rd (cr .u8) R I b a1) (c:St w0 w I [bL p0 a0] R) {r:(ao)} (a:en a0 a1=some r) :
  Calls prog 112 #[p0,b] w fun e w'=>e = .returned (p0)∧St w0 w' I [bL p0 r] R:=by {
 unfold en at a
 refine c0 func112 z z (ww (mv (.pointer none) z (nt (ww (mv (p0) z (mv (b) z (mz (bX z uI (ay d)) (mk (.int .u64 (u64.wrap ((a1).length:Int))) (bk a fun h f a=>wc call111 [p0,U6 (u64.wrap ((a1).length:Int)),I6 4] z z z (kcI (az c.to1 f) fun i c=>mv (b) z (bk a fun j g a=>wc call167 [p0,b] z z z (kcI (sK (d.mono (cW _)) c.to1 g) fun k c=>mv (p0) z (nt (ar ?_))))))))))))))
 cases a
 exact dI [p0] z (rc z bl) ⟨z,c.bF⟩
}
theorem eA {a0:ao} {p0:Value} (a:St w0 w I [bL p0 a0] R) {r:((List Int))} (c:dE a0=some r) :
  Calls prog 120 #[p0] w fun e w'=>∃ (d:Value),e = .returned (d)∧St w0 w' I [bp (cr .u8) d r] R:=by {
 unfold dE at c
 refine c0 func120 z z (ww (mv ((.slice none 0 0)) z (nt (ww (mv (p0) z ?_)))))
 obtain ⟨g,b,rfl,f⟩:=oQ a
 have a:=f
 refine mp z (mF z fI (mL z (a.bc0 z) (mv (b) z (nt (ar ?_)))))
 cases c
 exact dI [b] z (rc z bl) ⟨b,z,a.ah.bF⟩
}
theorem vT {a0:(Option cn)} {p0:Value} (b:St w0 w I [cX cA p0 a0] R) {r:((List Int))} (c:ki a0=some r) :
  Calls prog 113 #[p0] w fun e w'=>∃ (y:Value),e = .returned (y)∧St w0 w' I [bp (cr .u8) y r,cX cA p0 a0] R:=by {
 rcases a0 with _ | h
 {
 dsimp only [ki] at c
 cases c
}
 replace b:=bQ b
 dsimp only [ki] at c
 refine c0 func113 z z (ww (mv ((.slice none 0 0)) z (nt (ww (mk (.agg #[Zs]) ?_)))))
 obtain ⟨d,c6,F,G,b⟩:=b.box [Zs] 193
 refine wa F G (mp z (nt (ww (mp z (mv (p0) z ?_)))))
 replace b:=aR b.ah
 obtain ⟨A,H,c⟩:=bn c
 refine wc call168 [p0] z z z (kcI (yn b.to1 H) fun c7 b=>?_)
 replace b:=bQ b
 refine mk (.int .u64 (u64.wrap A)) ?_
 replace b:=fQ (Pt d 0) (({p:=[]}:ao)) (b.ba (cr .u8)).aD z
 obtain ⟨J,K,c⟩:=bn c
 refine wc call111 [Pt d 0,U6 (u64.wrap A),I6 4] z z z (kcI (az b.to1 K) fun c8 b=>nt (aj (ww (mv (p0) z ?_))))
 obtain ⟨s,j,rfl,L⟩:=ec b.ah
 have b:=L
 refine mk (.bool false) (nt (cJ z (al (tn (aj (ww (mp z (mp z (mF z fI (mL z (b.bc0 z) (mz (bX z uI (b.oL 1 z)) (mi z (nt (au ?_))))))))))))))
 obtain ⟨M,c⟩:=aS c
 refine bg (fun n a w=>∃ (t:ao) (f:Int),cU (jU h) n (t,f)=some r∧fz 61 [3,22,23,24] [Pt d 0,j,I6 ((h.rows).length:Int),I6 f] a∧St w0 w I [cells s [j],sR cq j h.rows,bL (Pt d 0) t] R) M ⟨J,0,c,fy z,b⟩ ?_
 rintro c9 _ d0 ⟨t,f,c,⟨d1,rfl⟩,b⟩
 obtain ⟨d2,O,rfl,c,B⟩:=aU c
 dsimp only [jU] at c
 refine ww (mb z (nt (aj (bw c z ?_ ?_))))
 {
 refine fun P c=>al (tn (aj (au (ww ?_))))
 obtain ⟨g,Q,c⟩:=bn c
 obtain ⟨S,T,u⟩:=aV Q
 refine mz (aJ z z uI sI (b.oL 1 z) S T) ?_
 replace b:=b.ah
 obtain ⟨m,b⟩:=b.tR u
 refine mz (xN (cs:=[U6 g.eW,m]) z (et (o:=0) (b.yV (N:=cq) (i:=f.toNat) 1 z u) z)) ?_
 obtain ⟨d3,d4,U,V,b⟩:=b.box [Zu,Zs] 240
 refine wa U V (bxk b z sI (oC z (oC (oS b.sv1) oN)) fun d5 b=>nt (aj (rg b 9 [0,0,2,7,0,16,48,112,255] [] mixed (sp 0 z z (sF 1 z z fI (sL 2 z z (·.bc0 z) (sF 4 z z fI (sL 5 z z (·.bc0 z) (sh _ 6 z (fun w b=>bX z uI b.sv1) (sk (.int .u64 (u64.wrap ((g.l).length:Int))) 7 z (e1 3 z z fun w b=>?_)))))))))))
 replace b:=b.bj
 obtain ⟨d6,W,c⟩:=bn c
 refine wec call111 [Pt d 0,U6 g.eW,I6 8] z z (kcI (az b.to1 W) fun d7 b=>wn [7,6,5,4] b (pkr z z (fun w b=>by kernel_rfl) (pkr z z (fun w b=>bX z uI b.sv2) (pL z z (·.bc1 z) (pF z z fI aT)))) (e1 8 z z fun w b=>?_))
 refine bk c fun X Y c=>wec call111 [Pt d 0,U6 (u64.wrap ((g.l).length:Int)),I6 4] z z (kcI (az b.to1 Y) fun d8 b=>w0n b (bt ?_))
 refine fun w b=>tn (ww (mF z fI (mL z (b.bc1 z) (mz (bX z uI b.sv2) (mi z (nt (au ?_)))))))
 replace b:=b.ah.sub
 obtain ⟨Z,c⟩:=aS c
 refine bg (fun n a w=>∃ (q:ao) (v:Int),cU (iA g f) n (q,v)=some O∧fz 61 [3,22,23,24,38,39,40] [Pt d 0,j,I6 ((h.rows).length:Int),I6 f,m,I6 ((g.l).length:Int),I6 v] a∧St w0 w I [bL (Pt d 0) q,bp cD m g.l,sU cq j h.rows f.toNat m,cells s [j]] R) Z ⟨X,0,c,fy z,b⟩ ?_
 rintro d9 _ e0 ⟨q,v,c,⟨e2,rfl⟩,b⟩
 obtain ⟨e3,e4,rfl,c,C⟩:=aU c
 dsimp only [iA] at c
 refine ww (mb z (nt (aj (bw c z ?_ ?_))))
 {
 refine fun b0 c=>al (tn (aj (au (ww ?_))))
 obtain ⟨k,b1,c⟩:=bn c
 obtain ⟨b2,b3,b4⟩:=aV b1
 refine mz (aJ z z uI sI b.sv1 b2 b3) ?_
 obtain ⟨e5,b5,b6⟩:=b.og1 b4
 obtain ⟨D,rfl,E,-⟩:=b5
 refine mz (xN (cs:=[U6 k.ae,U6 k.Index,.bool k.Del,D]) z (et (o:=0) b6 z)) ?_
 obtain ⟨e6,e7,b7,b8,b⟩:=b.box [Zu,Zu,.bool false,Zs] 214
 refine wa b7 b8 (bxk b z sI (oJ 3 z (oC (oS (ak E)) oN)) fun e8 b=>nt (rg b 13 [0,0,2,7,0,16,63,0,128,511,0,1024,4095] [] mixed (sp 0 z z (sF 1 z z fI (sL 2 z z (·.bc0 z) (sF 4 z z fI (sL 5 z z (·.bc0 z) (sF 7 z z fI (sL 8 z z (·.bc0 z) (sF 10 z z fI (sL 11 z z (·.bc0 z) (e1 3 z z fun w b=>?_))))))))))))
 replace b:=b.ah
 obtain ⟨e9,b9,c⟩:=bn c
 refine wec call111 [Pt d 0,U6 k.ae,I6 8] z z (kcI (az b.to1 b9) fun f0 b=>wn [11,10,8,7,5,4] b (pL z z (·.bc1 z) (pF z z fI (pL z z (·.bc1 z) (pF z z fI (pL z z (·.bc1 z) (pF z z fI aT)))))) (e1 6 z z fun w b=>bk c fun f1 c1 c=>wec call111 [Pt d 0,U6 k.Index,I6 8] z z (kcI (az b.to1 c1) fun f2 b=>wn [11,10,8,7] b (pL z z (·.bc1 z) (pF z z fI (pL z z (·.bc1 z) (pF z z fI aT)))) ?_)))
 refine e1 9 z z fun w b=>bk c fun f3 c2 c=>wec call119 [Pt d 0,.bool k.Del] z z (kcI (lG b.to1 c2) fun f4 b=>wn [11,10] b (pL z z (·.bc1 z) (pF z z fI aT)) (e1 12 z z fun w b=>bk c fun c3 c4 c=>wec call112 [Pt d 0,D] z z (kcI (ei (E.mono cS) b.to1 c4) fun f5 b=>w0n b (bt ?_))))
 refine fun w b=>bJ (tn (wrl (mi z (mi z (nt ?_)))))
 cases c
 exact ⟨_,nls,c3,_,C,fy z,b.bj.bj.bj.aA.eQ⟩
}
 refine fun b0 c=>bH (aQ (aQ ?_))
 replace c:=bz c C
 refine cZ (bJ (tn (wrl (mi z (mi z (nt ?_))))))
 cases c
 exact ⟨_,nls,q,_,B,fy z,(St.sZ (N:=cq) b.aD.aD u).ah.ah.aD.eu⟩
}
 refine fun P c=>bH (aQ (aQ ?_))
 replace c:=bz c B
 refine cZ (tn (ww (mp z ?_)))
 replace b:=b.aD
 obtain ⟨f6,c5,c⟩:=bn c
 refine wc call120 [Pt d 0] z z z (kdI (eA b.to1 c5) fun x f7 b=>mv (x) z (nt (ar ?_)))
 cases c
 exact dI [x] z (rc z bl) ⟨x,z,(aR (cY (Pt s 0) h b.aD.aD z)).ah.cv⟩
}
theorem pM {a0:(Option bN)} {p0:Value} (a:St w0 w I [cX cb p0 a0] R) {r:(Int)} (b:jk a0=some r) :
  Calls prog 169 #[p0] w fun e w'=>e = .returned (.int .i64 r)∧St w0 w' I [cX cb p0 a0] R:=by {
 rcases a0 with _ | c
 {
 dsimp only [jk] at b
 cases b
}
 replace a:=bQ a
 dsimp only [jk] at b
 refine c0 func169 z z (ww (mi z (nt (aj (ww (mv (p0) z ?_))))))
 obtain ⟨d,g,rfl,f⟩:=dP a
 have a:=f
 refine mk (.bool false) (nt (cJ z (al (tn (ww (mp z (mp z (mF z fI (mL z (a.bc0 z) (mz (bX z uI a.sv1) (mi z (nt (ar ?_)))))))))))))
 cases b
 exact pI z z ⟨z,(aR (dt (Pt d 0) c a.ah.ah z)).bF⟩
}
theorem xT {a0:ao} {p0:Value} {a1:aw} {f g h j:Value} (k:Rd cp R I f a1.dO) (l:Rd fU R I g a1.aX) (m:Rd cp R I h a1.dD) (E:Rd (cr .u8) R I j a1.Data) (b:St w0 w I [bL p0 a0] R) {r:(ao)} (c:uV a0 a1=some r) :
  Calls prog 170 #[p0,.agg #[U6 a1.ID.ab,U6 a1.ID.Seq,U6 a1.ae,f,g,h,j]] w fun e w'=>e = .returned (.tuple #[])∧St w0 w' I [bL p0 r] R:=by {
 unfold uV at c
 refine c0 func170 z z (ww ?_)
 obtain ⟨d,e8,F,G,b⟩:=b.box [U6 a1.ID.ab,U6 a1.ID.Seq,U6 a1.ae,f,g,h,j] 46
 refine wa F G (nt (aj (rg b 17 [0,0,2,6,15,0,32,96,255,0,512,2047,0,4096,12288,28672,65535] [] mixed (sz (p0) 0 z z (sF 1 z z fI (sF 2 z z fI (sL 3 z z (·.bc0 z) (sF 5 z z fI (sF 6 z z fI (sL 7 z z (·.bc0 z) (sF 9 z z fI (sL 10 z z (·.bc0 z) (sF 12 z z fI (sL 13 z z (·.bc0 z) (sh _ 14 z (fun w b=>bX z uI (ay k)) (sk (.int .u64 (u64.wrap ((a1.dO).length:Int))) 15 z (e1 4 z z fun w b=>?_)))))))))))))))))
 replace b:=b.ah
 obtain ⟨e9,H,c⟩:=bn c
 refine wec call111 [p0,U6 a1.ID.ab,I6 8] z z (kcI (az b.to1 H) fun f0 b=>wn [15,14,13,12,10,9,7,6,5] b (pkr z z (fun w b=>by kernel_rfl) (pkr z z (fun w b=>bX z uI (ay k)) (pL z z (·.bc1 z) (pF z z fI (pL z z (·.bc1 z) (pF z z fI (pL z z (·.bc1 z) (pF z z fI (pF z z fI aT))))))))) (e1 8 z z fun w b=>?_))
 refine bk c fun f1 J c=>wec call111 [p0,U6 a1.ID.Seq,I6 8] z z (kcI (az b.to1 J) fun f2 b=>wn [15,14,13,12,10,9] b (pkr z z (fun w b=>by kernel_rfl) (pkr z z (fun w b=>bX z uI (ay k)) (pL z z (·.bc1 z) (pF z z fI (pL z z (·.bc1 z) (pF z z fI aT)))))) ?_)
 refine e1 11 z z fun w b=>bk c fun f3 K c=>wec call111 [p0,U6 a1.ae,I6 8] z z (kcI (az b.to1 K) fun f4 b=>wn [15,14,13,12] b (pkr z z (fun w b=>by kernel_rfl) (pkr z z (fun w b=>bX z uI (ay k)) (pL z z (·.bc1 z) (pF z z fI aT)))) ?_)
 refine e1 16 z z fun w b=>bk c fun L M c=>wec call111 [p0,U6 (u64.wrap ((a1.dO).length:Int)),I6 4] z z (kcI (az b.to1 M) fun f5 b=>w0n b (bt ?_))
 refine fun w b=>tn ?_
 obtain ⟨N,c,O⟩:=bn c
 refine cR (fun a w=>∃ (t:ao),(vx a1) t=some r∧fz 84 [0,3] [p0,Pt d 0] a∧St w0 w I [bL p0 t,cells d [U6 a1.ID.ab,U6 a1.ID.Seq,U6 a1.ae,f,g,h,j]] R) ?_ ?_
 {
 refine ww (mF z fI (mL z (b.bc1 z) (mz (bX z uI (ay k)) (mi z (nt (au ?_))))))
 obtain ⟨P,c⟩:=aS c
 refine bg (fun n a w=>∃ (o:ao) (u:Int),cU (vK a1) n (o,u)=some N∧fz 84 [0,3,28,29,30] [p0,Pt d 0,f,I6 ((a1.dO).length:Int),I6 u] a∧St w0 w I [bL p0 o,cells d [U6 a1.ID.ab,U6 a1.ID.Seq,U6 a1.ae,f,g,h,j]] R) P ⟨L,0,c,fy z,b⟩ ?_
 rintro f6 _ f7 ⟨o,u,c,⟨f8,rfl⟩,b⟩
 obtain ⟨f9,g0,rfl,c,B⟩:=aU c
 dsimp only [vK] at c
 refine ww (mb z (nt (aj (bw c z ?_ ?_))))
 {
 refine fun Q c=>al (tn (aj (au (ww ?_))))
 obtain ⟨S,T,c⟩:=bn c
 obtain ⟨U,V,W⟩:=aV T
 refine mz (aJ z z uI sI (ay k) U V) (mL z (fb k lr b W riA) (mv (F6 _) z (nt (wrl (mv (p0) z (mv (F6 _) z ?_))))))
 refine bk c fun X Y c=>wc call118 [F6 S] z z z (kcO (dG b.to0 Y) fun g1 b=>bk c fun Z b0 c=>wc call111 [p0,U6 X,I6 8] z z z (kcI (az b.to1 b0) fun g2 b=>dv (bJ (tn (wrl (mi z (mi z (nt ?_))))))))
 cases c
 exact ⟨_,nls,Z,_,B,fy z,b.ah.ah.cv⟩
}
 refine fun Q c=>bH (aQ (aQ ?_))
 replace c:=bz c B
 refine cZ (tn ?_)
 obtain rfl:=sj c
 exact ⟨o,O,fy z,b.ah.ah.cv⟩
}
 rintro _ g3 ⟨t,c,⟨g4,rfl⟩,b⟩
 dsimp only [vx] at c
 refine ww (mv (p0) z (mF z fI (mL z (b.bc1 z) (mz (bX z uI (ay l)) (mk (.int .u64 (u64.wrap ((a1.aX).length:Int))) (bk c fun b1 b2 c=>wc call111 [p0,U6 (u64.wrap ((a1.aX).length:Int)),I6 4] z z z (kcI (az b.to1 b2) fun g5 b=>nt ?_)))))))
 obtain ⟨b3,c,b4⟩:=bn c
 refine cR (fun a w=>∃ (v:ao),(vq a1) v=some r∧fz 84 [0,3] [p0,Pt d 0] a∧St w0 w I [bL p0 v,cells d [U6 a1.ID.ab,U6 a1.ID.Seq,U6 a1.ae,f,g,h,j]] R) ?_ ?_
 {
 refine ww (mF z fI (mL z (b.bc1 z) (mz (bX z uI (ay l)) (mi z (nt (au ?_))))))
 obtain ⟨b5,c⟩:=aS c
 refine bg (fun n a w=>∃ (p:ao) (x:Int),cU (rh a1) n (p,x)=some b3∧fz 84 [0,3,46,47,48] [p0,Pt d 0,g,I6 ((a1.aX).length:Int),I6 x] a∧St w0 w I [bL p0 p,cells d [U6 a1.ID.ab,U6 a1.ID.Seq,U6 a1.ae,f,g,h,j]] R) b5 ⟨b1,0,c,fy z,b⟩ ?_
 rintro g6 _ g7 ⟨p,x,c,⟨g8,rfl⟩,b⟩
 obtain ⟨g9,h0,rfl,c,C⟩:=aU c
 dsimp only [rh] at c
 refine ww (mb z (nt (aj (bw c z ?_ ?_))))
 {
 refine fun b6 c=>al (tn (aj (au (ww ?_))))
 obtain ⟨q,b7,c⟩:=bn c
 obtain ⟨b8,b9,c1⟩:=aV b7
 refine mz (aJ z z uI sI (ay l) b8 b9) (mz (xN (cs:=[F6 q.1,F6 q.2]) z (sG l lr b c1 0 riA)) ?_)
 obtain ⟨h1,h2,c2,c3,b⟩:=b.box [Zf,Zf] 80
 refine wa c2 c3 (bxk b z sI (oC z (oC z oN)) fun h3 b=>nt (rg b 9 [0,0,2,6,15,0,32,127,255] [] mixed (sz (p0) 0 z z (sh (Pt _ _) 1 z (fun w b=>fP (i:=0) z z uI sI deA deA) (sL 2 z z (·.bc0 z) (sh (Pt _ _) 5 z (fun w b=>fP (i:=1) z z uI sI deA deA) (sL 6 z z (·.bc0 z) (e1 3 z z fun w b=>?_))))))))
 refine bk c fun c4 c5 c=>wec call118 [F6 q.1] z z (kcO (dG b.to0 c5) fun h4 b=>wn [6,5,0] b (pL z z (·.bc0 z) (pkr z z (fun w b=>fP (i:=1) z z uI sI deA deA) (pz aT))) ?_)
 refine e1 4 z z fun w b=>?_
 replace b:=b.ah
 obtain ⟨h5,c6,c⟩:=bn c
 refine wec call111 [p0,U6 c4,I6 8] z z (kcI (az b.to1 c6) fun h6 b=>wn [6,5] b (pL z z (·.bc1 z) (pkr z z (fun w b=>fP (i:=1) z z uI sI deA deA) aT)) (e1 7 z z fun w b=>?_))
 refine bk c fun c7 c8 c=>wec call118 [F6 q.2] z z (kcO (dG b.to0 c8) fun h7 b=>w0n b (e1 8 z z fun w b=>bk c fun c9 d0 c=>wec call111 [p0,U6 c7,I6 8] z z (kcI (az b.to1 d0) fun h8 b=>w0n b (bt ?_))))
 refine fun w b=>bJ (tn (wrl (mi z (mi z (nt ?_)))))
 cases c
 exact ⟨_,nls,c9,_,C,fy z,b.aD.ah.cv⟩
}
 refine fun b6 c=>bH (aQ (aQ ?_))
 replace c:=bz c C
 refine cZ (tn ?_)
 obtain rfl:=sj c
 exact ⟨p,b4,fy z,b.ah.ah.cv⟩
}
 rintro _ h9 ⟨v,c,⟨i0,rfl⟩,b⟩
 dsimp only [vq] at c
 refine ww (mv (p0) z (mF z fI (mL z (b.bc1 z) (mz (bX z uI (ay m)) (mk (.int .u64 (u64.wrap ((a1.dD).length:Int))) (bk c fun d1 d2 c=>wc call111 [p0,U6 (u64.wrap ((a1.dD).length:Int)),I6 4] z z z (kcI (az b.to1 d2) fun i1 b=>nt ?_)))))))
 obtain ⟨d3,c,d4⟩:=bn c
 refine cR (fun a w=>∃ (y:ao),(vF a1) y=some r∧fz 84 [0,3] [p0,Pt d 0] a∧St w0 w I [bL p0 y,cells d [U6 a1.ID.ab,U6 a1.ID.Seq,U6 a1.ae,f,g,h,j]] R) ?_ ?_
 {
 refine ww (mF z fI (mL z (b.bc1 z) (mz (bX z uI (ay m)) (mi z (nt (au ?_))))))
 obtain ⟨d5,c⟩:=aS c
 refine bg (fun n a w=>∃ (s:ao) (A:Int),cU (vt a1) n (s,A)=some d3∧fz 84 [0,3,69,70,71] [p0,Pt d 0,h,I6 ((a1.dD).length:Int),I6 A] a∧St w0 w I [bL p0 s,cells d [U6 a1.ID.ab,U6 a1.ID.Seq,U6 a1.ae,f,g,h,j]] R) d5 ⟨d1,0,c,fy z,b⟩ ?_
 rintro i2 _ i3 ⟨s,A,c,⟨i4,rfl⟩,b⟩
 obtain ⟨i5,i6,rfl,c,D⟩:=aU c
 dsimp only [vt] at c
 refine ww (mb z (nt (aj (bw c z ?_ ?_))))
 {
 refine fun d6 c=>al (tn (aj (au (ww ?_))))
 obtain ⟨d7,d8,c⟩:=bn c
 obtain ⟨d9,e0,e2⟩:=aV d8
 refine mz (aJ z z uI sI (ay m) d9 e0) (mL z (fb m lr b e2 riA) (mv (F6 _) z (nt (wrl (mv (p0) z (mv (F6 _) z ?_))))))
 refine bk c fun e3 e4 c=>wc call118 [F6 d7] z z z (kcO (dG b.to0 e4) fun i7 b=>bk c fun e5 e6 c=>wc call111 [p0,U6 e3,I6 8] z z z (kcI (az b.to1 e6) fun i8 b=>dv (bJ (tn (wrl (mi z (mi z (nt ?_))))))))
 cases c
 exact ⟨_,nls,e5,_,D,fy z,b.ah.ah.cv⟩
}
 refine fun d6 c=>bH (aQ (aQ ?_))
 replace c:=bz c D
 refine cZ (tn ?_)
 obtain rfl:=sj c
 exact ⟨s,d4,fy z,b.ah.ah.cv⟩
}
 rintro _ i9 ⟨y,c,⟨j0,rfl⟩,b⟩
 dsimp only [vF] at c
 refine wrl (mv (p0) z (mF z fI (mL z (b.bc1 z) (bk c fun j1 e7 c=>wc call112 [p0,j] z z z (kcI (ei (E.mono (cW _)) b.to1 e7) fun j2 b=>dv ?_)))))
 cases c
 exact mj (vs:=[]) z bl ⟨z,b.bF⟩
}
theorem rb {a0:(Option bN)} {p0:Value} (b:St w0 w I [cX cb p0 a0] R) {r:((List Int))} (c:iv a0=some r) :
  Calls prog 114 #[p0] w fun e w'=>∃ (k:Value),e = .returned (k)∧St w0 w' I [bp (cr .u8) k r,cX cb p0 a0] R:=by {
 rcases a0 with _ | g
 {
 dsimp only [iv] at c
 cases c
}
 replace b:=bQ b
 dsimp only [iv] at c
 refine c0 func114 z z (ww (mv ((.slice none 0 0)) z (nt (ww (mk (.agg #[Zs]) ?_)))))
 obtain ⟨d,X,x,y,b⟩:=b.box [Zs] 193
 refine wa x y (mp z (nt (ww (mp z (mv (p0) z ?_)))))
 replace b:=aR b.ah
 obtain ⟨l,A,c⟩:=bn c
 refine wc call169 [p0] z z z (kcI (pM b.to1 A) fun Y b=>?_)
 replace b:=bQ b
 refine mk (.int .u64 (u64.wrap l)) ?_
 replace b:=fQ (Pt d 0) (({p:=[]}:ao)) (b.ba (cr .u8)).aD z
 obtain ⟨B,C,c⟩:=bn c
 refine wc call111 [Pt d 0,U6 (u64.wrap l),I6 4] z z z (kcI (az b.to1 C) fun Z b=>nt (aj (ww (mv (p0) z ?_))))
 replace b:=aR b.ah
 obtain ⟨m,D,c⟩:=bn c
 refine wc call169 [p0] z z z (kcI (pM b.to1 D) fun b0 b=>?_)
 replace b:=bQ b
 refine mi z (nt (au ?_))
 obtain ⟨E,c⟩:=aS c
 refine bg (fun n a w=>∃ (h:ao) (i:Int),cU (jo m g) n (h,i)=some r∧fz 29 [0,3,13,14] [p0,Pt d 0,I6 m,I6 i] a∧St w0 w I [cb p0 g,bL (Pt d 0) h] R) E ⟨B,0,c,fy z,b⟩ ?_
 rintro b1 _ b2 ⟨h,i,c,⟨b3,rfl⟩,b⟩
 obtain ⟨b4,b5,rfl,c,q⟩:=aU c
 dsimp only [jo] at c
 refine ww (mb z (nt (aj (bw c z ?_ ?_))))
 {
 refine fun F c=>al (tn (aj (au (ww (mi z (mi z (nt (wrl (mp z (mv (p0) z ?_))))))))))
 obtain ⟨G,b6,rfl,H⟩:=dP b
 have b:=H
 refine mp z (mF z fI (mL z (b.bc0 z) (mi z ?_)))
 obtain ⟨f,J,c⟩:=bn c
 obtain ⟨K,L,M⟩:=aV J
 refine mz (aJ z z uI sI b.sv1 K L) ?_
 obtain ⟨b7,N,O⟩:=b.og1 M
 obtain ⟨s,t,u,v,rfl,P,Q,S,T,-⟩:=N
 refine mz (xN (cs:=[U6 f.ID.ab,U6 f.ID.Seq,U6 f.ae,s,t,u,v]) z (et (o:=0) O z)) ?_
 replace b:=b.aD
 obtain ⟨U,V,c⟩:=bn c
 refine wc call170 [Pt d 0,.agg #[U6 f.ID.ab,U6 f.ID.Seq,U6 f.ae,s,t,u,v]] z z z (kcI (xT (P.mono cS) (Q.mono cS) (S.mono cS) (T.mono cS) b.to1 V) fun b8 b=>dv (bJ (tn (wrl (mi z (mi z (nt ?_)))))))
 cases c
 exact ⟨_,nls,U,_,q,fy z,(dt (Pt G 0) g b.aD.aD z).ah.ah.cv⟩
}
 refine fun F c=>bH (aQ (aQ ?_))
 replace c:=bz c q
 refine cZ (tn (ww (mp z ?_)))
 replace b:=b.ah
 obtain ⟨b9,W,c⟩:=bn c
 refine wc call120 [Pt d 0] z z z (kdI (eA b.to1 W) fun j c1 b=>mv (j) z (nt (ar ?_)))
 cases c
 exact dI [j] z (rc z bl) ⟨j,z,(aR b.ah).ah.cv⟩
}
theorem rO {a0:(Option bE)} {p0:Value} (a:St w0 w I [cX bV p0 a0] R) {r:(Int)} (b:kc a0=some r) :
  Calls prog 171 #[p0] w fun e w'=>e = .returned (.int .i64 r)∧St w0 w' I [cX bV p0 a0] R:=by {
 rcases a0 with _ | c
 {
 dsimp only [kc] at b
 cases b
}
 replace a:=bQ a
 dsimp only [kc] at b
 refine c0 func171 z z (ww (mi z (nt (aj (ww (mv (p0) z ?_))))))
 obtain ⟨d,g,rfl,f⟩:=dJ a
 have a:=f
 refine mk (.bool false) (nt (cJ z (al (tn (ww (mp z (mp z (mF z fI (mL z (a.bc0 z) (mz (bX z uI a.sv1) (mi z (nt (ar ?_)))))))))))))
 cases b
 exact pI z z ⟨z,(aR (cQ (Pt d 0) c a.ah.ah z)).bF⟩
}
theorem sO {a0:ao} {p0:Value} {a1:bB} {g d:Value} (f:Rd aK R I g a1.dT) (i:Rd (eC aH) R I d a1.aX) (b:St w0 w I [bL p0 a0] R) {r:(ao)} (c:nq a0 a1=some r) :
  Calls prog 172 #[p0,.agg #[I6 a1.E,U6 a1.ae,U6 a1.Index,g,d]] w fun e w'=>e = .returned (.tuple #[])∧St w0 w' I [bL p0 r] R:=by {
 unfold nq at c
 refine c0 func172 z z (ww ?_)
 obtain ⟨j,e6,J,K,b⟩:=b.box [I6 a1.E,U6 a1.ae,U6 a1.Index,g,d] 33
 refine wa J K (nt (aj (rg b 16 [0,0,2,6,15,0,32,127,0,256,1023,0,2048,6144,14336,32767] [] mixed (sz (p0) 0 z z (sF 1 z z fI (sL 2 z z (·.bc0 z) (sk (.int .u64 (u64.wrap a1.E)) 3 z (sF 5 z z fI (sL 6 z z (·.bc0 z) (sF 8 z z fI (sL 9 z z (·.bc0 z) (sF 11 z z fI (sL 12 z z (·.bc0 z) (sh _ 13 z (fun w b=>bX z uI (ay f)) (sk (.int .u64 (u64.wrap ((a1.dT).length:Int))) 14 z (e1 4 z z fun w b=>?_))))))))))))))))
 replace b:=b.ah
 obtain ⟨e7,L,c⟩:=bn c
 refine wec call111 [p0,U6 (u64.wrap a1.E),I6 1] z z (kcI (az b.to1 L) fun e8 b=>wn [14,13,12,11,9,8,6,5] b (pkr z z (fun w b=>by kernel_rfl) (pkr z z (fun w b=>bX z uI (ay f)) (pL z z (·.bc1 z) (pF z z fI (pL z z (·.bc1 z) (pF z z fI (pL z z (·.bc1 z) (pF z z fI aT)))))))) (e1 7 z z fun w b=>?_))
 refine bk c fun e9 M c=>wec call111 [p0,U6 a1.ae,I6 8] z z (kcI (az b.to1 M) fun f0 b=>wn [14,13,12,11,9,8] b (pkr z z (fun w b=>by kernel_rfl) (pkr z z (fun w b=>bX z uI (ay f)) (pL z z (·.bc1 z) (pF z z fI (pL z z (·.bc1 z) (pF z z fI aT)))))) ?_)
 refine e1 10 z z fun w b=>bk c fun f1 N c=>wec call111 [p0,U6 a1.Index,I6 8] z z (kcI (az b.to1 N) fun f2 b=>wn [14,13,12,11] b (pkr z z (fun w b=>by kernel_rfl) (pkr z z (fun w b=>bX z uI (ay f)) (pL z z (·.bc1 z) (pF z z fI aT)))) ?_)
 refine e1 15 z z fun w b=>bk c fun O P c=>wec call111 [p0,U6 (u64.wrap ((a1.dT).length:Int)),I6 4] z z (kcI (az b.to1 P) fun f3 b=>w0n b (bt ?_))
 refine fun w b=>tn ?_
 obtain ⟨Q,c,S⟩:=bn c
 refine cR (fun a w=>∃ (s:ao),(pR a1) s=some r∧fz 75 [0,3] [p0,Pt j 0] a∧St w0 w I [bL p0 s,cells j [I6 a1.E,U6 a1.ae,U6 a1.Index,g,d]] R) ?_ ?_
 {
 refine ww (mF z fI (mL z (b.bc1 z) (mz (bX z uI (ay f)) (mi z (nt (au ?_))))))
 obtain ⟨T,c⟩:=aS c
 refine bg (fun n a w=>∃ (k:ao) (t:Int),cU (kB a1) n (k,t)=some Q∧fz 75 [0,3,27,28,29] [p0,Pt j 0,g,I6 ((a1.dT).length:Int),I6 t] a∧St w0 w I [bL p0 k,cells j [I6 a1.E,U6 a1.ae,U6 a1.Index,g,d]] R) T ⟨O,0,c,fy z,b⟩ ?_
 rintro f4 _ f5 ⟨k,t,c,⟨f6,rfl⟩,b⟩
 obtain ⟨f7,f8,rfl,c,x⟩:=aU c
 dsimp only [kB] at c
 refine ww (mb z (nt (aj (bw c z ?_ ?_))))
 {
 refine fun U c=>al (tn (aj (au (ww ?_))))
 obtain ⟨y,V,c⟩:=bn c
 obtain ⟨W,X,Y⟩:=aV V
 refine mz (aJ z z uI sI (ay f) W X) ?_
 obtain ⟨f9,Z,b0⟩:=Rd.lC f Y
 obtain ⟨A,rfl,B,-⟩:=Z
 refine mz (xN (cs:=[.bool y.Has,A]) z (et (o:=0) (b0 lr b) z)) ?_
 obtain ⟨g0,g1,b1,b2,b⟩:=b.box [.bool false,Zs] 61
 refine wa b1 b2 (bxk b z sI (oC z (oC (oS (ay B)) oN)) fun g2 b=>nt (rg b 7 [0,0,2,7,0,16,63] [] mixed (sz (p0) 0 z z (sF 1 z z fI (sL 2 z z (·.bc0 z) (sF 4 z z fI (sL 5 z z (·.bc0 z) (e1 3 z z fun w b=>?_))))))))
 replace b:=b.ah
 obtain ⟨g3,b3,c⟩:=bn c
 refine wec call119 [p0,.bool y.Has] z z (kcI (lG b.to1 b3) fun g4 b=>wn [5,4] b (pL z z (·.bc1 z) (pF z z fI aT)) (e1 6 z z fun w b=>bk c fun b4 b5 c=>wec call112 [p0,A] z z (kcI (ei (B.mono (cW _)) b.to1 b5) fun g5 b=>w0n b (bt ?_))))
 refine fun w b=>bJ (tn (wrl (mi z (mi z (nt ?_)))))
 cases c
 exact ⟨_,nls,b4,_,x,fy z,b.aD.ah.cv⟩
}
 refine fun U c=>bH (aQ (aQ ?_))
 replace c:=bz c x
 refine cZ (tn ?_)
 obtain rfl:=sj c
 exact ⟨k,S,fy z,b.ah.ah.cv⟩
}
 rintro _ g6 ⟨s,c,⟨g7,rfl⟩,b⟩
 dsimp only [pR] at c
 refine ww (mv (p0) z (mF z fI (mL z (b.bc1 z) (mz (bX z uI (ay i)) (mk (.int .u64 (u64.wrap ((a1.aX).length:Int))) (bk c fun b6 b7 c=>wc call111 [p0,U6 (u64.wrap ((a1.aX).length:Int)),I6 4] z z z (kcI (az b.to1 b7) fun g8 b=>nt (ww (mF z fI (mL z (b.bc1 z) (mz (bX z uI (ay i)) (mi z (nt (au ?_))))))))))))))
 replace b:=b.ah.sub
 obtain ⟨b8,c⟩:=aS c
 refine bg (fun n a w=>∃ (u:ao) (h:Int),cU (kG a1) n (u,h)=some r∧fz 75 [0,48,49,50] [p0,d,I6 ((a1.aX).length:Int),I6 h] a∧St w0 w I [bL p0 u] R) b8 ⟨b6,0,c,fy z,b⟩ ?_
 rintro g9 _ h0 ⟨u,h,c,⟨h1,rfl⟩,b⟩
 obtain ⟨h2,b9,rfl,c,C⟩:=aU c
 dsimp only [kG] at c
 refine ww (mb z (nt (aj (bw c z ?_ ?_))))
 {
 refine fun c1 c=>al (tn (aj (au (ww ?_))))
 obtain ⟨l,c2,c⟩:=bn c
 obtain ⟨c3,c4,c5⟩:=aV c2
 refine mz (aJ z z uI sI (ay i) c3 c4) ?_
 obtain ⟨h3,c6,c7⟩:=Rd.lC i c5
 obtain ⟨m,rfl,p,-⟩:=c6
 refine mL z ((c7 lr b) 0 _ z) (mv (m) z (nt (ww (mv (p0) z (mv (m) z (mz (bX z uI (ay p)) (mk (.int .u64 (u64.wrap ((l).length:Int))) (bk c fun c8 c9 c=>wc call111 [p0,U6 (u64.wrap ((l).length:Int)),I6 4] z z z (kcI (az b.to1 c9) fun h4 b=>nt (ww (mv (m) z (mz (bX z uI (ay p)) (mi z (nt (au ?_)))))))))))))))
 obtain ⟨d0,c⟩:=aS c
 refine bg (fun n a w=>∃ (q:ao) (v:Int),cU (jc l h) n (q,v)=some b9∧fz 75 [0,48,49,50,59,60,61] [p0,d,I6 ((a1.aX).length:Int),I6 h,m,I6 ((l).length:Int),I6 v] a∧St w0 w I [bL p0 q] R) d0 ⟨c8,0,c,fy z,b⟩ ?_
 rintro h5 _ h6 ⟨q,v,c,⟨h7,rfl⟩,b⟩
 obtain ⟨h8,h9,rfl,c,D⟩:=aU c
 dsimp only [jc] at c
 refine ww (mb z (nt (aj (bw c z ?_ ?_))))
 {
 refine fun d1 c=>al (tn (aj (au (ww ?_))))
 obtain ⟨F,d2,c⟩:=bn c
 obtain ⟨d3,d4,d5⟩:=aV d2
 refine mz (aJ z z uI sI (ay p) d3 d4) ?_
 obtain ⟨i0,d6,d7⟩:=Rd.lC p d5
 obtain ⟨G,rfl,H,-⟩:=d6
 refine mz (xN (cs:=[F6 F.At,G]) z (et (o:=0) (d7 lr b) z)) ?_
 obtain ⟨i1,i2,d8,d9,b⟩:=b.box [Zf,Zs] 152
 refine wa d8 d9 (bxk b z sI (oC z (oC (oS (ay H)) oN)) fun i3 b=>nt (rg b 8 [0,0,2,6,15,0,32,127] [] mixed (sz (p0) 0 z z (sF 1 z z fI (sL 2 z z (·.bc0 z) (sF 5 z z fI (sL 6 z z (·.bc0 z) (e1 3 z z fun w b=>bk c fun e0 e2 c=>wec call118 [F6 F.At] z z (kcO (dG b.to0 e2) fun i4 b=>wn [6,5,0] b (pL z z (·.bc0 z) (pF z z fI (pz aT))) ?_)))))))))
 refine e1 4 z z fun w b=>?_
 replace b:=b.ah
 obtain ⟨i5,e3,c⟩:=bn c
 refine wec call111 [p0,U6 e0,I6 8] z z (kcI (az b.to1 e3) fun i6 b=>wn [6,5] b (pL z z (·.bc1 z) (pF z z fI aT)) (e1 7 z z fun w b=>bk c fun e4 e5 c=>wec call112 [p0,G] z z (kcI (ei (H.mono (cW _)) b.to1 e5) fun i7 b=>w0n b (bt ?_))))
 refine fun w b=>bJ (tn (wrl (mi z (mi z (nt ?_)))))
 cases c
 exact ⟨_,nls,e4,_,D,fy z,b.bF⟩
}
 refine fun d1 c=>bH (aQ (aQ ?_))
 replace c:=bz c D
 refine cZ (bJ (tn (wrl (mi z (mi z (nt ?_))))))
 cases c
 exact ⟨_,nls,q,_,C,fy z,b.bF⟩
}
 refine fun c1 c=>bH (aQ (aQ ?_))
 replace c:=bz c C
 refine cZ ?_
 cases c
 exact mj (vs:=[]) z bl ⟨z,b.bF⟩
}
theorem qi {a0:(Option bE)} {p0:Value} (b:St w0 w I [cX bV p0 a0] R) {r:((List Int))} (c:gE a0=some r) :
  Calls prog 115 #[p0] w fun e w'=>∃ (s:Value),e = .returned (s)∧St w0 w' I [bp (cr .u8) s r,cX bV p0 a0] R:=by {
 rcases a0 with _ | j
 {
 dsimp only [gE] at c
 cases c
}
 replace b:=bQ b
 dsimp only [gE] at c
 refine c0 func115 z z (ww (mv ((.slice none 0 0)) z (nt (ww (mk (.agg #[Zs]) ?_)))))
 obtain ⟨d,Z,B,C,b⟩:=b.box [Zs] 193
 refine wa B C (mp z (nt (ww (mp z (mv (p0) z ?_)))))
 replace b:=aR b.ah
 obtain ⟨t,D,c⟩:=bn c
 refine wc call171 [p0] z z z (kcI (rO b.to1 D) fun b0 b=>?_)
 replace b:=bQ b
 refine mk (.int .u64 (u64.wrap t)) ?_
 replace b:=fQ (Pt d 0) (({p:=[]}:ao)) (b.ba (cr .u8)).aD z
 obtain ⟨F,G,c⟩:=bn c
 refine wc call111 [Pt d 0,U6 (u64.wrap t),I6 4] z z z (kcI (az b.to1 G) fun b1 b=>nt (aj (ww (mv (p0) z ?_))))
 replace b:=aR b.ah
 obtain ⟨u,H,c⟩:=bn c
 refine wc call171 [p0] z z z (kcI (rO b.to1 H) fun b2 b=>?_)
 replace b:=bQ b
 refine mi z (nt (au ?_))
 obtain ⟨J,c⟩:=aS c
 refine bg (fun n a w=>∃ (k:ao) (l:Int),cU (iI u j) n (k,l)=some r∧fz 49 [0,3,13,14] [p0,Pt d 0,I6 u,I6 l] a∧St w0 w I [bV p0 j,bL (Pt d 0) k] R) J ⟨F,0,c,fy z,b⟩ ?_
 rintro b3 _ b4 ⟨k,l,c,⟨b5,rfl⟩,b⟩
 obtain ⟨b6,b7,rfl,c,v⟩:=aU c
 dsimp only [iI] at c
 refine ww (mb z (nt (aj (bw c z ?_ ?_))))
 {
 refine fun K c=>al (tn (aj (au (ww (mi z (mi z (nt (aj ?_))))))))
 obtain ⟨L,b8,rfl,M⟩:=dJ b
 have b:=M
 replace b:=b.ah
 obtain ⟨b9,g,b⟩:=b.cz
 refine rg b 19 [0,0,2,6,14,0,62,126,254,511,0,1024,3072,7168,0,31744,64512,130048,262143] [] mixed (sp 0 z z (sp 1 z z (sp 2 z z (sF 3 z z fI (sL 4 z z (·.bc1 z) (si 5 z z ?_))))))
 obtain ⟨f,N,c⟩:=bn c
 obtain ⟨h,i,x⟩:=aV N
 refine sh _ 6 z (fun w b=>aJ z z uI sI (b.rsv 0 z g) h i) (sh _ 7 z (fun w b=>xG z fI z) ?_)
 obtain ⟨c1,m,O⟩:=bT.get g x
 obtain ⟨c2,c3,rfl,c4,c5,-⟩:=O
 refine sL 8 z z (fun b=>(b.uy 0 z m) 0 _ z) (sp 10 z z (sp 11 z z (sF 12 z z fI (sL 13 z z (·.bc1 z) (si 14 z z (sh _ 15 z (fun w b=>aJ z z uI sI (b.rsv 0 z g) h i) (sh _ 16 z (fun w b=>xG z fI z) (sL 17 z z (fun b=>(b.uy 0 z m) 1 _ z) (e1 9 z z fun w b=>?_)))))))))
 replace b:=b.aD
 obtain ⟨c6,P,c⟩:=bn c
 refine wec call111 [Pt d 0,U6 f.cV,I6 8] z z (kcI (az b.to1 P) fun c7 b=>wn [17,16,15,14,13,12,11,10] b (pL z z (fun b=>(b.uy 1 z m) 1 _ z) (pkr z z (fun w b=>xG z fI z) (pkr z z (fun w b=>aJ z z uI sI (b.rsv 1 z g) h i) (pz (pL z z (·.bc2 z) (pF z z fI (pz (pz aT)))))))) (e1 18 z z fun w b=>bk c fun c8 Q c=>wec call111 [Pt d 0,U6 f.seq,I6 8] z z ?_))
 refine kcI (az b.to1 Q) fun c9 b=>w0n b (bt ?_)
 intro w b
 replace b:=b.ah.bo g
 refine tn (wrl (mp z (mp z (mp z (mF z fI (mL z (b.bc2 z) (mi z (mz (aJ z z uI sI b.sv0 h i) (mz (xG z fI z) ?_)))))))))
 obtain ⟨d0,S,T⟩:=b.og0 x
 obtain ⟨y,A,rfl,U,V,-⟩:=S
 refine mz (xN (cs:=[I6 f.r.E,U6 f.r.ae,U6 f.r.Index,y,A]) z (et (o:=2) T z)) ?_
 replace b:=b.ah
 obtain ⟨W,X,c⟩:=bn c
 refine wc call172 [Pt d 0,.agg #[I6 f.r.E,U6 f.r.ae,U6 f.r.Index,y,A]] z z z (kcI (sO (U.mono cS) (V.mono cS) b.to1 X) fun d1 b=>dv (bJ (tn (wrl (mi z (mi z (nt ?_)))))))
 cases c
 exact ⟨_,nls,W,_,v,fy z,(cQ (Pt L 0) j b.ah.aD z).ah.ah.cv⟩
}
 refine fun K c=>bH (aQ (aQ ?_))
 replace c:=bz c v
 refine cZ (tn (ww (mp z ?_)))
 replace b:=b.ah
 obtain ⟨d2,Y,c⟩:=bn c
 refine wc call120 [Pt d 0] z z z (kdI (eA b.to1 Y) fun q d3 b=>mv (q) z (nt (ar ?_)))
 cases c
 exact dI [q] z (rc z bl) ⟨q,z,(aR b.ah).ah.cv⟩
}
theorem th {a0:(Option cg)} {p0:Value} (a:St w0 w I [cX cH p0 a0] R) {r:(Int)} (b:lP a0=some r) :
  Calls prog 173 #[p0] w fun e w'=>e = .returned (.int .i64 r)∧St w0 w' I [cX cH p0 a0] R:=by {
 rcases a0 with _ | c
 {
 dsimp only [lP] at b
 cases b
}
 replace a:=bQ a
 dsimp only [lP] at b
 refine c0 func173 z z (ww (mi z (nt (aj (ww (mv (p0) z ?_))))))
 obtain ⟨d,g,rfl,f⟩:=eF a
 have a:=f
 refine mk (.bool false) (nt (cJ z (al (tn (ww (mp z (mp z (mF z fI (mL z (a.bc0 z) (mz (bX z uI a.sv1) (mi z (nt (ar ?_)))))))))))))
 cases b
 exact pI z z ⟨z,(aR (dk (Pt d 0) c a.ah.ah z)).bF⟩
}
theorem qU {a0:(Option cg)} {p0:Value} (b:St w0 w I [cX cH p0 a0] R) {r:((List Int))} (c:im a0=some r) :
  Calls prog 116 #[p0] w fun e w'=>∃ (k:Value),e = .returned (k)∧St w0 w' I [bp (cr .u8) k r,cX cH p0 a0] R:=by {
 rcases a0 with _ | g
 {
 dsimp only [im] at c
 cases c
}
 replace b:=bQ b
 dsimp only [im] at c
 refine c0 func116 z z (ww (mv ((.slice none 0 0)) z (nt (ww (mk (.agg #[Zs]) ?_)))))
 obtain ⟨f,b0,q,s,b⟩:=b.box [Zs] 193
 refine wa q s (mp z (nt (ww (mp z (mv (p0) z ?_)))))
 replace b:=aR b.ah
 obtain ⟨l,t,c⟩:=bn c
 refine wc call173 [p0] z z z (kcI (th b.to1 t) fun b1 b=>?_)
 replace b:=bQ b
 refine mk (.int .u64 (u64.wrap l)) ?_
 replace b:=fQ (Pt f 0) (({p:=[]}:ao)) (b.ba (cr .u8)).aD z
 obtain ⟨u,v,c⟩:=bn c
 refine wc call111 [Pt f 0,U6 (u64.wrap l),I6 4] z z z (kcI (az b.to1 v) fun b2 b=>nt (aj (ww (mv (p0) z ?_))))
 replace b:=aR b.ah
 obtain ⟨m,x,c⟩:=bn c
 refine wc call173 [p0] z z z (kcI (th b.to1 x) fun b3 b=>?_)
 replace b:=bQ b
 refine mi z (nt (au ?_))
 obtain ⟨y,c⟩:=aS c
 refine bg (fun n a w=>∃ (h:ao) (i:Int),cU (js m g) n (h,i)=some r∧fz 68 [0,3,14,15] [p0,Pt f 0,I6 m,I6 i] a∧St w0 w I [cH p0 g,bL (Pt f 0) h] R) y ⟨u,0,c,fy z,b⟩ ?_
 rintro b4 _ b5 ⟨h,i,c,⟨b6,rfl⟩,b⟩
 obtain ⟨b7,b8,rfl,c,o⟩:=aU c
 dsimp only [js] at c
 refine ww (mb z (nt (aj (bw c z ?_ ?_))))
 {
 refine fun A c=>al (tn (aj (au (ww (mi z (mi z (nt (ww (mv (p0) z ?_)))))))))
 obtain ⟨B,b9,rfl,C⟩:=eF b
 have b:=C
 refine mp z (mF z fI (mL z (b.bc0 z) (mi z ?_)))
 obtain ⟨d,D,c⟩:=bn c
 obtain ⟨E,F,G⟩:=aV D
 refine mz (aJ z z uI sI b.sv1 E F) (mz (xN (cs:=[U6 d.r.ID,I6 d.r.dn,I6 d.r.To,F6 d.r.Lo,F6 d.r.Hi,U6 d.r.Authority,I6 d.r.cx,U6 d.from_,U6 d.to_]) z (b.Mg G 0 riA)) ?_)
 obtain ⟨c1,c2,H,J,b⟩:=b.box [Zu,Zi,Zi,Zf,Zf,Zu,Zi,Zu,Zu] 224
 refine wa H J (bxk b z sI (oJ 9 z oN) fun c3 b=>nt (rg b 40 [0,0,2,6,15,0,32,96,224,511,0,1024,3072,7168,16383,0,32768,98304,262143,524287,0,1048576,3145728,8388607,16777215,0,33554432,100663296,268435455,0,536870912,1610612736,3758096384,8589934591,0,17179869184,68719476735,0,137438953472,549755813887] [] mixed (sp 0 z z (sF 1 z z fI (sF 2 z z fI (sL 3 z z (·.bc0 z) (sF 5 z z fI (sF 6 z z fI (sL 7 z z (·.bc0 z) (sk (.int .u64 (u64.wrap d.r.dn)) 8 z (sF 10 z z fI (sF 11 z z fI (sL 12 z z (·.bc0 z) (sk (.int .u64 (u64.wrap d.r.To)) 13 z (sF 15 z z fI (sF 16 z z fI (sL 17 z z (·.bc0 z) (sF 20 z z fI (sF 21 z z fI (sL 22 z z (·.bc0 z) (sF 25 z z fI (sF 26 z z fI (sL 27 z z (·.bc0 z) (sF 29 z z fI (sF 30 z z fI (sL 31 z z (·.bc0 z) (sk (.int .u64 (u64.wrap d.r.cx)) 32 z (sF 34 z z fI (sL 35 z z (·.bc0 z) (sF 37 z z fI (sL 38 z z (·.bc0 z) (e1 4 z z fun w b=>?_))))))))))))))))))))))))))))))))
 replace b:=b.aA
 obtain ⟨c4,K,c⟩:=bn c
 refine wec call111 [Pt f 0,U6 d.r.ID,I6 8] z z (kcI (az b.to1 K) fun c5 b=>wn [38,37,35,34,32,31,30,29,27,26,25,22,21,20,17,16,15,13,12,11,10,8,7,6,5] b (pL z z (·.bc1 z) (pF z z fI (pL z z (·.bc1 z) (pF z z fI (pkr z z (fun w b=>by kernel_rfl) (pL z z (·.bc1 z) (pF z z fI (pF z z fI (pL z z (·.bc1 z) (pF z z fI (pF z z fI (pL z z (·.bc1 z) (pF z z fI (pF z z fI (pL z z (·.bc1 z) (pF z z fI (pF z z fI (pkr z z (fun w b=>by kernel_rfl) (pL z z (·.bc1 z) (pF z z fI (pF z z fI (pkr z z (fun w b=>by kernel_rfl) (pL z z (·.bc1 z) (pF z z fI (pF z z fI aT))))))))))))))))))))))))) (e1 9 z z fun w b=>?_))
 refine bk c fun c6 L c=>wec call111 [Pt f 0,U6 (u64.wrap d.r.dn),I6 1] z z (kcI (az b.to1 L) fun c7 b=>wn [38,37,35,34,32,31,30,29,27,26,25,22,21,20,17,16,15,13,12,11,10] b (pL z z (·.bc1 z) (pF z z fI (pL z z (·.bc1 z) (pF z z fI (pkr z z (fun w b=>by kernel_rfl) (pL z z (·.bc1 z) (pF z z fI (pF z z fI (pL z z (·.bc1 z) (pF z z fI (pF z z fI (pL z z (·.bc1 z) (pF z z fI (pF z z fI (pL z z (·.bc1 z) (pF z z fI (pF z z fI (pkr z z (fun w b=>by kernel_rfl) (pL z z (·.bc1 z) (pF z z fI (pF z z fI aT))))))))))))))))))))) ?_)
 refine e1 14 z z fun w b=>bk c fun c8 M c=>wec call111 [Pt f 0,U6 (u64.wrap d.r.To),I6 1] z z (kcI (az b.to1 M) fun c9 b=>wn [38,37,35,34,32,31,30,29,27,26,25,22,21,20,17,16,15] b (pL z z (·.bc1 z) (pF z z fI (pL z z (·.bc1 z) (pF z z fI (pkr z z (fun w b=>by kernel_rfl) (pL z z (·.bc1 z) (pF z z fI (pF z z fI (pL z z (·.bc1 z) (pF z z fI (pF z z fI (pL z z (·.bc1 z) (pF z z fI (pF z z fI (pL z z (·.bc1 z) (pF z z fI (pF z z fI aT))))))))))))))))) ?_)
 refine e1 18 z z fun w b=>bk c fun N O c=>wec call118 [F6 d.r.Lo] z z (kcO (dG b.to0 O) fun d0 b=>wn [38,37,35,34,32,31,30,29,27,26,25,22,21,20] b (pL z z (·.bc1 z) (pF z z fI (pL z z (·.bc1 z) (pF z z fI (pkr z z (fun w b=>by kernel_rfl) (pL z z (·.bc1 z) (pF z z fI (pF z z fI (pL z z (·.bc1 z) (pF z z fI (pF z z fI (pL z z (·.bc1 z) (pF z z fI (pF z z fI aT)))))))))))))) ?_)
 refine e1 19 z z fun w b=>bk c fun d1 P c=>wec call111 [Pt f 0,U6 N,I6 8] z z (kcI (az b.to1 P) fun d2 b=>wn [38,37,35,34,32,31,30,29,27,26,25,22,21,20] b (pL z z (·.bc1 z) (pF z z fI (pL z z (·.bc1 z) (pF z z fI (pkr z z (fun w b=>by kernel_rfl) (pL z z (·.bc1 z) (pF z z fI (pF z z fI (pL z z (·.bc1 z) (pF z z fI (pF z z fI (pL z z (·.bc1 z) (pF z z fI (pF z z fI aT)))))))))))))) ?_)
 refine e1 23 z z fun w b=>bk c fun Q S c=>wec call118 [F6 d.r.Hi] z z (kcO (dG b.to0 S) fun d3 b=>wn [38,37,35,34,32,31,30,29,27,26,25] b (pL z z (·.bc1 z) (pF z z fI (pL z z (·.bc1 z) (pF z z fI (pkr z z (fun w b=>by kernel_rfl) (pL z z (·.bc1 z) (pF z z fI (pF z z fI (pL z z (·.bc1 z) (pF z z fI (pF z z fI aT))))))))))) ?_)
 refine e1 24 z z fun w b=>bk c fun d4 T c=>wec call111 [Pt f 0,U6 Q,I6 8] z z (kcI (az b.to1 T) fun d5 b=>wn [38,37,35,34,32,31,30,29,27,26,25] b (pL z z (·.bc1 z) (pF z z fI (pL z z (·.bc1 z) (pF z z fI (pkr z z (fun w b=>by kernel_rfl) (pL z z (·.bc1 z) (pF z z fI (pF z z fI (pL z z (·.bc1 z) (pF z z fI (pF z z fI aT))))))))))) ?_)
 refine e1 28 z z fun w b=>bk c fun d6 U c=>wec call111 [Pt f 0,U6 d.r.Authority,I6 8] z z (kcI (az b.to1 U) fun d7 b=>wn [38,37,35,34,32,31,30,29] b (pL z z (·.bc1 z) (pF z z fI (pL z z (·.bc1 z) (pF z z fI (pkr z z (fun w b=>by kernel_rfl) (pL z z (·.bc1 z) (pF z z fI (pF z z fI aT)))))))) ?_)
 refine e1 33 z z fun w b=>bk c fun d8 V c=>wec call111 [Pt f 0,U6 (u64.wrap d.r.cx),I6 4] z z (kcI (az b.to1 V) fun d9 b=>wn [38,37,35,34] b (pL z z (·.bc1 z) (pF z z fI (pL z z (·.bc1 z) (pF z z fI aT)))) (e1 36 z z fun w b=>bk c fun e0 W c=>wec call111 [Pt f 0,U6 d.from_,I6 8] z z (kcI (az b.to1 W) fun e2 b=>wn [38,37] b (pL z z (·.bc1 z) (pF z z fI aT)) ?_)))
 refine e1 39 z z fun w b=>bk c fun X Y c=>wec call111 [Pt f 0,U6 d.to_,I6 8] z z (kcI (az b.to1 Y) fun e3 b=>w0n b (bt ?_))
 refine fun w b=>bJ (tn (wrl (mi z (mi z (nt ?_)))))
 cases c
 exact ⟨_,nls,X,_,o,fy z,(dk (Pt B 0) g b.aA.aA z).ah.ah.cv⟩
}
 refine fun A c=>bH (aQ (aQ ?_))
 replace c:=bz c o
 refine cZ (tn (ww (mp z ?_)))
 replace b:=b.ah
 obtain ⟨e4,Z,c⟩:=bn c
 refine wc call120 [Pt f 0] z z z (kdI (eA b.to1 Z) fun j e5 b=>mv (j) z (nt (ar ?_)))
 cases c
 exact dI [j] z (rc z bl) ⟨j,z,(aR b.ah).ah.cv⟩
}
theorem tW {a0:ao} {p0:Value} {a1:(List bK)} {d:Value} (f:Rd cG R I d a1) (b:St w0 w I [bL p0 a0] R) {r:(ao)} (c:oM a0 a1=some r) :
  Calls prog 175 #[p0,d] w fun e w'=>e = .returned (.tuple #[])∧St w0 w' I [bL p0 r] R:=by {
 unfold oM at c
 refine c0 func175 z z (ww (mv (p0) z (mv (d) z (mz (bX z uI (ay f)) (mk (.int .u64 (u64.wrap ((a1).length:Int))) (bk c fun m p c=>wc call111 [p0,U6 (u64.wrap ((a1).length:Int)),I6 4] z z z (kcI (az b.to1 p) fun K b=>nt (ww (mv (d) z (mz (bX z uI (ay f)) (mi z (nt (au ?_)))))))))))))
 obtain ⟨q,c⟩:=aS c
 refine bg (fun n a w=>∃ (h:ao) (i:Int),cU (ma a1) n (h,i)=some r∧fz 29 [0,11,12,13] [p0,d,I6 ((a1).length:Int),I6 i] a∧St w0 w I [bL p0 h] R) q ⟨m,0,c,fy z,b⟩ ?_
 rintro L _ M ⟨h,i,c,⟨N,rfl⟩,b⟩
 obtain ⟨O,P,rfl,c,j⟩:=aU c
 dsimp only [ma] at c
 refine ww (mb z (nt (aj (bw c z ?_ ?_))))
 {
 refine fun s c=>al (tn (aj (au (ww ?_))))
 obtain ⟨g,t,c⟩:=bn c
 obtain ⟨u,v,x⟩:=aV t
 refine mz (aJ z z uI sI (ay f) u v) ?_
 obtain ⟨Q,y,A⟩:=Rd.lC f x
 obtain ⟨k,rfl,l,-⟩:=y
 refine mz (xN (cs:=[F6 g.At,.bool g.Del,k]) z (et (o:=0) (A lr b) z)) ?_
 obtain ⟨S,T,B,C,b⟩:=b.box [Zf,.bool false,Zs] 41
 refine wa B C (bxk b z sI (oJ 2 z (oC (oS (ay l)) oN)) fun U b=>nt (rg b 11 [0,0,2,6,15,0,32,127,0,256,1023] [] mixed (sz (p0) 0 z z (sF 1 z z fI (sL 2 z z (·.bc0 z) (sF 5 z z fI (sL 6 z z (·.bc0 z) (sF 8 z z fI (sL 9 z z (·.bc0 z) (e1 3 z z fun w b=>bk c fun D E c=>wec call118 [F6 g.At] z z (kcO (dG b.to0 E) fun V b=>wn [9,8,6,5,0] b (pL z z (·.bc0 z) (pF z z fI (pL z z (·.bc0 z) (pF z z fI (pz aT))))) ?_)))))))))))
 refine e1 4 z z fun w b=>?_
 replace b:=b.ah
 obtain ⟨W,F,c⟩:=bn c
 refine wec call111 [p0,U6 D,I6 8] z z (kcI (az b.to1 F) fun X b=>wn [9,8,6,5] b (pL z z (·.bc1 z) (pF z z fI (pL z z (·.bc1 z) (pF z z fI aT)))) (e1 7 z z fun w b=>bk c fun Y G c=>wec call119 [p0,.bool g.Del] z z (kcI (lG b.to1 G) fun Z b=>wn [9,8] b (pL z z (·.bc1 z) (pF z z fI aT)) (e1 10 z z fun w b=>bk c fun H J c=>?_))))
 refine wec call112 [p0,k] z z (kcI (ei (l.mono (cW _)) b.to1 J) fun b0 b=>w0n b (bt ?_))
 refine fun w b=>bJ (tn (wrl (mi z (mi z (nt ?_)))))
 cases c
 exact ⟨_,nls,H,_,j,fy z,b.bF⟩
}
 refine fun s c=>bH (aQ (aQ ?_))
 replace c:=bz c j
 refine cZ ?_
 cases c
 exact mj (vs:=[]) z bl ⟨z,b.bF⟩
}
theorem tY {a0:aG} {h i j k q l m s:Value} (Q:Rd cp R I h a0.br.dO) (S:Rd fU R I i a0.br.aX) (T:Rd cp R I j a0.br.dD) (U:Rd (cr .u8) R I k a0.br.Data) (V:Rd cG R I q a0.cw) (W:Rd aK R I l a0.R.dT) (X:Rd (eC aH) R I m a0.R.aX) (t:Rd cN R I s a0.dM) (b:St w0 w I [] R) {r:((List Int))} (c:nh a0=some r) :
  Calls prog 117 #[.agg #[U1 a0.Kind,U6 a0.ID.ab,U6 a0.ID.Seq,U6 a0.ae,U6 a0.Index,I6 a0.E,U6 a0.br.ID.ab,U6 a0.br.ID.Seq,U6 a0.br.ae,h,i,j,k,q,I6 a0.R.E,U6 a0.R.ae,U6 a0.R.Index,l,m,U6 a0.bY,s,U6 a0.ap.ID,I6 a0.ap.dn,I6 a0.ap.To,F6 a0.ap.Lo,F6 a0.ap.Hi,U6 a0.ap.Authority,I6 a0.ap.cx,.bool a0.On]] w fun e w'=>∃ (M:Value),e = .returned (M)∧St w0 w' I [bp (cr .u8) M r] R:=by {
 unfold nh at c
 refine c0 func117 z z (ww ?_)
 obtain ⟨f,h7,Y,Z,b⟩:=b.box [U1 a0.Kind,U6 a0.ID.ab,U6 a0.ID.Seq,U6 a0.ae,U6 a0.Index,I6 a0.E,U6 a0.br.ID.ab,U6 a0.br.ID.Seq,U6 a0.br.ae,h,i,j,k,q,I6 a0.R.E,U6 a0.R.ae,U6 a0.R.Index,l,m,U6 a0.bY,s,U6 a0.ap.ID,I6 a0.ap.dn,I6 a0.ap.To,F6 a0.ap.Lo,F6 a0.ap.Hi,U6 a0.ap.Authority,I6 a0.ap.cx,.bool a0.On] 49
 refine wa Y Z (mv ((.slice none 0 0)) z (nt (ww (mk (.agg #[Zs]) ?_))))
 obtain ⟨d,h8,b0,b1,b⟩:=b.box [Zs] 193
 refine wa b0 b1 ?_
 obtain ⟨g,h9,b2,b3,b⟩:=b.box [.pointer none] 191
 refine wa b2 b3 (byk (Pt d 0) b z sI (oC z oN) fun i0 b=>nt (ww (mL z (b.bc0 z) (mF z fI (mL z (b.bc2 z) (mk (.int .u64 (u64.wrap a0.Kind)) ?_))))))
 replace b:=fQ (Pt d 0) (({p:=[]}:ao)) (b.ba (cr .u8)).aD z
 obtain ⟨i1,b4,c⟩:=bn c
 refine wc call111 [Pt d 0,U6 (u64.wrap a0.Kind),I6 1] z z z (kcI (az b.to1 b4) fun i2 b=>nt (ww (mk (.func (.func 174) #[] #[Pt g 0,Pt f 0]) (mv (.func (.func 174) #[] #[Pt g 0,Pt f 0]) z (nt (aj (ww (mF z fI (mL z (b.bc2 z) (nt (au (ww (mb z (mb z (nt (bw c z ?_ ?_))))))))))))))))
 {
 refine fun b5 c=>wrl (mL z (b.bc1 z) (mF z fI (mL z (b.bc2 z) (bk c fun i3 b6 c=>wc call111 [Pt d 0,U6 a0.ae,I6 8] z z z (kcI (az b.to1 b6) fun i4 b=>dv (bJ (tn (ww (mL z (b.bc1 z) (bk c fun i5 b7 c=>wc call120 [Pt d 0] z z z (kdI (eA b.to1 b7) fun v i6 b=>mv (v) z (nt (ar ?_)))))))))))))
 cases c
 exact dI [v] z (rc z bl) ⟨v,z,b.bF⟩
}
 refine fun b5 c=>ww (mb z (mb z (nt (bw c z ?_ ?_))))
 {
 refine fun b8 c=>wrl (mL z (b.bc1 z) (mF z fI (mz (xN (cs:=[U6 a0.br.ID.ab,U6 a0.br.ID.Seq,U6 a0.br.ae,h,i,j,k]) z (b.ta 6 z)) (bk c fun i7 b9 c=>wc call170 [Pt d 0,.agg #[U6 a0.br.ID.ab,U6 a0.br.ID.Seq,U6 a0.br.ae,h,i,j,k]] z z z (kcI (xT (Q.mono (cW _)) (S.mono (cW _)) (T.mono (cW _)) (U.mono (cW _)) b.to1 b9) fun i8 b=>dv (bJ (tn (ww (mL z (b.bc1 z) ?_)))))))))
 refine bk c fun i9 c1 c=>wc call120 [Pt d 0] z z z (kdI (eA b.to1 c1) fun x j0 b=>mv (x) z (nt (ar ?_)))
 cases c
 exact dI [x] z (rc z bl) ⟨x,z,b.bF⟩
}
 refine fun b8 c=>ww (mb z (mb z (nt (bw c z ?_ ?_))))
 {
 refine fun c2 c=>ww (mv (.func (.func 174) #[] #[Pt g 0,Pt f 0]) z (bk c fun c3 c4 c=>dh z z (er call174 (caps:=[Pt g 0,Pt f 0]) z (vs:=[]) z) (Calls.mono (show Calls prog 174 #[Pt g 0,Pt f 0] _ (fun e w'=>∃ (y:ao),y=c3∧e = .returned (.tuple #[])∧St w0 w' I [cells f [U1 a0.Kind,U6 a0.ID.ab,U6 a0.ID.Seq,U6 a0.ae,U6 a0.Index,I6 a0.E,U6 a0.br.ID.ab,U6 a0.br.ID.Seq,U6 a0.br.ae,h,i,j,k,q,I6 a0.R.E,U6 a0.R.ae,U6 a0.R.Index,l,m,U6 a0.bY,s,U6 a0.ap.ID,I6 a0.ap.dn,I6 a0.ap.To,F6 a0.ap.Lo,F6 a0.ap.Hi,U6 a0.ap.Authority,I6 a0.ap.cx,.bool a0.On],bL (Pt d 0) y,cells g [Pt d 0]] R) from ?_) ?_)))
 {
 clear c; have c:=c4
 refine c0 func174 z z (rg b 9 [0,0,2,6,15,0,32,96,255] [] mixed (sL 0 z z (·.bc1 z) (sF 1 z z fI (sF 2 z z fI (sL 3 z z (·.bc2 z) (sF 5 z z fI (sF 6 z z fI (sL 7 z z (·.bc2 z) (e1 4 z z fun w b=>bk c fun j1 c5 c=>wec call111 [Pt d 0,U6 a0.ID.ab,I6 8] z z (kcI (az b.to1 c5) fun j2 b=>wn [7,6,5] b (pL z z (·.bc2 z) (pF z z fI (pF z z fI aT))) ?_))))))))))
 refine e1 8 z z fun w b=>bk c fun c6 c7 c=>wec call111 [Pt d 0,U6 a0.ID.Seq,I6 8] z z (kcI (az b.to1 c7) fun j3 b=>w0n b (bt ?_))
 refine fun w b=>mj (vs:=[]) z bl ?_
 obtain rfl:=sj c
 exact ⟨c6,z,z,b.ah.ah.aD.eu⟩
}
 rintro _ j4 ⟨y,rfl,rfl,b⟩
 refine ⟨_,z,?_⟩
 try dsimp only at c
 refine nt (aj (rg b 11 [0,0,2,6,15,0,32,127,0,256,1023] [] mixed (sL 0 z z (·.bc2 z) (sF 1 z z fI (sL 2 z z (·.bc0 z) (sk (.int .u64 (u64.wrap a0.E)) 3 z (sF 5 z z fI (sL 6 z z (·.bc0 z) (sF 8 z z fI (sL 9 z z (·.bc0 z) (e1 4 z z fun w b=>?_)))))))))))
 replace b:=b.ah
 obtain ⟨j5,c8,c⟩:=bn c
 refine wec call111 [Pt d 0,U6 (u64.wrap a0.E),I6 1] z z (kcI (az b.to1 c8) fun j6 b=>wn [9,8,6,5] b (pL z z (·.bc1 z) (pF z z fI (pL z z (·.bc1 z) (pF z z fI aT)))) (e1 7 z z fun w b=>bk c fun j7 c9 c=>wec call111 [Pt d 0,U6 a0.ae,I6 8] z z (kcI (az b.to1 c9) fun j8 b=>wn [9,8] b (pL z z (·.bc1 z) (pF z z fI aT)) (e1 10 z z fun w b=>?_))))
 refine bk c fun j9 d0 c=>wec call111 [Pt d 0,U6 a0.Index,I6 8] z z (kcI (az b.to1 d0) fun k0 b=>w0n b (bt ?_))
 refine fun w b=>tn (wrl (mL z (b.bc2 z) (mF z fI (mL z (b.bc1 z) (bk c fun k1 d1 c=>wc call175 [Pt d 0,q] z z z (kcI (tW (V.mono (cW _)) b.to1 d1) fun k2 b=>dv (bJ (tn (ww (mL z (b.bc2 z) (bk c fun k3 d2 c=>wc call120 [Pt d 0] z z z (kdI (eA b.to1 d2) fun A k4 b=>mv (A) z (nt (ar ?_))))))))))))))
 cases c
 exact dI [A] z (rc z bl) ⟨A,z,b.bF⟩
}
 refine fun c2 c=>ww (mb z (mb z (nt (bw c z ?_ ?_))))
 {
 refine fun d3 c=>ww (mv (.func (.func 174) #[] #[Pt g 0,Pt f 0]) z (bk c fun d4 d5 c=>dh z z (er call174 (caps:=[Pt g 0,Pt f 0]) z (vs:=[]) z) (Calls.mono (show Calls prog 174 #[Pt g 0,Pt f 0] _ (fun e w'=>∃ (B:ao),B=d4∧e = .returned (.tuple #[])∧St w0 w' I [cells f [U1 a0.Kind,U6 a0.ID.ab,U6 a0.ID.Seq,U6 a0.ae,U6 a0.Index,I6 a0.E,U6 a0.br.ID.ab,U6 a0.br.ID.Seq,U6 a0.br.ae,h,i,j,k,q,I6 a0.R.E,U6 a0.R.ae,U6 a0.R.Index,l,m,U6 a0.bY,s,U6 a0.ap.ID,I6 a0.ap.dn,I6 a0.ap.To,F6 a0.ap.Lo,F6 a0.ap.Hi,U6 a0.ap.Authority,I6 a0.ap.cx,.bool a0.On],bL (Pt d 0) B,cells g [Pt d 0]] R) from ?_) ?_)))
 {
 clear c; have c:=d5
 refine c0 func174 z z (rg b 9 [0,0,2,6,15,0,32,96,255] [] mixed (sL 0 z z (·.bc1 z) (sF 1 z z fI (sF 2 z z fI (sL 3 z z (·.bc2 z) (sF 5 z z fI (sF 6 z z fI (sL 7 z z (·.bc2 z) (e1 4 z z fun w b=>bk c fun k5 d6 c=>wec call111 [Pt d 0,U6 a0.ID.ab,I6 8] z z (kcI (az b.to1 d6) fun k6 b=>wn [7,6,5] b (pL z z (·.bc2 z) (pF z z fI (pF z z fI aT))) ?_))))))))))
 refine e1 8 z z fun w b=>bk c fun d7 d8 c=>wec call111 [Pt d 0,U6 a0.ID.Seq,I6 8] z z (kcI (az b.to1 d8) fun k7 b=>w0n b (bt ?_))
 refine fun w b=>mj (vs:=[]) z bl ?_
 obtain rfl:=sj c
 exact ⟨d7,z,z,b.ah.ah.aD.eu⟩
}
 rintro _ k8 ⟨B,rfl,rfl,b⟩
 refine ⟨_,z,?_⟩
 try dsimp only at c
 refine nt (aj (rg b 12 [0,0,2,7,0,16,63,0,128,384,896,2047] [] mixed (sL 0 z z (·.bc2 z) (sF 1 z z fI (sL 2 z z (·.bc0 z) (sF 4 z z fI (sL 5 z z (·.bc0 z) (sF 7 z z fI (sL 8 z z (·.bc0 z) (sh _ 9 z (fun w b=>bX z uI (ay t)) (sk (.int .u64 (u64.wrap ((a0.dM).length:Int))) 10 z (e1 3 z z fun w b=>?_))))))))))))
 replace b:=b.ah
 obtain ⟨k9,d9,c⟩:=bn c
 refine wec call111 [Pt d 0,U6 a0.ae,I6 8] z z (kcI (az b.to1 d9) fun l0 b=>wn [10,9,8,7,5,4] b (pkr z z (fun w b=>by kernel_rfl) (pkr z z (fun w b=>bX z uI (ay t)) (pL z z (·.bc1 z) (pF z z fI (pL z z (·.bc1 z) (pF z z fI aT)))))) (e1 6 z z fun w b=>?_))
 refine bk c fun l1 e0 c=>wec call111 [Pt d 0,U6 a0.bY,I6 2] z z (kcI (az b.to1 e0) fun l2 b=>wn [10,9,8,7] b (pkr z z (fun w b=>by kernel_rfl) (pkr z z (fun w b=>bX z uI (ay t)) (pL z z (·.bc1 z) (pF z z fI aT)))) ?_)
 refine e1 11 z z fun w b=>bk c fun e2 e3 c=>wec call111 [Pt d 0,U6 (u64.wrap ((a0.dM).length:Int)),I6 4] z z (kcI (az b.to1 e3) fun l3 b=>w0n b (bt ?_))
 refine fun w b=>tn ?_
 obtain ⟨e4,c,e5⟩:=bn c
 refine cR (fun a w=>∃ (C:ao),(ml a0) C=some r∧fz 121 [1,3] [Pt f 0,Pt g 0] a∧St w0 w I [cells f [U1 a0.Kind,U6 a0.ID.ab,U6 a0.ID.Seq,U6 a0.ae,U6 a0.Index,I6 a0.E,U6 a0.br.ID.ab,U6 a0.br.ID.Seq,U6 a0.br.ae,h,i,j,k,q,I6 a0.R.E,U6 a0.R.ae,U6 a0.R.Index,l,m,U6 a0.bY,s,U6 a0.ap.ID,I6 a0.ap.dn,I6 a0.ap.To,F6 a0.ap.Lo,F6 a0.ap.Hi,U6 a0.ap.Authority,I6 a0.ap.cx,.bool a0.On],cells g [Pt d 0],bL (Pt d 0) C] R) ?_ ?_
 {
 refine ww (mF z fI (mL z (b.bc1 z) (mz (bX z uI (ay t)) (mi z (nt (au ?_))))))
 obtain ⟨e6,c⟩:=aS c
 refine bg (fun n a w=>∃ (u:ao) (D:Int),cU (iS a0) n (u,D)=some e4∧fz 121 [1,3,65,66,67] [Pt f 0,Pt g 0,s,I6 ((a0.dM).length:Int),I6 D] a∧St w0 w I [bL (Pt d 0) u,cells f [U1 a0.Kind,U6 a0.ID.ab,U6 a0.ID.Seq,U6 a0.ae,U6 a0.Index,I6 a0.E,U6 a0.br.ID.ab,U6 a0.br.ID.Seq,U6 a0.br.ae,h,i,j,k,q,I6 a0.R.E,U6 a0.R.ae,U6 a0.R.Index,l,m,U6 a0.bY,s,U6 a0.ap.ID,I6 a0.ap.dn,I6 a0.ap.To,F6 a0.ap.Lo,F6 a0.ap.Hi,U6 a0.ap.Authority,I6 a0.ap.cx,.bool a0.On],cells g [Pt d 0]] R) e6 ⟨e2,0,c,fy z,b⟩ ?_
 rintro l4 _ l5 ⟨u,D,c,⟨l6,rfl⟩,b⟩
 obtain ⟨l7,l8,rfl,c,N⟩:=aU c
 dsimp only [iS] at c
 refine ww (mb z (nt (aj (bw c z ?_ ?_))))
 {
 refine fun e7 c=>al (tn (aj (au (ww ?_))))
 obtain ⟨F,e8,c⟩:=bn c
 obtain ⟨e9,f0,f1⟩:=aV e8
 refine mz (aJ z z uI sI (ay t) e9 f0) ?_
 obtain ⟨l9,f2,f3⟩:=Rd.lC t f1
 obtain ⟨O,rfl,P,-⟩:=f2
 refine mz (xN (cs:=[I6 F.oD,O]) z (et (o:=0) (f3 lr b) z)) ?_
 obtain ⟨m0,m1,f4,f5,b⟩:=b.box [Zi,Zs] 156
 refine wa f4 f5 (bxk b z sI (oC z (oC (oS (ay P)) oN)) fun m2 b=>nt (ww (mL z (b.bc3 z) (mF z fI (mL z (b.bc0 z) (mk (.int .u64 (u64.wrap F.oD)) ?_))))))
 replace b:=b.ah
 obtain ⟨m3,f6,c⟩:=bn c
 refine wc call111 [Pt d 0,U6 (u64.wrap F.oD),I6 1] z z z (kcI (az b.to1 f6) fun m4 b=>nt (wrl (mL z (b.bc3 z) (mF z fI (mL z (b.bc1 z) (bk c fun f7 f8 c=>wc call175 [Pt d 0,O] z z z (kcI (tW (P.mono (cW _)) b.to1 f8) fun m5 b=>dv (bJ (tn (wrl (mi z (mi z (nt ?_)))))))))))))
 cases c
 exact ⟨_,nls,f7,_,N,fy z,b.aA.aA.aD.eu⟩
}
 refine fun e7 c=>bH (aQ (aQ ?_))
 replace c:=bz c N
 refine cZ (tn ?_)
 obtain rfl:=sj c
 exact ⟨u,e5,fy z,b.aD.aD.eu⟩
}
 rintro _ m6 ⟨C,c,⟨m7,rfl⟩,b⟩
 dsimp only [ml] at c
 refine wrl (mL z (b.bc1 z) (mF z fI (mz (xN (cs:=[I6 a0.R.E,U6 a0.R.ae,U6 a0.R.Index,l,m]) z (b.fm 14 z)) ?_)))
 replace b:=b.aD
 obtain ⟨m8,f9,c⟩:=bn c
 refine wc call172 [Pt d 0,.agg #[I6 a0.R.E,U6 a0.R.ae,U6 a0.R.Index,l,m]] z z z (kcI (sO (W.mono (cW _)) (X.mono (cW _)) b.to1 f9) fun m9 b=>dv (bJ (tn (ww (mL z (b.bc2 z) (bk c fun n0 g0 c=>wc call120 [Pt d 0] z z z (kdI (eA b.to1 g0) fun G n1 b=>mv (G) z (nt (ar ?_)))))))))
 cases c
 exact dI [G] z (rc z bl) ⟨G,z,b.bF⟩
}
 refine fun d3 c=>ww (mb z (mb z (nt (bw c z ?_ ?_))))
 {
 refine fun g1 c=>wrl (mv (.func (.func 174) #[] #[Pt g 0,Pt f 0]) z (bk c fun g2 g3 c=>dh z z (er call174 (caps:=[Pt g 0,Pt f 0]) z (vs:=[]) z) (Calls.mono (show Calls prog 174 #[Pt g 0,Pt f 0] _ (fun e w'=>∃ (H:ao),H=g2∧e = .returned (.tuple #[])∧St w0 w' I [cells f [U1 a0.Kind,U6 a0.ID.ab,U6 a0.ID.Seq,U6 a0.ae,U6 a0.Index,I6 a0.E,U6 a0.br.ID.ab,U6 a0.br.ID.Seq,U6 a0.br.ae,h,i,j,k,q,I6 a0.R.E,U6 a0.R.ae,U6 a0.R.Index,l,m,U6 a0.bY,s,U6 a0.ap.ID,I6 a0.ap.dn,I6 a0.ap.To,F6 a0.ap.Lo,F6 a0.ap.Hi,U6 a0.ap.Authority,I6 a0.ap.cx,.bool a0.On],bL (Pt d 0) H,cells g [Pt d 0]] R) from ?_) ?_)))
 {
 clear c; have c:=g3
 refine c0 func174 z z (rg b 9 [0,0,2,6,15,0,32,96,255] [] mixed (sL 0 z z (·.bc1 z) (sF 1 z z fI (sF 2 z z fI (sL 3 z z (·.bc2 z) (sF 5 z z fI (sF 6 z z fI (sL 7 z z (·.bc2 z) (e1 4 z z fun w b=>bk c fun n2 g4 c=>wec call111 [Pt d 0,U6 a0.ID.ab,I6 8] z z (kcI (az b.to1 g4) fun n3 b=>wn [7,6,5] b (pL z z (·.bc2 z) (pF z z fI (pF z z fI aT))) ?_))))))))))
 refine e1 8 z z fun w b=>bk c fun g5 g6 c=>wec call111 [Pt d 0,U6 a0.ID.Seq,I6 8] z z (kcI (az b.to1 g6) fun n4 b=>w0n b (bt ?_))
 refine fun w b=>mj (vs:=[]) z bl ?_
 obtain rfl:=sj c
 exact ⟨g5,z,z,b.ah.ah.aD.eu⟩
}
 rintro _ n5 ⟨H,rfl,rfl,b⟩
 refine ⟨_,z,?_⟩
 try dsimp only at c
 refine dv (bJ (tn (ww (mL z (b.bc2 z) ?_))))
 replace b:=b.ah
 obtain ⟨n6,g7,c⟩:=bn c
 refine wc call120 [Pt d 0] z z z (kdI (eA b.to1 g7) fun J n7 b=>mv (J) z (nt (ar ?_)))
 cases c
 exact dI [J] z (rc z bl) ⟨J,z,b.bF⟩
}
 refine fun g1 c=>ww (mb z (mb z (nt (bw c z ?_ ?_))))
 {
 intro g8 c
 cases c
}
 refine fun g8 c=>ww (mb z (mb z (nt (bw c z ?_ ?_))))
 {
 refine fun g9 c=>ww (mv (.func (.func 174) #[] #[Pt g 0,Pt f 0]) z (bk c fun h0 h1 c=>dh z z (er call174 (caps:=[Pt g 0,Pt f 0]) z (vs:=[]) z) (Calls.mono (show Calls prog 174 #[Pt g 0,Pt f 0] _ (fun e w'=>∃ (K:ao),K=h0∧e = .returned (.tuple #[])∧St w0 w' I [cells f [U1 a0.Kind,U6 a0.ID.ab,U6 a0.ID.Seq,U6 a0.ae,U6 a0.Index,I6 a0.E,U6 a0.br.ID.ab,U6 a0.br.ID.Seq,U6 a0.br.ae,h,i,j,k,q,I6 a0.R.E,U6 a0.R.ae,U6 a0.R.Index,l,m,U6 a0.bY,s,U6 a0.ap.ID,I6 a0.ap.dn,I6 a0.ap.To,F6 a0.ap.Lo,F6 a0.ap.Hi,U6 a0.ap.Authority,I6 a0.ap.cx,.bool a0.On],bL (Pt d 0) K,cells g [Pt d 0]] R) from ?_) ?_)))
 {
 clear c; have c:=h1
 refine c0 func174 z z (rg b 9 [0,0,2,6,15,0,32,96,255] [] mixed (sL 0 z z (·.bc1 z) (sF 1 z z fI (sF 2 z z fI (sL 3 z z (·.bc2 z) (sF 5 z z fI (sF 6 z z fI (sL 7 z z (·.bc2 z) (e1 4 z z fun w b=>bk c fun n8 h2 c=>wec call111 [Pt d 0,U6 a0.ID.ab,I6 8] z z (kcI (az b.to1 h2) fun n9 b=>wn [7,6,5] b (pL z z (·.bc2 z) (pF z z fI (pF z z fI aT))) ?_))))))))))
 refine e1 8 z z fun w b=>bk c fun h3 h4 c=>wec call111 [Pt d 0,U6 a0.ID.Seq,I6 8] z z (kcI (az b.to1 h4) fun o0 b=>w0n b (bt ?_))
 refine fun w b=>mj (vs:=[]) z bl ?_
 obtain rfl:=sj c
 exact ⟨h3,z,z,b.ah.ah.aD.eu⟩
}
 rintro _ o1 ⟨K,rfl,rfl,b⟩
 refine ⟨_,z,?_⟩
 try dsimp only at c
 refine nt (ww (mL z (b.bc2 z) (mF z fI (mL z (b.bc0 z) ?_))))
 replace b:=b.ah
 obtain ⟨o2,h5,c⟩:=bn c
 refine wc call111 [Pt d 0,U6 a0.ae,I6 8] z z z (kcI (az b.to1 h5) fun o3 b=>nt (ww (mL z (b.bc2 z) (mF z fI (mz (xN (cs:=[U6 a0.ap.ID,I6 a0.ap.dn,I6 a0.ap.To,F6 a0.ap.Lo,F6 a0.ap.Hi,U6 a0.ap.Authority,I6 a0.ap.cx]) z (b.fO 21 z)) ?_)))))
 cases c
}
 refine fun g9 c=>al (bJ (tn (ww (mL z (b.bc1 z) (bk c fun o4 h6 c=>wc call120 [Pt d 0] z z z (kdI (eA b.to1 h6) fun L o5 b=>mv (L) z (nt (ar ?_))))))))
 cases c
 exact dI [L] z (rc z bl) ⟨L,z,b.bF⟩
}
theorem rM {a0:(Option ai)} {p0:Value} (b:St w0 w I [cX aM p0 a0] R) {r:((List Int))} (c:gU a0=some r) :
  Calls prog 42 #[p0] w fun e w'=>∃ (M:Value),e = .returned (M)∧St w0 w' I [bp (cr .u8) M r,cX aM p0 a0] R:=by {
 rcases a0 with _ | d
 {
 dsimp only [gU] at c
 cases c
}
 replace b:=bQ b
 dsimp only [gU] at c
 refine c0 func42 z z (ww (mv ((.slice none 0 0)) z (nt (ww (mk (.agg #[Zs]) ?_)))))
 obtain ⟨f,l0,c5,c6,b⟩:=b.box [Zs] 193
 refine wa c5 c6 (mp z (nt (aj (ww (mv (p0) z ?_)))))
 obtain ⟨i,q,s,t,u,v,O,P,rfl,c7⟩:=bC b.ah
 have b:=c7
 refine mk (.bool false) (nt (cJ z (al (tn (aj (rg b 36 [0,0,2,6,14,30,63,0,128,384,896,2047,0,4096,12288,28672,65535,131071,0,262144,786432,1835008,4194303,8388607,0,16777216,50331648,117440512,268435455,536870911,0,1073741824,3221225472,7516192768,17179869183,34359738367] [] mixed (sp 0 z z (sp 1 z z (sp 2 z z (sF 3 z z fI (sL 4 z z (·.bc0 z) (sk (.int .u64 (u64.wrap d.wide)) 5 z (sp 7 z z (sp 8 z z (sF 9 z z fI (sL 10 z z (·.bc0 z) (sp 12 z z (sp 13 z z (sF 14 z z fI (sL 15 z z (·.bc0 z) (sp 18 z z (sp 19 z z (sF 20 z z fI (sL 21 z z (·.bc0 z) (sp 24 z z (sp 25 z z (sF 26 z z fI (sL 27 z z (·.bc0 z) (sp 30 z z (sp 31 z z (sF 32 z z fI (sL 33 z z (·.bc0 z) (e1 6 z z fun w b=>?_)))))))))))))))))))))))))))))))))
 replace b:=fQ (Pt f 0) (({p:=[]}:ao)) (b.ba (cr .u8)).ca z
 obtain ⟨l1,c8,c⟩:=bn c
 refine wec call111 [Pt f 0,U6 (u64.wrap d.wide),I6 4] z z (kcI (az b.to1 c8) fun l2 b=>wn [33,32,31,30,27,26,25,24,21,20,19,18,15,14,13,12,10,9,8,7] b (pL z z (·.bc1 z) (pF z z fI (pz (pz (pL z z (·.bc1 z) (pF z z fI (pz (pz (pL z z (·.bc1 z) (pF z z fI (pz (pz (pL z z (·.bc1 z) (pF z z fI (pz (pz (pL z z (·.bc1 z) (pF z z fI (pz (pz aT)))))))))))))))))))) (e1 11 z z fun w b=>?_))
 refine bk c fun l3 c9 c=>wec call111 [Pt f 0,U6 d.cI,I6 8] z z (kcI (az b.to1 c9) fun l4 b=>wn [33,32,31,30,27,26,25,24,21,20,19,18,15,14,13,12] b (pL z z (·.bc1 z) (pF z z fI (pz (pz (pL z z (·.bc1 z) (pF z z fI (pz (pz (pL z z (·.bc1 z) (pF z z fI (pz (pz (pL z z (·.bc1 z) (pF z z fI (pz (pz aT)))))))))))))))) (e1 16 z z fun w b=>?_))
 replace b:=b.aD
 obtain ⟨l5,d0,c⟩:=bn c
 refine wec call113 [q] z z (kdJ (vT b.to1 d0) fun d1 l6 b=>wn [33,32,31,30,27,26,25,24,21,20,19,18] b (pL z z (·.bc3 z) (pF z z fI (pz (pz (pL z z (·.bc3 z) (pF z z fI (pz (pz (pL z z (·.bc3 z) (pF z z fI (pz (pz aT)))))))))))) (e1 17 z z fun w b=>?_))
 obtain ⟨l7,Q,b⟩:=b.cz
 replace b:=b.aD
 obtain ⟨l8,d2,c⟩:=bn c
 refine wec call112 [Pt f 0,d1] z z (kcI (ei (b.sub.jA Q) b.to1 d2) fun l9 b=>?_)
 replace b:=b.ah.bo Q
 refine wn [33,32,31,30,27,26,25,24,21,20,19,18] b (pL z z (·.bc3 z) (pF z z fI (pz (pz (pL z z (·.bc3 z) (pF z z fI (pz (pz (pL z z (·.bc3 z) (pF z z fI (pz (pz aT)))))))))))) (e1 22 z z fun w b=>?_)
 replace b:=b.bj
 obtain ⟨m0,d3,c⟩:=bn c
 refine wec call114 [s] z z (kdJ (rb b.to1 d3) fun d4 m1 b=>wn [33,32,31,30,27,26,25,24] b (pL z z (·.bc5 z) (pF z z fI (pz (pz (pL z z (·.bc5 z) (pF z z fI (pz (pz aT)))))))) (e1 23 z z fun w b=>?_))
 obtain ⟨m2,S,b⟩:=b.cz
 replace b:=b.aA
 obtain ⟨m3,d5,c⟩:=bn c
 refine wec call112 [Pt f 0,d4] z z (kcI (ei (b.sub.jA S) b.to1 d5) fun m4 b=>?_)
 replace b:=b.ah.bo S
 refine wn [33,32,31,30,27,26,25,24] b (pL z z (·.bc5 z) (pF z z fI (pz (pz (pL z z (·.bc5 z) (pF z z fI (pz (pz aT)))))))) (e1 28 z z fun w b=>?_)
 replace b:=b.de
 obtain ⟨m5,d6,c⟩:=bn c
 refine wec call115 [t] z z (kdJ (qi b.to1 d6) fun d7 m6 b=>wn [33,32,31,30] b (pL z z (·.bc7 z) (pF z z fI (pz (pz aT)))) (e1 29 z z fun w b=>?_))
 obtain ⟨m7,T,b⟩:=b.cz
 replace b:=b.aA
 obtain ⟨m8,d8,c⟩:=bn c
 refine wec call112 [Pt f 0,d7] z z (kcI (ei (b.sub.jA T) b.to1 d8) fun m9 b=>?_)
 replace b:=b.ah.bo T
 refine wn [33,32,31,30] b (pL z z (·.bc7 z) (pF z z fI (pz (pz aT)))) (e1 34 z z fun w b=>?_)
 replace b:=b.bM
 obtain ⟨n0,d9,c⟩:=bn c
 refine wec call116 [u] z z (kdJ (qU b.to1 d9) fun e0 n1 b=>w0n b (e1 35 z z fun w b=>?_))
 obtain ⟨n2,U,b⟩:=b.cz
 replace b:=b.aA
 obtain ⟨n3,e2,c⟩:=bn c
 refine wec call112 [Pt f 0,e0] z z (kcI (ei (b.sub.jA U) b.to1 e2) fun n4 b=>?_)
 replace b:=b.ah.bo U
 refine w0n b (bt ?_)
 refine fun w b=>tn (ww (mp z (mp z (mp z (mF z fI (mL z (b.bc9 z) (mz (bX z uI b.MT) (mk (.int .u64 (u64.wrap ((d.open_).length:Int))) ?_))))))))
 replace b:=b.ah
 obtain ⟨e3,e4,c⟩:=bn c
 refine wc call111 [Pt f 0,U6 (u64.wrap ((d.open_).length:Int)),I6 4] z z z (kcI (az b.to1 e4) fun n5 b=>nt ?_)
 obtain ⟨e5,c,e6⟩:=bn c
 refine cR (fun a w=>∃ (x:ao),(lT d) x=some r∧fz 163 [0,3] [Pt i 0,Pt f 0] a∧St w0 w I [aM (Pt i 0) d,bL (Pt f 0) x] R) ?_ ?_
 {
 refine ww (mp z (mp z (mF z fI (mL z (b.bc9 z) (mz (bX z uI b.MT) (mi z (nt (au ?_))))))))
 replace b:=b.ah.sub.aD.sub.aA.sub.bj.sub
 obtain ⟨e7,c⟩:=aS c
 refine bg (fun n a w=>∃ (k:ao) (y:Int),cU (iB d) n (k,y)=some e5∧fz 163 [0,3,61,62,63] [Pt i 0,Pt f 0,v,I6 ((d.open_).length:Int),I6 y] a∧St w0 w I [bL (Pt f 0) k,cX cH u d.book,cX bV t d.last,cX cb s d.ft,cX cA q d.store,cells i [I6 d.wide,U6 d.cI,q,s,t,u,v,O,P],bp bc v d.open_,bp cL O d.out,bp db P d.used] R) e7 ⟨e3,0,c,fy z,b⟩ ?_
 rintro n6 _ n7 ⟨k,y,c,⟨n8,rfl⟩,b⟩
 obtain ⟨n9,o1,rfl,c,V⟩:=aU c
 dsimp only [iB] at c
 refine ww (mb z (nt (aj (bw c z ?_ ?_))))
 {
 refine fun e8 c=>al (tn (aj (au (ww ?_))))
 obtain ⟨g,e9,c⟩:=bn c
 obtain ⟨f0,f1,f2⟩:=aV e9
 refine mz (aJ z z uI sI b.sv6 f0 f1) ?_
 obtain ⟨o2,f3,f4⟩:=b.og6 f2
 obtain ⟨A,rfl,l,-⟩:=f3
 refine mz (xN (cs:=[U6 g.ID.ab,U6 g.ID.Seq,I6 g.E,U6 g.ae,U6 g.Index,U6 g.bY,A]) z (et (o:=0) f4 z)) ?_
 obtain ⟨o3,o4,f5,f6,b⟩:=b.box [Zu,Zu,Zi,Zu,Zu,Zu,Zs] 89
 refine wa f5 f6 (bxk b z sI (oJ 6 z (oC (oS (ak l)) oN)) fun o5 b=>nt (rg b 19 [0,0,2,6,15,0,32,0,128,0,512,0,2048,0,8192,24576,65504,131071,262143] [] mixed (sp 0 z z (sF 1 z z fI (sL 2 z z (·.bc0 z) (sk (.int .u64 (u64.wrap g.E)) 3 z (sF 5 z z fI (sh _ 6 z (fun w b=>xN (cs:=[U6 g.ID.ab,U6 g.ID.Seq]) z (b.fm 0 z)) (sF 7 z z fI (sL 8 z z (·.bc0 z) (sF 9 z z fI (sL 10 z z (·.bc0 z) (sF 11 z z fI (sL 12 z z (·.bc0 z) (sF 13 z z fI (wsr (.int .u64 g.Index) 14 rfl rfl rfl krA (fun w b=>xL z (b.bc0 rfl)) (wsr (.agg #[Zi,Zu,U6 g.Index,Zs,Zs]) 15 rfl rfl rfl krA (fun w b=>by kernel_rfl) (wsr (.agg #[U1 4,U6 g.ID.ab,U6 g.ID.Seq,U6 g.ae,Zu,Zi,Zu,Zu,Zu,Zs,Zs,Zs,Zs,Zs,Zi,Zu,U6 g.Index,Zs,Zs,U6 g.bY,A,Zu,Zi,Zi,Zf,Zf,Zu,Zi,.bool false]) 16 rfl rfl rfl krA (fun w b=>by obtain ⟨_,_,hv_,_⟩:=(ak l); rw [hv_]; kernel_rfl) (e1 4 z z fun w b=>?_)))))))))))))))))))
 replace b:=b.ah
 obtain ⟨o6,f7,c⟩:=bn c
 refine wec call111 [Pt f 0,U6 (u64.wrap g.E),I6 1] z z (kcI (az b.to1 f7) fun o7 b=>wn [16,15,14,13,12,11,10,9,8,7,6,5] b (pkr rfl rfl (fun w b=>by obtain ⟨_,_,hv_,_⟩:=(ak l); rw [hv_]; kernel_rfl) (pkr rfl rfl (fun w b=>by kernel_rfl) (pkr rfl rfl (fun w b=>xL z (b.bc1 rfl)) (pkr rfl rfl (fun w b=>xF z fI z) (pkr rfl rfl (fun w b=>xL z (b.bc1 rfl)) (pkr rfl rfl (fun w b=>xF z fI z) (pkr rfl rfl (fun w b=>xL z (b.bc1 rfl)) (pkr rfl rfl (fun w b=>xF z fI z) (pkr rfl rfl (fun w b=>xL z (b.bc1 rfl)) (pkr rfl rfl (fun w b=>xF z fI z) (pkr rfl rfl (fun w b=>xN (cs:=[U6 g.ID.ab,U6 g.ID.Seq]) z (b.fO 0 rfl)) (pkr rfl rfl (fun w b=>xF z fI z) aT)))))))))))) (e1 17 z z fun w b=>?_))
 have f8:Ro cp I (.slice none 0 0) []:=dc
 have f9:Ro fU I (.slice none 0 0) []:=dc
 have g0:Ro cp I (.slice none 0 0) []:=dc
 have g1:Ro (cr .u8) I (.slice none 0 0) []:=dc
 have g2:Ro cG I (.slice none 0 0) []:=dc
 have g3:Ro aK I (.slice none 0 0) []:=dc
 have g4:Ro (eC aH) I (.slice none 0 0) []:=dc
 obtain ⟨o8,g5,c⟩:=bn c
 refine wec call117 [.agg #[U1 4,U6 g.ID.ab,U6 g.ID.Seq,U6 g.ae,Zu,Zi,Zu,Zu,Zu,Zs,Zs,Zs,Zs,Zs,Zi,Zu,U6 g.Index,Zs,Zs,U6 g.bY,A,Zu,Zi,Zi,Zf,Zf,Zu,Zi,.bool false]] z z (kdI (tY (a0:=({g with Kind:=4,Index:=0,E:=0,br:=dX,cw:=[],R:=({E:=0,ae:=0,Index:=g.Index,dT:=[],aX:=[]}:bB),ap:=dY,On:=false}:aG)) (f8.mono cS) (f9.mono cS) (g0.mono cS) (g1.mono cS) (g2.mono cS) (g3.mono cS) (g4.mono cS) (l.mono cS) b.to0 g5) fun g6 o9 b=>w0n b (e1 18 z z fun w b=>?_))
 obtain ⟨q0,X,b⟩:=b.cz
 replace b:=b.ah
 obtain ⟨g7,g8,c⟩:=bn c
 refine wec call112 [Pt f 0,g6] z z (kcI (ei (b.sub.jA X) b.to1 g8) fun q1 b=>?_)
 replace b:=b.ah.bo X
 refine w0n b (bt ?_)
 refine fun w b=>bJ (tn (wrl (mi z (mi z (nt ?_)))))
 cases c
 exact ⟨_,nls,g7,_,V,fy z,b.bR.bR.bR.bR.bR.bR.bR.bR.ca.tU⟩
}
 refine fun e8 c=>bH (aQ (aQ ?_))
 replace c:=bz c V
 refine cZ (tn ?_)
 obtain rfl:=sj c
 exact ⟨k,e6,fy z,(aF (Pt i 0) d b.bM.bM.bM.bj.bq.de.aW.bM z).ah.ah.cv⟩
}
 rintro _ q2 ⟨x,c,⟨q3,rfl⟩,b⟩
 dsimp only [lT] at c
 refine ww (mp z (mp z ?_))
 obtain ⟨q4,Y,Z,b0,b1,b2,B,b3,C,g9⟩:=bC b
 replace C:=ez C
 subst C
 have b:=g9
 refine mp z (mF z fI (mL z (b.bc0 z) (mz (bX z uI b.sv6) (mk (.int .u64 (u64.wrap ((d.out).length:Int))) ?_))))
 replace b:=b.bM
 obtain ⟨h0,h1,c⟩:=bn c
 refine wc call111 [Pt f 0,U6 (u64.wrap ((d.out).length:Int)),I6 4] z z z (kcI (az b.to1 h1) fun q5 b=>nt ?_)
 obtain ⟨h2,c,h3⟩:=bn c
 refine cR (fun a w=>∃ (D:ao),(me d) D=some r∧fz 163 [0,3] [Pt i 0,Pt f 0] a∧St w0 w I [aM (Pt i 0) d,bL (Pt f 0) D] R) ?_ ?_
 {
 refine ww (mp z (mp z (mF z fI (mL z (b.bc1 z) (mz (bX z uI b.sv7) (mi z (nt (au ?_))))))))
 obtain ⟨h4,c⟩:=aS c
 refine bg (fun n a w=>∃ (m:ao) (F:Int),cU (iG d) n (m,F)=some h2∧fz 163 [0,3,98,99,100] [Pt i 0,Pt f 0,B,I6 ((d.out).length:Int),I6 F] a∧St w0 w I [bL (Pt f 0) m,cells i [I6 d.wide,U6 d.cI,Y,Z,b0,b1,b2,B,b3],cX cA Y d.store,cX cb Z d.ft,cX bV b0 d.last,cX cH b1 d.book,bp bc b2 d.open_,bp cL B d.out,bp db b3 d.used] R) h4 ⟨h0,0,c,fy z,b⟩ ?_
 rintro q6 _ q7 ⟨m,F,c,⟨q8,rfl⟩,b⟩
 obtain ⟨q9,s0,rfl,c,b4⟩:=aU c
 dsimp only [iG] at c
 refine ww (mb z (nt (aj (bw c z ?_ ?_))))
 {
 refine fun h5 c=>al (tn (aj (au (ww ?_))))
 obtain ⟨h,h6,c⟩:=bn c
 obtain ⟨h7,h8,h9⟩:=aV h6
 refine mz (aJ z z uI sI b.sv7 h7 h8) ?_
 obtain ⟨s1,i0,i1⟩:=b.og7 h9
 obtain ⟨b5,rfl,b6,-⟩:=i0
 refine mz (xN (cs:=[I6 h.To,U6 h.N,U6 h.ap,U6 h.ae,F6 h.W.At,.bool h.W.Del,b5]) z (et (o:=0) i1 z)) ?_
 obtain ⟨s2,s3,i2,i3,b⟩:=b.box [Zi,Zu,Zu,Zu,Zf,.bool false,Zs] 53
 refine wa i2 i3 (bxk b z sI (oJ 6 z (oC (oS (ak b6)) oN)) fun s4 b=>nt (rg b 27 [0,0,2,6,15,0,32,127,0,256,1023,0,2048,8191,0,16384,49152,131071,262143,0,524288,1572864,4194303,0,8388608,25165824,67108863] [] mixed (sp 0 z z (sF 1 z z fI (sL 2 z z (·.bc0 z) (sk (.int .u64 (u64.wrap h.To)) 3 z (sF 5 z z fI (sL 6 z z (·.bc0 z) (sF 8 z z fI (sL 9 z z (·.bc0 z) (sF 11 z z fI (sL 12 z z (·.bc0 z) (sF 14 z z fI (sF 15 z z fI (sL 16 z z (·.bc0 z) (sF 19 z z fI (sF 20 z z fI (sL 21 z z (·.bc0 z) (sF 23 z z fI (sF 24 z z fI (sL 25 z z (·.bc0 z) (e1 4 z z fun w b=>?_))))))))))))))))))))))
 replace b:=b.ah
 obtain ⟨s5,i4,c⟩:=bn c
 refine wec call111 [Pt f 0,U6 (u64.wrap h.To),I6 1] z z (kcI (az b.to1 i4) fun s6 b=>wn [25,24,23,21,20,19,16,15,14,12,11,9,8,6,5] b (pL z z (·.bc1 z) (pF z z fI (pF z z fI (pL z z (·.bc1 z) (pF z z fI (pF z z fI (pL z z (·.bc1 z) (pF z z fI (pF z z fI (pL z z (·.bc1 z) (pF z z fI (pL z z (·.bc1 z) (pF z z fI (pL z z (·.bc1 z) (pF z z fI aT))))))))))))))) (e1 7 z z fun w b=>?_))
 refine bk c fun s7 i5 c=>wec call111 [Pt f 0,U6 h.N,I6 8] z z (kcI (az b.to1 i5) fun s8 b=>wn [25,24,23,21,20,19,16,15,14,12,11,9,8] b (pL z z (·.bc1 z) (pF z z fI (pF z z fI (pL z z (·.bc1 z) (pF z z fI (pF z z fI (pL z z (·.bc1 z) (pF z z fI (pF z z fI (pL z z (·.bc1 z) (pF z z fI (pL z z (·.bc1 z) (pF z z fI aT))))))))))))) ?_)
 refine e1 10 z z fun w b=>bk c fun s9 i6 c=>wec call111 [Pt f 0,U6 h.ap,I6 8] z z (kcI (az b.to1 i6) fun t0 b=>wn [25,24,23,21,20,19,16,15,14,12,11] b (pL z z (·.bc1 z) (pF z z fI (pF z z fI (pL z z (·.bc1 z) (pF z z fI (pF z z fI (pL z z (·.bc1 z) (pF z z fI (pF z z fI (pL z z (·.bc1 z) (pF z z fI aT))))))))))) ?_)
 refine e1 13 z z fun w b=>bk c fun t1 i7 c=>wec call111 [Pt f 0,U6 h.ae,I6 8] z z (kcI (az b.to1 i7) fun t2 b=>wn [25,24,23,21,20,19,16,15,14] b (pL z z (·.bc1 z) (pF z z fI (pF z z fI (pL z z (·.bc1 z) (pF z z fI (pF z z fI (pL z z (·.bc1 z) (pF z z fI (pF z z fI aT))))))))) (e1 17 z z fun w b=>?_))
 refine bk c fun i8 i9 c=>wec call118 [F6 h.W.At] z z (kcO (dG b.to0 i9) fun t3 b=>wn [25,24,23,21,20,19] b (pL z z (·.bc1 z) (pF z z fI (pF z z fI (pL z z (·.bc1 z) (pF z z fI (pF z z fI aT)))))) (e1 18 z z fun w b=>bk c fun t4 j0 c=>wec call111 [Pt f 0,U6 i8,I6 8] z z (kcI (az b.to1 j0) fun t5 b=>wn [25,24,23,21,20,19] b (pL z z (·.bc1 z) (pF z z fI (pF z z fI (pL z z (·.bc1 z) (pF z z fI (pF z z fI aT)))))) ?_)))
 refine e1 22 z z fun w b=>bk c fun t6 j1 c=>wec call119 [Pt f 0,.bool h.W.Del] z z (kcI (lG b.to1 j1) fun t7 b=>wn [25,24,23] b (pL z z (·.bc1 z) (pF z z fI (pF z z fI aT))) (e1 26 z z fun w b=>bk c fun j2 j3 c=>wec call112 [Pt f 0,b5] z z (kcI (ei (b6.mono cS) b.to1 j3) fun t8 b=>w0n b (bt ?_))))
 refine fun w b=>bJ (tn (wrl (mi z (mi z (nt ?_)))))
 cases c
 exact ⟨_,nls,j2,_,b4,fy z,b.ca.ca.ca.ca.ca.ca.ca.ca.bM.tU⟩
}
 refine fun h5 c=>bH (aQ (aQ ?_))
 replace c:=bz c b4
 refine cZ (tn ?_)
 obtain rfl:=sj c
 exact ⟨m,h3,fy z,(aF (Pt i 0) d b.bM.bM.bM.bM.bM.bM.bM.bM z).ah.ah.cv⟩
}
 rintro _ t9 ⟨D,c,⟨u0,rfl⟩,b⟩
 dsimp only [me] at c
 refine ww (mp z (mp z ?_))
 obtain ⟨u1,b7,b8,b9,c1,c2,c3,G,H,j4⟩:=bC b
 replace H:=ez H
 subst H
 have b:=j4
 refine mp z (mF z fI (mL z (b.bc0 z) (mz (bX z uI b.sv7) (mk (.int .u64 (u64.wrap ((d.used).length:Int))) ?_))))
 replace b:=b.bM
 obtain ⟨j5,j6,c⟩:=bn c
 refine wc call111 [Pt f 0,U6 (u64.wrap ((d.used).length:Int)),I6 4] z z z (kcI (az b.to1 j6) fun u2 b=>nt (aj (ww (mp z (mp z (mF z fI (mL z (b.bc1 z) (mz (bX z uI b.sv8) (mi z (nt (au ?_)))))))))))
 obtain ⟨j7,c⟩:=aS c
 refine bg (fun n a w=>∃ (J:ao) (K:Int),cU (iH d) n (J,K)=some r∧fz 163 [3,143,144,145] [Pt f 0,G,I6 ((d.used).length:Int),I6 K] a∧St w0 w I [bL (Pt f 0) J,cells i [I6 d.wide,U6 d.cI,b7,b8,b9,c1,c2,c3,G],cX cA b7 d.store,cX cb b8 d.ft,cX bV b9 d.last,cX cH c1 d.book,bp bc c2 d.open_,bp cL c3 d.out,bp db G d.used] R) j7 ⟨j5,0,c,fy z,b⟩ ?_
 rintro u3 _ u4 ⟨J,K,c,⟨u5,rfl⟩,b⟩
 obtain ⟨u6,u7,rfl,c,c4⟩:=aU c
 dsimp only [iH] at c
 refine ww (mb z (nt (aj (bw c z ?_ ?_))))
 {
 refine fun j8 c=>al (tn (aj (au (ww ?_))))
 obtain ⟨j,j9,c⟩:=bn c
 obtain ⟨k0,k1,k2⟩:=aV j9
 refine mz (aJ z z uI sI b.sv8 k0 k1) (mz (xN (cs:=[U6 j.jW,U6 j.cI,I6 j.n]) z (b.MW k2 0 riA)) ?_)
 obtain ⟨u9,v0,k3,k4,b⟩:=b.box [Zu,Zu,Zi] 189
 refine wa k3 k4 (bxk b z sI (oJ 3 z oN) fun v1 b=>nt (rg b 11 [0,0,2,7,0,16,63,0,128,384,1023] [] mixed (sp 0 z z (sF 1 z z fI (sL 2 z z (·.bc0 z) (sF 4 z z fI (sL 5 z z (·.bc0 z) (sF 7 z z fI (sL 8 z z (·.bc0 z) (sk (.int .u64 (u64.wrap j.n)) 9 z (e1 3 z z fun w b=>?_)))))))))))
 replace b:=b.ah
 obtain ⟨v2,k5,c⟩:=bn c
 refine wec call111 [Pt f 0,U6 j.jW,I6 8] z z (kcI (az b.to1 k5) fun v3 b=>wn [9,8,7,5,4] b (pkr z z (fun w b=>by kernel_rfl) (pL z z (·.bc1 z) (pF z z fI (pL z z (·.bc1 z) (pF z z fI aT))))) (e1 6 z z fun w b=>?_))
 refine bk c fun v4 k6 c=>wec call111 [Pt f 0,U6 j.cI,I6 8] z z (kcI (az b.to1 k6) fun v5 b=>wn [9,8,7] b (pkr z z (fun w b=>by kernel_rfl) (pL z z (·.bc1 z) (pF z z fI aT))) ?_)
 refine e1 10 z z fun w b=>bk c fun k7 k8 c=>wec call111 [Pt f 0,U6 (u64.wrap j.n),I6 4] z z (kcI (az b.to1 k8) fun v6 b=>w0n b (bt ?_))
 refine fun w b=>bJ (tn (wrl (mi z (mi z (nt ?_)))))
 cases c
 exact ⟨_,nls,k7,_,c4,fy z,b.ca.ca.ca.ca.ca.ca.ca.ca.bM.tU⟩
}
 refine fun j8 c=>bH (aQ (aQ ?_))
 replace c:=bz c c4
 refine cZ (tn (ww (mp z (bk c fun v7 k9 c=>wc call120 [Pt f 0] z z z (kdI (eA b.to1 k9) fun L v8 b=>mv (L) z (nt (ar ?_)))))))
 cases c
 exact dI [L] z (rc z bl) ⟨L,z,(aR (aF (Pt i 0) d b.bM.bM.bM.bM.bM.bM.bM.bM z)).ah.cv⟩
}
theorem nj {a0:(List Int)} {a:Value} (c:Ro (cr .u8) I a a0) (b:St w0 w I [] R) {r:(ag)} (d:jb a0=some r) :
  Calls prog 97 #[a] w fun e w'=>∃ (f:Value),e = .returned (f)∧St w0 w' I [bd f r] R:=by {
 unfold jb at d
 refine c0 func97 z z (ww (mv (.pointer none) z (nt (ww (mv (a) z (wv (.agg #[a,.bool false]) z z (by obtain ⟨_,_,hv_,_⟩:=(ak c); rw [hv_]; kernel_rfl) ?_))))))
 obtain ⟨g,j,h,i,b⟩:=b.box [a,.bool false] 255
 refine wa h i (mp z (nt (ar ?_)))
 cases d
 exact pP z z ⟨_,z,(eX (Pt g 0) (({p:=a0,bad:=false}:ag)) b ⟨z,c⟩).bF⟩
}
theorem aN {a0:ag} {p0:Value} {a1:Int} (c:St w0 w I [bd p0 a0] R) {r:(Int×ag)} (b:aE a0 a1=some r) :
  Calls prog 98 #[p0,I6 a1] w fun e w'=>e = .returned (.int .u64 r.1)∧St w0 w' I [bd p0 r.2] R:=by {
 unfold aE at b
 refine c0 func98 z z (ww (mi z (nt (aj (ww (mv (p0) z ?_))))))
 obtain ⟨d,Q,⟨rfl,q⟩,B⟩:=ff c
 have c:=B
 refine mk (.bool false) (mb z (wv (Pt d 0) ((av z z z z).trans z) z z (wv (Pt d 0) ((av z z z z).trans z) z z (wv (Pt d 1) ((av z z z z).trans z) z (xF z fI z) (wv (.bool a0.bad) ((av z z z z).trans z) z (xL z (c.bc0 z)) (mb (aL z z z) (mb z (bs b ?_ ?_))))))))
 {
 intro h b
 cases b
}
 refine fun h b=>gi h z (gb h z (mb (aL h z z) (mb z (bs b ?_ ?_))))
 {
 intro f b
 cases b
}
 refine fun f b=>gp f z (gp f z (gg f (xF z fI z) (gg f (xL z (c.bc0 z)) (gg f (bX z uI (ak q)) (gi f z (gb f z (mb (aL f z z) (nt (bw b z ?_ ?_)))))))))
 {
 intro C b
 cases b
}
 refine fun C b=>al (tn (ww (mi z (nt ?_))))
 obtain ⟨D,b,E⟩:=bn b
 refine cR (fun a w=>∃ (j:Int),(mJ a0 a1) j=some r∧fz 59 [0,1,5] [Pt d 0,I6 a1,U6 j] a∧St w0 w I [bd (Pt d 0) a0] R) ?_ ?_
 {
 refine ww (mi z (mk (.int .i64 (if 8<a1 then 8 else a1)) (mi z (nt (au ?_)))))
 replace c:=eX (Pt d 0) a0 c ⟨z,q⟩
 obtain ⟨F,b⟩:=aS b
 refine bg (fun n a w=>∃ (i:Int) (g:Int),cU (gQ a1 a0) n (i,g)=some D∧fz 59 [0,1,5,31,32] [Pt d 0,I6 a1,U6 g,I6 (if 8<a1 then 8 else a1),I6 i] a∧St w0 w I [bd (Pt d 0) a0] R) F ⟨0,0,b,fy z,c⟩ ?_
 rintro S _ T ⟨i,g,b,⟨U,rfl⟩,c⟩
 obtain ⟨V,W,rfl,b,s⟩:=aU b
 dsimp only [gQ] at b
 refine ww (mb z (nt (aj (bw b z ?_ ?_))))
 {
 refine fun G b=>al (tn (aj (au (ww (mi z (mi z (nt (wrl (mi z (mp z ?_))))))))))
 obtain ⟨X,Y,⟨k,l⟩,H⟩:=ff c
 replace k:=ez k
 subst k
 have c:=H
 refine mp z (mF z fI (mL z (c.bc0 z) (mi z ?_)))
 obtain ⟨t,J,b⟩:=bn b
 obtain ⟨K,L,M⟩:=aV J
 refine mz (aJ z z uI sI (ak l) K L) (mL z (Gw l c M riA) (mk (.int .u64 (u64.wrap t)) (mi z (mi z ?_))))
 obtain ⟨N,b⟩:=cF b
 refine mi (MC (of_decide_eq_true N) z z) (mi z (mi z (dv (bJ (tn (wrl (mi z (mi z (nt ?_)))))))))
 cases b
 exact ⟨_,nls,_,(bOr .u64 g (Hq .u64 (u64.wrap t) (i64.wrap (8*i)))),s,fy z,(eX (Pt d 0) a0 c ⟨z,l⟩).bF⟩
}
 refine fun G b=>bH (aQ (aQ ?_))
 replace b:=bz b s
 refine cZ (tn ?_)
 obtain rfl:=sj b
 exact ⟨g,E,fy z,c.bF⟩
}
 rintro _ Z ⟨j,b,⟨b0,rfl⟩,c⟩
 dsimp only [mJ] at b
 refine ww (mp z (mp z ?_))
 obtain ⟨b1,m,⟨o,u⟩,O⟩:=ff c
 replace o:=ez o
 subst o
 have c:=O
 refine mp z (mF z fI (mL z (c.bc0 z) (mi z ?_)))
 obtain ⟨P,b⟩:=cF b
 obtain ⟨v,x,y⟩:=tB P
 have A:Ro (cr .u8) I (dR 1 m a1.toNat (((a0.p).length:Nat):Int).toNat) (lL a0.p a1 (((a0.p).length:Nat):Int)):=Ro.part u x y v
 refine mv ((dR 1 m a1.toNat (((a0.p).length:Nat):Int).toNat)) (dr uI sI z (ak u) v x y .i64 .i64 (.inl z) (.inr ⟨z,z⟩)) (mp z (mF z fI (b1k (dR 1 m a1.toNat (((a0.p).length:Nat):Int).toNat) c z (oS (ak A)) sI fun b2 c=>nt (ww (mi z (mi z (nt (ar ?_))))))))
 cases b
 exact pI z z ⟨z,(eX (Pt d 0) (({p:=(lL a0.p a1 (((a0.p).length:Nat):Int)),bad:=a0.bad}:ag)) c ⟨z,A⟩).bF⟩
}
theorem ef {a0:ag} {p0:Value} {a1:Int} (b:St w0 w I [bd p0 a0] R) {r:((List Int)×ag)} (a:du a0 a1=some r) :
  Calls prog 100 #[p0,I6 a1] w fun e w'=>∃ (l:Value),e = .returned (l)∧St w0 w' I [bp (cr .u8) l r.1,bd p0 r.2] R:=by {
 unfold du at a
 refine c0 func100 z z (ww (mv ((.slice none 0 0)) z (nt (ww (mv (p0) z (bk a fun c x a=>wc call98 [p0,I6 4] z z z (kcI (aN b.to1 x) fun H b=>mi z (nt (aj (ww (mv (p0) z ?_)))))))))))
 obtain ⟨j,h,⟨rfl,i⟩,y⟩:=ff b
 have b:=y
 refine mk (.bool false) (mb z (wv (Pt j 0) ((av z z z z).trans z) z z (wv (Pt j 0) ((av z z z z).trans z) z z (wv (Pt j 1) ((av z z z z).trans z) z (xF z fI z) (wv (.bool c.2.bad) ((av z z z z).trans z) z (xL z (b.bc0 z)) (mb (aL z z z) (mb z (bs a ?_ ?_))))))))
 {
 intro k a
 cases a
}
 refine fun k a=>gi k z (gb k z (mb (aL k z z) (mb z (bs a ?_ ?_))))
 {
 intro f a
 cases a
}
 refine fun f a=>gi f z (gi f z (gk (.int .u64 (u64.wrap a1)) f (gb f z (mb (aL f z z) (mb z (bs a ?_ ?_))))))
 {
 intro d a
 cases a
}
 refine fun d a=>gi d z (gp d z (gp d z (gg d (xF z fI z) (gg d (xL z (b.bc0 z)) (gg d (bX z uI (ak i)) (gk (.int .u64 (u64.wrap ((c.2.p).length:Int))) d (gb d z (mb (aL d z z) (nt (bw a z ?_ ?_))))))))))
 {
 intro A a
 cases a
}
 refine fun A a=>al (tn (ww (mp z (mp z (mF z fI (mL z (b.bc0 z) (mi z ?_)))))))
 obtain ⟨B,a⟩:=cF a
 obtain ⟨m,n,o⟩:=tB B
 have C:Ro (cr .u8) I (dR 1 h (0:Int).toNat c.1.toNat) (lL c.2.p 0 c.1):=Ro.part i n o m
 refine mv ((dR 1 h (0:Int).toNat c.1.toNat)) (dr uI sI z (ak i) m n o .i64 .u64 (.inr ⟨z,z⟩) (.inl z)) ?_
 replace b:=b.ba (cr .u8)
 obtain ⟨D,a⟩:=cF a
 obtain ⟨g,E,F,b⟩:=bO xh underlying22 b (Src.Aw b C) (cP D z) 22
 replace b:=St.Di b
 refine cK (v:=g) (w':=E) z z (ck z z F) (mv (g) z (nt (ww (mp z (mp z (mp z (mF z fI (mL z (b.bc1 z) (mi z ?_)))))))))
 obtain ⟨G,a⟩:=cF a
 obtain ⟨q,s,t⟩:=tB G
 have u:Ro (cr .u8) I (dR 1 h c.1.toNat (((c.2.p).length:Nat):Int).toNat) (lL c.2.p c.1 (((c.2.p).length:Nat):Int)):=Ro.part i s t q
 refine mv ((dR 1 h c.1.toNat (((c.2.p).length:Nat):Int).toNat)) (dr uI sI z (ak i) q s t .u64 .i64 (.inl z) (.inr ⟨z,z⟩)) (mp z (mF z fI ?_))
 replace b:=b.ah
 refine b1k (dR 1 h c.1.toNat (((c.2.p).length:Nat):Int).toNat) b z (oS (ak u)) sI fun J b=>nt (ww (mv (g) z (mv (g) z (nt (ar ?_)))))
 cases a
 exact dI [g] z (rc z bl) ⟨g,z,(eX (Pt j 0) (({p:=(lL c.2.p c.1 (((c.2.p).length:Nat):Int)),bad:=c.2.bad}:ag)) b ⟨z,u⟩).ah.cv⟩
}
theorem sX {a0:ag} {p0:Value} (a:St w0 w I [bd p0 a0] R) {r:(Bool)} (c:eS a0=some r) :
  Calls prog 162 #[p0] w fun e w'=>e = .returned (.bool r)∧St w0 w' I [bd p0 a0] R:=by {
 unfold eS at c
 refine c0 func162 z z (ww (mb z (nt (ww (mv (p0) z ?_)))))
 obtain ⟨b,g,⟨rfl,d⟩,f⟩:=ff a
 have a:=f
 refine mk (.bool false) (mb z (wv (Pt b 0) ((av z z z z).trans z) z z (wv (Pt b 0) ((av z z z z).trans z) z z (wv (Pt b 1) ((av z z z z).trans z) z (xF z fI z) (wv (.bool a0.bad) ((av z z z z).trans z) z (xL z (a.bc0 z)) (mb (aL z z z) (mb z (nt (ar ?_)))))))))
 cases c
 exact pB z z ⟨z,(eX (Pt b 0) a0 a ⟨z,d⟩).bF⟩
}
theorem fl {a0:ag} {p0:Value} (b:St w0 w I [bd p0 a0] R) {r:(Int)} (a:eB a0=some r) :
  Calls prog 105 #[p0] w fun e w'=>e = .returned (.int .i64 r)∧St w0 w' I [bd p0 a0] R:=by {
 unfold eB at a
 refine c0 func105 z z (ww (mi z (nt (aj (ww (mv (p0) z (bk a fun i d a=>wc call162 [p0] z z z (kcI (sX b.to1 d) fun j b=>nt (bw a z ?_ ?_)))))))))
 {
 refine fun f a=>ww (mi z (nt (ar (bh ?_))))
 cases a
 exact pI z z ⟨z,b.bF⟩
}
 refine fun f a=>al (tn (ww (mv (p0) z ?_)))
 obtain ⟨g,k,⟨rfl,c⟩,h⟩:=ff b
 have b:=h
 refine mp z (mF z fI (mL z (b.bc0 z) (mz (bX z uI (ak c)) (mi z (nt (ar ?_))))))
 cases a
 exact pI z z ⟨z,(eX (Pt g 0) a0 b ⟨z,c⟩).bF⟩
}
theorem dm {a0:ag} {p0:Value} {a1:Int} (c:St w0 w I [bd p0 a0] R) {r:(Int×ag)} (a:cd a0 a1=some r) :
  Calls prog 104 #[p0,I6 a1] w fun e w'=>e = .returned (.int .i64 r.1)∧St w0 w' I [bd p0 r.2] R:=by {
 unfold cd at a
 refine c0 func104 z z (ww (mi z (nt (ww (mv (p0) z (bk a fun d f a=>wc call98 [p0,I6 4] z z z (kcI (aN c.to1 f) fun h c=>mi z (nt (aj (ww (mi z (mb z (mb z (bs a ?_ ?_))))))))))))))
 {
 intro b a
 cases a
}
 refine fun b a=>gi b z (gi b z (gk (.int .u64 (u64.wrap a1)) b (gb b z (mb (aL b z z) (nt (bw a z ?_ ?_))))))
 {
 intro g a
 cases a
}
 refine fun g a=>al (tn (ww (mi z (mk (.int .i64 (i64.wrap d.1)) (mi z (nt (ar ?_)))))))
 cases a
 exact pI z z ⟨z,c.bF⟩
}
theorem lE {a0:ag} {p0:Value} (b:St w0 w I [bd p0 a0] R) {r:(Bool×ag)} (a:fg a0=some r) :
  Calls prog 108 #[p0] w fun e w'=>e = .returned (.bool r.1)∧St w0 w' I [bd p0 r.2] R:=by {
 unfold fg at a
 refine c0 func108 z z (ww (mb z (nt (ww (mv (p0) z (bk a fun f c a=>wc call98 [p0,I6 1] z z z (kcI (aN b.to1 c) fun g b=>mi z (nt (aj (ww (mi z (mb z (nt (bw a z ?_ ?_))))))))))))))
 {
 intro d a
 cases a
}
 refine fun d a=>al (tn (ww (mi z (mb z (mb z (nt (ar ?_)))))))
 cases a
 exact pB z z ⟨z,b.bF⟩
}
theorem iE {a0:ag} {p0:Value} (c:St w0 w I [bd p0 a0] R) {r:(Bool)} (a:eK a0=some r) :
  Calls prog 109 #[p0] w fun e w'=>e = .returned (.bool r)∧St w0 w' I [bd p0 a0] R:=by {
 unfold eK at a
 refine c0 func109 z z (ww (mb z (nt (ww (mv (p0) z (bk a fun i f a=>wc call162 [p0] z z z (kcI (sX c.to1 f) fun j c=>mb z (mb z (bs a ?_ ?_)))))))))
 {
 refine fun b a=>gv (p0) b z ?_
 obtain ⟨g,k,⟨rfl,d⟩,h⟩:=ff c
 have c:=h
 refine gp b z (gg b (xF z fI z) (gg b (xL z (c.bc0 z)) (gg b (bX z uI (ak d)) (gb b z (mb (bi b z z) (mb z (nt (ar ?_))))))))
 cases a
 exact pB z z ⟨z,(eX (Pt g 0) a0 c ⟨z,d⟩).bF⟩
}
 intro b a
 cases a
}
theorem wg {a0:(Option cn)} {p0:Value} (b:St w0 w I [cX cA p0 a0] R) {r:(Bool)} (c:np a0=some r) :
  Calls prog 158 #[p0] w fun e w'=>e = .returned (.bool r)∧St w0 w' I [cX cA p0 a0] R:=by {
 rcases a0 with _ | t
 {
 dsimp only [np] at c
 cases c
}
 replace b:=bQ b
 dsimp only [np] at c
 refine c0 func158 z z (ww (mb z (nt (aj (ww (mv (p0) z ?_))))))
 obtain ⟨x,q,rfl,M⟩:=ec b
 have b:=M
 refine mp z (mF z fI (mL z (b.bc0 z) (mz (bX z uI (b.oL 1 z)) (mi z (nt (au ?_))))))
 obtain ⟨O,c⟩:=aS c
 refine bg (fun n a w=>∃ (k:Int),cU (kH t) n k=some r∧fz 84 [0,10,11,12] [Pt x 0,q,I6 ((t.rows).length:Int),I6 k] a∧St w0 w I [cells x [q],sR cq q t.rows] R) O ⟨0,c,fy z,b⟩ ?_
 rintro e1 _ e2 ⟨k,c,⟨e3,rfl⟩,b⟩
 obtain ⟨e4,H,rfl,c,J⟩:=aU c
 dsimp only [kH] at c
 refine ww (mb z (nt (aj (bw c z ?_ ?_))))
 {
 refine fun P c=>al (tn (aj (au (ww (mi z ?_)))))
 obtain ⟨j,Q,c⟩:=bn c
 obtain ⟨S,T,E⟩:=aV Q
 refine mz (aJ z z uI sI (b.oL 1 z) S T) ?_
 replace b:=b.ah
 obtain ⟨s,b⟩:=b.tR E
 refine mz (xN (cs:=[U6 j.eW,s]) z (et (o:=0) (b.yV (N:=cq) (i:=k.toNat) 1 z E) z)) ?_
 obtain ⟨C,e5,U,V,b⟩:=b.box [Zu,Zs] 240
 refine wa U V (mi z (bxk b z sI (oC z (oC (oS b.sv1) oN)) fun e6 b=>nt ?_))
 obtain ⟨e7,c,K⟩:=ee c
 refine cR (fun a w =>(kC j k) ()=some H∧fz 84 [0,4,10,11,12] [Pt x 0,Pt C 0,q,I6 ((t.rows).length:Int),I6 k] a∧St w0 w I [cells x [q],bp cD s j.l,sU cq q t.rows k.toNat s,cells C [U6 j.eW,s]] R) ?_ ?_
 {
 refine aj (rg b 31 [0,1,3,7,15,31,63,7,135,511,1023,2047,7,4103,16383,32767,65535,131071,262143,524287,1048575,2097151,4194303,8388607,16777215,33554431,67108863,8388607,142606335,536870911,1073741823] [] mixed (si 0 z z (sb 1 z z (sb 2 z z (bs c ?_ ?_)))))
 {
 refine fun d c=>sgz (Pt _ _) 3 z d z (sgz (Pt _ _) 4 z d z (sg _ 5 z d (fun w b=>xF z fI z) (sg _ 6 z d (fun w b=>xL z (b.bc3 z)) (sgz (I6 _) 7 z d z (sgz (I6 _) 8 z d z ?_)))))
 obtain ⟨e8,W,c⟩:=bn c
 obtain ⟨X,Y,Z⟩:=aV W
 refine sg _ 9 z d (fun w b=>aJ z z uI sI (b.ER 2 z) X Y) (sg _ 10 z d (fun w b=>xG z fI z) (sg _ 11 z d (fun w b=>xL z (b.Lr (N:=cq) (i:=(i64.wrap (k - 1)).toNat) (o:=0) 2 z Z (fun _=>z))) (sg _ 12 z d (fun w b=>xF z fI z) (sg _ 13 z d (fun w b=>xL z (b.bc0 z)) (sgz (.bool _) 14 z d z (sh (.bool _) 15 z (fun w b=>bi d z z) (sb 16 z z (bs c ?_ ?_))))))))
 {
 intro y c
 cases c
}
 refine fun y c=>sg _ 17 z y (fun w b=>xF z fI z) (sg _ 18 z y (fun w b=>xL z (b.bc0 z)) (sg _ 19 z y (fun w b=>bX z uI b.sv1) (sgz (.bool _) 20 z y z (sh (.bool _) 21 z (fun w b=>aL y z z) (sb 22 z z (bs c ?_ ?_))))))
 {
 intro g c
 cases c
}
 refine fun g c=>sg _ 23 z g (fun w b=>xF z fI z) (sg _ 24 z g (fun w b=>xL z (b.bc0 z)) (sg _ 27 z g (fun w b=>xF z fI z) (sg _ 28 z g (fun w b=>xL z (b.bc0 z)) (iN 25 krA (nxe [26,29,30] krA z ((av z z z (cvb g)).trans z) ?_)))))
 clear b
 intro w b
 obtain ⟨b0,b1,c⟩:=bn c
 refine wec call107 [U6 j.eW] z z (kcO (fq b.to0 b1) fun e9 b=>wn [28,27] b (dx z (di ((av z z z (cvb g)).trans z) (fun w b=>xL z (b.bc0 z))) (dx z (di ((av z z z (cvb g)).trans z) (fun w b=>xF z fI z)) aT)) (iN 26 krA (nxe [29,30] krA z ((av z z z (cvb g)).trans z) ?_)))
 clear b
 intro w b
 obtain ⟨f0,b2,c⟩:=bn c
 refine wec call118 [F6 b0] z z (kcO (dG b.to0 b2) fun f1 b=>wn [28,27] b (dx z (di ((av z z z (cvb g)).trans z) (fun w b=>xL z (b.bc0 z))) (dx z (di ((av z z z (cvb g)).trans z) (fun w b=>xF z fI z)) aT)) (sgz (.bool _) 29 z g z (sh (.bool _) 30 z (fun w b=>aL g z z) (bt ?_))))
 refine fun w b=>tn (bw c z ?_ ?_)
 {
 intro b3 c
 cases c
}
 refine fun b3 c=>al (tn ?_)
 cases c
 exact ⟨K,fy z,b.aD.aD.aA.eQ⟩
}
 refine fun d c=>so 3 z d (so 4 z d (so 5 z d (so 6 z d (so 7 z d (so 8 z d (so 9 z d (so 10 z d (so 11 z d (so 12 z d (so 13 z d (so 14 z d (sh (.bool _) 15 z (fun w b=>aL d z z) (sb 16 z z (sy (Pt C 1) 17 z z (di ((av z z z z).trans z) (fun w b=>xF z fI z)) (sy (s) 18 z z (di ((av z z z z).trans z) (fun w b=>xL z (b.bc0 z))) (sy (.int .i64 ((j.l).length:Int)) 19 z z (di ((av z z z z).trans z) (fun w b=>bX z uI b.sv1)) (sy (.bool (((j.l).length:Int)==0)) 20 z z (di ((av z z z z).trans z) (fun w b=>z)) (sh (.bool _) 21 z (fun w b=>aL z z z) (sb 22 z z (bs c ?_ ?_))))))))))))))))))))
 {
 intro h c
 cases c
}
 refine fun h c=>sg _ 23 z h (fun w b=>xF z fI z) (sg _ 24 z h (fun w b=>xL z (b.bc0 z)) (sg _ 27 z h (fun w b=>xF z fI z) (sg _ 28 z h (fun w b=>xL z (b.bc0 z)) (iN 25 krA (nxe [26,29,30] krA z ((av z z z (cvb h)).trans z) ?_)))))
 clear b
 intro w b
 obtain ⟨b4,b5,c⟩:=bn c
 refine wec call107 [U6 j.eW] z z (kcO (fq b.to0 b5) fun f2 b=>wn [28,27] b (dx z (di ((av z z z (cvb h)).trans z) (fun w b=>xL z (b.bc0 z))) (dx z (di ((av z z z (cvb h)).trans z) (fun w b=>xF z fI z)) aT)) (iN 26 krA (nxe [29,30] krA z ((av z z z (cvb h)).trans z) ?_)))
 clear b
 intro w b
 obtain ⟨f3,b6,c⟩:=bn c
 refine wec call118 [F6 b4] z z (kcO (dG b.to0 b6) fun f4 b=>wn [28,27] b (dx z (di ((av z z z (cvb h)).trans z) (fun w b=>xL z (b.bc0 z))) (dx z (di ((av z z z (cvb h)).trans z) (fun w b=>xF z fI z)) aT)) (sgz (.bool _) 29 z h z (sh (.bool _) 30 z (fun w b=>aL h z z) (bt ?_))))
 refine fun w b=>tn (bw c z ?_ ?_)
 {
 intro b7 c
 cases c
}
 refine fun b7 c=>al (tn ?_)
 cases c
 exact ⟨K,fy z,b.aD.aD.aA.eQ⟩
}
 rintro _ f5 ⟨c,⟨f6,rfl⟩,b⟩
 dsimp only [kC] at c
 refine ww (mF z fI (mL z (b.bc3 z) (mz (bX z uI b.sv1) (mi z (nt (au ?_))))))
 obtain ⟨b8,c⟩:=aS c
 refine bg (fun n a w=>∃ (F:Int),cU (kE j k) n F=some H∧fz 84 [0,4,10,11,12,49,50,51] [Pt x 0,Pt C 0,q,I6 ((t.rows).length:Int),I6 k,s,I6 ((j.l).length:Int),I6 F] a∧St w0 w I [cells x [q],bp cD s j.l,sU cq q t.rows k.toNat s,cells C [U6 j.eW,s]] R) b8 ⟨0,c,fy z,b⟩ ?_
 rintro f7 _ f8 ⟨F,c,⟨f9,rfl⟩,b⟩
 obtain ⟨g0,g1,rfl,c,D⟩:=aU c
 dsimp only [kE] at c
 refine ww (mb z (nt (aj (bw c z ?_ ?_))))
 {
 refine fun b9 c=>al (tn (aj (au (ww (mi z ?_)))))
 obtain ⟨u,c1,c⟩:=bn c
 obtain ⟨c2,c3,c4⟩:=aV c1
 refine mz (aJ z z uI sI b.sv1 c2 c3) ?_
 obtain ⟨g2,c5,c6⟩:=b.og1 c4
 obtain ⟨c7,rfl,G,-⟩:=c5
 refine mz (xN (cs:=[U6 u.ae,U6 u.Index,.bool u.Del,c7]) z (et (o:=0) c6 z)) ?_
 obtain ⟨c8,g3,c9,d0,b⟩:=b.box [Zu,Zu,.bool false,Zs] 214
 refine wa c9 d0 (mi z (bxk b z sI (oJ 3 z (oC (oS (ak G)) oN)) fun g4 b=>nt (aj ?_)))
 replace b:=b.aD
 obtain ⟨g5,A,b⟩:=b.cz
 refine rg b 26 [0,1,3,7,15,7,39,127,255,7,519,7,2055,8191,16383,32767,65535,131071,262143,524287,1048575,2097151,4194303,8388607,16777215,33554431] [] mixed (si 0 z z (sb 1 z z (sb 2 z z (bs c ?_ ?_))))
 {
 refine fun f c=>sg _ 3 z f (fun w b=>xF z fI z) (sg _ 4 z f (fun w b=>xL z (b.bc4 z)) (sgz (I6 _) 5 z f z (sgz (I6 _) 6 z f z ?_)))
 obtain ⟨B,d1,c⟩:=bn c
 obtain ⟨d2,d3,d4⟩:=aV d1
 refine sg _ 7 z f (fun w b=>aJ z z uI sI (b.rsv 0 z A) d2 d3) ?_
 obtain ⟨g6,d5,d6⟩:=bT.get A d4
 obtain ⟨L,rfl,d7,-⟩:=d6
 refine sg _ 8 z f (fun w b=>xN (cs:=[U6 B.ae,U6 B.Index,.bool B.Del,L]) z (et (o:=0) (b.uy 0 z d5) z)) (sg _ 9 z f (fun w b=>xF z fI z) (sg _ 10 z f (fun w b=>xL z (b.bc1 z)) (sg _ 11 z f (fun w b=>xF z fI z) (sg _ 12 z f (fun w b=>xL z (b.bc1 z)) (iN 13 krA (nxe [14,15,16,17,18,19,20,21,22,23,24,25] krA z ((av z z z (cvb f)).trans z) ?_))))))
 clear b
 intro w b
 obtain ⟨g7,d8,c⟩:=bn c
 refine wec call185 [.agg #[U6 B.ae,U6 B.Index,.bool B.Del,L],U6 u.ae,U6 u.Index] z z (kcO (wo (d7.mono cS) b.to0 d8) fun g8 b=>w0n b (sgz (.bool _) 14 z f z (sh (.bool _) 15 z (fun w b=>bi f z z) (sb 16 z z (bs c ?_ ?_)))))
 {
 intro v c
 cases c
}
 refine fun v c=>sg _ 17 z v (fun w b=>xF z fI z) (sg _ 18 z v (fun w b=>xL z (b.bc1 z)) (sgz (.bool _) 19 z v z (bs c ?_ ?_)))
 {
 refine fun m c=>sg _ 20 z m (fun w b=>xF z fI z) (sg _ 21 z m (fun w b=>xL z (b.bc1 z)) (sg _ 22 z m (fun w b=>bX z uI (ak G)) (sgz (.bool _) 23 z m z (sg (.bool _) 24 z v (fun w b=>bi m z z) (sh (.bool _) 25 z (fun w b=>aL v z z) (bt ?_))))))
 intro w b
 replace b:=b.bo A
 refine tn (bw c z ?_ ?_)
 {
 intro d9 c
 cases c
}
 refine fun d9 c=>al (bJ (tn (wrl (mi z (mi z (nt ?_))))))
 cases c
 exact ⟨_,nls,_,D,fy z,b.bj.bj.aD.bj.eQ⟩
}
 refine fun m c=>so 20 z m (so 21 z m (so 22 z m (so 23 z m (sg (.bool _) 24 z v (fun w b=>aL m z z) (sh (.bool _) 25 z (fun w b=>aL v z z) (bt ?_))))))
 intro w b
 replace b:=b.bo A
 refine tn (cJ z (al (bJ (tn (wrl (mi z (mi z (nt ?_))))))))
 cases c
 exact ⟨_,nls,_,D,fy z,b.bj.bj.aD.bj.eQ⟩
}
 refine fun f c=>so 3 z f (so 4 z f (so 5 z f (so 6 z f (so 7 z f (so 8 z f (so 9 z f (so 10 z f (so 11 z f (so 12 z f (so 13 z f (so 14 z f (sh (.bool _) 15 z (fun w b=>aL f z z) (sb 16 z z (sy (Pt c8 2) 17 z z (di ((av z z z z).trans z) (fun w b=>xF z fI z)) (sy (.bool u.Del) 18 z z (di ((av z z z z).trans z) (fun w b=>xL z (b.bc1 z))) (sy (.bool u.Del) 19 z z (di ((av z z z z).trans z) (fun w b=>z)) (bs c ?_ ?_)))))))))))))))))
 {
 refine fun p c=>sg _ 20 z p (fun w b=>xF z fI z) (sg _ 21 z p (fun w b=>xL z (b.bc1 z)) (sg _ 22 z p (fun w b=>bX z uI (ak G)) (sgz (.bool _) 23 z p z (sy (.bool (decide (((u.Val).length:Int)>0))) 24 z z (di ((av z z z z).trans z) (fun w b=>bi p z z)) (sh (.bool _) 25 z (fun w b=>aL z z z) (bt ?_))))))
 intro w b
 replace b:=b.bo A
 refine tn (bw c z ?_ ?_)
 {
 intro e0 c
 cases c
}
 refine fun e0 c=>al (bJ (tn (wrl (mi z (mi z (nt ?_))))))
 cases c
 exact ⟨_,nls,_,D,fy z,b.bj.bj.aD.bj.eQ⟩
}
 refine fun p c=>so 20 z p (so 21 z p (so 22 z p (so 23 z p (sy (.bool false) 24 z z (di ((av z z z z).trans z) (fun w b=>aL p z z)) (sh (.bool _) 25 z (fun w b=>aL z z z) (bt ?_))))))
 intro w b
 replace b:=b.bo A
 refine tn (cJ z (al (bJ (tn (wrl (mi z (mi z (nt ?_))))))))
 cases c
 exact ⟨_,nls,_,D,fy z,b.bj.bj.aD.bj.eQ⟩
}
 refine fun b9 c=>bH (aQ (aQ ?_))
 replace c:=bz c D
 refine cZ (bJ (tn (wrl (mi z (mi z (nt ?_))))))
 cases c
 exact ⟨_,nls,_,J,fy z,(St.sZ (N:=cq) b.aD.aD E).ah.cv⟩
}
 refine fun P c=>bH (aQ (aQ ?_))
 replace c:=bz c J
 refine cZ (tn (ww (mb z (nt (ar ?_)))))
 cases c
 exact pB z z ⟨z,(aR (cY (Pt x 0) t b.ah.ah z)).bF⟩
}
theorem zZ {a0:(List Int)} {q:Value} (b3:Ro (cr .u8) I q a0) (b:St w0 w I [] R) {r:(cn×Int)} (c:sV a0=some r) :
  Calls prog 99 #[q] w fun e w'=>∃ (I':HL) (W:Value),e = .returned (.tuple #[W,I6 r.2])∧I.le I'∧St w0 w' I' [cA W r.1] R:=by {
 unfold sV at c
 refine c0 func99 z z ?_
 have J:=HL.le.refl I
 refine ww (mv (.pointer none) z (mi z (nt (ww (mv (q) z (bk c fun g4 b4 c=>wc call97 [q] z z z (kdI (nj b3 b.to0 b4) fun d g5 b=>mv (d) z (nt (ww (bk c fun b5 b6 c=>wc call43 [] z z z (kdI (yN b.to0 b6) fun f g6 b=>mv (f) z (nt (ww (mv (d) z (mv (d) z ?_)))))))))))))))
 replace b:=b.ah
 obtain ⟨b7,b8,c⟩:=bn c
 refine wc call105 [d] z z z (kcI (fl b.to1 b8) fun g7 b=>bk c fun k b9 c=>wc call104 [d,I6 b7] z z z (kcI (dm b.to1 b9) fun g8 b=>mi z (nt ?_)))
 obtain ⟨c1,c,c2⟩:=bn c
 refine cR (fun a w=>∃ (K:HL) (L:ag) (M:cn),(rF) (L,M)=some r∧fz 64 [4,5] [d,f] a∧I.le K∧St w0 w K [bd d L,cA f M] R) ?_ ?_
 {
 have O:=HL.le.refl I
 refine ww (mi z (mi z (nt (au ?_))))
 obtain ⟨c3,c⟩:=aS c
 refine bg (fun n a w=>∃ (i:HL) (s:ag) (g:cn) (j:Int),cU (mS k) n (s,g,j)=some c1∧fz 64 [4,5,16,17] [d,f,I6 k.1,I6 j] a∧I.le i∧St w0 w i [bd d s,cA f g] R) c3 ⟨_,k.2,b5,0,c,fy z,lr,b⟩ ?_
 rintro g9 _ h0 ⟨i,s,g,j,c,⟨h1,rfl⟩,t,b⟩
 obtain ⟨h2,c4,rfl,c,X⟩:=aU c
 dsimp only [mS] at c
 replace O:=O.trans t
 refine ww (mb z (nt (aj (bw c z ?_ ?_))))
 {
 refine fun c5 c=>al (tn (aj (au (ww (mv (d) z (bk c fun h c6 c=>wc call98 [d,I6 8] z z z (kcI (aN b.to1 c6) fun h3 b=>mk (.agg #[U6 h.1,Zs]) ?_)))))))
 obtain ⟨u,h4,c7,c8,b⟩:=b.box [Zu,Zs] 240
 refine wa c7 c8 (bxk b z sI (oC z (oC z oN)) fun h5 b=>nt (ww (mv (d) z (mv (d) z ?_))))
 replace b:=b.ah
 obtain ⟨c9,d0,c⟩:=bn c
 refine wc call105 [d] z z z (kcI (fl b.to1 d0) fun h6 b=>bk c fun P d1 c=>wc call104 [d,I6 c9] z z z (kcI (dm b.to1 d1) fun h7 b=>mi z (nt ?_)))
 obtain ⟨d2,c,d3⟩:=bn c
 refine cR (fun a w=>∃ (Q:HL) (y:ag) (m:(List bf)) (A:Value),(qP g h j) (y,m)=some c4∧fz 64 [4,5,7,16,17] [d,f,Pt u 0,I6 k.1,I6 j] a∧i.le Q∧St w0 w Q [bd d y,cA f g,cells u [U6 h.1,A],bp cD A m] R) ?_ ?_
 {
 have S:=HL.le.refl i
 refine ww (mi z (mi z (nt (au ?_))))
 replace b:=b.ba cD
 obtain ⟨d4,c⟩:=aS c
 refine bg (fun n a w=>∃ (T:HL) (o:(List bf)) (B:ag) (U:Int) (C:Value),cU (ni P) n (o,B,U)=some d2∧fz 64 [4,5,7,16,17,26,27] [d,f,Pt u 0,I6 k.1,I6 j,I6 P.1,I6 U] a∧i.le T∧St w0 w T [bp cD C o,bd d B,cells u [U6 h.1,C],cA f g] R) d4 ⟨_,[],P.2,0,Zs,c,fy z,lr,b⟩ ?_
 rintro h8 _ h9 ⟨T,o,B,U,C,c,⟨i0,rfl⟩,D,b⟩
 obtain ⟨i1,i2,rfl,c,Y⟩:=aU c
 dsimp only [ni] at c
 replace S:=S.trans D
 refine ww (mb z (nt (aj (bw c z ?_ ?_))))
 {
 refine fun d5 c=>al (tn (aj (au (rg b 15 [0,1,0,4,0,28,0,124,0,508,1020,2044,4095,8191,16383] [] mixed (sF 0 z z fI (sL 1 z z (·.bc2 z) (sz (d) 2 z z (sz (d) 4 z z (sz (d) 6 z z (sz (d) 8 z z (e1 3 z z fun w b=>?_)))))))))))
 replace b:=b.ah
 obtain ⟨F,d6,c⟩:=bn c
 refine wec call98 [d,I6 8] z z (kcI (aN b.to1 d6) fun i3 b=>wn [8,6,4,1,0] b (pz (pz (pz (pL z z (·.bc2 z) (pF z z fI aT))))) (e1 5 z z fun w b=>bk c fun G d7 c=>wec call98 [d,I6 8] z z (kcI (aN b.to1 d7) fun i4 b=>wn [8,6,1,0] b (pz (pz (pL z z (·.bc2 z) (pF z z fI aT)))) (e1 7 z z fun w b=>bk c fun H d8 c=>wec call108 [d] z z ?_))))
 refine kcI (lE b.to1 d8) fun i5 b=>wn [8,1,0] b (pz (pL z z (·.bc2 z) (pF z z fI aT))) (e1 9 z z fun w b=>bk c fun Z d9 c=>wec call100 [d,I6 256] z z (kdJ (ef b.to1 d9) fun b0 i6 b=>wn [1,0] b (pL z z (·.bc3 z) (pF z z fI aT)) (wsr (.agg #[U6 F.1,U6 G.1,.bool H.1,b0]) 10 rfl rfl rfl krA (fun w b=>by obtain ⟨_,_,hv_,_⟩:=b.sv0; rw [hv_]; kernel_rfl) ?_)))
 refine e1 11 z z fun w b=>?_
 obtain ⟨i7,e0,b1,b⟩:=b.cO
 replace D:=D.trans e0
 obtain ⟨e2,e3,e4,e5,b⟩:=b.lits (E:=cD) (xs:=[({ae:=F.1,Index:=G.1,Del:=H.1,Val:=Z.1}:bf)]) [[U6 F.1,U6 G.1,.bool H.1,b0]] 214 1 z (bT.cons ⟨_,z,b1,oS (ak b1)⟩ bT.nil)
 refine cj (v:=(.slice (some ⟨e2,0,none⟩) 1 1)) (w':=e3) z (dH krA e4 e5) (wn [1,0] b (pL z z (·.bc3 z) (pF z z fI aT)) (e1 12 z z fun w b=>?_))
 obtain ⟨e6,c⟩:=cF c
 replace b:=b.aD
 obtain ⟨V,e7,e8,b⟩:=bO Bp underlying238 b b.iL (cP e6 z) 238
 refine cj (v:=V) (w':=e7) z (ck z z e8) (w0n b (sF 13 z z fI (e1 14 z z fun w b=>?_)))
 replace b:=b.aA
 refine b1e V b z (oS b.sv1) sI fun i8 b=>w0n b (bt ?_)
 refine fun w b=>bJ (tn (wrl (mi z (mi z (nt ?_)))))
 cases c
 exact ⟨_,nls,_,(o++([({ae:=F.1,Index:=G.1,Del:=H.1,Val:=Z.1}:bf)])),_,_,V,Y,fy z,D,b.bj.ah.bj.aA.eQ⟩
}
 refine fun d5 c=>bH (aQ (aQ ?_))
 replace c:=bz c Y
 refine cZ (tn ?_)
 cases c
 exact ⟨_,B,o,C,d3,fy z,S,b.aD.aA.aA.eQ⟩
}
 rintro _ i9 ⟨Q,y,m,A,c,⟨j0,rfl⟩,e9,b⟩
 dsimp only [qP] at c
 replace t:=t.trans e9
 obtain ⟨f0,j1,rfl,f1⟩:=ec b.ah
 have b:=f1
 refine rg b 11 [0,0,2,6,14,0,32,126,255,511,1023] [] mixed (sp 0 z z (sp 1 z z (sp 2 z z (sF 3 z z fI (sL 4 z z (·.bc0 z) (sh _ 5 z (fun w b=>xN (cs:=[U6 h.1,A]) z (b.ul 0 z)) (e1 6 z z fun w b=>?_)))))))
 replace b:=b.bj
 have f2:=b.sv0
 obtain ⟨f3,f4,f5,f6,b⟩:=b.DY (N:=cq) (x:=({eW:=h.1,l:=m}:bW)) 240
 refine cj (v:=(.slice (some ⟨f3,0,none⟩) 1 1)) (w':=f4) z (dH (by obtain ⟨_,_,hv_,_⟩:=f2; rw [hv_]; kernel_rfl) f5 f6) (wn [4,3,2,1,0] b (pL z z (·.bc1 z) (pF z z fI (pz (pz (pz aT))))) (e1 7 z z fun w b=>?_))
 obtain ⟨f7,c⟩:=cF c
 replace b:=b.aD.ah.ah
 obtain ⟨b2,f8,f9,b⟩:=IT (N:=cq) zw underlying199 b (cP f7 z) 199
 refine cj (v:=b2) (w':=f8) z (ck z z f9) (wn [0] b (pz aT) (sp 8 z z (sF 9 z z fI (e1 10 z z fun w b=>?_))))
 replace b:=b.ah
 refine b1e b2 b z (oS (b.oL 1 z)) sI fun j2 b=>w0n b (bt ?_)
 refine fun w b=>bJ (tn (wrl (mi z (mi z (nt ?_)))))
 cases c
 exact ⟨_,nls,_,y,_,_,X,fy z,t,(cY (Pt f0 0) (({rows:=(g.rows++([({eW:=h.1,l:=m}:bW)]))}:cn)) b.ah.ah z).ah.cv⟩
}
 refine fun c5 c=>bH (aQ (aQ ?_))
 replace c:=bz c X
 refine cZ (tn ?_)
 cases c
 exact ⟨_,s,g,c2,fy z,O,b.ah.ah.cv⟩
}
 rintro _ j3 ⟨K,L,M,c,⟨j4,rfl⟩,g0,b⟩
 dsimp only [rF] at c
 replace J:=J.trans g0
 refine aj (ww (mv (d) z (bk c fun j5 g1 c=>wc call109 [d] z z z (kcI (iE b.to1 g1) fun j6 b=>mb z (mb z (bs c ?_ ?_))))))
 {
 intro p c
 cases c
}
 refine fun p c=>gv (f) p z ?_
 replace b:=aR b.ah
 obtain ⟨j7,g2,c⟩:=bn c
 refine dh ((av z z z (cvb p)).trans z) z (gO call158 z (vs:=[f]) z) (kcI (wg b.to1 g2) fun j8 b=>?_)
 replace b:=bQ b
 refine gb p z (mb (aL p z z) (nt (bw c z ?_ ?_)))
 {
 intro g3 c
 cases c
}
 refine fun g3 c=>al (tn (ww (mv (f) z (mv (f) z (mi z (nt (ar ?_)))))))
 cases c
 exact dI [f,Zi] z (rc z (rc z bl)) ⟨_,f,z,J,b.bF⟩
}
theorem wG {a0:ag} {p0:Value} (b:St w0 w I [bd p0 a0] R) {r:(aw×ag)} (c:ph a0=some r) :
  Calls prog 159 #[p0] w fun e w'=>∃ (W:Value) (X:Value) (Y:Value) (Z:Value),e = .returned (.agg #[U6 r.1.ID.ab,U6 r.1.ID.Seq,U6 r.1.ae,W,X,Y,Z])∧St w0 w' I [bp cp W r.1.dO,bp fU X r.1.aX,bp cp Y r.1.dD,bp (cr .u8) Z r.1.Data,bd p0 r.2] R:=by {
 unfold ph at c
 refine c0 func159 z z (ww ?_)
 obtain ⟨d,h2,b4,b5,b⟩:=b.box [Zu,Zu,Zu,Zs,Zs,Zs,Zs] 46
 refine wa b4 b5 (nt (ww (mv (p0) z ?_)))
 replace b:=b.ah
 obtain ⟨h,b6,c⟩:=bn c
 refine wc call98 [p0,I6 8] z z z (kcI (aN b.to1 b6) fun h3 b=>mv (p0) z (bk c fun i b7 c=>wc call98 [p0,I6 8] z z z (kcI (aN b.to1 b7) fun h4 b=>mk (.agg #[U6 h.1,U6 i.1]) (mv (p0) z (bk c fun j b8 c=>wc call98 [p0,I6 8] z z z (kcI (aN b.to1 b8) fun h5 b=>mk (.agg #[U6 h.1,U6 i.1,U6 j.1,Zs,Zs,Zs,Zs]) ?_))))))
 obtain ⟨f,h6,b9,c1,b⟩:=b.box [Zu,Zu,Zu,Zs,Zs,Zs,Zs] 46
 refine wa b9 c1 (bxk b z sI (oJ 7 z oN) fun h7 b=>nt ?_)
 obtain ⟨c2,c,c3⟩:=bn c
 refine cR (fun a w=>∃ (F:ag) (k:(List Nat)) (g:Value),(sw h i j) (F,k)=some r∧fz 59 [0,2,3] [p0,Pt d 0,Pt f 0] a∧St w0 w I [bd p0 F,cells d [Zu,Zu,Zu,Zs,Zs,Zs,Zs],cells f [U6 h.1,U6 i.1,U6 j.1,g,Zs,Zs,Zs],bp cp g k] R) ?_ ?_
 {
 refine ww (mv (p0) z ?_)
 replace b:=b.ah
 obtain ⟨G,c4,c⟩:=bn c
 refine wc call104 [p0,I6 32] z z z (kcI (dm b.to1 c4) fun h8 b=>mi z (nt (au ?_)))
 replace b:=b.ba cp
 obtain ⟨c5,c⟩:=aS c
 refine bg (fun n a w=>∃ (o:(List Nat)) (s:ag) (H:Int) (t:Value),cU (kQ G) n (o,s,H)=some c2∧fz 59 [0,2,3,13,14] [p0,Pt d 0,Pt f 0,I6 G.1,I6 H] a∧St w0 w I [bp cp t o,bd p0 s,cells f [U6 h.1,U6 i.1,U6 j.1,t,Zs,Zs,Zs],cells d [Zu,Zu,Zu,Zs,Zs,Zs,Zs]] R) c5 ⟨[],G.2,0,Zs,c,fy z,b⟩ ?_
 rintro h9 _ i0 ⟨o,s,H,t,c,⟨i1,rfl⟩,b⟩
 obtain ⟨i2,i3,rfl,c,b0⟩:=aU c
 dsimp only [kQ] at c
 refine ww (mb z (nt (aj (bw c z ?_ ?_))))
 {
 refine fun c6 c=>al (tn (aj (au (rg b 9 [0,1,0,4,12,28,63,127,255] [] mixed (sF 0 z z fI (sL 1 z z (·.bc2 z) (sz (p0) 2 z z (e1 3 z z fun w b=>?_))))))))
 replace b:=b.ah
 obtain ⟨c7,c8,c⟩:=bn c
 refine wec call98 [p0,I6 8] z z (kcI (aN b.to1 c8) fun i4 b=>wn [1,0] b (pL z z (·.bc2 z) (pF z z fI aT)) (e1 4 z z fun w b=>bk c fun J c9 c=>wec call107 [U6 c7.1] z z (kcO (fq b.to0 c9) fun i5 b=>wn [1,0] b (pL z z (·.bc2 z) (pF z z fI aT)) (e1 5 z z fun w b=>?_))))
 obtain ⟨d0,d1,d2,d3,b⟩:=b.lits (E:=cp) (xs:=[J]) [[F6 J]] 37 1 z (bT.cons z bT.nil)
 refine cj (v:=(.slice (some ⟨d0,0,none⟩) 1 1)) (w':=d1) z (dH krA d2 d3) (wn [1,0] b (pL z z (·.bc3 z) (pF z z fI aT)) (e1 6 z z fun w b=>?_))
 obtain ⟨d4,c⟩:=cF c
 replace b:=b.aD
 obtain ⟨K,d5,d6,b⟩:=bO ru underlying43 b b.iL (cP d4 z) 43
 refine cj (v:=K) (w':=d5) z (ck z z d6) (w0n b (sF 7 z z fI (e1 8 z z fun w b=>?_)))
 replace b:=b.aA
 refine b1e K b z (oS b.sv1) sI fun i6 b=>w0n b (bt ?_)
 refine fun w b=>bJ (tn (wrl (mi z (mi z (nt ?_)))))
 cases c
 exact ⟨_,nls,(o++([J])),_,_,K,b0,fy z,b.bj.ah.bj.aA.eQ⟩
}
 refine fun c6 c=>bH (aQ (aQ ?_))
 replace c:=bz c b0
 refine cZ (tn ?_)
 cases c
 exact ⟨s,o,t,c3,fy z,b.aD.aA.aA.eQ⟩
}
 rintro _ i7 ⟨F,k,g,c,⟨i8,rfl⟩,b⟩
 dsimp only [sw] at c
 obtain ⟨d7,c,d8⟩:=bn c
 refine cR (fun a w=>∃ (L:ag) (m:(List (Nat×Nat))) (l:Value),(sA h i j k) (L,m)=some r∧fz 59 [0,2,3] [p0,Pt d 0,Pt f 0] a∧St w0 w I [bd p0 L,cells d [Zu,Zu,Zu,Zs,Zs,Zs,Zs],cells f [U6 h.1,U6 i.1,U6 j.1,g,l,Zs,Zs],bp cp g k,bp fU l m] R) ?_ ?_
 {
 refine ww (mv (p0) z (bk c fun M d9 c=>wc call104 [p0,I6 32] z z z (kcI (dm b.to1 d9) fun i9 b=>mi z (nt (au ?_)))))
 replace b:=b.ba fU
 obtain ⟨e0,c⟩:=aS c
 refine bg (fun n a w=>∃ (p:(List (Nat×Nat))) (u:ag) (N:Int) (x:Value),cU (kR M) n (p,u,N)=some d7∧fz 59 [0,2,3,26,27] [p0,Pt d 0,Pt f 0,I6 M.1,I6 N] a∧St w0 w I [bp fU x p,bd p0 u,cells d [Zu,Zu,Zu,Zs,Zs,Zs,Zs],cells f [U6 h.1,U6 i.1,U6 j.1,g,x,Zs,Zs],bp cp g k] R) e0 ⟨[],M.2,0,Zs,c,fy z,b⟩ ?_
 rintro j0 _ j1 ⟨p,u,N,x,c,⟨j2,rfl⟩,b⟩
 obtain ⟨j3,j4,rfl,c,b1⟩:=aU c
 dsimp only [kR] at c
 refine ww (mb z (nt (aj (bw c z ?_ ?_))))
 {
 refine fun e2 c=>al (tn (aj (au (rg b 13 [0,1,0,4,12,0,60,124,252,508,1023,2047,4095] [] mixed (sF 0 z z fI (sL 1 z z (·.bc3 z) (sz (p0) 2 z z (sz (p0) 5 z z (e1 3 z z fun w b=>?_)))))))))
 replace b:=b.ah
 obtain ⟨e3,e4,c⟩:=bn c
 refine wec call98 [p0,I6 8] z z (kcI (aN b.to1 e4) fun j5 b=>wn [5,1,0] b (pz (pL z z (·.bc3 z) (pF z z fI aT))) (e1 4 z z fun w b=>bk c fun y e5 c=>wec call107 [U6 e3.1] z z (kcO (fq b.to0 e5) fun j6 b=>wn [5,1,0] b (pz (pL z z (·.bc3 z) (pF z z fI aT))) (e1 6 z z fun w b=>bk c fun e6 e7 c=>wec call98 [p0,I6 8] z z (kcI (aN b.to1 e7) fun j7 b=>?_)))))
 refine wn [1,0] b (pL z z (·.bc3 z) (pF z z fI aT)) (e1 7 z z fun w b=>bk c fun A e8 c=>wec call107 [U6 e6.1] z z (kcO (fq b.to0 e8) fun j8 b=>wn [1,0] b (pL z z (·.bc3 z) (pF z z fI aT)) (sk (.agg #[F6 y,F6 A]) 8 z (e1 9 z z fun w b=>?_))))
 obtain ⟨e9,f0,f1,f2,b⟩:=b.lits (E:=fU) (xs:=[(y,A)]) [[F6 y,F6 A]] 80 1 z (bT.cons z bT.nil)
 refine cj (v:=(.slice (some ⟨e9,0,none⟩) 1 1)) (w':=f0) z (dH krA f1 f2) (wn [1,0] b (pL z z (·.bc4 z) (pF z z fI aT)) (e1 10 z z fun w b=>?_))
 obtain ⟨f3,c⟩:=cF c
 replace b:=b.aD
 obtain ⟨O,f4,f5,b⟩:=bO CH underlying44 b b.iL (cP f3 z) 44
 refine cj (v:=O) (w':=f4) z (ck z z f5) (w0n b (sF 11 z z fI (e1 12 z z fun w b=>?_)))
 replace b:=b.bj
 refine b1e O b z (oS b.sv1) sI fun j9 b=>w0n b (bt ?_)
 refine fun w b=>bJ (tn (wrl (mi z (mi z (nt ?_)))))
 cases c
 exact ⟨_,nls,(p++([(y,A)])),_,_,O,b1,fy z,b.bq.ah.bq.bq.bj.oB⟩
}
 refine fun e2 c=>bH (aQ (aQ ?_))
 replace c:=bz c b1
 refine cZ (tn ?_)
 cases c
 exact ⟨u,p,x,d8,fy z,b.bj.bj.bj.bj.oB⟩
}
 rintro _ k0 ⟨L,m,l,c,⟨k1,rfl⟩,b⟩
 dsimp only [sA] at c
 obtain ⟨f6,c,f7⟩:=bn c
 refine cR (fun a w=>∃ (P:ag) (Q:(List Nat)) (B:Value),(uC h i j k m) (P,Q)=some r∧fz 59 [0,2,3] [p0,Pt d 0,Pt f 0] a∧St w0 w I [bd p0 P,cells d [Zu,Zu,Zu,Zs,Zs,Zs,Zs],cells f [U6 h.1,U6 i.1,U6 j.1,g,l,B,Zs],bp cp g k,bp fU l m,bp cp B Q] R) ?_ ?_
 {
 refine ww (mv (p0) z (bk c fun S f8 c=>wc call104 [p0,I6 32] z z z (kcI (dm b.to1 f8) fun k2 b=>mi z (nt (au ?_)))))
 replace b:=b.ba cp
 obtain ⟨f9,c⟩:=aS c
 refine bg (fun n a w=>∃ (q:(List Nat)) (C:ag) (T:Int) (D:Value),cU (kT S) n (q,C,T)=some f6∧fz 59 [0,2,3,43,44] [p0,Pt d 0,Pt f 0,I6 S.1,I6 T] a∧St w0 w I [bp cp D q,bd p0 C,cells d [Zu,Zu,Zu,Zs,Zs,Zs,Zs],cells f [U6 h.1,U6 i.1,U6 j.1,g,l,D,Zs],bp cp g k,bp fU l m] R) f9 ⟨[],S.2,0,Zs,c,fy z,b⟩ ?_
 rintro k3 _ k4 ⟨q,C,T,D,c,⟨k5,rfl⟩,b⟩
 obtain ⟨k6,k7,rfl,c,b2⟩:=aU c
 dsimp only [kT] at c
 refine ww (mb z (nt (aj (bw c z ?_ ?_))))
 {
 refine fun g0 c=>al (tn (aj (au (rg b 9 [0,1,0,4,12,28,63,127,255] [] mixed (sF 0 z z fI (sL 1 z z (·.bc3 z) (sz (p0) 2 z z (e1 3 z z fun w b=>?_))))))))
 replace b:=b.ah
 obtain ⟨g1,g2,c⟩:=bn c
 refine wec call98 [p0,I6 8] z z (kcI (aN b.to1 g2) fun k8 b=>wn [1,0] b (pL z z (·.bc3 z) (pF z z fI aT)) (e1 4 z z fun w b=>bk c fun U g3 c=>wec call107 [U6 g1.1] z z (kcO (fq b.to0 g3) fun k9 b=>wn [1,0] b (pL z z (·.bc3 z) (pF z z fI aT)) (e1 5 z z fun w b=>?_))))
 obtain ⟨g4,g5,g6,g7,b⟩:=b.lits (E:=cp) (xs:=[U]) [[F6 U]] 37 1 z (bT.cons z bT.nil)
 refine cj (v:=(.slice (some ⟨g4,0,none⟩) 1 1)) (w':=g5) z (dH krA g6 g7) (wn [1,0] b (pL z z (·.bc4 z) (pF z z fI aT)) (e1 6 z z fun w b=>?_))
 obtain ⟨g8,c⟩:=cF c
 replace b:=b.aD
 obtain ⟨V,g9,h0,b⟩:=bO ru underlying43 b b.iL (cP g8 z) 43
 refine cj (v:=V) (w':=g9) z (ck z z h0) (w0n b (sF 7 z z fI (e1 8 z z fun w b=>?_)))
 replace b:=b.bj
 refine b1e V b z (oS b.sv1) sI fun l0 b=>w0n b (bt ?_)
 refine fun w b=>bJ (tn (wrl (mi z (mi z (nt ?_)))))
 cases c
 exact ⟨_,nls,(q++([U])),_,_,V,b2,fy z,b.de.de.aD.de.de.bq.lh⟩
}
 refine fun g0 c=>bH (aQ (aQ ?_))
 replace c:=bz c b2
 refine cZ (tn ?_)
 cases c
 exact ⟨C,q,D,f7,fy z,b.bq.bq.bq.bq.bq.lh⟩
}
 rintro _ l1 ⟨P,Q,B,c,⟨l2,rfl⟩,b⟩
 dsimp only [uC] at c
 refine ww (mv (p0) z (bk c fun l3 h1 c=>wc call100 [p0,I6 257] z z z (kdJ (ef b.to1 h1) fun b3 l4 b=>mF z fI ?_)))
 replace b:=b.aA
 refine b1k b3 b z (oS b.sv1) sI fun l5 b=>nt (ww (mz (xN z (b.fm 0 tz)) ?_))
 replace b:=b.aA
 refine bxk b z sI (oJ 3 z (oC (oS b.sv4) (oC (oS b.sv5) (oC (oS b.sv6) (oC (oS b.sv2) oN))))) fun l6 b=>nt (ar ?_)
 cases c
 exact prI z (rN z (b.fm 0 tz)) ⟨g,l,B,b3,z,b.aA.aA.de.de.de.oB⟩
}
theorem zB {a0:(List Int)} {j:Value} (u:Ro (cr .u8) I j a0) (b:St w0 w I [] R) {r:(bN×Int)} (c:qS a0=some r) :
  Calls prog 101 #[j] w fun e w'=>∃ (I':HL) (Q:Value),e = .returned (.tuple #[Q,I6 r.2])∧I.le I'∧St w0 w' I' [cb Q r.1] R:=by {
 unfold qS at c
 refine c0 func101 z z ?_
 have F:=HL.le.refl I
 refine ww (mv (.pointer none) z (mi z (nt (ww (mv (j) z (bk c fun f9 b5 c=>wc call97 [j] z z z (kdI (nj u b.to0 b5) fun g g0 b=>mv (g) z (nt (ww (bk c fun b6 b7 c=>wc call44 [] z z z (kdI (xX b.to0 b7) fun h g1 b=>mv (h) z (nt ?_))))))))))))
 obtain ⟨b8,c,b9⟩:=ee c
 refine cR (fun a w=>∃ (G:HL) (H:ag) (J:bN),(qq a0) (H,J)=some r∧fz 58 [0,4,5] [j,g,h] a∧I.le G∧St w0 w G [bd g H,cb h J] R) ?_ ?_
 {
 have K:=HL.le.refl I
 refine ww (mv (g) z (mv (g) z ?_))
 replace b:=b.ah
 obtain ⟨c1,c2,c⟩:=bn c
 refine wc call105 [g] z z z (kcI (fl b.to1 c2) fun g2 b=>bk c fun x c3 c=>wc call104 [g,I6 c1] z z z (kcI (dm b.to1 c3) fun g3 b=>mi z (nt (au ?_))))
 obtain ⟨c4,c⟩:=aS c
 refine bg (fun n a w=>∃ (y:HL) (A:ag) (k:bN) (t:Int),cU (lQ x) n (A,k,t)=some b8∧fz 58 [0,4,5,14,15] [j,g,h,I6 x.1,I6 t] a∧I.le y∧St w0 w y [bd g A,cb h k] R) c4 ⟨_,x.2,b6,0,c,fy z,lr,b⟩ ?_
 rintro g4 _ g5 ⟨y,A,k,t,c,⟨g6,rfl⟩,i,b⟩
 obtain ⟨g7,c5,rfl,c,S⟩:=aU c
 dsimp only [lQ] at c
 replace K:=K.trans i
 refine ww (mb z (nt (aj (bw c z ?_ ?_))))
 {
 refine fun c6 c=>al (tn (aj (au (ww (mi z (mi z (nt (ww (mv (g) z (bk c fun f c7 c=>wc call159 [g] z z z ((wG b.to1 c7).mono ?_)))))))))))
 rintro _ g8 ⟨L,M,N,O,rfl,b⟩
 refine ⟨_,z,?_⟩
 replace b:=b.of5
 obtain ⟨T,g9,c8,c9,b⟩:=b.box [Zu,Zu,Zu,Zs,Zs,Zs,Zs] 46
 refine wa c8 c9 (bxk b z sI (oJ 3 z (oC (oS b.sv1) (oC (oS b.sv2) (oC (oS b.sv3) (oC (oS b.sv4) oN))))) fun h0 b=>nt ?_)
 obtain ⟨h1,c,U⟩:=ee c
 refine cR (fun a w =>(nQ k f t) ()=some c5∧fz 58 [0,4,5,7,14,15] [j,g,h,Pt T 0,I6 x.1,I6 t] a∧St w0 w y [bd g f.2,cb h k,cells T [U6 f.1.ID.ab,U6 f.1.ID.Seq,U6 f.1.ae,L,M,N,O],bp cp L f.1.dO,bp fU M f.1.aX,bp cp N f.1.dD,bp (cr .u8) O f.1.Data] R) ?_ ?_
 {
 refine aj ?_
 obtain ⟨V,h2,rfl,d0⟩:=dP b.de
 have b:=d0
 replace b:=b.ah
 obtain ⟨h3,B,b⟩:=b.cz
 refine rg b 16 [0,1,3,7,15,31,63,7,135,511,1023,7,2055,8191,16383,32767] [] mixed (si 0 z z (sb 1 z z (sb 2 z z (bs c ?_ ?_))))
 {
 refine fun d c=>sgz (Pt _ _) 3 z d z (sgz (Pt _ _) 4 z d z (sg _ 5 z d (fun w b=>xF z fI z) (sg _ 6 z d (fun w b=>xL z (b.bc1 z)) (sgz (I6 _) 7 z d z (sgz (I6 _) 8 z d z ?_)))))
 obtain ⟨q,d1,c⟩:=bn c
 obtain ⟨d2,d3,d4⟩:=aV d1
 refine sg _ 9 z d (fun w b=>aJ z z uI sI (b.rsv 0 z B) d2 d3) ?_
 obtain ⟨h4,d5,d6⟩:=bT.get B d4
 obtain ⟨W,X,Y,Z,rfl,d7,d8,d9,e0,-⟩:=d6
 refine sg _ 10 z d (fun w b=>xN (cs:=[U6 q.ID.ab,U6 q.ID.Seq,U6 q.ae,W,X,Y,Z]) z (et (o:=0) (b.uy 0 z d5) z)) (sg _ 11 z d (fun w b=>xF z fI z) (sg _ 12 z d (fun w b=>xN (cs:=[U6 f.1.ID.ab,U6 f.1.ID.Seq]) z (b.ta 0 z)) (iN 13 krA (nxe [14,15] krA z ((av z z z (cvb d)).trans z) ?_))))
 clear b
 intro w b
 obtain ⟨h5,e2,c⟩:=bn c
 refine wec call160 [.agg #[U6 q.ID.ab,U6 q.ID.Seq,U6 q.ae,W,X,Y,Z],.agg #[U6 f.1.ID.ab,U6 f.1.ID.Seq]] z z (kcO (rv (d7.mono cS) (d8.mono cS) (d9.mono cS) (e0.mono cS) b.to0 e2) fun h6 b=>w0n b (sgz (.bool _) 14 z d z (sh (.bool _) 15 z (fun w b=>bi d z z) (bt ?_))))
 intro w b
 replace b:=b.bo B
 refine tn (bw c z ?_ ?_)
 {
 intro e3 c
 cases c
}
 refine fun e3 c=>al (tn ?_)
 cases c
 exact ⟨U,fy z,(dt (Pt V 0) k b.ah z).bq.bq.bq.bq.bq.bq.de.Lk⟩
}
 refine fun d c=>so 3 z d (so 4 z d (so 5 z d (so 6 z d (so 7 z d (so 8 z d (so 9 z d (so 10 z d (so 11 z d (so 12 z d (so 13 z d (so 14 z d (sh (.bool _) 15 z (fun w b=>aL d z z) (bt ?_)))))))))))))
 intro w b
 replace b:=b.bo B
 refine tn (cJ z (al (tn ?_)))
 cases c
 exact ⟨U,fy z,(dt (Pt V 0) k b.ah z).bq.bq.bq.bq.bq.bq.de.Lk⟩
}
 rintro _ h7 ⟨c,⟨h8,rfl⟩,b⟩
 dsimp only [nQ] at c
 obtain ⟨e4,h9,rfl,e5⟩:=dP b.ah
 have b:=e5
 refine rg b 11 [0,0,2,6,14,0,32,126,255,511,1023] [] mixed (sp 0 z z (sp 1 z z (sp 2 z z (sF 3 z z fI (sL 4 z z (·.bc0 z) (sh _ 5 z (fun w b=>xN z (b.ul 0 tz)) (e1 6 z z fun w b=>?_)))))))
 replace b:=b.bj
 obtain ⟨i0,e6,m,b⟩:=b.cO
 replace i:=i.trans e6
 replace b:=b.bj
 obtain ⟨i1,b0,s,b⟩:=b.cO
 replace m:=m.mono (ro_le b0)
 replace i:=i.trans b0
 replace b:=b.bj
 obtain ⟨i2,P,C,b⟩:=b.cO
 replace m:=m.mono (ro_le P)
 replace s:=s.mono (ro_le P)
 replace i:=i.trans P
 replace b:=b.bj
 obtain ⟨i3,D,b1,b⟩:=b.cO
 replace m:=m.mono (ro_le D)
 replace s:=s.mono (ro_le D)
 replace C:=C.mono (ro_le D)
 replace i:=i.trans D
 obtain ⟨e7,e8,e9,f0,b⟩:=b.lits (E:=bZ) (xs:=[f.1]) [[U6 f.1.ID.ab,U6 f.1.ID.Seq,U6 f.1.ae,L,M,N,O]] 46 1 z (bT.cons ⟨_,_,_,_,z,m,s,C,b1,oS (ak m),oS (ak s),oS (ak C),oS (ak b1)⟩ bT.nil)
 refine cj (v:=(.slice (some ⟨e7,0,none⟩) 1 1)) (w':=e8) z (dH krA e9 f0) (wn [4,3,2,1,0] b (pL z z (·.bc1 z) (pF z z fI (pz (pz (pz aT))))) (e1 7 z z fun w b=>?_))
 obtain ⟨f1,c⟩:=cF c
 replace b:=b.aD
 obtain ⟨b2,f2,f3,b⟩:=bO ua underlying125 b b.iL (cP f1 z) 125
 refine cj (v:=b2) (w':=f2) z (ck z z f3) (wn [0] b (pz aT) (sp 8 z z (sF 9 z z fI (e1 10 z z fun w b=>?_))))
 replace b:=b.aD
 refine b1e b2 b z (oS b.sv1) sI fun i4 b=>w0n b (bt ?_)
 refine fun w b=>bJ (tn (wrl (mi z (mi z (nt ?_)))))
 cases c
 exact ⟨_,nls,_,_,_,_,S,fy z,i,(dt (Pt e4 0) (({l:=(k.l++([f.1]))}:bN)) b.ah.ah z).aD.cv⟩
}
 refine fun c6 c=>bH (aQ (aQ ?_))
 replace c:=bz c S
 refine cZ (tn ?_)
 cases c
 exact ⟨_,A,k,b9,fy z,K,b.ah.ah.cv⟩
}
 rintro _ i5 ⟨G,H,J,c,⟨i6,rfl⟩,b3,b⟩
 dsimp only [qq] at c
 replace u:=u.mono (ro_le b3)
 replace F:=F.trans b3
 refine aj (ww (mv (g) z (bk c fun i7 f4 c=>wc call109 [g] z z z (kcI (iE b.to1 f4) fun i8 b=>mb z (mb z (bs c ?_ ?_))))))
 {
 intro p c
 cases c
}
 refine fun p c=>gv (h) p z ?_
 replace b:=aR b.ah
 obtain ⟨i9,f5,c⟩:=bn c
 refine dh ((av z z z (cvb p)).trans z) z (gO call114 z (vs:=[h]) z) (kdJ (rb b.to1 f5) fun f6 j0 b=>?_)
 replace b:=bQ b.ah
 refine gv (j) p z ?_
 replace b:=b.ah
 obtain ⟨j1,b4,b⟩:=b.cz
 obtain ⟨j2,f7,c⟩:=bn c
 refine dh ((av z z z (cvb p)).trans z) z (gO call110 z (vs:=[f6,j]) z) (kcO (fv (b.jA b4) (u.mono cS) b.to0 f7) fun j3 b=>?_)
 replace b:=b.bo b4
 refine gb p z (mb (aL p z z) (nt (bw c z ?_ ?_)))
 {
 intro f8 c
 cases c
}
 refine fun f8 c=>al (tn (ww (mv (h) z (mv (h) z (mi z (nt (ar ?_)))))))
 cases c
 exact dI [h,Zi] z (rc z (rc z bl)) ⟨_,h,z,F,b.ah.bF⟩
}
end Go.Proofs.YtgnkkopjkgdieaaGreat
