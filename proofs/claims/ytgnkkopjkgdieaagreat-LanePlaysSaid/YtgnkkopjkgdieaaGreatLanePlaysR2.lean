/- A part of the proof. -/
import Derived.Test.YtgnkkopjkgdieaaGreatLanePlaysR1
set_option linter.unusedVariables false
set_option linter.unusedSimpArgs false
set_option maxRecDepth 100000
set_option maxHeartbeats 4000000
namespace Go.Proofs.YtgnkkopjkgdieaaGreat
open Go Go.V
open _root_.Go.Proofs.Tryz IntKind
variable {w0 w : World} {I : HL} {R : SP}
attribute [local irreducible] wpList Code.wp wpQuiet Calls bodyPost Oper.wp wpS Nx gI YieldsIn
theorem tq {a0 : (Option cP)} {p0 : Value} {a1 : Nat} {a2 : aY} {M : Value} (d2 : Rd (cp .u8) R I M a2.Val) (b : St w0 w I [cF cL p0 a0] R) {r : ((Option cP))} (c : ie a0 a1 a2 = some r) :
  Calls prog 123 #[p0, F6 a1, .agg #[U6 a2.Epoch, U6 a2.Index, .bool a2.Del, M]] w fun e w' => ∃ (I' : HL), e = .returned (.tuple #[]) ∧ I.le I' ∧ St w0 w' I' [cF cL p0 r] R := by {
rcases a0 with _ | K
{
dsimp only [ie] at c
cases c
}
{
replace b := bH b
dsimp only [ie] at c
refine c0 func123 z ntmps123 ?_
have D := HL.le.refl I
refine wp_seq (wrl ?_)
obtain ⟨j, i2, d3, d4, b⟩ := b.box [U6 a2.Epoch, U6 a2.Index, .bool a2.Del, M] 214
refine wa d3 d4 (ab (tn (wp_seq (wp_seq (wrl (mv (p0) z ?_))))))
obtain ⟨k, i3, rfl, d5⟩ := er b.ag
have b := d5
refine mk (.bool false) (ab (tn (ak z (wp_skip (tn (wp_seq (wrl (mf z underlying214 z sizeOf22 (ml z isAgg22 (b.bc2 z) ?_)))))))))
obtain ⟨d6, d7, c⟩ := bn c
refine wc call143 [M] z z z ((iY (d2.mono (cC _)) b.to0 d7).mono ?_)
rintro _ i4 ⟨Q, rfl, b⟩
refine ⟨_, z, ?_⟩
replace b := b.of1
refine mf z underlying214 z sizeOf22 ?_
replace b := b.au
obtain ⟨i5, d8, b⟩ := b.cW (P := prog) (t := 22) (cs' := [U6 a2.Epoch, U6 a2.Index, .bool a2.Del, Q]) 3 Q (oS b.sv1) sizeOf22 z z
refine aE z z (aG d8) (ab (tn ?_))
obtain ⟨i6, c, b7⟩ := bn c
refine cU (fun a w => ∃ (q : (List Int)) (g : Value), (lG a1 K a2) q = some r ∧ fz 93 [0, 1, 5] [Pt k 0, F6 a1, Pt j 0] a ∧ St w0 w I [cL (Pt k 0) K, cells j [U6 a2.Epoch, U6 a2.Index, .bool a2.Del, g], bg (cp .u8) g q] R) ?_ ?_
{
refine wp_seq (wrl (mf z underlying214 z sizeOf4 (ml z isAgg4 (b.bc0 z) (ab (tn (bs c ?_ ?_))))))
{
intro S c
refine ar (cvb S) (wrl (mf z underlying214 z sizeOf22 ?_))
obtain ⟨i7, d9, b⟩ := b.by_ [U6 a2.Epoch, U6 a2.Index, .bool a2.Del, Zs] 3 ((.slice none 0 0)) sizeOf22 z (oC z oN) (by kernel_rfl)
refine aE z z (aG d9) (ab (tn ?_))
replace b := (cQ (Pt k 0) K (b.bd (cp .u8)).bf.bf z).ag.aA.aA.dF
obtain rfl := sj c
exact ⟨([]), Zs, b7, fy z, b⟩
}
{
intro S c
refine ak (cvb S) (wp_skip (tn ?_))
replace b := (cQ (Pt k 0) K b.au.au z).aA.aA.aA.dF
obtain rfl := sj c
exact ⟨d6, Q, b7, fy z, b⟩
}
}
{
rintro _ i8 ⟨q, g, c, ⟨i9, rfl⟩, b⟩
dsimp only [lG] at c
refine wp_seq (wrl (mp z (mv (F6 _) z ?_)))
obtain ⟨e0, e2, c⟩ := bn c
refine wc call118 [F6 a1] z z z ((eA b.to0 e2).mono ?_)
rintro _ j0 ⟨rfl, b⟩
refine ⟨_, z, ?_⟩
replace b := aO b.of0
obtain ⟨p, e3, c⟩ := bn c
refine wc call146 [Pt k 0, U6 e0] z z z ((mw b.to1 e3).mono ?_)
rintro _ j1 ⟨rfl, b⟩
refine ⟨_, z, ?_⟩
replace b := bH b.of1
refine mv (.tuple #[I6 p.1, .bool p.2]) z (mi z (mb z (mi z (mb z (ab (tn ?_))))))
obtain ⟨j2, c, b8⟩ := bn c
refine cU (fun a w => ∃ (B : cP), (jH p a2 q) B = some r ∧ fz 93 [0, 5, 6] [Pt k 0, Pt j 0, I6 p.1] a ∧ St w0 w I [cL (Pt k 0) B, cells j [U6 a2.Epoch, U6 a2.Index, .bool a2.Del, g], bg (cp .u8) g q] R) ?_ ?_
{
refine wp_seq (wrl (mb z (mb z (ab (tn (bs c ?_ ?_))))))
{
intro T c
refine ar (cvb T) ?_
obtain ⟨j3, e4, U, e5⟩ := er b
replace U := dI U
subst U
have b := e5
refine rg b 14 [0, 0, 2, 6, 14, 0, 0, 64, 192, 448, 1022, 2047, 4095, 8191] [] mixed (sp 0 z z (sp 1 z z (sp 2 z z (sf 3 z z underlying201 z sizeOf199 (sl 4 z z isAgg199 (fun w b => b.bc0 z) (si 5 z z (sz (F6 _) 6 z z (e1 7 z z fun w b => ?_))))))))
obtain ⟨b9, e6, c⟩ := bn c
refine wec call118 [F6 a1] z z ((eA b.to0 e6).mono ?_)
rintro _ j4 ⟨rfl, b⟩
refine ⟨_, z, ?_⟩
replace b := b.of0
refine wn [5, 4, 3, 2, 1, 0] b (pz (pkr z z (fun w b => aq z isAgg199 (b.bc0 z)) (pf z z underlying201 z sizeOf199 (pz (pz (pz bD)))))) (sk (.agg #[U6 b9, Zs]) 8 z (e1 9 z z fun w b => ?_))
replace b := b.bd cr
obtain ⟨c1, e7, e8, e9, b⟩ := b.Cl (N := cq) (x := ({ rank := b9, l := [] } : bV)) 240
refine bW (v := (.slice (some ⟨c1, 0, none⟩) 1 1)) (w' := e7) z (dn (by kernel_rfl) e8 e9) (wn [5, 4, 3, 2, 1, 0] b (pz (pkr z z (fun w b => aq z isAgg199 (b.bc1 z)) (pf z z underlying201 z sizeOf199 (pz (pz (pz bD)))))) (e1 10 z z fun w b => ?_))
replace b := b.aA
obtain ⟨c2, f0, c⟩ := bn c
refine wec call183 [e4, I6 p.1, (.slice (some ⟨c1, 0, none⟩) 1 1)] z z ((mT b.to2 f0).mono ?_)
rintro _ j5 ⟨c3, rfl, b⟩
refine ⟨_, z, ?_⟩
replace b := b.of1
refine wn [0] b (pz bD) (sp 11 z z (sf 12 z z underlying201 z sizeOf199 (e1 13 z z fun w b => ?_)))
replace b := b.ag
obtain ⟨j6, f1, b⟩ := b.cW (P := prog) (t := 199) (cs' := [c3]) 0 c3 (oS (b.pM 1 z)) sizeOf199 z z
refine dz z (aG f1) (w0n b (bp ?_))
intro w b
refine tn ?_
replace b := (cQ (Pt k 0) (({ rows := c2 } : cP)) b.ag.ag z).aA.aA.aA.dF
obtain rfl := sj c
exact ⟨({ rows := c2 } : cP), b8, fy z, b⟩
}
{
intro T c
refine ak (cvb T) (wp_skip (tn ?_))
replace b := b.aA.aA.aA.dF
obtain rfl := sj c
exact ⟨K, b8, fy z, b⟩
}
}
{
rintro _ j7 ⟨B, c, ⟨j8, rfl⟩, b⟩
dsimp only [jH] at c
refine wp_seq (wrl (mp z ?_))
obtain ⟨j9, F, V, f2⟩ := er b
replace V := dI V
subst V
have b := f2
refine mp z (mf z underlying201 z sizeOf199 (ml z isAgg199 (b.bc0 z) (mi z ?_)))
obtain ⟨s, f3, c⟩ := bn c
obtain ⟨c4, c5, L⟩ := aP f3
refine mz (aC z z underlying199 sizeOf240 (b.pM 1 z) c4 c5) (mz (aW z underlying240 z sizeOf238 z) ?_)
replace b := b.ag
obtain ⟨m, b⟩ := b.tA L
refine ml z isAgg238 ((b.xA (N := cq) (i := p.1.toNat) 1 z L) 1 _ z) ?_
obtain ⟨u, k0, f4, f5, b⟩ := b.box [Zs] 238
refine wa f4 f5 ?_
obtain ⟨k1, f6, b⟩ := b.cW (P := prog) (t := 238) (cs' := [m]) 0 m (oS b.sv1) sizeOf238 z z
refine aE z z (aG f6) (ab (tn (wp_seq (wrl (ml z isAgg238 (b.bc0 z) (mz (bZ z underlying238 b.sv1) (mk (.func (.func 184) #[] #[Pt u 0, Pt j 0]) ?_)))))))
obtain ⟨c6, f7, c⟩ := bn c
refine dj z z (dH call179 (caps := []) z (vs := [I6 ((s.l).length : Int), .func (.func 184) #[] #[Pt u 0, Pt j 0]]) z) (Calls.mono (show Calls prog 179 #[I6 ((s.l).length : Int), .func (.func 184) #[] #[Pt u 0, Pt j 0]] _ (fun e w' => ∃ (G : Int), G = c6 ∧ e = .returned (.int .i64 G) ∧ St w0 w' I [cells k [F], bg cr m s.l, pZ cq F B.rows p.1.toNat m, cells j [U6 a2.Epoch, U6 a2.Index, .bool a2.Del, g], bg (cp .u8) g q, cells u [m]] R) from ?_) ?_)
{
clear c; have c := f7
refine c0 func179 z ntmps179 (wp_seq (wrl (mi z (ab (tn (wp_seq (wrl (mi z (mi z (mi z (ab (tn (wp_seq (wp_block ?_))))))))))))))
obtain ⟨f8, c⟩ := aX c
refine bm (fun n a w => ∃ (A : Int) (C : Int), cT (im s a2) n (A, C) = some c6 ∧ fz 26 [1, 5, 6] [.func (.func 184) #[] #[Pt u 0, Pt j 0], I6 A, I6 C] a ∧ St w0 w I [cells u [m], bg cr m s.l, pZ cq F B.rows p.1.toNat m, cells k [F], cells j [U6 a2.Epoch, U6 a2.Index, .bool a2.Del, g], bg (cp .u8) g q] R) f8 ⟨0, ((s.l).length : Int), c, fy z, b⟩ ?_
rintro k2 _ k3 ⟨A, C, c, ⟨k4, rfl⟩, b⟩
obtain ⟨k5, k6, rfl, c, W⟩ := ba c
dsimp only [im] at c
refine wp_seq (wp_seq (wrl (mi z (mi z (mb z (ab (tn (bs c ?_ ?_))))))))
{
intro X c
refine ar (cvb X) (wp_skip (tn (wp_block (wp_seq (wrl (mi z (mi z (mi z (mk (.int .u64 (u64.wrap (i64.wrap (A + C)))) (mi (tY (by decide) z z) (mk (.int .i64 (i64.wrap (fw .u64 (u64.wrap (i64.wrap (A + C))) 1))) (mi z (ab (tn (wp_seq (wrl (mv (.func (.func 184) #[] #[Pt u 0, Pt j 0]) z (mi z ?_))))))))))))))))))
obtain ⟨f9, g0, c⟩ := bn c
refine dj z z (dH call184 (caps := [Pt u 0, Pt j 0]) z (vs := [I6 (i64.wrap (fw .u64 (u64.wrap (i64.wrap (A + C))) 1))]) z) (Calls.mono (show Calls prog 184 #[I6 (i64.wrap (fw .u64 (u64.wrap (i64.wrap (A + C))) 1)), Pt u 0, Pt j 0] _ (fun e w' => ∃ (Y : Bool), Y = f9 ∧ e = .returned (.bool Y) ∧ St w0 w' I [cells k [F], bg cr m s.l, pZ cq F B.rows p.1.toNat m, cells j [U6 a2.Epoch, U6 a2.Index, .bool a2.Del, g], bg (cp .u8) g q, cells u [m]] R) from ?_) ?_)
{
clear c; have c := g0
refine c0 func184 z ntmps184 (wp_seq (wrl (mb z (ab (tn (wp_seq ?_))))))
replace b := b.ag
obtain ⟨k7, Z, b⟩ := b.cB
refine rg b 11 [0, 0, 3, 7, 0, 16, 0, 64, 255, 511, 1023] [] mixed (sl 0 z z isAgg238 (fun w b => b.bc1 z) (si 1 z z ?_))
obtain ⟨J, g1, c⟩ := bn c
obtain ⟨g2, g3, g4⟩ := aP g1
refine sh _ 2 z (fun w b => aC z z underlying238 sizeOf214 (b.rsv 0 z Z) g2 g3) ?_
obtain ⟨k8, g5, g6⟩ := bE.get Z g4
obtain ⟨c7, rfl, g7, -⟩ := g6
refine sh _ 3 z (fun w b => ay (cs := [U6 J.Epoch, U6 J.Index, .bool J.Del, c7]) z isAgg214 sizeOf214 (dS (o := 0) (b.uG 0 z g5) z)) (sf 4 z z underlying214 z sizeOf26 (sl 5 z z isAgg26 (fun w b => b.bc4 z) (sf 6 z z underlying214 z sizeOf26 (sl 7 z z isAgg26 (fun w b => b.bc4 z) (e1 8 z z fun w b => ?_)))))
obtain ⟨c8, g8, c⟩ := bn c
refine wec call185 [.agg #[U6 J.Epoch, U6 J.Index, .bool J.Del, c7], U6 a2.Epoch, U6 a2.Index] z z ((vJ (g7.mono cD) b.to0 g8).mono ?_)
rintro _ k9 ⟨rfl, b⟩
refine ⟨_, z, ?_⟩
replace b := b.of0
refine w0n b (sb 9 z z (sb 10 z z (bp ?_)))
intro w b
replace b := b.bh Z
refine tn (wp_ret (aZ [.bool (!c8)] results184 (rc z ai) ?_))
replace b := b.ag.bc.bc.bf.bf.bc.kj
obtain rfl := sj c
exact ⟨(!c8), z, z, b⟩
}
rintro _ l0 ⟨Y, rfl, rfl, b⟩
refine ⟨_, z, ?_⟩
try dsimp only at c
refine mb z (ab (tn (bs c ?_ ?_)))
{
intro b0 c
refine ar (cvb b0) (wrl (mi z (mi z (mi z (ab (bF (tn ?_)))))))
replace b := b.bf.bf.aA.bf.bf.bc.kj
obtain rfl := sj c
exact ⟨_, nls, (i64.wrap ((i64.wrap (fw .u64 (u64.wrap (i64.wrap (A + C))) 1)) + 1)), C, W, fy z, b⟩
}
{
intro b0 c
refine ak (cvb b0) (wrl (mi z (mi z (ab (bF (tn ?_))))))
replace b := b.bf.bf.aA.bf.bf.bc.kj
obtain rfl := sj c
exact ⟨_, nls, A, (i64.wrap (fw .u64 (u64.wrap (i64.wrap (A + C))) 1)), W, fy z, b⟩
}
}
{
intro X c
refine ak (cvb X) (wp_exit (aV (aV ?_)))
replace c := bo c W
refine de (tn (wp_seq (wrl (mi z (mi z (ab (tn (wp_ret (aZ [I6 A] results179 (rc z ai) ?_)))))))))
replace b := b.bc.bc.bf.bf.bc.kj
obtain rfl := sj c
exact ⟨A, z, z, b⟩
}
}
rintro _ l1 ⟨G, rfl, rfl, b⟩
refine ⟨_, z, ?_⟩
try dsimp only at c
refine mi z (ab (tn ?_))
obtain ⟨l2, c, O⟩ := ec c
refine cU (fun a w => ∃ (I598 : HL), (jP s G a2 q B p) () = some r ∧ fz 93 [0, 5, 6, 8, 9] [Pt k 0, Pt j 0, I6 p.1, Pt u 0, I6 G] a ∧ I.le I598 ∧ St w0 w I598 [cells k [F], bg cr m s.l, pZ cq F B.rows p.1.toNat m, cells j [U6 a2.Epoch, U6 a2.Index, .bool a2.Del, g], bg (cp .u8) g q, cells u [m]] R) ?_ ?_
{
have b1 := HL.le.refl I
refine wp_seq ?_
replace b := b.ag
obtain ⟨l3, H, b⟩ := b.cB
refine dO b mixed (by kernel_rfl) (qz (I6 _) z (qh _ (fun w b => aq z isAgg238 (b.bc5 z)) (qh _ (fun w b => bZ z underlying238 (b.rsv 0 z H)) (qz (.bool _) z (qz (.bool _) z (bs c ?_ ?_))))))
{
intro d c
refine qg _ d (fun w b => aq z isAgg238 (b.bc5 z)) (qgz (I6 _) d z ?_)
obtain ⟨l4, g9, c⟩ := bn c
obtain ⟨b2, b3, b4⟩ := aP g9
refine qg _ d (fun w b => aC z z underlying238 sizeOf214 (b.rsv 0 z H) b2 b3) (qg _ d (fun w b => aW z underlying214 z sizeOf26 z) ?_)
obtain ⟨l5, c9, h0⟩ := bE.get H b4
obtain ⟨l6, rfl, l7, -⟩ := h0
refine qg _ d (fun w b => aq z isAgg26 ((b.uG 0 z c9) 0 _ z)) (qg _ d (fun w b => aT z underlying214 z sizeOf26 z) (qg _ d (fun w b => aq z isAgg26 (b.bc3 z)) (qgz (.bool _) d z (qh (.bool _) (fun w b => aS d z z) (qz (.bool _) z (bs c ?_ ?_))))))
{
intro f c
refine qg _ f (fun w b => aq z isAgg238 (b.bc5 z)) (qgz (I6 _) f z (qg _ f (fun w b => aC z z underlying238 sizeOf214 (b.rsv 0 z H) b2 b3) (qg _ f (fun w b => aW z underlying214 z sizeOf26 z) (qg _ f (fun w b => aq z isAgg26 ((b.uG 0 z c9) 1 _ z)) (qg _ f (fun w b => aT z underlying214 z sizeOf26 z) (qg _ f (fun w b => aq z isAgg26 (b.bc3 z)) (qgz (.bool _) f z (qh (.bool _) (fun w b => aS f z z) (fO ?_)))))))))
intro w b
replace b := b.bh H
refine tn (bs c ?_ ?_)
{
intro b5 c
refine ar (cvb b5) (wp_seq (wrl (ml z isAgg238 (b.bc5 z) (mi z (mz (ay (cs := [U6 a2.Epoch, U6 a2.Index, .bool a2.Del, g]) z isAgg214 sizeOf214 (b.rI 0 z)) (mz (aC z z underlying238 sizeOf214 b.sv0 b2 b3) ?_))))))
obtain ⟨l8, h1, l9⟩ := b.og0 b4
obtain ⟨m0, rfl, m1, -⟩ := h1
replace b := b.bf
obtain ⟨I591, h2, b6, b⟩ := b.cN
replace D := D.trans h2
obtain ⟨m2, h3, b⟩ := b.oi (P := prog) (t := 214) (y := ({ a2 with Val := q } : aY)) b4 0 (.agg #[U6 a2.Epoch, U6 a2.Index, .bool a2.Del, g]) sizeOf214 (Nat.le_of_ble_eq_true z) (oJ 3 z (oC (oS (ah b6)) oN)) (fun cs h => ⟨_, uJ (cr.len h) z, b6, oS (ah b6)⟩)
refine aE z z (aG h3) (ab (tn (wp_ret (aN ?_))))
replace c := bo c O
replace b := aO (cQ (Pt k 0) (({ rows := (B.rows.set p.1.toNat ({ rank := s.rank, l := (s.l.set G.toNat ({ a2 with Val := q } : aY)) } : bV)) } : cP)) (St.tu (N := cq) b.aA.ag L).ag z)
obtain rfl := sj c
exact aZ [] results123 ai ⟨_, z, D, b.bu⟩
}
{
intro b5 c
refine ak (cvb b5) (wp_skip (tn ?_))
replace b := b.bc.bc.bc.bc.bf.bc.kj
obtain rfl := sj c
exact ⟨_, O, fy z, b1, b⟩
}
}
{
intro f c
refine qo f (qo f (qo f (qo f (qo f (qo f (qo f (qo f (qh (.bool _) (fun w b => aJ f z z) (fO ?_)))))))))
intro w b
replace b := b.bh H
refine tn (ak z (wp_skip (tn ?_)))
replace b := b.bc.bc.bc.bc.bf.bc.kj
obtain rfl := sj c
exact ⟨_, O, fy z, b1, b⟩
}
}
{
intro d c
refine qo d (qo d (qo d (qo d (qo d (qo d (qo d (qo d (qh (.bool _) (fun w b => aJ d z z) (qz (.bool _) z (qS ((aw z z z z).trans z) z (qS ((aw z z z z).trans z) z (qS ((aw z z z z).trans z) z (qS ((aw z z z z).trans z) z (qS ((aw z z z z).trans z) z (qS ((aw z z z z).trans z) z (qS ((aw z z z z).trans z) z (qS ((aw z z z z).trans z) z (qh (.bool _) (fun w b => aJ z z z) (fO ?_)))))))))))))))))))
intro w b
replace b := b.bh H
refine tn (ak z (wp_skip (tn ?_)))
replace b := b.bc.bc.bc.bc.bf.bc.kj
obtain rfl := sj c
exact ⟨_, O, fy z, b1, b⟩
}
}
{
rintro _ m3 ⟨I598, c, ⟨m4, rfl⟩, h4, b⟩
dsimp only [jP] at c
replace D := D.trans h4
refine rg b 13 [0, 1, 3, 7, 0, 0, 0, 0, 128, 480, 1023, 2047, 4095] [] mixed (sp 0 z z (sp 1 z z (sf 2 z z underlying201 z sizeOf199 (sl 3 z z isAgg199 (fun w b => b.bc0 z) (si 4 z z (sl 5 z z isAgg238 (fun w b => b.bc5 z) (si 6 z z (sh _ 7 z (fun w b => ay (cs := [U6 a2.Epoch, U6 a2.Index, .bool a2.Del, g]) z isAgg214 sizeOf214 (b.rI 0 z)) (e1 8 z z fun w b => ?_)))))))))
replace b := b.bf
obtain ⟨I606, h5, d0, b⟩ := b.cN
replace D := D.trans h5
obtain ⟨d1, h6, h7, h8, b⟩ := b.ey (E := cr) (xs := [({ a2 with Val := q } : aY)]) [[U6 a2.Epoch, U6 a2.Index, .bool a2.Del, g]] 214 1 z (bE.cons ⟨_, z, d0, oS (ah d0)⟩ bE.nil)
refine bW (v := (.slice (some ⟨d1, 0, none⟩) 1 1)) (w' := h6) z (dn (by kernel_rfl) h7 h8) (wn [6, 5, 4, 3, 2, 1, 0] b (pz (pkr z z (fun w b => aq z isAgg238 (b.bc5 z)) (pz (pkr z z (fun w b => aq z isAgg199 (b.bc1 z)) (pf z z underlying201 z sizeOf199 (pz (pz bD))))))) (e1 9 z z fun w b => ?_))
replace b := b.aA
obtain ⟨h9, i0, c⟩ := bn c
refine wec call186 [m, I6 G, (.slice (some ⟨d1, 0, none⟩) 1 1)] z z ((ku b.to2 i0).mono ?_)
rintro _ m5 ⟨m6, rfl, b⟩
refine ⟨_, z, ?_⟩
replace b := b.of1
refine wn [4, 3, 2, 1, 0] b (pz (pkr z z (fun w b => aq z isAgg199 (b.bc1 z)) (pf z z underlying201 z sizeOf199 (pz (pz bD))))) (sh _ 10 z (fun w b => aC z z underlying199 sizeOf240 (b.CO 2 z) c4 c5) (sh _ 11 z (fun w b => aW z underlying240 z sizeOf238 z) (e1 12 z z fun w b => ?_)))
replace b := b.aA
obtain ⟨m7, i1, b⟩ := b.zB (P := prog) (t := 238) L b.sv1 sizeOf238
refine dz z (aG i1) (w0n b (bp ?_))
intro w b
replace b := aO (cQ (Pt k 0) (({ rows := (B.rows.set p.1.toNat ({ rank := s.rank, l := h9 } : bV)) } : cP)) (St.tu (N := cq) b.ag L).ag z)
obtain rfl := sj c
exact vM (vs := []) results123 ai ⟨_, z, D, b.bu⟩
}
}
}
}
}
theorem rz {a0 : (Option ae)} {p0 : Value} {a1 : aH} {l m p q g s t u : Value} (c7 : Rd bY R I l a1.Hold.Gets) (c8 : Rd gB R I m a1.Hold.Scans) (c9 : Rd bY R I p a1.Hold.Puts) (d0 : Rd (cp .u8) R I q a1.Hold.Data) (v : Rd cI R I g a1.Writes) (d1 : Rd aD R I s a1.R.Gots) (d2 : Rd (dJ az) R I t a1.R.Scans) (d3 : Rd cM R I u a1.Parts) (b : St w0 w I [cF aI p0 a0] R) {r : (bj × (Option ae))} (c : ir a0 a1 = some r) :
  Calls prog 49 #[p0, .agg #[U1 a1.Kind, U6 a1.ID.Session, U6 a1.ID.Seq, U6 a1.Epoch, U6 a1.Index, I6 a1.E, U6 a1.Hold.ID.Session, U6 a1.Hold.ID.Seq, U6 a1.Hold.Epoch, l, m, p, q, g, I6 a1.R.E, U6 a1.R.Epoch, U6 a1.R.Index, s, t, U6 a1.Shards, u, U6 a1.Rule.ID, I6 a1.Rule.From, I6 a1.Rule.To, F6 a1.Rule.Lo, F6 a1.Rule.Hi, U6 a1.Rule.Authority, I6 a1.Rule.Quota, .bool a1.On]] w fun e w' => ∃ (I' : HL) (N : Value) (O : Value), e = .returned (.agg #[U1 r.1.Kind, U6 r.1.ID.Session, U6 r.1.ID.Seq, I6 r.1.R.E, U6 r.1.R.Epoch, U6 r.1.R.Index, N, O]) ∧ I.le I' ∧ St w0 w' I' [bg aD N r.1.R.Gots, bg (dJ az) O r.1.R.Scans, cF aI p0 r.2] R := by {
rcases a0 with _ | h
{
dsimp only [ir] at c
cases c
}
{
replace b := bH b
dsimp only [ir] at c
refine c0 func49 z ntmps49 ?_
have F := HL.le.refl I
refine wp_seq (wrl ?_)
obtain ⟨B, d4, S, T, b⟩ := b.box [U1 a1.Kind, U6 a1.ID.Session, U6 a1.ID.Seq, U6 a1.Epoch, U6 a1.Index, I6 a1.E, U6 a1.Hold.ID.Session, U6 a1.Hold.ID.Seq, U6 a1.Hold.Epoch, l, m, p, q, g, I6 a1.R.E, U6 a1.R.Epoch, U6 a1.R.Index, s, t, U6 a1.Shards, u, U6 a1.Rule.ID, I6 a1.Rule.From, I6 a1.Rule.To, F6 a1.Rule.Lo, F6 a1.Rule.Hi, U6 a1.Rule.Authority, I6 a1.Rule.Quota, .bool a1.On] 49
refine wa S T ?_
obtain ⟨C, d5, U, V, b⟩ := b.box [Zb, Zu, Zu, Zi, Zu, Zu, Zs, Zs] 35
refine wa U V (ab (tn ?_))
obtain ⟨W, c, G⟩ := bn c
refine cU (fun a w => ∃ (I459 : HL) (H : ae), (lN a1) H = some r ∧ fz 46 [3, 4] [Pt B 0, Pt C 0] a ∧ I.le I459 ∧ St w0 w I459 [cells B [U1 a1.Kind, U6 a1.ID.Session, U6 a1.ID.Seq, U6 a1.Epoch, U6 a1.Index, I6 a1.E, U6 a1.Hold.ID.Session, U6 a1.Hold.ID.Seq, U6 a1.Hold.Epoch, l, m, p, q, g, I6 a1.R.E, U6 a1.R.Epoch, U6 a1.R.Index, s, t, U6 a1.Shards, u, U6 a1.Rule.ID, I6 a1.Rule.From, I6 a1.Rule.To, F6 a1.Rule.Lo, F6 a1.Rule.Hi, U6 a1.Rule.Authority, I6 a1.Rule.Quota, .bool a1.On], cells C [Zb, Zu, Zu, Zi, Zu, Zu, Zs, Zs], aI p0 H] R) ?_ ?_
{
have x := HL.le.refl I
refine wp_seq ?_
obtain ⟨i, d6, X, d7, d8, d9, e0, e2, rfl, Y⟩ := bi b.aA
have b := Y
refine rg b 12 [0, 1, 3, 7, 0, 16, 63, 127, 255, 511, 1023, 2047] [] mixed (sp 0 z z (sp 1 z z (sf 2 z z underlying111 z sizeOf103 (sl 3 z z isAgg103 (fun w b => b.bc0 z) (sf 4 z z underlying49 z sizeOf28 (sh _ 5 z (fun w b => ay (cs := [U6 a1.ID.Session, U6 a1.ID.Seq]) z isAgg28 sizeOf28 (b.vX 1 z)) (e1 6 z z fun w b => ?_)))))))
replace b := b.aA
obtain ⟨j, Z, c⟩ := bn c
refine wec call122 [X, .agg #[U6 a1.ID.Session, U6 a1.ID.Seq]] z z ((rE b.to1 Z).mono ?_)
rintro _ e3 ⟨rfl, b⟩
refine ⟨_, z, ?_⟩
replace b := b.of1
refine w0n b (sb 7 z z (bs c ?_ ?_))
{
intro d c
refine sg _ 8 z d (fun w b => aT z underlying49 z sizeOf29 z) (sg _ 9 z d (fun w b => aq z isAgg29 (b.bc9 z)) (sgz (.bool _) 10 z d z (sh (.bool _) 11 z (fun w b => aS d z z) (bp ?_))))
intro w b
refine tn (bs c ?_ ?_)
{
intro J c
refine ar (cvb J) (wp_seq (wrl (mf z underlying49 z sizeOf42 (ml z isAgg42 (b.bc9 z) (mz (bZ z underlying42 (ax v)) (mi z (ab (tn (wp_block ?_)))))))))
replace b := av (Pt i 0) (({ h with locks := j.2 } : ae)) b.aL.aL.aL.aL.aL.bc.aL.aL z
obtain ⟨b0, c⟩ := aX c
refine bm (fun n a w => ∃ (I407 : HL) (k : ae) (D : Int), cT (eV a1) n (k, D) = some W ∧ fz 46 [0, 3, 4, 20, 21, 22] [Pt i 0, Pt B 0, Pt C 0, g, I6 ((a1.Writes).length : Int), I6 D] a ∧ I.le I407 ∧ St w0 w I407 [aI (Pt i 0) k, cells C [Zb, Zu, Zu, Zi, Zu, Zu, Zs, Zs], cells B [U1 a1.Kind, U6 a1.ID.Session, U6 a1.ID.Seq, U6 a1.Epoch, U6 a1.Index, I6 a1.E, U6 a1.Hold.ID.Session, U6 a1.Hold.ID.Seq, U6 a1.Hold.Epoch, l, m, p, q, g, I6 a1.R.E, U6 a1.R.Epoch, U6 a1.R.Index, s, t, U6 a1.Shards, u, U6 a1.Rule.ID, I6 a1.Rule.From, I6 a1.Rule.To, F6 a1.Rule.Lo, F6 a1.Rule.Hi, U6 a1.Rule.Authority, I6 a1.Rule.Quota, .bool a1.On]] R) b0 ⟨_, ({ h with locks := j.2 } : ae), 0, c, fy z, lr, b⟩ ?_
rintro e4 _ e5 ⟨I407, k, D, c, ⟨e6, rfl⟩, y, b⟩
obtain ⟨e7, e8, rfl, c, P⟩ := ba c
dsimp only [eV] at c
replace v := v.mono (ns y)
replace x := x.trans y
refine wp_seq (wrl (mb z (ab (tn (wp_seq (bs c ?_ ?_))))))
{
intro K c
refine ar (cvb K) (wp_skip (tn (wp_seq (wp_block (wp_seq (wrl ?_))))))
obtain ⟨f, b1, c⟩ := bn c
obtain ⟨b2, b3, b4⟩ := aP b1
refine mz (aC z z underlying42 sizeOf41 (ax v) b2 b3) ?_
obtain ⟨e9, b5, b6⟩ := Rd.jZ v b4
obtain ⟨A, rfl, L, -⟩ := b5
refine mz (ay (cs := [F6 f.At, .bool f.Del, A]) z isAgg41 sizeOf41 (dS (o := 0) (b6 lr b) z)) ?_
obtain ⟨f0, f1, b7, b8, b⟩ := b.box [Zf, .bool false, Zs] 41
refine wa b7 b8 ?_
obtain ⟨f2, b9, b⟩ := b.bx [F6 f.At, .bool f.Del, A] sizeOf41 z (oJ 2 z (oC (oS (ax L)) oN)) (by kernel_rfl)
refine aE z z (aG b9) (ab (tn ?_))
obtain ⟨f3, c1, f4, f5, f6, f7, f8, f9, M, c2⟩ := bi b.ag
replace M := dI M
subst M
have b := c2
refine rg b 16 [0, 1, 3, 7, 0, 16, 0, 64, 0, 256, 0, 1024, 0, 4096, 16320, 32767] [] mixed (sp 0 z z (sp 1 z z (sf 2 z z underlying111 z sizeOf101 (sl 3 z z isAgg101 (fun w b => b.bc0 z) (sf 4 z z underlying41 z sizeOf37 (sl 5 z z isAgg37 (fun w b => b.bc8 z) (sf 6 z z underlying49 z sizeOf26 (sl 7 z z isAgg26 (fun w b => b.uo z) (sf 8 z z underlying49 z sizeOf26 (sl 9 z z isAgg26 (fun w b => b.uo z) (sf 10 z z underlying41 z sizeOf4 (sl 11 z z isAgg4 (fun w b => b.bc8 z) (sf 12 z z underlying41 z sizeOf22 (wsr (A) 13 rfl rfl rfl (by kernel_rfl) (fun w b => aq rfl isAgg22 (b.bc8 rfl)) (wsr (.agg #[U6 a1.Epoch, U6 a1.Index, .bool f.Del, A]) 14 rfl rfl rfl (by kernel_rfl) (fun w b => by obtain ⟨_, _, hv_, _⟩ := (ax L); rw [hv_]; kernel_rfl) (e1 15 z z fun w b => ?_))))))))))))))))
replace b := b.ag
obtain ⟨Q, c3, c⟩ := bn c
refine wec call123 [c1, F6 f.At, .agg #[U6 a1.Epoch, U6 a1.Index, .bool f.Del, A]] z z ((tq (a2 := ({ a1 with Del := f.Del, Val := f.Val } : aY)) (L.mono (cC _)) b.to1 c3).mono ?_)
rintro _ g0 ⟨I456, rfl, c4, b⟩
refine ⟨_, z, ?_⟩
replace b := b.of1
replace y := y.trans c4
refine w0n b (bp ?_)
intro w b
refine bF (tn (wrl (mi z (mi z (ab (tn ?_))))))
replace b := (av (Pt i 0) (({ k with store := Q } : ae)) b.aL.aL.aL.aL.aL.aL.da.aL z).au.au.aA.dF
obtain rfl := sj c
exact ⟨_, nls, _, ({ k with store := Q } : ae), (i64.wrap (D + 1)), P, fy z, y, b⟩
}
{
intro K c
refine ak (cvb K) (wp_exit (aV (aV ?_)))
replace c := bo c P
refine de (tn ?_)
replace b := b.ag.aA.dF
obtain rfl := sj c
exact ⟨_, k, G, fy z, x, b⟩
}
}
{
intro J c
refine ak (cvb J) (wp_skip (tn ?_))
replace b := (av (Pt i 0) (({ h with locks := j.2 } : ae)) b.aL.aL.aL.aL.aL.bc.aL.aL z).ag.aA.dF
obtain rfl := sj c
exact ⟨_, ({ h with locks := j.2 } : ae), G, fy z, x, b⟩
}
}
{
intro d c
refine so 8 z d (so 9 z d (so 10 z d (sh (.bool _) 11 z (fun w b => aJ d z z) (bp ?_))))
intro w b
refine tn (ak z (wp_skip (tn ?_)))
replace b := (av (Pt i 0) (({ h with locks := j.2 } : ae)) b.aL.aL.aL.aL.aL.bc.aL.aL z).ag.aA.dF
obtain rfl := sj c
exact ⟨_, ({ h with locks := j.2 } : ae), G, fy z, x, b⟩
}
}
{
rintro _ g1 ⟨I459, H, c, ⟨g2, rfl⟩, c5, b⟩
dsimp only [lN] at c
replace F := F.trans c5
refine wp_seq (wrl (mf z underlying49 z sizeOf28 (mz (ay (cs := [U6 a1.ID.Session, U6 a1.ID.Seq]) z isAgg28 sizeOf28 (b.eF 1 z)) (mk (.agg #[U1 3, U6 a1.ID.Session, U6 a1.ID.Seq, Zi, Zu, Zu, Zs, Zs]) ?_))))
replace b := b.ag
obtain ⟨g3, c6, b⟩ := b.bx [U1 3, U6 a1.ID.Session, U6 a1.ID.Seq, Zi, Zu, Zu, Zs, Zs] sizeOf35 z (oJ 8 z oN) (by kernel_rfl)
refine aE z z (aG c6) (ab (tn (wp_ret ?_)))
replace b := aO (((b.bd aD).bd (dJ az)).bf)
obtain rfl := sj c
refine aZ [.agg #[U1 3, U6 a1.ID.Session, U6 a1.ID.Seq, Zi, Zu, Zu, Zs, Zs]] results49 (bq (bJ (cs := [U1 3, U6 a1.ID.Session, U6 a1.ID.Seq, Zi, Zu, Zu, Zs, Zs]) z isAgg35 sizeOf35 (b.rI 0 z)) ai) ?_
replace b := b.ag.aA
exact ⟨_, Zs, Zs, z, F, b.dF⟩
}
}
}
theorem mG {a0 : aQ} {c d : Value} {a1 : Int} (j : Rd aD R I c a0.r.Gots) (k : Rd (dJ az) R I d a0.r.Scans) (a : St w0 w I [] R) {r : (Int)} (b : fL a0 a1 = some r) :
  Calls prog 201 #[.agg #[U6 a0.session, U6 a0.seq, I6 a0.r.E, U6 a0.r.Epoch, U6 a0.r.Index, c, d], U6 a1] w fun e w' => e = .returned (.int .i64 r) ∧ St w0 w' I [] R := by {
unfold fL at b
refine c0 func201 z ntmps201 (wp_seq (wrl ?_))
obtain ⟨l, m, f, g, a⟩ := a.box [U6 a0.session, U6 a0.seq, I6 a0.r.E, U6 a0.r.Epoch, U6 a0.r.Index, c, d] 242
refine wa f g (mi z (ab (tn (wp_seq (wrl (mf z underlying242 z sizeOf26 (ml z isAgg26 (a.bc0 z) (mi z ?_))))))))
obtain ⟨h, i, b⟩ := bn b
refine wc call131 [U6 a0.session, U6 a1] z z z ((eZ a.to0 i).mono ?_)
rintro _ n ⟨rfl, a⟩
refine ⟨_, z, ?_⟩
replace a := a.of0
refine mi z (ab (tn (wp_ret ?_)))
obtain rfl := sj b
exact aZ [I6 h] results201 (rc z ai) ⟨z, a.bU⟩
}
theorem kJ {a0 : (Option cm)} {p0 : Value} {a1 : Int} (c : St w0 w I [cF cd p0 a0] R) {r : (Int × Bool)} (b : eR a0 a1 = some r) :
  Calls prog 148 #[p0, U6 a1] w fun e w' => e = .returned (.tuple #[I6 r.1, .bool r.2]) ∧ St w0 w' I [cF cd p0 a0] R := by {
rcases a0 with _ | i
{
dsimp only [eR] at b
cases b
}
{
replace c := bH c
dsimp only [eR] at b
refine c0 func148 z ntmps148 (wp_seq (wrl (mi z (mb z (ab (tn (wp_seq (wp_seq (wrl (mv (p0) z ?_))))))))))
obtain ⟨p, f, rfl, F⟩ := dK c
have c := F
refine mk (.bool false) (ab (tn (ak z (wp_skip (tn (wp_seq (wrl (mp z (mp z (mf z underlying206 z sizeOf204 (ml z isAgg204 (c.bc0 z) (mi z ?_))))))))))))
obtain ⟨x, G, b⟩ := bn b
refine dj z z (dH call200 (caps := []) z (vs := [f, U6 a1, .func (.func 201) #[] #[]]) z) (Calls.mono (show Calls prog 200 #[f, U6 a1, .func (.func 201) #[] #[]] _ (fun e w' => ∃ (q : Int) (s : Bool), (q, s) = x ∧ e = .returned (.tuple #[I6 q, .bool s]) ∧ St w0 w' I [cells p [f], bg cS f i.l] R) from ?_) ?_)
{
clear b; have b := G
refine c0 func200 z ntmps200 (wp_seq (wrl (mi z (mb z (ab (tn (wp_seq (wrl (mv (f) z (mz (bZ z underlying204 c.sv1) (mi z (ab (tn (wp_seq (wrl (mi z (mi z (mi z (ab (tn ?_))))))))))))))))))))
obtain ⟨H, b, J⟩ := bn b
refine cU (fun a w => ∃ (m : Int), (jq i a1) m = some x ∧ fz 49 [0, 1, 2, 8, 9] [f, U6 a1, .func (.func 201) #[] #[], I6 ((i.l).length : Int), I6 m] a ∧ St w0 w I [bg cS f i.l, cells p [f]] R) ?_ ?_
{
refine wp_block ?_
obtain ⟨K, b⟩ := aX b
refine bm (fun n a w => ∃ (k : Int) (j : Int), cT (fp i a1) n (k, j) = some H ∧ fz 49 [0, 1, 2, 8, 9, 10] [f, U6 a1, .func (.func 201) #[] #[], I6 ((i.l).length : Int), I6 j, I6 k] a ∧ St w0 w I [cells p [f], bg cS f i.l] R) K ⟨((i.l).length : Int), 0, b, fy z, c⟩ ?_
rintro b4 _ b5 ⟨k, j, b, ⟨b6, rfl⟩, c⟩
obtain ⟨b7, b8, rfl, b, t⟩ := ba b
dsimp only [fp] at b
refine wp_seq (wp_seq (wrl (mi z (mi z (mb z (ab (tn (bs b ?_ ?_))))))))
{
intro u b
refine ar (cvb u) (wp_skip (tn (wp_block (wp_seq (wrl (mi z (mi z (mi z (mk (.int .u64 (u64.wrap (i64.wrap (j + k)))) (mi (tY (by decide) z z) (mk (.int .i64 (i64.wrap (fw .u64 (u64.wrap (i64.wrap (j + k))) 1))) (mi z (ab (tn (wp_seq (wrl (mv (.func (.func 201) #[] #[]) z (mv (f) z (mi z ?_)))))))))))))))))))
obtain ⟨g, L, b⟩ := bn b
obtain ⟨M, N, O⟩ := aP L
refine mz (aC z z underlying204 sizeOf242 c.sv1 M N) ?_
obtain ⟨b9, P, Q⟩ := c.og1 O
obtain ⟨y, A, rfl, S, T, -⟩ := P
refine mz (ay (cs := [U6 g.session, U6 g.seq, I6 g.r.E, U6 g.r.Epoch, U6 g.r.Index, y, A]) z isAgg242 sizeOf242 (dS (o := 0) Q z)) (mi z ?_)
obtain ⟨c1, U, b⟩ := bn b
refine dj z z (dH call201 (caps := []) z (vs := [.agg #[U6 g.session, U6 g.seq, I6 g.r.E, U6 g.r.Epoch, U6 g.r.Index, y, A], U6 a1]) z) ((mG (S.mono cD) (T.mono cD) c.to0 U).mono ?_)
rintro _ c2 ⟨rfl, c⟩
refine ⟨_, z, ?_⟩
replace c := c.of0
refine mb z (ab (tn (bs b ?_ ?_)))
{
intro v b
refine ar (cvb v) (wrl (mi z (mi z (mi z (ab (bF (tn ?_)))))))
replace c := c.ag.ag.ck
obtain rfl := sj b
exact ⟨_, nls, k, (i64.wrap ((i64.wrap (fw .u64 (u64.wrap (i64.wrap (j + k))) 1)) + 1)), t, fy z, c⟩
}
{
intro v b
refine ak (cvb v) (wrl (mi z (mi z (ab (bF (tn ?_))))))
replace c := c.ag.ag.ck
obtain rfl := sj b
exact ⟨_, nls, (i64.wrap (fw .u64 (u64.wrap (i64.wrap (j + k))) 1)), j, t, fy z, c⟩
}
}
{
intro u b
refine ak (cvb u) (wp_exit (aV (aV ?_)))
replace b := bo b t
refine de (tn ?_)
replace c := c.ag.ck
obtain rfl := sj b
exact ⟨j, J, fy z, c⟩
}
}
{
rintro _ c3 ⟨m, b, ⟨c4, rfl⟩, c⟩
dsimp only [jq] at b
refine wp_seq (wrl (mi z (mi z (mi z (mb z (mb z (bs b ?_ ?_)))))))
{
intro d b
refine gv (.func (.func 201) #[] #[]) d z (gv (f) d z (gi d z ?_))
obtain ⟨h, V, b⟩ := bn b
obtain ⟨W, X, Y⟩ := aP V
refine gg d (aC z z underlying204 sizeOf242 c.sv0 W X) ?_
obtain ⟨c5, Z, b0⟩ := c.og0 Y
obtain ⟨B, C, rfl, b1, b2, -⟩ := Z
refine gg d (ay (cs := [U6 h.session, U6 h.seq, I6 h.r.E, U6 h.r.Epoch, U6 h.r.Index, B, C]) z isAgg242 sizeOf242 (dS (o := 0) b0 z)) (gi d z ?_)
obtain ⟨D, b3, b⟩ := bn b
refine dj ((aw z z z (cvb d)).trans z) z (dH call201 (caps := []) z (vs := [.agg #[U6 h.session, U6 h.seq, I6 h.r.E, U6 h.r.Epoch, U6 h.r.Index, B, C], U6 a1]) z) ((mG (b1.mono cD) (b2.mono cD) c.to0 b3).mono ?_)
rintro _ c6 ⟨rfl, c⟩
refine ⟨_, z, ?_⟩
replace c := c.of0
refine gb d z (mb (aS d z z) (mi z (mb z (ab (tn (wp_ret (aZ [I6 m, .bool (D == 0)] results200 (rc z (rc z ai)) ?_)))))))
replace c := c.ag.ck
obtain rfl := sj b
exact ⟨m, (D == 0), z, z, c⟩
}
{
intro d b
refine go d (go d (go d (go d (go d (go d (go d (go d (mb (aJ d z z) (mi z (mb z (ab (tn (wp_ret (aZ [I6 m, .bool false] results200 (rc z (rc z ai)) ?_))))))))))))))
replace c := c.ag.ck
obtain rfl := sj b
exact ⟨m, false, z, z, c⟩
}
}
}
rintro _ c7 ⟨q, s, rfl, rfl, c⟩
refine ⟨_, z, ?_⟩
try dsimp only at b
refine mi z (mb z (mi z (mb z (ab (tn (wp_ret ?_))))))
replace c := aO (cZ (Pt p 0) i c.ag.ag z)
obtain rfl := sj b
exact aZ [I6 q, .bool s] results148 (rc z (rc z ai)) ⟨z, c.bu⟩
}
}
theorem lc {a0 : (List aQ)} {d : Value} {a1 : Int} {a2 : (List aQ)} {g : Value} (c : St w0 w I [bg cS d a0, bg cS g a2] R) {r : (List aQ)} (q : dW a0 a1 a2 = some r) :
  Calls prog 187 #[d, I6 a1, g] w fun e w' => ∃ (x : Value), e = .returned (x) ∧ St w0 w' I [bg cS x r] R := by {
unfold dW at q
obtain ⟨hg, q⟩ := cz q
obtain rfl := sj q
obtain ⟨A, S, hrm⟩ := qJ hg
obtain ⟨k, rfl⟩ := Int.eq_ofNat_of_zero_le A
have hsm := qM hrm
have hk : k ≤ a0.length := by omega
have hs : ∀ w : World, (sizeOf 242).run prog w = .ok cS.sz w := sizeOf242
have y : 0 < cS.sz := Nat.le_of_ble_eq_true rfl
have hov : ∀ (args : Array Value) (w : World), (callFunc 209 args).run prog w = (Extern.SlicesOverlaps.overlaps #[204, 204] #[4] args >>= fun v => (pure (.value v) : Sem Next)).run prog w := by intro args w; kernel_rfl
obtain ⟨css, hr, c⟩ := c.cB
replace c := c.ag
obtain ⟨dss, hq, c⟩ := c.cB
replace c := c.ag
obtain ⟨n, hn⟩ : ∃ n, css.length = n := ⟨_, rfl⟩
obtain ⟨m, hm'⟩ : ∃ m, dss.length = m := ⟨_, rfl⟩
have hln : a0.length = n := hr.1.trans hn
have hlm : a2.length = m := hq.1.trans hm'
rw [hln] at hsm hk
rw [hlm] at hsm
have hsv : di d n := by have := c.cG.2; rwa [hn] at this
have hsq : di g m := by have := c.ag.cG.2; rwa [hm'] at this
have hoc := hr.sY
have hoq := hq.sY
have s := wrap_add (a := n) (b := m) (by omega)
have t := wrap_add (a := k) (b := m) (by omega)
have B := pC (a := n + m) (b := k) (by omega) (by omega)
have hrb := cK (b := 88) hrm rfl
rw [hln, hlm] at hrb
refine c0 func187 z ntmps187 (wp_seq (wrl (mv ((.slice none 0 0)) z (ab (tn (wp_seq (wrl (mv (d) z (mi z (mv ((dl cS.sz d k n)) (cE (lo := (k : Nat)) (hi := (n : Nat)) underlying204 hs z hsv (by omega) (by omega) (by omega) .i64 .i64 (.inl z) (.inr ⟨z, z⟩)) (ab (tn (wp_seq (wrl (mv (g) z (mz (bZ z underlying204 hsq) (mi z (ab (tn (wp_seq (wp_seq (wrl (mi z (mb z (ab (tn (iw ((m : Int) == 0) (fun j => ?_) (fun j => ?_))))))))))))))))))))))))))))
{
refine ar (cvb j) (wp_seq (wrl (mv (d) z (mv (d) z (ab (tn (wp_ret (aN (aZ [d] results187 (rc z ai) ?_)))))))))
rw [sD (by rw [hlm]; exact j)]
exact ⟨_, z, (c.bh hr).bu⟩
}
{
refine ak (cvb j) ?_
have C : m ≠ 0 := fun h => by rw [h] at j; cases j
have D : dss ≠ [] := fun h => C (by rw [← hm', h]; rfl)
refine wp_skip (tn (wp_seq (wrl (mv (d) z (mz (bZ z underlying204 hsv) (mi z (ab (tn (wp_seq (wp_seq (wrl (mi z (mi z (mb z (ab (tn (iw ((k : Int) == (n : Int)) (fun o => ?_) (fun o => ?_))))))))))))))))))
{
refine ar (cvb o) (wp_seq (wrl (mv (d) z (mv (g) z ?_))))
replace c := ((c.bh hr).ag.bh hq).ag
obtain ⟨f, u, hra, c⟩ := bI yu underlying204 c c.ju (cK hrm z) 204
refine cb (v := f) (w' := u) z z (bX z z hra) (mv (f) z (ab (tn (wp_ret (aN (aZ [f] results187 (rc z ai) ?_))))))
rw [sK (by rw [hln]; exact o)]
exact ⟨_, z, c.bu⟩
}
{
refine ak (cvb o) ?_
have hkn : k ≠ n := fun h => by rw [h] at o; simp at o
have E : 0 < n := by omega
have F : css ≠ [] := fun h => by rw [h] at hn; simp at hn; omega
refine wp_skip (tn (wp_seq (wp_seq (wrl (mi z (mi z (mi (dy s z) (mv (d) z (mi (xa z underlying204 hsv) (mb z (ab (tn (iw (decide (((n + m : Nat) : Int) > (qL d : Int))) (fun p => ?_) (fun p => ?_))))))))))))))
{
refine ar (cvb p) (wp_seq (wrl (mv (d) z (mi z (mv ((dl cS.sz d 0 k)) (cE (lo := (0 : Nat)) (hi := (k : Nat)) underlying204 hs z hsv (by omega) (by omega) (by omega) .i64 .i64 (.inr ⟨z, z⟩) (.inl z)) (mi z (mi z (mi (dy s z) (mi z (mi (dy B z) ?_))))))))))
obtain ⟨f, u, hra, i, zss, hzl, c⟩ := qI yu underlying3 c k (n + m - k) (by omega) (by have := of_decide_eq_true p; omega) (by rw [show k + (n + m - k) = n + m by omega]; exact hrb) y 204
rw [show k + (n + m - k) = n + m by omega] at i
refine cb (v := f) (w' := u) z z (bX z z hra) (mv (f) z (ab (tn (wp_seq (wrl (mv (f) z (mi z (mv ((dl cS.sz f k (n + m))) (cE (lo := (k : Nat)) (hi := ((n + m) : Nat)) underlying204 hs z i (by omega) (by omega) (by omega) .i64 .i64 (.inl z) (.inr ⟨z, z⟩)) (mv (g) z ?_)))))))))
obtain ⟨G, H, c⟩ := dk (P := prog) (t2 := 204) (ty := 3) underlying204 hs c c.aA k m (N := n + m) (by first | omega | (simp only [List.length_append, List.length_take, List.length_drop]; omega)) (by first | omega | (simp only [List.length_append, List.length_take, List.length_drop]; omega)) (by omega) (by first | omega | (simp only [List.length_append, List.length_take, List.length_drop]; omega)) (dV hoq _)
refine cb (v := .int .i64 (m : Nat)) (w' := G) z z (iF z z H) (ab (tn (wp_seq (rg c 9 [0, 0, 0, 6, 15, 0, 0, 96, 255] [] mixed (sz (f) 0 z z (si 1 z z (si 2 z z (sh (I6 _) 3 z (fun w c => dy t z) (sh ((dl cS.sz f (k + m) (n + m))) 4 z (fun w c => cE (lo := ((k + m) : Nat)) (hi := ((n + m) : Nat)) underlying204 hs z i (by omega) (by omega) (by omega) .i64 .i64 (.inl z) (.inr ⟨z, z⟩)) (sz (d) 5 z z (si 6 z z (sh ((dl cS.sz d k n)) 7 z (fun w c => cE (lo := (k : Nat)) (hi := (n : Nat)) underlying204 hs z hsv (by omega) (by omega) (by omega) .i64 .i64 (.inl z) (.inr ⟨z, z⟩)) (e1 8 z z fun w c => ?_)))))))))))))
obtain ⟨J, K, c⟩ := dk (P := prog) (t2 := 204) (ty := 3) underlying204 hs c (c.ag.ib (l := k) (h := n) hk (by omega)) (k + m) (n - k) (N := n + m) (by first | omega | (simp only [List.length_append, List.length_take, List.length_drop]; omega)) (by first | omega | (simp only [List.length_append, List.length_take, List.length_drop]; omega)) (by omega) (by first | omega | (simp only [List.length_append, List.length_take, List.length_drop]; omega)) (dV (iW (dV hoc _) _) _)
refine bW (v := .int .i64 ((n - k) : Nat)) (w' := J) z (iF z z K) (w0n c (bp ?_))
intro w c
refine tn (wp_seq (wrl (mv (f) z (mv (f) z (ab (tn (wp_ret (aN (aZ [f] results187 (rc z ai) ?_)))))))))
rw [pw hn hm' hk hzl] at c
exact ⟨_, z, (c.bh ((hr.take k).app (hq.app (hr.drop k)))).bu⟩
}
{
refine ak (cvb p) ?_
have hup : n + m ≤ qL d := by have := of_decide_eq_false p; omega
obtain ⟨ess, hel, hem, hst'⟩ := c.uE (n + m) (by omega) hup F
rw [show n + m - css.length = m by omega] at hel
have i : di (upV d (n + m)) (n + m) := by have := hst'.cG.2; rwa [List.length_append, hn, hel] at this
clear c
have c := hst'
clear hst'
refine wp_skip (tn (wp_seq (wrl (mv (d) z (mi z (mi z (mi (dy s z) (mv ((upV d (n + m))) (pj underlying204 hs z hsv z hup E) (mv ((upV d (n + m))) z (ab (tn (wp_seq (wp_seq (wrl (mv (g) z (mv ((upV d (n + m))) z (mi z (mi z (mi (dy t z) (mv ((dl cS.sz (upV d (n + m)) (k + m) (n + m))) (cE (lo := ((k + m) : Nat)) (hi := ((n + m) : Nat)) underlying204 hs z i (by omega) (by omega) (by omega) .i64 .i64 (.inl z) (.inr ⟨z, z⟩)) (mb (wZ z z z (hov _) (mj z underlying204 hs c.ag (k + m) (N := n + m) (by rw [List.length_append]; omega) (by omega) D y)) (mb z (ab (tn (ar z (wp_seq (rg c 9 [0, 0, 0, 6, 15, 0, 0, 96, 255] [] mixed (sz ((upV d (n + m))) 0 z z (si 1 z z (si 2 z z (sh (I6 _) 3 z (fun w c => dy t z) (sh ((dl cS.sz (upV d (n + m)) (k + m) (n + m))) 4 z (fun w c => cE (lo := ((k + m) : Nat)) (hi := ((n + m) : Nat)) underlying204 hs z i (by omega) (by omega) (by omega) .i64 .i64 (.inl z) (.inr ⟨z, z⟩)) (sz ((upV d (n + m))) 5 z z (si 6 z z (sh ((dl cS.sz (upV d (n + m)) k (n + m))) 7 z (fun w c => cE (lo := (k : Nat)) (hi := ((n + m) : Nat)) underlying204 hs z i (by omega) (by omega) (by omega) .i64 .i64 (.inl z) (.inr ⟨z, z⟩)) (e1 8 z z fun w c => ?_))))))))))))))))))))))))))))))))))))
obtain ⟨L, M, c⟩ := dk (P := prog) (t2 := 204) (ty := 3) underlying204 hs c (c.ib (l := k) (h := n + m) (by omega) (by rw [List.length_append]; omega)) (k + m) (n - k) (N := n + m) (by first | omega | (simp only [List.length_append, List.length_take, List.length_drop]; omega)) (by first | omega | (simp only [List.length_append, List.length_take, List.length_drop]; omega)) (by omega) (by first | omega | (simp only [List.length_append, List.length_take, List.length_drop]; omega)) (by rw [qq hn hm' hk hel]; exact iW hoc _)
refine bW (v := .int .i64 ((n - k) : Nat)) (w' := L) z (iF z z M) (w0n c (bp ?_))
intro w c
refine tn (wp_seq (wrl (mv ((upV d (n + m))) z (mi z (mv ((dl cS.sz (upV d (n + m)) k (n + m))) (cE (lo := (k : Nat)) (hi := ((n + m) : Nat)) underlying204 hs z i (by omega) (by omega) (by omega) .i64 .i64 (.inl z) (.inr ⟨z, z⟩)) (mv (g) z ?_))))))
obtain ⟨O, Q, c⟩ := dk (P := prog) (t2 := 204) (ty := 3) underlying204 hs c c.ag k m (N := n + m) (by first | omega | (simp only [List.length_append, List.length_take, List.length_drop]; omega)) (by first | omega | (simp only [List.length_append, List.length_take, List.length_drop]; omega)) (by omega) (by first | omega | (simp only [List.length_append, List.length_take, List.length_drop]; omega)) (dV hoq _)
refine cb (v := .int .i64 (m : Nat)) (w' := O) z z (iF z z Q) (ab (tn (wp_seq (wrl (mv ((upV d (n + m))) z (mv ((upV d (n + m))) z (ab (tn (wp_ret (aN (aZ [(upV d (n + m))] results187 (rc z ai) ?_)))))))))))
rw [pu hn hm' hk hel] at c
exact ⟨_, z, (c.bh ((hr.take k).app (hq.app (hr.drop k)))).bu⟩
}
}
}
}
theorem nT {a0 : (Option cm)} {p0 : Value} {a1 a2 : Int} {a3 : bw} {h i : Value} (o : Ro aD I h a3.Gots) (p : Ro (dJ az) I i a3.Scans) (b : St w0 w I [cF cd p0 a0] R) {r : (Int × (Option cm))} (c : fk a0 a1 a2 a3 = some r) :
  Calls prog 124 #[p0, U6 a1, U6 a2, .agg #[I6 a3.E, U6 a3.Epoch, U6 a3.Index, h, i]] w fun e w' => e = .returned (.int .i64 r.1) ∧ St w0 w' I [cF cd p0 r.2] R := by {
rcases a0 with _ | k
{
dsimp only [fk] at c
cases c
}
{
replace b := bH b
dsimp only [fk] at c
refine c0 func124 z ntmps124 (wp_seq (wrl ?_))
obtain ⟨m, d3, Q, S, b⟩ := b.box [I6 a3.E, U6 a3.Epoch, U6 a3.Index, h, i] 33
refine wa Q S (mi z (ab (tn (wp_seq (wp_block (wp_seq (wrl (mv (p0) z ?_))))))))
obtain ⟨f, d4, rfl, T⟩ := dK b.ag
have b := T
refine mk (.bool false) (mb z (ab (tn (ak z (wp_seq (wrl (mi z (mb z (mb z (ab (tn (bs c ?_ ?_))))))))))))
{
intro q c
refine ar (cvb q) (wp_seq (wrl (mi z (ab (tn (wp_ret (dm (aN ?_))))))))
replace b := aO (cZ (Pt f 0) k b.ag.ag z)
obtain rfl := sj c
exact aZ [I6 1] results124 (rc z ai) ⟨z, b.bu⟩
}
{
intro q c
refine ak (cvb q) (wp_skip (bF (tn (wp_seq (wrl (mp z (mi z ?_)))))))
replace b := aO (cZ (Pt f 0) k b.ag.ag z)
obtain ⟨g, U, c⟩ := bn c
refine wc call148 [Pt f 0, U6 a1] z z z ((kJ b.to1 U).mono ?_)
rintro _ d5 ⟨rfl, b⟩
refine ⟨_, z, ?_⟩
replace b := bH b.of1
refine mv (.tuple #[I6 g.1, .bool g.2]) z (mi z (mb z (mi z (mb z (ab (tn ?_))))))
obtain ⟨d6, c, s⟩ := ec c
refine cU (fun a w =>(hQ g k a1 a2 a3) () = some r ∧ fz 66 [0, 1, 2, 7, 9, 10] [Pt f 0, U6 a1, U6 a2, Pt m 0, I6 g.1, .bool g.2] a ∧ St w0 w I [cd (Pt f 0) k, cells m [I6 a3.E, U6 a3.Epoch, U6 a3.Index, h, i]] R) ?_ ?_
{
refine wp_seq (wrl (mb z (mb z (bs c ?_ ?_))))
{
intro d c
refine gp d z ?_
obtain ⟨d7, d8, u, V⟩ := dK b
replace u := dI u
subst u
have b := V
refine gp d z (gg d (aT z underlying206 z sizeOf204 z) (gg d (aq z isAgg204 (b.bc0 z)) (gi d z ?_)))
obtain ⟨d9, W, c⟩ := bn c
obtain ⟨X, Y, Z⟩ := aP W
refine gg d (aC z z underlying204 sizeOf242 b.sv1 X Y) (gg d (aW z underlying242 z sizeOf26 z) ?_)
obtain ⟨e0, b0, b1⟩ := b.og1 Z
obtain ⟨e2, e3, rfl, e4, e5, -⟩ := b0
refine gg d (aq z isAgg26 (b1 1 _ z)) (gi d z (gb d z (mb (aS d z z) (ab (tn (bs c ?_ ?_))))))
{
intro x c
refine ar (cvb x) (wp_seq (wrl (mi z (ab (tn (wp_ret (aN ?_)))))))
replace c := bo c s
replace b := aO (cZ (Pt f 0) k b.ag.ag z)
obtain rfl := sj c
exact aZ [I6 10] results124 (rc z ai) ⟨z, b.bu⟩
}
{
intro x c
refine ak (cvb x) (wp_skip (tn ?_))
replace b := (cZ (Pt f 0) k b.ag.ag z).ag.ag.ck
obtain rfl := sj c
exact ⟨s, fy z, b⟩
}
}
{
intro d c
refine go d (go d (go d (go d (go d (go d (go d (go d (go d (go d (mb (aJ d z z) (ab (tn (ak z (wp_skip (tn ?_)))))))))))))))
replace b := b.ag.ag.ck
obtain rfl := sj c
exact ⟨s, fy z, b⟩
}
}
{
rintro _ e6 ⟨c, ⟨e7, rfl⟩, b⟩
dsimp only [hQ] at c
obtain ⟨e8, c, F⟩ := bn c
refine cU (fun a w => ∃ (n : cm), (hK g a2 a3) n = some r ∧ fz 66 [0, 2, 7, 9] [Pt f 0, U6 a2, Pt m 0, I6 g.1] a ∧ St w0 w I [cd (Pt f 0) n, cells m [I6 a3.E, U6 a3.Epoch, U6 a3.Index, h, i]] R) ?_ ?_
{
refine wp_seq (wrl (mb z (mb z (ab (tn (bs c ?_ ?_))))))
{
intro A c
refine ar (cvb A) (wrl (mp z (mp z ?_)))
obtain ⟨e9, b2, B, b3⟩ := dK b
replace B := dI B
subst B
have b := b3
refine mp z (mf z underlying206 z sizeOf204 (ml z isAgg204 (b.bc0 z) (mi z (mi z (mk (.agg #[U6 a1, Zu, Zi, Zu, Zu, Zs, Zs]) ?_)))))
have G : Ro aD I (.slice none 0 0) [] := cy
have H : Ro (dJ az) I (.slice none 0 0) [] := cy
obtain ⟨J, b4, b5, b6, b⟩ := b.ey (E := cS) (xs := [({ session := a1, seq := 0, r := bK } : aQ)]) [[U6 a1, Zu, Zi, Zu, Zu, Zs, Zs]] 242 1 z (bE.cons ⟨_, _, z, G, H, oS (ah G), oS (ah H)⟩ bE.nil)
refine cb (v := (.slice (some ⟨J, 0, none⟩) 1 1)) (w' := b4) z z (dn (by kernel_rfl) b5 b6) ?_
replace b := b.aA
obtain ⟨K, b7, c⟩ := bn c
refine wc call187 [b2, I6 g.1, (.slice (some ⟨J, 0, none⟩) 1 1)] z z z ((lc b.to2 b7).mono ?_)
rintro _ f0 ⟨L, rfl, b⟩
refine ⟨_, z, ?_⟩
replace b := b.of1
refine mp z (mf z underlying206 z sizeOf204 ?_)
replace b := b.ag
obtain ⟨f1, b8, b⟩ := b.cW (P := prog) (t := 204) (cs' := [L]) 0 L (oS b.sv1) sizeOf204 z z
refine aE z z (aG b8) (ab (tn ?_))
replace b := (cZ (Pt f 0) (({ l := K } : cm)) b.ag.ag z).ag.ag.ck
obtain rfl := sj c
exact ⟨({ l := K } : cm), F, fy z, b⟩
}
{
intro A c
refine ak (cvb A) (wp_skip (tn ?_))
replace b := b.ag.ag.ck
obtain rfl := sj c
exact ⟨k, F, fy z, b⟩
}
}
{
rintro _ f2 ⟨n, c, ⟨f3, rfl⟩, b⟩
dsimp only [hK] at c
refine wp_seq ?_
obtain ⟨f4, f5, C, b9⟩ := dK b
replace C := dI C
subst C
have b := b9
refine rg b 18 [0, 1, 3, 7, 0, 0, 32, 96, 224, 0, 0, 0, 1535, 5631, 13823, 32767, 65535, 131071] [] mixed (sp 0 z z (sp 1 z z (sf 2 z z underlying206 z sizeOf204 (sl 3 z z isAgg204 (fun w b => b.bc0 z) (si 4 z z (sp 5 z z (sp 6 z z (sf 7 z z underlying206 z sizeOf204 (sl 8 z z isAgg204 (fun w b => b.bc0 z) (si 9 z z (si 10 z z (sh _ 11 z (fun w b => ay (cs := [I6 a3.E, U6 a3.Epoch, U6 a3.Index, h, i]) z isAgg33 sizeOf33 (b.pR 0 z)) ?_))))))))))))
obtain ⟨j, c1, c⟩ := bn c
obtain ⟨M, N, D⟩ := aP c1
refine sh _ 12 z (fun w b => aC z z underlying204 sizeOf242 b.sv1 M N) (sh _ 13 z (fun w b => aW z underlying242 z sizeOf26 z) (e1 14 z z fun w b => ?_))
obtain ⟨f6, c2, f7⟩ := b.og1 D
obtain ⟨f8, f9, rfl, g0, g1, -⟩ := c2
replace b := b.ag
obtain ⟨g2, c3, b⟩ := b.oi (P := prog) (t := 26) (y := ({ j with seq := a2 } : aQ)) D 1 (.int .u64 a2) sizeOf26 (Nat.le_of_ble_eq_true z) (oC z oN) (by rintro _ ⟨c4, c5, rfl, c6, c7, c8, c9⟩; exact ⟨c4, c5, rfl, c6, c7, c8, c9⟩)
have O := AK D ({ j with seq := a2 } : aQ)
have d0 := Cg N g.1.toNat ({ j with seq := a2 } : aQ)
refine dz z (aG c3) (wn [11, 9] b (pkr z z (fun w b => ay (cs := [I6 a3.E, U6 a3.Epoch, U6 a3.Index, h, i]) z isAgg33 sizeOf33 (b.pR 0 z)) (pz bD)) (sh _ 15 z (fun w b => aC z z underlying204 sizeOf242 b.sv0 M d0) (sh _ 16 z (fun w b => aW z underlying242 z sizeOf33 z) (e1 17 z z fun w b => ?_))))
obtain ⟨g3, d1, g4⟩ := b.og0 O
obtain ⟨g5, g6, rfl, g7, g8, -⟩ := d1
obtain ⟨g9, d2, b⟩ := b.oi (P := prog) (t := 33) (y := ({ session := ({ j with seq := a2 } : aQ).session, seq := ({ j with seq := a2 } : aQ).seq, r := a3 } : aQ)) O 2 (.agg #[I6 a3.E, U6 a3.Epoch, U6 a3.Index, h, i]) sizeOf33 (Nat.le_of_ble_eq_true z) (oJ 3 z (oC (oS (ah o)) (oC (oS (ah p)) oN))) (by rintro _ ⟨h0, h1, rfl, h2, h3, h4, h5⟩; exact ⟨_, _, rfl, o, p, oS (ah o), oS (ah p)⟩)
refine dz z (aG d2) (w0n b (bp ?_))
intro w b
refine tn (wp_seq (wrl (mi z (ab (tn (wp_ret ?_))))))
replace b := aO (cZ (Pt f 0) (({ l := ((n.l.set g.1.toNat ({ j with seq := a2 } : aQ)).set g.1.toNat ({ session := ({ j with seq := a2 } : aQ).session, seq := ({ j with seq := a2 } : aQ).seq, r := a3 } : aQ)) } : cm)) b.ag z)
obtain rfl := sj c
exact aZ [Zi] results124 (rc z ai) ⟨z, b.bu⟩
}
}
}
}
}
theorem nK {a0 : (Option cm)} {p0 : Value} {a1 : Int} (a : St w0 w I [cF cd p0 a0] R) {r : (Int)} (b : eu a0 a1 = some r) :
  Calls prog 61 #[p0, U6 a1] w fun e w' => e = .returned (.int .u64 r) ∧ St w0 w' I [cF cd p0 a0] R := by {
rcases a0 with _ | f
{
dsimp only [eu] at b
cases b
}
{
replace a := bH a
dsimp only [eu] at b
refine c0 func61 z ntmps61 (wp_seq (wrl (mi z (ab (tn (wp_seq (wrl (mv (p0) z (mi z ?_)))))))))
replace a := aO a
obtain ⟨d, g, b⟩ := bn b
refine wc call148 [p0, U6 a1] z z z ((kJ a.to1 g).mono ?_)
rintro _ q ⟨rfl, a⟩
refine ⟨_, z, ?_⟩
replace a := bH a.of1
refine mv (.tuple #[I6 d.1, .bool d.2]) z (mi z (mb z (mi z (mb z (ab (tn (wp_seq (wp_seq (wrl (mb z (mb z (ab (tn (bs b ?_ ?_))))))))))))))
{
intro c b
refine ar (cvb c) (wp_seq (wrl (mi z (ab (tn (wp_ret (aN ?_)))))))
replace a := aO a
obtain rfl := sj b
exact aZ [Zu] results61 (rc z ai) ⟨z, a.bu⟩
}
{
intro c b
refine ak (cvb c) (wp_skip (tn (wp_seq (wrl (mv (p0) z ?_)))))
obtain ⟨h, s, rfl, i⟩ := dK a
have a := i
refine mp z (mf z underlying206 z sizeOf204 (ml z isAgg204 (a.bc0 z) (mi z ?_)))
obtain ⟨j, k, b⟩ := bn b
obtain ⟨l, m, n⟩ := aP k
refine mz (aC z z underlying204 sizeOf242 a.sv1 l m) (mz (aW z underlying242 z sizeOf26 z) ?_)
obtain ⟨t, o, p⟩ := a.og1 n
obtain ⟨u, v, rfl, x, y, -⟩ := o
refine ml z isAgg26 (p 1 _ z) (mi z (ab (tn (wp_ret ?_))))
replace a := aO (cZ (Pt h 0) f a.ag.ag z)
obtain rfl := sj b
exact aZ [U6 j.seq] results61 (rc z ai) ⟨z, a.bu⟩
}
}
}
theorem oV {a0 : (Option ae)} {p0 : Value} {a1 : bO} (a : St w0 w I [cF aI p0 a0] R) {r : (bj)} (b : iG a0 a1 = some r) :
  Calls prog 125 #[p0, .agg #[U6 a1.Session, U6 a1.Seq]] w fun e w' => ∃ (d : Value) (f : Value), e = .returned (.agg #[U1 r.Kind, U6 r.ID.Session, U6 r.ID.Seq, I6 r.R.E, U6 r.R.Epoch, U6 r.R.Index, d, f]) ∧ St w0 w' I [bg aD d r.R.Gots, bg (dJ az) f r.R.Scans, cF aI p0 a0] R := by {
rcases a0 with _ | g
{
dsimp only [iG] at b
cases b
}
{
replace a := bH a
dsimp only [iG] at b
refine c0 func125 z ntmps125 (wp_seq (wrl ?_))
obtain ⟨s, t, i, j, a⟩ := a.box [U6 a1.Session, U6 a1.Seq] 28
refine wa i j ?_
obtain ⟨u, v, k, l, a⟩ := a.box [Zb, Zu, Zu, Zi, Zu, Zu, Zs, Zs] 35
refine wa k l (ab (tn (wp_seq (wp_seq ?_))))
obtain ⟨h, x, y, m, A, B, C, D, rfl, n⟩ := bi a.aA
have a := n
refine rg a 10 [0, 1, 3, 7, 0, 16, 63, 0, 128, 511] [] mixed (sp 0 z z (sp 1 z z (sf 2 z z underlying111 z sizeOf105 (sl 3 z z isAgg105 (fun w a => a.bc0 z) (sf 4 z z underlying28 z sizeOf26 (sl 5 z z isAgg26 (fun w a => a.bc9 z) (sf 7 z z underlying28 z sizeOf26 (sl 8 z z isAgg26 (fun w a => a.bc9 z) (e1 6 z z fun w a => ?_)))))))))
replace a := a.au
obtain ⟨F, o, b⟩ := bn b
refine wec call61 [m, U6 a1.Session] z z ((nK a.to1 o).mono ?_)
rintro _ G ⟨rfl, a⟩
refine ⟨_, z, ?_⟩
replace a := a.of1
refine wn [8, 7] a (pkr z z (fun w a => aq z isAgg26 (a.bc9 z)) (pf z z underlying28 z sizeOf26 bD)) (sb 9 z z (bp ?_))
intro w a
refine tn (bs b ?_ ?_)
{
intro c b
refine ar (cvb c) (wp_seq (wrl (mk (.agg #[Zb, Zu, Zu, Zi, Zu, Zu, Zs, Zs]) ?_)))
replace a := a.bM
obtain ⟨H, p, a⟩ := a.bx [Zb, Zu, Zu, Zi, Zu, Zu, Zs, Zs] sizeOf35 z (oJ 8 z oN) (by kernel_rfl)
refine aE z z (aG p) (ab (tn (wp_ret (aN ?_))))
replace a := aO (av (Pt h 0) g ((a.bd aD).bd (dJ az)).bz.bz.bz.bz.aL.bz.bz.bz z)
obtain rfl := sj b
refine aZ [.agg #[Zb, Zu, Zu, Zi, Zu, Zu, Zs, Zs]] results125 (bq (bJ (cs := [Zb, Zu, Zu, Zi, Zu, Zu, Zs, Zs]) z isAgg35 sizeOf35 (a.rI 0 z)) ai) ?_
replace a := a.ag.aA
exact ⟨(.slice none 0 0), Zs, z, a.dF⟩
}
{
intro c b
refine ak (cvb c) (wp_skip (tn (wp_seq (wrl (mz (ay (cs := [U6 a1.Session, U6 a1.Seq]) z isAgg28 sizeOf28 (a.vX 0 z)) (mk (.agg #[I6 10, Zu, Zu, Zs, Zs]) (mk (.agg #[U1 4, U6 a1.Session, U6 a1.Seq, I6 10, Zu, Zu, Zs, Zs]) ?_)))))))
replace a := a.bM
obtain ⟨J, q, a⟩ := a.bx [U1 4, U6 a1.Session, U6 a1.Seq, I6 10, Zu, Zu, Zs, Zs] sizeOf35 z (oJ 8 z oN) (by kernel_rfl)
refine aE z z (aG q) (ab (tn (wp_ret ?_)))
replace a := aO (av (Pt h 0) g ((a.bd aD).bd (dJ az)).bz.bz.bz.bz.aL.bz.bz.bz z)
obtain rfl := sj b
refine aZ [.agg #[U1 4, U6 a1.Session, U6 a1.Seq, I6 10, Zu, Zu, Zs, Zs]] results125 (bq (bJ (cs := [U1 4, U6 a1.Session, U6 a1.Seq, I6 10, Zu, Zu, Zs, Zs]) z isAgg35 sizeOf35 (a.rI 0 z)) ai) ?_
replace a := a.ag.aA
exact ⟨(.slice none 0 0), Zs, z, a.dF⟩
}
}
}
theorem mX {a0 : (List ee)} {c : Value} (h : RdO cM R I c a0) (a : St w0 w I [] R) {r : (List ee)} (d : dZ a0 = some r) :
  Calls prog 126 #[c] w fun e w' => ∃ (i : Value), e = .returned (i) ∧ St w0 w' I [bg cM i r] R := by {
unfold dZ at d
obtain ⟨hg, d⟩ := cz d
obtain rfl := sj d
have hsv := tG h
refine c0 func126 z ntmps126 (wp_seq (wrl (mv ((.slice none 0 0)) z (ab (tn (wp_seq (wp_seq (wrl (mv (c) z (mb (tX z hsv z underlying47) (ab (tn (iw (isNil c) (fun f => ?_) (fun f => ?_))))))))))))))
{
refine ar (cvb f) (wp_seq (wrl (mv ((.slice none 0 0)) z (ab (tn (wp_ret (aN (aZ [Zs] results126 (rc z ai) ?_))))))))
obtain rfl := List.eq_nil_of_length_eq_zero (qA hsv f)
exact ⟨_, z, (a.bd cM).bu⟩
}
{
refine ak (cvb f) (wp_skip (tn (wp_seq (wrl ?_))))
obtain ⟨b, j, ew, eb, a⟩ := a.ey (E := cM) (xs := []) [] 156 0 z bE.nil
refine cb (v := (.slice (some ⟨b, 0, none⟩) 0 0)) (w' := j) z z (dn (by kernel_rfl) ew eb) (mv (c) z ?_)
obtain ⟨g, k, hr, a⟩ := bI zW underlying47 a (Src.CL a h) (cK hg z) 47
refine cb (v := g) (w' := k) z z (bX z z hr) (mv (g) z (ab (tn (wp_ret (aZ [g] results126 (rc z ai) ?_)))))
rw [List.nil_append] at a
exact ⟨_, z, a.bu⟩
}
}
theorem nW {a0 : bC} {c : Value} {a1 : bO} (u : Rd cM R I c a0.Parts) (a : St w0 w I [] R) {r : (Int)} (b : ij a0 a1 = some r) :
  Calls prog 129 #[.agg #[U6 a0.ID.Session, U6 a0.ID.Seq, I6 a0.E, U6 a0.Epoch, U6 a0.Index, U6 a0.Shards, c], .agg #[U6 a1.Session, U6 a1.Seq]] w fun e w' => e = .returned (.int .i64 r) ∧ St w0 w' I [] R := by {
unfold ij at b
refine c0 func129 z ntmps129 (wp_seq (wrl ?_))
obtain ⟨x, y, i, j, a⟩ := a.box [U6 a0.ID.Session, U6 a0.ID.Seq, I6 a0.E, U6 a0.Epoch, U6 a0.Index, U6 a0.Shards, c] 89
refine wa i j ?_
obtain ⟨A, B, k, l, a⟩ := a.box [U6 a1.Session, U6 a1.Seq] 28
refine wa k l (mi z (ab (tn (wp_seq (rg a 15 [0, 1, 3, 0, 8, 31, 0, 64, 192, 0, 512, 2047, 4095, 8191, 16383] [] mixed (sf 0 z z underlying89 z sizeOf28 (sf 1 z z underlying28 z sizeOf26 (sl 2 z z isAgg26 (fun w a => a.bc1 z) (sf 3 z z underlying28 z sizeOf26 (sl 4 z z isAgg26 (fun w a => a.bc0 z) (sf 6 z z underlying89 z sizeOf28 (sf 7 z z underlying28 z sizeOf26 (sl 8 z z isAgg26 (fun w a => a.bc1 z) (sf 9 z z underlying28 z sizeOf26 (sl 10 z z isAgg26 (fun w a => a.bc0 z) (e1 5 z z fun w a => ?_))))))))))))))))
obtain ⟨d, m, b⟩ := bn b
refine wec call131 [U6 a0.ID.Session, U6 a1.Session] z z ((eZ a.to0 m).mono ?_)
rintro _ C ⟨rfl, a⟩
refine ⟨_, z, ?_⟩
replace a := a.of0
refine wn [10, 9, 8, 7, 6] a (pkr z z (fun w a => aq z isAgg26 (a.bc0 z)) (pf z z underlying28 z sizeOf26 (pkr z z (fun w a => aq z isAgg26 (a.bc1 z)) (pf z z underlying28 z sizeOf26 (pf z z underlying89 z sizeOf28 bD))))) (e1 11 z z fun w a => ?_)
obtain ⟨f, n, b⟩ := bn b
refine wec call131 [U6 a0.ID.Seq, U6 a1.Seq] z z ((eZ a.to0 n).mono ?_)
rintro _ D ⟨rfl, a⟩
refine ⟨_, z, ?_⟩
replace a := a.of0
refine w0n a (e1 12 z z fun w a => ?_)
obtain ⟨g, o, p, q, a⟩ := a.ey (E := (cp .i64)) (xs := [d, f]) [[I6 d], [I6 f]] 3 2 z (bE.cons z (bE.cons z bE.nil))
refine bW (v := (.slice (some ⟨g, 0, none⟩) 2 2)) (w' := o) z (dn (by kernel_rfl) p q) (w0n a (e1 13 z z fun w a => ?_))
obtain ⟨F, h, a⟩ := a.cB
obtain ⟨s, t, b⟩ := bn b
refine wec call130 [(.slice (some ⟨g, 0, none⟩) 2 2)] z z ((sd (a.nc h) a.to0 t).mono ?_)
rintro _ G ⟨rfl, a⟩
refine ⟨_, z, ?_⟩
replace a := a.of0.bh h
refine w0n a (si 14 z z (bp ?_))
intro w a
refine tn (wp_ret ?_)
obtain rfl := sj b
exact aZ [I6 s] results129 (rc z ai) ⟨z, a.bU⟩
}
theorem oW {a0 : (Option ae)} {p0 : Value} {a1 : bO} (b : St w0 w I [cF aI p0 a0] R) {r : (Int × Bool)} (c : gG a0 a1 = some r) :
  Calls prog 51 #[p0, .agg #[U6 a1.Session, U6 a1.Seq]] w fun e w' => e = .returned (.tuple #[I6 r.1, .bool r.2]) ∧ St w0 w' I [cF aI p0 a0] R := by {
rcases a0 with _ | d
{
dsimp only [gG] at c
cases c
}
{
replace b := bH b
dsimp only [gG] at c
refine c0 func51 z ntmps51 (wp_seq (wrl ?_))
obtain ⟨C, c4, N, O, b⟩ := b.box [U6 a1.Session, U6 a1.Seq] 28
refine wa N O (mi z (mb z (ab (tn (wp_seq ?_)))))
obtain ⟨v, m, p, q, s, g, t, u, rfl, P⟩ := bi b.ag
have b := P
refine rg b 10 [0, 1, 3, 7, 0, 31, 63, 63, 255, 511] [] mixed (sp 0 z z (sp 1 z z (sf 2 z z underlying111 z sizeOf65 (sl 3 z z isAgg65 (fun w b => b.bc0 z) (sh _ 4 z (fun w b => ay (cs := [U6 a1.Session, U6 a1.Seq]) z isAgg28 sizeOf28 (b.wC 0 z)) (e1 5 z z fun w b => ?_))))))
obtain ⟨J, Q, c⟩ := bn c
refine oy z (dH call128 (caps := []) z (vs := [g, .agg #[U6 a1.Session, U6 a1.Seq], .func (.func 129) #[] #[]]) z) (Calls.mono (show Calls prog 128 #[g, .agg #[U6 a1.Session, U6 a1.Seq], .func (.func 129) #[] #[]] _ (fun e w' => ∃ (x : Int) (y : Bool), (x, y) = J ∧ e = .returned (.tuple #[I6 x, .bool y]) ∧ St w0 w' I [cells v [I6 d.wide, U6 d.epoch, m, p, q, s, g, t, u], cF cL m d.store, cF bT p d.locks, cF cd q d.last, cF cO s d.book, bg aM g d.open_, bg cj t d.out, bg cJ u d.used, cells C [U6 a1.Session, U6 a1.Seq]] R) from ?_) ?_)
{
clear c; have c := Q
refine c0 func128 z ntmps128 (wp_seq (wrl ?_))
obtain ⟨A, c5, S, T, b⟩ := b.box [U6 a1.Session, U6 a1.Seq] 28
refine wa S T (mi z (mb z (ab (tn (wp_seq (wrl (mv (g) z (mz (bZ z underlying65 b.sv6) (mi z (ab (tn (wp_seq (wrl (mi z (mi z (mi z (ab (tn ?_))))))))))))))))))
obtain ⟨U, c, V⟩ := bn c
refine cU (fun a w => ∃ (l : Int), (kC d a1) l = some J ∧ fz 49 [0, 2, 4, 8, 9] [g, .func (.func 129) #[] #[], Pt A 0, I6 ((d.open_).length : Int), I6 l] a ∧ St w0 w I [bg aM g d.open_, cells A [U6 a1.Session, U6 a1.Seq], cells v [I6 d.wide, U6 d.epoch, m, p, q, s, g, t, u], cF cL m d.store, cF bT p d.locks, cF cd q d.last, cF cO s d.book, bg cj t d.out, bg cJ u d.used, cells C [U6 a1.Session, U6 a1.Seq]] R) ?_ ?_
{
refine wp_block ?_
obtain ⟨W, c⟩ := aX c
refine bm (fun n a w => ∃ (k : Int) (j : Int), cT (gN d a1) n (k, j) = some U ∧ fz 49 [0, 2, 4, 8, 9, 10] [g, .func (.func 129) #[] #[], Pt A 0, I6 ((d.open_).length : Int), I6 j, I6 k] a ∧ St w0 w I [cells A [U6 a1.Session, U6 a1.Seq], cells v [I6 d.wide, U6 d.epoch, m, p, q, s, g, t, u], cF cL m d.store, cF bT p d.locks, cF cd q d.last, cF cO s d.book, bg aM g d.open_, bg cj t d.out, bg cJ u d.used, cells C [U6 a1.Session, U6 a1.Seq]] R) W ⟨((d.open_).length : Int), 0, c, fy z, b⟩ ?_
rintro c6 _ c7 ⟨k, j, c, ⟨c8, rfl⟩, b⟩
obtain ⟨c9, d0, rfl, c, D⟩ := ba c
dsimp only [gN] at c
refine wp_seq (wp_seq (wrl (mi z (mi z (mb z (ab (tn (bs c ?_ ?_))))))))
{
intro F c
refine ar (cvb F) (wp_skip (tn (wp_block (wp_seq (wrl (mi z (mi z (mi z (mk (.int .u64 (u64.wrap (i64.wrap (j + k)))) (mi (tY (by decide) z z) (mk (.int .i64 (i64.wrap (fw .u64 (u64.wrap (i64.wrap (j + k))) 1))) (mi z (ab (tn (wp_seq ?_)))))))))))))))
replace b := b.da
obtain ⟨d1, G, b⟩ := b.cB
refine rg b 8 [0, 0, 0, 6, 14, 0, 63, 127] [] mixed (sz (.func (.func 129) #[] #[]) 0 z z (sz (g) 1 z z (si 2 z z ?_)))
obtain ⟨h, X, c⟩ := bn c
obtain ⟨Y, Z, b0⟩ := aP X
refine sh _ 3 z (fun w b => aC z z underlying65 sizeOf89 (b.rsv 0 z G) Y Z) ?_
obtain ⟨d2, b1, b2⟩ := bE.get G b0
obtain ⟨K, rfl, b3, -⟩ := b2
refine sh _ 4 z (fun w b => ay (cs := [U6 h.ID.Session, U6 h.ID.Seq, I6 h.E, U6 h.Epoch, U6 h.Index, U6 h.Shards, K]) z isAgg89 sizeOf89 (dS (o := 0) (b.uG 0 z b1) z)) (sh _ 5 z (fun w b => ay (cs := [U6 a1.Session, U6 a1.Seq]) z isAgg28 sizeOf28 (b.eK 0 z)) (e1 6 z z fun w b => ?_))
obtain ⟨d3, b4, c⟩ := bn c
refine oy z (dH call129 (caps := []) z (vs := [.agg #[U6 h.ID.Session, U6 h.ID.Seq, I6 h.E, U6 h.Epoch, U6 h.Index, U6 h.Shards, K], .agg #[U6 a1.Session, U6 a1.Seq]]) z) ((nW (b3.mono cD) b.to0 b4).mono ?_)
rintro _ d4 ⟨rfl, b⟩
refine ⟨_, z, ?_⟩
replace b := b.of0
refine w0n b (sb 7 z z (bp ?_))
intro w b
replace b := b.bh G
refine tn (bs c ?_ ?_)
{
intro H c
refine ar (cvb H) (wrl (mi z (mi z (mi z (ab (bF (tn ?_)))))))
replace b := b.bS.bS.bS.au.bS.bS.bS.bS.bS.bS.ui
obtain rfl := sj c
exact ⟨_, nls, k, (i64.wrap ((i64.wrap (fw .u64 (u64.wrap (i64.wrap (j + k))) 1)) + 1)), D, fy z, b⟩
}
{
intro H c
refine ak (cvb H) (wrl (mi z (mi z (ab (bF (tn ?_))))))
replace b := b.bS.bS.bS.au.bS.bS.bS.bS.bS.bS.ui
obtain rfl := sj c
exact ⟨_, nls, (i64.wrap (fw .u64 (u64.wrap (i64.wrap (j + k))) 1)), j, D, fy z, b⟩
}
}
{
intro F c
refine ak (cvb F) (wp_exit (aV (aV ?_)))
replace c := bo c D
refine de (tn ?_)
replace b := b.bS.bS.bS.bM.bM.bM.bM.bM.bM.bS.ui
obtain rfl := sj c
exact ⟨j, V, fy z, b⟩
}
}
{
rintro _ d5 ⟨l, c, ⟨d6, rfl⟩, b⟩
dsimp only [kC] at c
refine wp_seq ?_
obtain ⟨d7, B, b⟩ := b.cB
refine rg b 16 [0, 0, 0, 6, 14, 30, 30, 30, 222, 478, 30, 2046, 4094, 8190, 4095, 32767] [] mixed (si 0 z z (si 1 z z (si 2 z z (sb 3 z z (sb 4 z z (bs c ?_ ?_))))))
{
intro f c
refine sgz (.func (.func 129) #[] #[]) 5 z f z (sgz g 6 z f z (sgz (I6 _) 7 z f z ?_))
obtain ⟨i, b5, c⟩ := bn c
obtain ⟨b6, b7, b8⟩ := aP b5
refine sg _ 8 z f (fun w b => aC z z underlying65 sizeOf89 (b.rsv 0 z B) b6 b7) ?_
obtain ⟨d8, b9, c1⟩ := bE.get B b8
obtain ⟨L, rfl, c2, -⟩ := c1
refine sg _ 9 z f (fun w b => ay (cs := [U6 i.ID.Session, U6 i.ID.Seq, I6 i.E, U6 i.Epoch, U6 i.Index, U6 i.Shards, L]) z isAgg89 sizeOf89 (dS (o := 0) (b.uG 0 z b9) z)) (sg _ 10 z f (fun w b => ay (cs := [U6 a1.Session, U6 a1.Seq]) z isAgg28 sizeOf28 (b.eK 0 z)) (hJ 11 (by kernel_rfl) (nxe [12, 13, 14, 15] (by kernel_rfl) z ((aw z z z (cvb f)).trans z) ?_)))
clear b
intro w b
obtain ⟨M, c3, c⟩ := bn c
refine oy z (dH call129 (caps := []) z (vs := [.agg #[U6 i.ID.Session, U6 i.ID.Seq, I6 i.E, U6 i.Epoch, U6 i.Index, U6 i.Shards, L], .agg #[U6 a1.Session, U6 a1.Seq]]) z) ((nW (c2.mono cD) b.to0 c3).mono ?_)
rintro _ d9 ⟨rfl, b⟩
refine ⟨_, z, ?_⟩
replace b := b.of0
refine wn [0] b (pz bD) (sgz (.bool _) 12 z f z (sh (.bool _) 13 z (fun w b => aS f z z) (si 14 z z (sb 15 z z (bp ?_)))))
intro w b
replace b := b.bh B
refine tn (wp_ret (aZ [I6 l, .bool (M == 0)] results128 (rc z (rc z ai)) ?_))
replace b := b.bS.bS.bS.au.bS.bS.bS.bS.bS.rj
obtain rfl := sj c
exact ⟨l, (M == 0), z, z, b⟩
}
{
intro f c
refine so 5 z f (so 6 z f (so 7 z f (so 8 z f (so 9 z f (so 10 z f (so 11 z f (so 12 z f (sh (.bool _) 13 z (fun w b => aJ f z z) (si 14 z z (sb 15 z z (bp ?_)))))))))))
intro w b
replace b := b.bh B
refine tn (wp_ret (aZ [I6 l, .bool false] results128 (rc z (rc z ai)) ?_))
replace b := b.bS.bS.bS.au.bS.bS.bS.bS.bS.rj
obtain rfl := sj c
exact ⟨l, false, z, z, b⟩
}
}
}
rintro _ e0 ⟨x, y, rfl, rfl, b⟩
refine ⟨_, z, ?_⟩
try dsimp only at c
refine w0n b (si 6 z z (sb 7 z z (si 8 z z (sb 9 z z (bp ?_)))))
intro w b
refine tn (wp_ret ?_)
replace b := aO (av (Pt v 0) d b.aL.aL.aL.aL.aL.aL.aL.aL z)
obtain rfl := sj c
exact aZ [I6 x, .bool y] results51 (rc z (rc z ai)) ⟨z, b.bu⟩
}
}
theorem kw {a0 : (List bC)} {d : Value} {a1 : Int} {a2 : (List bC)} {g : Value} (c : St w0 w I [bg aM d a0, bg aM g a2] R) {r : (List bC)} (q : dr a0 a1 a2 = some r) :
  Calls prog 127 #[d, I6 a1, g] w fun e w' => ∃ (x : Value), e = .returned (x) ∧ St w0 w' I [bg aM x r] R := by {
unfold dr at q
obtain ⟨hg, q⟩ := cz q
obtain rfl := sj q
obtain ⟨A, S, hrm⟩ := qJ hg
obtain ⟨k, rfl⟩ := Int.eq_ofNat_of_zero_le A
have hsm := qM hrm
have hk : k ≤ a0.length := by omega
have hs : ∀ w : World, (sizeOf 89).run prog w = .ok aM.sz w := sizeOf89
have y : 0 < aM.sz := Nat.le_of_ble_eq_true rfl
have hov : ∀ (args : Array Value) (w : World), (callFunc 188 args).run prog w = (Extern.SlicesOverlaps.overlaps #[65, 65] #[4] args >>= fun v => (pure (.value v) : Sem Next)).run prog w := by intro args w; kernel_rfl
obtain ⟨css, hr, c⟩ := c.cB
replace c := c.ag
obtain ⟨dss, hq, c⟩ := c.cB
replace c := c.ag
obtain ⟨n, hn⟩ : ∃ n, css.length = n := ⟨_, rfl⟩
obtain ⟨m, hm'⟩ : ∃ m, dss.length = m := ⟨_, rfl⟩
have hln : a0.length = n := hr.1.trans hn
have hlm : a2.length = m := hq.1.trans hm'
rw [hln] at hsm hk
rw [hlm] at hsm
have hsv : di d n := by have := c.cG.2; rwa [hn] at this
have hsq : di g m := by have := c.ag.cG.2; rwa [hm'] at this
have hoc := hr.sY
have hoq := hq.sY
have s := wrap_add (a := n) (b := m) (by omega)
have t := wrap_add (a := k) (b := m) (by omega)
have B := pC (a := n + m) (b := k) (by omega) (by omega)
have hrb := cK (b := 72) hrm rfl
rw [hln, hlm] at hrb
refine c0 func127 z ntmps127 (wp_seq (wrl (mv ((.slice none 0 0)) z (ab (tn (wp_seq (wrl (mv (d) z (mi z (mv ((dl aM.sz d k n)) (cE (lo := (k : Nat)) (hi := (n : Nat)) underlying65 hs z hsv (by omega) (by omega) (by omega) .i64 .i64 (.inl z) (.inr ⟨z, z⟩)) (ab (tn (wp_seq (wrl (mv (g) z (mz (bZ z underlying65 hsq) (mi z (ab (tn (wp_seq (wp_seq (wrl (mi z (mb z (ab (tn (iw ((m : Int) == 0) (fun j => ?_) (fun j => ?_))))))))))))))))))))))))))))
{
refine ar (cvb j) (wp_seq (wrl (mv (d) z (mv (d) z (ab (tn (wp_ret (aN (aZ [d] results127 (rc z ai) ?_)))))))))
rw [sD (by rw [hlm]; exact j)]
exact ⟨_, z, (c.bh hr).bu⟩
}
{
refine ak (cvb j) ?_
have C : m ≠ 0 := fun h => by rw [h] at j; cases j
have D : dss ≠ [] := fun h => C (by rw [← hm', h]; rfl)
refine wp_skip (tn (wp_seq (wrl (mv (d) z (mz (bZ z underlying65 hsv) (mi z (ab (tn (wp_seq (wp_seq (wrl (mi z (mi z (mb z (ab (tn (iw ((k : Int) == (n : Int)) (fun o => ?_) (fun o => ?_))))))))))))))))))
{
refine ar (cvb o) (wp_seq (wrl (mv (d) z (mv (g) z ?_))))
replace c := ((c.bh hr).ag.bh hq).ag
obtain ⟨f, u, hra, c⟩ := bI sE underlying65 c c.ju (cK hrm z) 65
refine cb (v := f) (w' := u) z z (bX z z hra) (mv (f) z (ab (tn (wp_ret (aN (aZ [f] results127 (rc z ai) ?_))))))
rw [sK (by rw [hln]; exact o)]
exact ⟨_, z, c.bu⟩
}
{
refine ak (cvb o) ?_
have hkn : k ≠ n := fun h => by rw [h] at o; simp at o
have E : 0 < n := by omega
have F : css ≠ [] := fun h => by rw [h] at hn; simp at hn; omega
refine wp_skip (tn (wp_seq (wp_seq (wrl (mi z (mi z (mi (dy s z) (mv (d) z (mi (xa z underlying65 hsv) (mb z (ab (tn (iw (decide (((n + m : Nat) : Int) > (qL d : Int))) (fun p => ?_) (fun p => ?_))))))))))))))
{
refine ar (cvb p) (wp_seq (wrl (mv (d) z (mi z (mv ((dl aM.sz d 0 k)) (cE (lo := (0 : Nat)) (hi := (k : Nat)) underlying65 hs z hsv (by omega) (by omega) (by omega) .i64 .i64 (.inr ⟨z, z⟩) (.inl z)) (mi z (mi z (mi (dy s z) (mi z (mi (dy B z) ?_))))))))))
obtain ⟨f, u, hra, i, zss, hzl, c⟩ := qI sE underlying3 c k (n + m - k) (by omega) (by have := of_decide_eq_true p; omega) (by rw [show k + (n + m - k) = n + m by omega]; exact hrb) y 65
rw [show k + (n + m - k) = n + m by omega] at i
refine cb (v := f) (w' := u) z z (bX z z hra) (mv (f) z (ab (tn (wp_seq (wrl (mv (f) z (mi z (mv ((dl aM.sz f k (n + m))) (cE (lo := (k : Nat)) (hi := ((n + m) : Nat)) underlying65 hs z i (by omega) (by omega) (by omega) .i64 .i64 (.inl z) (.inr ⟨z, z⟩)) (mv (g) z ?_)))))))))
obtain ⟨G, H, c⟩ := dk (P := prog) (t2 := 65) (ty := 3) underlying65 hs c c.aA k m (N := n + m) (by first | omega | (simp only [List.length_append, List.length_take, List.length_drop]; omega)) (by first | omega | (simp only [List.length_append, List.length_take, List.length_drop]; omega)) (by omega) (by first | omega | (simp only [List.length_append, List.length_take, List.length_drop]; omega)) (dV hoq _)
refine cb (v := .int .i64 (m : Nat)) (w' := G) z z (iF z z H) (ab (tn (wp_seq (rg c 9 [0, 0, 0, 6, 15, 0, 0, 96, 255] [] mixed (sz (f) 0 z z (si 1 z z (si 2 z z (sh (I6 _) 3 z (fun w c => dy t z) (sh ((dl aM.sz f (k + m) (n + m))) 4 z (fun w c => cE (lo := ((k + m) : Nat)) (hi := ((n + m) : Nat)) underlying65 hs z i (by omega) (by omega) (by omega) .i64 .i64 (.inl z) (.inr ⟨z, z⟩)) (sz (d) 5 z z (si 6 z z (sh ((dl aM.sz d k n)) 7 z (fun w c => cE (lo := (k : Nat)) (hi := (n : Nat)) underlying65 hs z hsv (by omega) (by omega) (by omega) .i64 .i64 (.inl z) (.inr ⟨z, z⟩)) (e1 8 z z fun w c => ?_)))))))))))))
obtain ⟨J, K, c⟩ := dk (P := prog) (t2 := 65) (ty := 3) underlying65 hs c (c.ag.ib (l := k) (h := n) hk (by omega)) (k + m) (n - k) (N := n + m) (by first | omega | (simp only [List.length_append, List.length_take, List.length_drop]; omega)) (by first | omega | (simp only [List.length_append, List.length_take, List.length_drop]; omega)) (by omega) (by first | omega | (simp only [List.length_append, List.length_take, List.length_drop]; omega)) (dV (iW (dV hoc _) _) _)
refine bW (v := .int .i64 ((n - k) : Nat)) (w' := J) z (iF z z K) (w0n c (bp ?_))
intro w c
refine tn (wp_seq (wrl (mv (f) z (mv (f) z (ab (tn (wp_ret (aN (aZ [f] results127 (rc z ai) ?_)))))))))
rw [pw hn hm' hk hzl] at c
exact ⟨_, z, (c.bh ((hr.take k).app (hq.app (hr.drop k)))).bu⟩
}
{
refine ak (cvb p) ?_
have hup : n + m ≤ qL d := by have := of_decide_eq_false p; omega
obtain ⟨ess, hel, hem, hst'⟩ := c.uE (n + m) (by omega) hup F
rw [show n + m - css.length = m by omega] at hel
have i : di (upV d (n + m)) (n + m) := by have := hst'.cG.2; rwa [List.length_append, hn, hel] at this
clear c
have c := hst'
clear hst'
refine wp_skip (tn (wp_seq (wrl (mv (d) z (mi z (mi z (mi (dy s z) (mv ((upV d (n + m))) (pj underlying65 hs z hsv z hup E) (mv ((upV d (n + m))) z (ab (tn (wp_seq (wp_seq (wrl (mv (g) z (mv ((upV d (n + m))) z (mi z (mi z (mi (dy t z) (mv ((dl aM.sz (upV d (n + m)) (k + m) (n + m))) (cE (lo := ((k + m) : Nat)) (hi := ((n + m) : Nat)) underlying65 hs z i (by omega) (by omega) (by omega) .i64 .i64 (.inl z) (.inr ⟨z, z⟩)) (mb (wZ z z z (hov _) (mj z underlying65 hs c.ag (k + m) (N := n + m) (by rw [List.length_append]; omega) (by omega) D y)) (mb z (ab (tn (ar z (wp_seq (rg c 9 [0, 0, 0, 6, 15, 0, 0, 96, 255] [] mixed (sz ((upV d (n + m))) 0 z z (si 1 z z (si 2 z z (sh (I6 _) 3 z (fun w c => dy t z) (sh ((dl aM.sz (upV d (n + m)) (k + m) (n + m))) 4 z (fun w c => cE (lo := ((k + m) : Nat)) (hi := ((n + m) : Nat)) underlying65 hs z i (by omega) (by omega) (by omega) .i64 .i64 (.inl z) (.inr ⟨z, z⟩)) (sz ((upV d (n + m))) 5 z z (si 6 z z (sh ((dl aM.sz (upV d (n + m)) k (n + m))) 7 z (fun w c => cE (lo := (k : Nat)) (hi := ((n + m) : Nat)) underlying65 hs z i (by omega) (by omega) (by omega) .i64 .i64 (.inl z) (.inr ⟨z, z⟩)) (e1 8 z z fun w c => ?_))))))))))))))))))))))))))))))))))))
obtain ⟨L, M, c⟩ := dk (P := prog) (t2 := 65) (ty := 3) underlying65 hs c (c.ib (l := k) (h := n + m) (by omega) (by rw [List.length_append]; omega)) (k + m) (n - k) (N := n + m) (by first | omega | (simp only [List.length_append, List.length_take, List.length_drop]; omega)) (by first | omega | (simp only [List.length_append, List.length_take, List.length_drop]; omega)) (by omega) (by first | omega | (simp only [List.length_append, List.length_take, List.length_drop]; omega)) (by rw [qq hn hm' hk hel]; exact iW hoc _)
refine bW (v := .int .i64 ((n - k) : Nat)) (w' := L) z (iF z z M) (w0n c (bp ?_))
intro w c
refine tn (wp_seq (wrl (mv ((upV d (n + m))) z (mi z (mv ((dl aM.sz (upV d (n + m)) k (n + m))) (cE (lo := (k : Nat)) (hi := ((n + m) : Nat)) underlying65 hs z i (by omega) (by omega) (by omega) .i64 .i64 (.inl z) (.inr ⟨z, z⟩)) (mv (g) z ?_))))))
obtain ⟨O, Q, c⟩ := dk (P := prog) (t2 := 65) (ty := 3) underlying65 hs c c.ag k m (N := n + m) (by first | omega | (simp only [List.length_append, List.length_take, List.length_drop]; omega)) (by first | omega | (simp only [List.length_append, List.length_take, List.length_drop]; omega)) (by omega) (by first | omega | (simp only [List.length_append, List.length_take, List.length_drop]; omega)) (dV hoq _)
refine cb (v := .int .i64 (m : Nat)) (w' := O) z z (iF z z Q) (ab (tn (wp_seq (wrl (mv ((upV d (n + m))) z (mv ((upV d (n + m))) z (ab (tn (wp_ret (aN (aZ [(upV d (n + m))] results127 (rc z ai) ?_)))))))))))
rw [pu hn hm' hk hel] at c
exact ⟨_, z, (c.bh ((hr.take k).app (hq.app (hr.drop k)))).bu⟩
}
}
}
}
end Go.Proofs.YtgnkkopjkgdieaaGreat
