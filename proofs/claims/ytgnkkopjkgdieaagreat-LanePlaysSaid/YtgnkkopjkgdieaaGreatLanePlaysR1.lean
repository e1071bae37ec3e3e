/- A part of the proof. -/
import Derived.Test.YtgnkkopjkgdieaaGreatLanePlaysR0
set_option linter.unusedVariables false
set_option linter.unusedSimpArgs false
set_option maxRecDepth 100000
set_option maxHeartbeats 4000000
namespace Go.Proofs.YtgnkkopjkgdieaaGreat
open Go Go.V
open _root_.Go.Proofs.Tryz IntKind
variable {w0 w : World} {I : HL} {R : SP}
attribute [local irreducible] wpList Code.wp wpQuiet Calls bodyPost Oper.wp wpS Nx gI YieldsIn
theorem sn {a0 : (Option cg)} {p0 : Value} {a1 : ap} {k m p q : Value} (b8 : Rd bY R I k a1.Gets) (b9 : Rd gB R I m a1.Scans) (c1 : Rd bY R I p a1.Puts) (c2 : Rd (cp .u8) R I q a1.Data) (b : St w0 w I [cF bT p0 a0] R) {r : (Int × (Option cg))} (c : gT a0 a1 = some r) :
  Calls prog 58 #[p0, .agg #[U6 a1.ID.Session, U6 a1.ID.Seq, U6 a1.Epoch, k, m, p, q]] w fun e w' => ∃ (I' : HL), e = .returned (.int .i64 r.1) ∧ I.le I' ∧ St w0 w' I' [cF bT p0 r.2] R := by {
rcases a0 with _ | s
{
dsimp only [gT] at c
cases c
}
{
replace b := bH b
dsimp only [gT] at c
refine c0 func58 z ntmps58 ?_
have d := HL.le.refl I
refine wp_seq (wrl ?_)
obtain ⟨J, h2, d4, d5, b⟩ := b.box [U6 a1.ID.Session, U6 a1.ID.Seq, U6 a1.Epoch, k, m, p, q] 46
refine wa d4 d5 (mi z (ab (tn (wp_seq (wp_seq (wrl (mv (p0) z ?_)))))))
obtain ⟨g, V, rfl, d6⟩ := dE b.ag
have b := d6
refine mk (.bool false) (ab (tn (ak z (wp_skip (tn ?_)))))
obtain ⟨d7, c, c3⟩ := ec c
refine cU (fun a w =>(iH a1 s) () = some r ∧ fz 74 [0, 3] [Pt g 0, Pt J 0] a ∧ St w0 w I [bT (Pt g 0) s, cells J [U6 a1.ID.Session, U6 a1.ID.Seq, U6 a1.Epoch, k, m, p, q]] R) ?_ ?_
{
refine wp_seq (wrl (mp z (mp z (mf z underlying203 z sizeOf125 (ml z isAgg125 (b.bc0 z) (mz (bZ z underlying125 b.sv1) (mi z (ab (tn (wp_block ?_))))))))))
obtain ⟨d8, c⟩ := aX c
refine bm (fun n a w => ∃ (G : Int), cT (gy s a1) n G = some d7 ∧ fz 74 [0, 3, 14, 15, 16] [Pt g 0, Pt J 0, V, I6 ((s.l).length : Int), I6 G] a ∧ St w0 w I [cells g [V], bg bt V s.l, cells J [U6 a1.ID.Session, U6 a1.ID.Seq, U6 a1.Epoch, k, m, p, q]] R) d8 ⟨0, c, fy z, b⟩ ?_
rintro h3 _ h4 ⟨G, c, ⟨h5, rfl⟩, b⟩
obtain ⟨h6, h7, rfl, c, K⟩ := ba c
dsimp only [gy] at c
refine wp_seq (wrl (mb z (ab (tn (wp_seq (bs c ?_ ?_))))))
{
intro W c
refine ar (cvb W) (wp_skip (tn (wp_seq (wp_block (wp_seq (wrl ?_))))))
obtain ⟨f, d9, c⟩ := bn c
obtain ⟨e0, e2, e3⟩ := aP d9
refine mz (aC z z underlying125 sizeOf46 b.sv1 e0 e2) ?_
obtain ⟨h8, e4, e5⟩ := b.og1 e3
obtain ⟨L, M, N, O, rfl, c4, c5, c6, c7, -⟩ := e4
refine mz (ay (cs := [U6 f.ID.Session, U6 f.ID.Seq, U6 f.Epoch, L, M, N, O]) z isAgg46 sizeOf46 (dS (o := 0) e5 z)) ?_
obtain ⟨h9, i0, e6, e7, b⟩ := b.box [Zu, Zu, Zu, Zs, Zs, Zs, Zs] 46
refine wa e6 e7 ?_
obtain ⟨i1, e8, b⟩ := b.bx [U6 f.ID.Session, U6 f.ID.Seq, U6 f.Epoch, L, M, N, O] sizeOf46 z (oJ 3 z (oC (oS (ah c4)) (oC (oS (ah c5)) (oC (oS (ah c6)) (oC (oS (ah c7)) oN))))) (by kernel_rfl)
refine aE z z (aG e8) (ab (tn (wp_seq (wrl (mf z underlying46 z sizeOf28 (mz (ay (cs := [U6 f.ID.Session, U6 f.ID.Seq]) z isAgg28 sizeOf28 (b.eF 0 z)) (mf z underlying46 z sizeOf28 (mz (ay (cs := [U6 a1.ID.Session, U6 a1.ID.Seq]) z isAgg28 sizeOf28 (b.rI 0 z)) (mb (rM z z (by kernel_rfl) underlying28 (by kernel_rfl) (by kernel_rfl) (by kernel_rfl) underlying26 underlying26 (fun _ _ _ => by kernel_rfl) (fun _ _ _ => by kernel_rfl)) (mb z (bs c ?_ ?_)))))))))))
{
intro i c
refine gg i (ay (cs := [U6 f.ID.Session, U6 f.ID.Seq, U6 f.Epoch, L, M, N, O]) z isAgg46 sizeOf46 (b.eF 0 z)) (gg i (ay (cs := [U6 a1.ID.Session, U6 a1.ID.Seq, U6 a1.Epoch, k, m, p, q]) z isAgg46 sizeOf46 (b.rI 0 z)) ?_)
obtain ⟨i2, e9, c⟩ := bn c
refine dj ((aw z z z (cvb i)).trans z) z (jv call140 z (vs := [.agg #[U6 f.ID.Session, U6 f.ID.Seq, U6 f.Epoch, L, M, N, O], .agg #[U6 a1.ID.Session, U6 a1.ID.Seq, U6 a1.Epoch, k, m, p, q]]) z) ((vw (c4.mono cD) (c5.mono cD) (c6.mono cD) (c7.mono cD) (b8.mono (cC _)) (b9.mono (cC _)) (c1.mono (cC _)) (c2.mono (cC _)) b.to0 e9).mono ?_)
rintro _ i3 ⟨rfl, b⟩
refine ⟨_, z, ?_⟩
replace b := b.of0
refine mb (aS i z z) (ab (tn (bs c ?_ ?_)))
{
intro X c
refine ar (cvb X) (wp_seq (wrl (mi z (ab (tn (wp_ret (dm (aN (aN ?_)))))))))
replace c := bo c K
refine dm (aN ?_)
replace c := bo c c3
replace b := aO (dq (Pt g 0) s b.aA.aA z)
obtain rfl := sj c
exact aZ [I6 8] results58 (rc z ai) ⟨_, z, d, b.bu⟩
}
{
intro X c
refine ak (cvb X) (wp_skip (bF (tn (wrl (mi z (mi z (ab (tn ?_))))))))
replace b := b.au.au.au.dF
obtain rfl := sj c
exact ⟨_, nls, (i64.wrap (G + 1)), K, fy z, b⟩
}
}
{
intro i c
refine go i (go i (go i (mb (aJ i z z) (ab (tn (ak z (wp_skip (bF (tn (wrl (mi z (mi z (ab (tn ?_))))))))))))))
replace b := b.au.au.au.dF
obtain rfl := sj c
exact ⟨_, nls, (i64.wrap (G + 1)), K, fy z, b⟩
}
}
{
intro W c
refine ak (cvb W) (wp_exit (aV (aV ?_)))
replace c := bo c K
refine de (tn ?_)
replace b := (dq (Pt g 0) s b.ag.ag z).ag.ag.ck
obtain rfl := sj c
exact ⟨c3, fy z, b⟩
}
}
{
rintro _ i4 ⟨c, ⟨i5, rfl⟩, b⟩
dsimp only [iH] at c
refine wp_seq (rg b 18 [0, 1, 0, 4, 0, 16, 48, 0, 128, 496, 0, 1024, 4080, 0, 8192, 32752, 65535, 131071] [] mixed (sf 0 z z underlying46 z sizeOf28 (sh _ 1 z (fun w b => ay (cs := [U6 a1.ID.Session, U6 a1.ID.Seq]) z isAgg28 sizeOf28 (b.eK 0 z)) (sf 2 z z underlying46 z sizeOf26 (sl 3 z z isAgg26 (fun w b => b.bc1 z) (sf 4 z z underlying46 z sizeOf43 (sl 5 z z isAgg43 (fun w b => b.bc1 z) (sf 7 z z underlying46 z sizeOf44 (sl 8 z z isAgg44 (fun w b => b.bc1 z) (sf 10 z z underlying46 z sizeOf43 (sl 11 z z isAgg43 (fun w b => b.bc1 z) (sf 13 z z underlying46 z sizeOf22 (sl 14 z z isAgg22 (fun w b => b.bc1 z) (e1 6 z z fun w b => ?_))))))))))))))
obtain ⟨Y, f0, c⟩ := bn c
refine wec call141 [k] z z ((jK (b8.mono (cC _)) b.to0 f0).mono ?_)
rintro _ i6 ⟨A, rfl, b⟩
refine ⟨_, z, ?_⟩
replace b := b.of1
refine wn [14, 13, 11, 10, 8, 7, 3, 2, 1, 0] b (pkr z z (fun w b => aq z isAgg22 (b.bc2 z)) (pf z z underlying46 z sizeOf22 (pkr z z (fun w b => aq z isAgg43 (b.bc2 z)) (pf z z underlying46 z sizeOf43 (pkr z z (fun w b => aq z isAgg44 (b.bc2 z)) (pf z z underlying46 z sizeOf44 (pkr z z (fun w b => aq z isAgg26 (b.bc2 z)) (pf z z underlying46 z sizeOf26 (pkr z z (fun w b => ay (cs := [U6 a1.ID.Session, U6 a1.ID.Seq]) z isAgg28 sizeOf28 (b.pR 0 z)) (pf z z underlying46 z sizeOf28 bD)))))))))) (e1 9 z z fun w b => ?_)
obtain ⟨Z, f1, c⟩ := bn c
refine wec call142 [m] z z ((my (b9.mono (cC _)) b.to0 f1).mono ?_)
rintro _ i7 ⟨B, rfl, b⟩
refine ⟨_, z, ?_⟩
replace b := b.of1
refine wn [14, 13, 11, 10, 3, 2, 1, 0] b (pkr z z (fun w b => aq z isAgg22 (b.bc3 z)) (pf z z underlying46 z sizeOf22 (pkr z z (fun w b => aq z isAgg43 (b.bc3 z)) (pf z z underlying46 z sizeOf43 (pkr z z (fun w b => aq z isAgg26 (b.bc3 z)) (pf z z underlying46 z sizeOf26 (pkr z z (fun w b => ay (cs := [U6 a1.ID.Session, U6 a1.ID.Seq]) z isAgg28 sizeOf28 (b.rI 0 z)) (pf z z underlying46 z sizeOf28 bD)))))))) (e1 12 z z fun w b => ?_)
obtain ⟨b0, f2, c⟩ := bn c
refine wec call141 [p] z z ((jK (c1.mono (cC _)) b.to0 f2).mono ?_)
rintro _ i8 ⟨C, rfl, b⟩
refine ⟨_, z, ?_⟩
replace b := b.of1
refine wn [14, 13, 3, 2, 1, 0] b (pkr z z (fun w b => aq z isAgg22 (b.bc4 z)) (pf z z underlying46 z sizeOf22 (pkr z z (fun w b => aq z isAgg26 (b.bc4 z)) (pf z z underlying46 z sizeOf26 (pkr z z (fun w b => ay (cs := [U6 a1.ID.Session, U6 a1.ID.Seq]) z isAgg28 sizeOf28 (b.wy 0 z)) (pf z z underlying46 z sizeOf28 bD)))))) (e1 15 z z fun w b => ?_)
obtain ⟨b1, f3, c⟩ := bn c
refine wec call143 [q] z z ((iY (c2.mono (cC _)) b.to0 f3).mono ?_)
rintro _ i9 ⟨D, rfl, b⟩
refine ⟨_, z, ?_⟩
replace b := b.of1
refine wn [3, 2, 1, 0] b (pkr z z (fun w b => aq z isAgg26 (b.bc5 z)) (pf z z underlying46 z sizeOf26 (pkr z z (fun w b => ay (cs := [U6 a1.ID.Session, U6 a1.ID.Seq]) z isAgg28 sizeOf28 (b.xu 0 z)) (pf z z underlying46 z sizeOf28 bD)))) (wsr (.agg #[U6 a1.ID.Session, U6 a1.ID.Seq, U6 a1.Epoch, A, B, C, D]) 16 rfl rfl rfl (by kernel_rfl) (fun w b => by obtain ⟨_, _, hv_, _⟩ := b.sv0; rw [hv_]; obtain ⟨_, _, hv_, _⟩ := b.sv1; rw [hv_]; obtain ⟨_, _, hv_, _⟩ := b.sv2; rw [hv_]; obtain ⟨_, _, hv_, _⟩ := b.sv3; rw [hv_]; kernel_rfl) (e1 17 z z fun w b => ?_))
replace b := b.bc
obtain ⟨j0, f4, b⟩ := b.bx [U6 a1.ID.Session, U6 a1.ID.Seq, U6 a1.Epoch, A, B, C, D] sizeOf46 z (oJ 3 z (oC (oS b.sv4) (oC (oS b.sv3) (oC (oS b.sv2) (oC (oS b.sv1) oN))))) (by kernel_rfl)
refine dz z (aG f4) (w0n b (bp ?_))
intro w b
refine tn (wp_seq (wrl (mp z (mf z underlying46 z sizeOf28 (mz (ay (cs := [U6 a1.ID.Session, U6 a1.ID.Seq]) z isAgg28 sizeOf28 (b.eF 0 z)) ?_)))))
replace b := aO b.bc
obtain ⟨Q, f5, c⟩ := bn c
refine wc call135 [Pt g 0, .agg #[U6 a1.ID.Session, U6 a1.ID.Seq]] z z z ((lT b.to1 f5).mono ?_)
rintro _ j1 ⟨rfl, b⟩
refine ⟨_, z, ?_⟩
replace b := bH b.of1
refine mv (.tuple #[I6 Q.1, .bool Q.2]) z (mi z (mb z (mi z (mb z (ab (tn (wp_seq (wp_seq (wrl (mb z (ab (tn (bs c ?_ ?_)))))))))))))
{
intro b2 c
refine ar (cvb b2) ?_
obtain ⟨j2, j3, b3, f6⟩ := dE b
replace b3 := dI b3
subst b3
have b := f6
refine rg b 8 [0, 1, 3, 7, 0, 0, 63, 127] [] mixed (sp 0 z z (sp 1 z z (sf 2 z z underlying203 z sizeOf125 (sl 3 z z isAgg125 (fun w b => b.bc0 z) (si 4 z z (sh _ 5 z (fun w b => ay (cs := [U6 a1.ID.Session, U6 a1.ID.Seq, U6 a1.Epoch, A, B, C, D]) z isAgg46 sizeOf46 (b.pR 0 z)) ?_))))))
obtain ⟨j4, f7, c⟩ := bn c
obtain ⟨f8, f9, c8⟩ := aP f7
refine sh _ 6 z (fun w b => aC z z underlying125 sizeOf46 b.sv1 f8 f9) (e1 7 z z fun w b => ?_)
obtain ⟨j5, g0, j6⟩ := b.og1 c8
obtain ⟨j7, j8, j9, k0, rfl, k1, k2, k3, k4, -⟩ := g0
replace b := b.da
obtain ⟨I725, g1, j, b⟩ := b.cN
replace d := d.trans g1
replace b := b.bc
obtain ⟨I728, c9, x, b⟩ := b.cN
replace j := j.mono (ro_le c9)
replace d := d.trans c9
replace b := b.bf
obtain ⟨I731, b4, H, b⟩ := b.cN
replace j := j.mono (ro_le b4)
replace x := x.mono (ro_le b4)
replace d := d.trans b4
replace b := b.au
obtain ⟨I734, S, b5, b⟩ := b.cN
replace j := j.mono (ro_le S)
replace x := x.mono (ro_le S)
replace H := H.mono (ro_le S)
replace d := d.trans S
replace b := b.ag
obtain ⟨k5, g2, b⟩ := b.oi (P := prog) (t := 46) (y := ({ a1 with Gets := Y, Scans := Z, Puts := b0, Data := b1 } : ap)) c8 0 (.agg #[U6 a1.ID.Session, U6 a1.ID.Seq, U6 a1.Epoch, A, B, C, D]) sizeOf46 (Nat.le_of_ble_eq_true z) (oJ 3 z (oC (oS (ah j)) (oC (oS (ah x)) (oC (oS (ah H)) (oC (oS (ah b5)) oN))))) (fun cs h => ⟨_, _, _, _, uJ (bt.len h) z, j, x, H, b5, oS (ah j), oS (ah x), oS (ah H), oS (ah b5)⟩)
refine dz z (aG g2) (w0n b (bp ?_))
intro w b
refine tn (wp_seq (wrl (mi z (ab (tn (wp_ret ?_))))))
replace b := aO (dq (Pt g 0) (({ l := (s.l.set Q.1.toNat ({ a1 with Gets := Y, Scans := Z, Puts := b0, Data := b1 } : ap)) } : cg)) b.ag z)
obtain rfl := sj c
exact aZ [Zi] results58 (rc z ai) ⟨_, z, d, b.bu⟩
}
{
intro b2 c
refine ak (cvb b2) ?_
obtain ⟨k6, g3, b6, g4⟩ := dE b
replace b6 := dI b6
subst b6
have b := g4
refine rg b 12 [0, 0, 2, 6, 14, 0, 0, 64, 254, 511, 1023, 2047] [] mixed (sp 0 z z (sp 1 z z (sp 2 z z (sf 3 z z underlying203 z sizeOf125 (sl 4 z z isAgg125 (fun w b => b.bc0 z) (si 5 z z (sh _ 6 z (fun w b => ay (cs := [U6 a1.ID.Session, U6 a1.ID.Seq, U6 a1.Epoch, A, B, C, D]) z isAgg46 sizeOf46 (b.pR 0 z)) (e1 7 z z fun w b => ?_))))))))
replace b := b.da
obtain ⟨I749, g5, u, b⟩ := b.cN
replace d := d.trans g5
replace b := b.bc
obtain ⟨I752, d0, F, b⟩ := b.cN
replace u := u.mono (ro_le d0)
replace d := d.trans d0
replace b := b.bf
obtain ⟨I755, b7, T, b⟩ := b.cN
replace u := u.mono (ro_le b7)
replace F := F.mono (ro_le b7)
replace d := d.trans b7
replace b := b.au
obtain ⟨I758, U, d1, b⟩ := b.cN
replace u := u.mono (ro_le U)
replace F := F.mono (ro_le U)
replace T := T.mono (ro_le U)
replace d := d.trans U
obtain ⟨d2, g6, g7, g8, b⟩ := b.ey (E := bt) (xs := [({ a1 with Gets := Y, Scans := Z, Puts := b0, Data := b1 } : ap)]) [[U6 a1.ID.Session, U6 a1.ID.Seq, U6 a1.Epoch, A, B, C, D]] 46 1 z (bE.cons ⟨_, _, _, _, z, u, F, T, d1, oS (ah u), oS (ah F), oS (ah T), oS (ah d1)⟩ bE.nil)
refine bW (v := (.slice (some ⟨d2, 0, none⟩) 1 1)) (w' := g6) z (dn (by kernel_rfl) g7 g8) (wn [5, 4, 3, 2, 1, 0] b (pz (pkr z z (fun w b => aq z isAgg125 (b.bc1 z)) (pf z z underlying203 z sizeOf125 (pz (pz (pz bD)))))) (e1 8 z z fun w b => ?_))
replace b := b.aA
obtain ⟨g9, h0, c⟩ := bn c
refine wec call144 [g3, I6 Q.1, (.slice (some ⟨d2, 0, none⟩) 1 1)] z z ((mF b.to2 h0).mono ?_)
rintro _ k7 ⟨d3, rfl, b⟩
refine ⟨_, z, ?_⟩
replace b := b.of1
refine wn [0] b (pz bD) (sp 9 z z (sf 10 z z underlying203 z sizeOf125 (e1 11 z z fun w b => ?_)))
replace b := b.ag
obtain ⟨k8, h1, b⟩ := b.cW (P := prog) (t := 125) (cs' := [d3]) 0 d3 (oS b.sv1) sizeOf125 z z
refine dz z (aG h1) (w0n b (bp ?_))
intro w b
refine tn (wp_seq (wrl (mi z (ab (tn (wp_ret ?_))))))
replace b := aO (dq (Pt g 0) (({ l := g9 } : cg)) b.ag.ag z)
obtain rfl := sj c
exact aZ [Zi] results58 (rc z ai) ⟨_, z, d, b.bu⟩
}
}
}
}
theorem te {a0 : (Option ae)} {p0 : Value} {a1 : ap} {k l m n : Value} (D : Rd bY R I k a1.Gets) (E : Rd gB R I l a1.Scans) (F : Rd bY R I m a1.Puts) (G : Rd (cp .u8) R I n a1.Data) (b : St w0 w I [cF aI p0 a0] R) {r : (Int × (Option ae))} (c : jz a0 a1 = some r) :
  Calls prog 19 #[p0, .agg #[U6 a1.ID.Session, U6 a1.ID.Seq, U6 a1.Epoch, k, l, m, n]] w fun e w' => ∃ (I' : HL), e = .returned (.int .i64 r.1) ∧ I.le I' ∧ St w0 w' I' [cF aI p0 r.2] R := by {
rcases a0 with _ | i
{
dsimp only [jz] at c
cases c
}
{
replace b := bH b
dsimp only [jz] at c
refine c0 func19 z ntmps19 ?_
have o := HL.le.refl I
refine wp_seq (wrl ?_)
obtain ⟨H, f5, c8, c9, b⟩ := b.box [U6 a1.ID.Session, U6 a1.ID.Seq, U6 a1.Epoch, k, l, m, n] 46
refine wa c8 c9 (mi z (ab (tn (wp_seq (wp_seq (wrl (mv (p0) z ?_)))))))
obtain ⟨j, f6, b4, f7, f8, f9, g0, g1, rfl, d0⟩ := bi b.ag
have b := d0
refine mk (.bool false) (ab (tn (ak z (wp_skip (tn (wp_seq ?_))))))
obtain ⟨g2, c, b5⟩ := bn c
refine qT (fun a w => ∃ (I381 : HL) (p : Int) (q : Int) (s : Int) (J : (List Nat)) (K : (List (Nat × Nat))) (L : (List Nat)) (M : (List Int)) (W : Bool) (X : Nat) (x : Value) (y : Value) (A : Value) (B : Value), (nj a1 i) (p, q, s, J, K, L, M, W) = some r ∧ fz 59 [0, 3, 5, 6] [Pt j 0, Pt H 0, Pt X 0, .bool W] a ∧ I.le I381 ∧ Ro bY I381 x J ∧ Ro gB I381 y K ∧ Ro bY I381 A L ∧ Ro (cp .u8) I381 B M ∧ St w0 w I381 [aI (Pt j 0) i, cells H [U6 a1.ID.Session, U6 a1.ID.Seq, U6 a1.Epoch, k, l, m, n], cells X [U6 p, U6 q, U6 s, x, y, A, B]] R) ?_ ?_
{
have t := HL.le.refl I
refine rg b 13 [0, 1, 3, 7, 0, 16, 63, 127, 255, 255, 0, 1535, 4095] [] mixed (sp 0 z z (sp 1 z z (sf 2 z z underlying111 z sizeOf103 (sl 3 z z isAgg103 (fun w b => b.bc0 z) (sf 4 z z underlying46 z sizeOf28 (sh _ 5 z (fun w b => ay (cs := [U6 a1.ID.Session, U6 a1.ID.Seq]) z isAgg28 sizeOf28 (b.wC 0 z)) (pK 6 10 (by kernel_rfl) ?_ ?_)))))))
{
refine nx z z fun w b => ?_
replace b := b.aA
obtain ⟨f, d1, c⟩ := bn c
refine wec call56 [b4, .agg #[U6 a1.ID.Session, U6 a1.ID.Seq]] z z ((mx b.to1 d1).mono ?_)
rintro _ g3 ⟨I306, N, O, P, Q, rfl, d2, b6, b7, b8, b9, b⟩
refine ⟨_, z, ?_⟩
replace b := b.of1
replace t := t.trans d2
refine w0n b (sz (.tuple #[.agg #[U6 f.1.ID.Session, U6 f.1.ID.Seq, U6 f.1.Epoch, N, O, P, Q], .bool f.2]) 7 z z (sz (.agg #[U6 f.1.ID.Session, U6 f.1.ID.Seq, U6 f.1.Epoch, N, O, P, Q]) 8 z z (sb 9 z z (e1 10 z z fun w b => ?_))))
obtain ⟨c1, d3, d4, d5, b⟩ := b.box [Zu, Zu, Zu, Zs, Zs, Zs, Zs] 46
refine bW (v := Pt c1 0) (w' := d3) z (tQ (by kernel_rfl) d4 d5) (wn [9, 8, 7] b (pz (pz (pz bD))) (e1 11 z z fun w b => ?_))
obtain ⟨g4, d6, b⟩ := b.bx [U6 f.1.ID.Session, U6 f.1.ID.Seq, U6 f.1.Epoch, N, O, P, Q] sizeOf46 z (oJ 3 z (oC (oS (ah b6)) (oC (oS (ah b7)) (oC (oS (ah b8)) (oC (oS (ah b9)) oN))))) (by kernel_rfl)
refine dz z (aG d6) (wn [9] b (pz bD) (sb 12 z z (bp ?_)))
intro w b
refine ⟨z, ?_⟩
replace b := (av (Pt j 0) i b.bM.bM.bM.bM.bM.da.bM.bM z).ag.aA.aA.dF
obtain rfl := sj c
exact ⟨_, f.1.ID.Session, f.1.ID.Seq, f.1.Epoch, f.1.Gets, f.1.Scans, f.1.Puts, f.1.Data, f.2, c1, N, O, P, Q, b5, fy z, t, b6, b7, b8, b9, b⟩
}
{
refine nx z z fun w b => ?_
obtain ⟨c2, d7, d8, d9, b⟩ := b.box [Zu, Zu, Zu, Zs, Zs, Zs, Zs] 46
refine bW (v := Pt c2 0) (w' := d7) z (tQ (by kernel_rfl) d8 d9) (wn [5, 4, 3, 2, 1, 0] b (pkr z z (fun w b => ay (cs := [U6 a1.ID.Session, U6 a1.ID.Seq]) z isAgg28 sizeOf28 (b.vX 0 z)) (pf z z underlying46 z sizeOf28 (pkr z z (fun w b => aq z isAgg103 (b.bc1 z)) (pf z z underlying111 z sizeOf103 (pz (pz bD)))))) (e1 6 z z fun w b => ?_))
replace b := b.au
obtain ⟨g, e0, c⟩ := bn c
refine wec call56 [b4, .agg #[U6 a1.ID.Session, U6 a1.ID.Seq]] z z ((mx b.to1 e0).mono ?_)
rintro _ g5 ⟨I343, S, T, U, V, rfl, e2, c3, c4, c5, c6, b⟩
refine ⟨_, z, ?_⟩
replace b := b.of1
replace t := t.trans e2
refine w0n b (sz (.tuple #[.agg #[U6 g.1.ID.Session, U6 g.1.ID.Seq, U6 g.1.Epoch, S, T, U, V], .bool g.2]) 7 z z (sz (.agg #[U6 g.1.ID.Session, U6 g.1.ID.Seq, U6 g.1.Epoch, S, T, U, V]) 8 z z (sb 9 z z (e1 11 z z fun w b => ?_))))
replace b := b.ag
obtain ⟨g6, e3, b⟩ := b.bx [U6 g.1.ID.Session, U6 g.1.ID.Seq, U6 g.1.Epoch, S, T, U, V] sizeOf46 z (oJ 3 z (oC (oS (ah c3)) (oC (oS (ah c4)) (oC (oS (ah c5)) (oC (oS (ah c6)) oN))))) (by kernel_rfl)
refine dz z (aG e3) (wn [9] b (pz bD) (sb 12 z z (bp ?_)))
intro w b
refine ⟨z, ?_⟩
replace b := (av (Pt j 0) i b.bM.bM.bM.bM.bM.da.bM.bM z).ag.aA.aA.dF
obtain rfl := sj c
exact ⟨_, g.1.ID.Session, g.1.ID.Seq, g.1.Epoch, g.1.Gets, g.1.Scans, g.1.Puts, g.1.Data, g.2, c2, S, T, U, V, b5, fy z, t, c3, c4, c5, c6, b⟩
}
}
{
rintro _ g7 ⟨I381, p, q, s, J, K, L, M, W, X, x, y, A, B, c, ⟨g8, rfl⟩, C, e4, e5, e6, e7, b⟩
dsimp only [nj] at c
replace D := D.mono (ns C)
replace E := E.mono (ns C)
replace F := F.mono (ns C)
replace G := G.mono (ns C)
replace o := o.trans C
refine tn ?_
obtain ⟨g9, c, u⟩ := ec c
refine cU (fun a w =>(en i a1) () = some r ∧ fz 59 [0, 3] [Pt j 0, Pt H 0] a ∧ St w0 w I381 [aI (Pt j 0) i, cells H [U6 a1.ID.Session, U6 a1.ID.Seq, U6 a1.Epoch, k, l, m, n]] R) ?_ ?_
{
refine wp_block (wp_seq (wrl (mb z (mb z (bs c ?_ ?_)))))
{
intro d c
refine gg d (ay (cs := [U6 p, U6 q, U6 s, x, y, A, B]) z isAgg46 sizeOf46 (b.pR 0 z)) (gg d (ay (cs := [U6 a1.ID.Session, U6 a1.ID.Seq, U6 a1.Epoch, k, l, m, n]) z isAgg46 sizeOf46 (b.eK 0 z)) ?_)
obtain ⟨h0, e8, c⟩ := bn c
refine dj ((aw z z z (cvb d)).trans z) z (jv call57 z (vs := [.agg #[U6 p, U6 q, U6 s, x, y, A, B], .agg #[U6 a1.ID.Session, U6 a1.ID.Seq, U6 a1.Epoch, k, l, m, n]]) z) ((we (a0 := ({ ID := ({ Session := p, Seq := q } : bO), Epoch := s, Gets := J, Scans := K, Puts := L, Data := M } : ap)) (e4.mono cD) (e5.mono cD) (e6.mono cD) (e7.mono cD) (D.mono (cC _)) (E.mono (cC _)) (F.mono (cC _)) (G.mono (cC _)) b.to0 e8).mono ?_)
rintro _ h1 ⟨rfl, b⟩
refine ⟨_, z, ?_⟩
replace b := b.of0
refine mb (aS d z z) (mb z (ab (tn (bs c ?_ ?_))))
{
intro Y c
refine ar (cvb Y) (wp_seq (wrl (mi z (ab (tn (wp_ret (dm (aN ?_))))))))
replace c := bo c u
replace b := aO b
obtain rfl := sj c
exact aZ [Zi] results19 (rc z ai) ⟨_, z, o, b.bu⟩
}
{
intro Y c
refine ak (cvb Y) (wp_seq (wrl (mb z (mb z (gg d (aT z underlying46 z sizeOf28 z) (gg d (aT z underlying28 z sizeOf26 z) (gg d (aq z isAgg26 (b.bc1 z)) (gb d z (gb d z (bs c ?_ ?_))))))))))
{
intro h c
refine go h (go h (go h (go h (go h (gb d (aS h z z) (mb (aS d z z) (mb z (ab (tn (ar z (wp_seq (wrl (mi z (ab (tn (wp_ret (dm (aN ?_))))))))))))))))))
replace c := bo c u
replace b := aO b
obtain rfl := sj c
exact aZ [I6 8] results19 (rc z ai) ⟨_, z, o, b.bu⟩
}
{
intro h c
refine gg h (aT z underlying46 z sizeOf26 z) (gg h (aq z isAgg26 (b.bc1 z)) (gg h (aT z underlying46 z sizeOf26 z) (gg h (aq z isAgg26 (b.bc2 z)) (gb h z (gb d (aJ h z z) (mb (aS d z z) (mb z (ab (tn (bs c ?_ ?_))))))))))
{
intro Z c
refine ar (cvb Z) (wp_seq (wrl (mi z (ab (tn (wp_ret (dm (aN ?_))))))))
replace c := bo c u
replace b := aO b
obtain rfl := sj c
exact aZ [I6 8] results19 (rc z ai) ⟨_, z, o, b.bu⟩
}
{
intro Z c
refine ak (cvb Z) (wp_seq ?_)
obtain ⟨h2, h3, h4, h5, h6, h7, h8, h9, b0, e9⟩ := bi b
replace b0 := dI b0
subst b0
have b := e9
refine dO b mixed (by kernel_rfl) (qz (.bool _) z (qz (.bool _) z (qz (.bool _) z (qo (uN d) (qo (uN d) (qo (uN d) (qo (uN d) (qo (uN d) (qo (uN d) (qo (uN d) (qh (.bool _) (fun w b => aJ (uN d) z z) (qz (.bool _) z (fO ?_)))))))))))))
intro w b
refine tn (ak z (wp_skip (bF (tn ?_))))
replace b := (av (Pt j 0) i b.aL.aL.aL.aL.aL.aL.aL.aL z).ag.ag.ck
obtain rfl := sj c
exact ⟨u, fy z, b⟩
}
}
}
}
{
intro d c
refine go d (go d (go d (mb (aJ d z z) (mb z (ab (tn (ak z (wp_seq (wrl (mb z (mb z (go d (go d (go d (go d (go d (gu (gu (gu (gu (gu (go d (mb (aJ d z z) (mb z (ab (tn (ak z (wp_seq ?_))))))))))))))))))))))))))))
obtain ⟨i0, i1, i2, i3, i4, i5, i6, i7, b1, f0⟩ := bi b
replace b1 := dI b1
subst b1
have b := f0
refine dO b mixed (by kernel_rfl) (qz (.bool _) z (qz (.bool _) z (qz (.bool _) z (qg _ (rL d) (fun w b => aT z underlying46 z sizeOf26 z) (qg _ (rL d) (fun w b => aq z isAgg26 (b.bc8 z)) (qgz (Pt _ _) (rL d) z (qgz (Pt _ _) (rL d) z (qg _ (rL d) (fun w b => aT z underlying111 z sizeOf26 z) (qg _ (rL d) (fun w b => aq z isAgg26 (b.bc0 z)) (qgz (.bool _) (rL d) z (qh (.bool _) (fun w b => aS (rL d) z z) (qz (.bool _) z (fO ?_)))))))))))))
intro w b
refine tn (bs c ?_ ?_)
{
intro b2 c
refine ar (cvb b2) (wp_seq (wrl (mi z (ab (tn (wp_ret (dm (aN ?_))))))))
replace c := bo c u
replace b := aO (av (Pt j 0) i b.aL.aL.aL.aL.aL.aL.aL.aL z)
obtain rfl := sj c
exact aZ [I6 9] results19 (rc z ai) ⟨_, z, o, b.bu⟩
}
{
intro b2 c
refine ak (cvb b2) (wp_skip (bF (tn ?_)))
replace b := (av (Pt j 0) i b.aL.aL.aL.aL.aL.aL.aL.aL z).ag.ag.ck
obtain rfl := sj c
exact ⟨u, fy z, b⟩
}
}
}
{
rintro _ i8 ⟨c, ⟨i9, rfl⟩, b⟩
dsimp only [en] at c
refine wp_seq ?_
obtain ⟨j0, j1, f1, j2, j3, j4, j5, j6, b3, f2⟩ := bi b
replace b3 := dI b3
subst b3
have b := f2
refine rg b 7 [0, 1, 3, 7, 0, 31, 63] [] mixed (sp 0 z z (sp 1 z z (sf 2 z z underlying111 z sizeOf103 (sl 3 z z isAgg103 (fun w b => b.bc0 z) (sh _ 4 z (fun w b => ay (cs := [U6 a1.ID.Session, U6 a1.ID.Seq, U6 a1.Epoch, k, l, m, n]) z isAgg46 sizeOf46 (b.wC 0 z)) (e1 5 z z fun w b => ?_))))))
replace b := b.aA
obtain ⟨c7, f3, c⟩ := bn c
refine wec call58 [f1, .agg #[U6 a1.ID.Session, U6 a1.ID.Seq, U6 a1.Epoch, k, l, m, n]] z z ((sn (D.mono (cC _)) (E.mono (cC _)) (F.mono (cC _)) (G.mono (cC _)) b.to1 f3).mono ?_)
rintro _ j7 ⟨I454, rfl, f4, b⟩
refine ⟨_, z, ?_⟩
replace b := b.of1
replace o := o.trans f4
refine w0n b (si 6 z z (bp ?_))
intro w b
refine tn (wp_ret ?_)
replace b := aO (av (Pt j 0) (({ i with locks := c7.2 } : ae)) b.aL.aL.aL.aL.aL.bc.aL.aL z)
obtain rfl := sj c
exact aZ [I6 c7.1] results19 (rc z ai) ⟨_, z, o, b.bu⟩
}
}
}
}
theorem mw {a0 : (Option cP)} {p0 : Value} {a1 : Int} (b : St w0 w I [cF cL p0 a0] R) {r : (Int × Bool)} (c : gD a0 a1 = some r) :
  Calls prog 146 #[p0, U6 a1] w fun e w' => e = .returned (.tuple #[I6 r.1, .bool r.2]) ∧ St w0 w' I [cF cL p0 a0] R := by {
rcases a0 with _ | k
{
dsimp only [gD] at c
cases c
}
{
replace b := bH b
dsimp only [gD] at c
refine c0 func146 z ntmps146 (wp_seq (wrl ?_))
obtain ⟨l, m, rfl, y⟩ := er b
have b := y
obtain ⟨h, U, A, B, b⟩ := b.box [Pt l 0] 101
refine wa A B ?_
obtain ⟨j, V, C, D, b⟩ := b.box [U6 a1] 26
refine wa C D (mi z (mb z (ab (tn (wp_seq (wp_seq (wrl (ml z isAgg101 (b.bc1 z) (mk (.bool false) (ab (tn (ak z (wp_skip (tn (wp_seq (wrl (ml z isAgg101 (b.bc1 z) (mp z (mf z underlying201 z sizeOf199 (ml z isAgg199 (b.bc2 z) (mz (bZ z underlying199 (b.pM 3 z)) (mk (.func (.func 198) #[] #[Pt h 0, Pt j 0]) ?_))))))))))))))))))))))
obtain ⟨v, E, c⟩ := bn c
refine dj z z (dH call179 (caps := []) z (vs := [I6 ((k.rows).length : Int), .func (.func 198) #[] #[Pt h 0, Pt j 0]]) z) (Calls.mono (show Calls prog 179 #[I6 ((k.rows).length : Int), .func (.func 198) #[] #[Pt h 0, Pt j 0]] _ (fun e w' => ∃ (p : Int), p = v ∧ e = .returned (.int .i64 p) ∧ St w0 w' I [cells l [m], ql cq m k.rows, cells h [Pt l 0], cells j [U6 a1]] R) from ?_) ?_)
{
clear c; have c := E
refine c0 func179 z ntmps179 (wp_seq (wrl (mi z (ab (tn (wp_seq (wrl (mi z (mi z (mi z (ab (tn (wp_seq (wp_block ?_))))))))))))))
obtain ⟨F, c⟩ := aX c
refine bm (fun n a w => ∃ (f : Int) (g : Int), cT (gK k a1) n (f, g) = some v ∧ fz 26 [1, 5, 6] [.func (.func 198) #[] #[Pt h 0, Pt j 0], I6 f, I6 g] a ∧ St w0 w I [cells j [U6 a1], cells h [Pt l 0], cells l [m], ql cq m k.rows] R) F ⟨0, ((k.rows).length : Int), c, fy z, b⟩ ?_
rintro W _ X ⟨f, g, c, ⟨Y, rfl⟩, b⟩
obtain ⟨Z, b0, rfl, c, q⟩ := ba c
dsimp only [gK] at c
refine wp_seq (wp_seq (wrl (mi z (mi z (mb z (ab (tn (bs c ?_ ?_))))))))
{
intro s c
refine ar (cvb s) (wp_skip (tn (wp_block (wp_seq (wrl (mi z (mi z (mi z (mk (.int .u64 (u64.wrap (i64.wrap (f + g)))) (mi (tY (by decide) z z) (mk (.int .i64 (i64.wrap (fw .u64 (u64.wrap (i64.wrap (f + g))) 1))) (mi z (ab (tn (wp_seq (wrl (mv (.func (.func 198) #[] #[Pt h 0, Pt j 0]) z (mi z ?_))))))))))))))))))
obtain ⟨G, H, c⟩ := bn c
refine dj z z (dH call198 (caps := [Pt h 0, Pt j 0]) z (vs := [I6 (i64.wrap (fw .u64 (u64.wrap (i64.wrap (f + g))) 1))]) z) (Calls.mono (show Calls prog 198 #[I6 (i64.wrap (fw .u64 (u64.wrap (i64.wrap (f + g))) 1)), Pt h 0, Pt j 0] _ (fun e w' => ∃ (t : Bool), t = G ∧ e = .returned (.bool t) ∧ St w0 w' I [cells l [m], ql cq m k.rows, cells h [Pt l 0], cells j [U6 a1]] R) from ?_) ?_)
{
clear c; have c := H
refine c0 func198 z ntmps198 (wp_seq (wrl (mb z (ab (tn (wp_seq (dO b mixed (by kernel_rfl) (qh _ (fun w b => aq z isAgg101 (b.bc1 z)) (qz (Pt _ _) z (qh _ (fun w b => aT z underlying201 z sizeOf199 z) (qh _ (fun w b => aq z isAgg199 (b.bc2 z)) (qz (I6 _) z ?_))))))))))))
obtain ⟨x, J, c⟩ := bn c
obtain ⟨K, L, M⟩ := aP J
refine qh _ (fun w b => aC z z underlying199 sizeOf240 (b.pM 3 z) K L) (qh _ (fun w b => aW z underlying240 z sizeOf26 z) (qh _ (fun w b => aq z isAgg26 (b.Av (N := cq) (i := (i64.wrap (fw .u64 (u64.wrap (i64.wrap (f + g))) 1)).toNat) (o := 0) 3 z M (fun _ => z))) (qh _ (fun w b => aq z isAgg26 (b.bc0 z)) (qz (.bool _) z (qz (.bool _) z (fO ?_))))))
intro w b
refine tn (wp_ret (aZ [.bool (decide (x.rank ≥ a1))] results198 (rc z ai) ?_))
replace b := b.ag.au.au.eI
obtain rfl := sj c
exact ⟨(decide (x.rank ≥ a1)), z, z, b⟩
}
rintro _ b1 ⟨t, rfl, rfl, b⟩
refine ⟨_, z, ?_⟩
try dsimp only at c
refine mb z (ab (tn (bs c ?_ ?_)))
{
intro u c
refine ar (cvb u) (wrl (mi z (mi z (mi z (ab (bF (tn ?_)))))))
replace b := b.ag.ag.aA.au.eI
obtain rfl := sj c
exact ⟨_, nls, (i64.wrap ((i64.wrap (fw .u64 (u64.wrap (i64.wrap (f + g))) 1)) + 1)), g, q, fy z, b⟩
}
{
intro u c
refine ak (cvb u) (wrl (mi z (mi z (ab (bF (tn ?_))))))
replace b := b.ag.ag.aA.au.eI
obtain rfl := sj c
exact ⟨_, nls, f, (i64.wrap (fw .u64 (u64.wrap (i64.wrap (f + g))) 1)), q, fy z, b⟩
}
}
{
intro s c
refine ak (cvb s) (wp_exit (aV (aV ?_)))
replace c := bo c q
refine de (tn (wp_seq (wrl (mi z (mi z (ab (tn (wp_ret (aZ [I6 f] results179 (rc z ai) ?_)))))))))
replace b := b.ag.au.au.eI
obtain rfl := sj c
exact ⟨f, z, z, b⟩
}
}
rintro _ b2 ⟨p, rfl, rfl, b⟩
refine ⟨_, z, ?_⟩
try dsimp only at c
refine mi z (ab (tn (wp_seq (dO b mixed (by kernel_rfl) (qz (I6 _) z (qz (I6 _) z (qh _ (fun w b => aq z isAgg101 (b.bc2 z)) (qz (Pt _ _) z (qh _ (fun w b => aT z underlying201 z sizeOf199 z) (qh _ (fun w b => aq z isAgg199 (b.bc0 z)) (qh _ (fun w b => bZ z underlying199 (b.pM 1 z)) (qz (.bool _) z (qz (.bool _) z (bs c ?_ ?_))))))))))))))
{
intro d c
refine qg _ d (fun w b => aq z isAgg101 (b.bc2 z)) (qgz (Pt _ _) d z (qg _ d (fun w b => aT z underlying201 z sizeOf199 z) (qg _ d (fun w b => aq z isAgg199 (b.bc0 z)) (qgz (I6 _) d z ?_))))
obtain ⟨O, P, c⟩ := bn c
obtain ⟨Q, S, T⟩ := aP P
refine qg _ d (fun w b => aC z z underlying199 sizeOf240 (b.pM 1 z) Q S) (qg _ d (fun w b => aW z underlying240 z sizeOf26 z) (qg _ d (fun w b => aq z isAgg26 (b.Av (N := cq) (i := p.toNat) (o := 0) 1 z T (fun _ => z))) (qg _ d (fun w b => aq z isAgg26 (b.bc3 z)) (qgz (.bool _) d z (qh (.bool _) (fun w b => aS d z z) (qz (I6 _) z (qz (.bool _) z (fO ?_))))))))
intro w b
refine tn (wp_ret ?_)
replace b := aO (cQ (Pt l 0) k b.ag.ag z)
obtain rfl := sj c
exact aZ [I6 p, .bool (O.rank == a1)] results146 (rc z (rc z ai)) ⟨z, b.bu⟩
}
{
intro d c
refine qo d (qo d (qo d (qo d (qo d (qo d (qo d (qo d (qo d (qo d (qh (.bool _) (fun w b => aJ d z z) (qz (I6 _) z (qz (.bool _) z (fO ?_)))))))))))))
intro w b
refine tn (wp_ret ?_)
replace b := aO (cQ (Pt l 0) k b.ag.ag z)
obtain rfl := sj c
exact aZ [I6 p, .bool false] results146 (rc z (rc z ai)) ⟨z, b.bu⟩
}
}
}
theorem tm {a0 : (List aY)} {k : Value} {a1 : Int} (j : Rd cr R I k a0) (b : St w0 w I [] R) {r : (ct)} (c : og a0 a1 = some r) :
  Calls prog 147 #[k, U6 a1] w fun e w' => ∃ (x : Value), e = .returned (.agg #[.bool r.Has, x]) ∧ St w0 w' I [bg (cp .u8) x r.Val] R := by {
unfold og at c
refine c0 func147 z ntmps147 (wp_seq (wrl ?_))
have E := (ax j)
obtain ⟨g, F, G, H, b⟩ := b.box [k] 238
refine cb (v := Pt g 0) (w' := F) z z (tQ (by obtain ⟨_, _, hv_, _⟩ := E; rw [hv_]; kernel_rfl) G H) ?_
obtain ⟨h, b7, J, K, b⟩ := b.box [U6 a1] 26
refine wa J K ?_
obtain ⟨m, b8, L, M, b⟩ := b.box [.bool false, Zs] 61
refine wa L M (ab (tn (wp_seq (wrl (ml z isAgg238 (b.bc2 z) (mz (bZ z underlying238 (ax j)) (mk (.func (.func 199) #[] #[Pt g 0, Pt h 0]) ?_)))))))
obtain ⟨y, N, c⟩ := bn c
refine dj z z (dH call179 (caps := []) z (vs := [I6 ((a0).length : Int), .func (.func 199) #[] #[Pt g 0, Pt h 0]]) z) (Calls.mono (show Calls prog 179 #[I6 ((a0).length : Int), .func (.func 199) #[] #[Pt g 0, Pt h 0]] _ (fun e w' => ∃ (o : Int), o = y ∧ e = .returned (.int .i64 o) ∧ St w0 w' I [cells g [k], cells h [U6 a1], cells m [.bool false, Zs]] R) from ?_) ?_)
{
clear c; have c := N
refine c0 func179 z ntmps179 (wp_seq (wrl (mi z (ab (tn (wp_seq (wrl (mi z (mi z (mi z (ab (tn (wp_seq (wp_block ?_))))))))))))))
obtain ⟨O, c⟩ := aX c
refine bm (fun n a w => ∃ (f : Int) (i : Int), cT (pi a0 a1) n (f, i) = some y ∧ fz 26 [1, 5, 6] [.func (.func 199) #[] #[Pt g 0, Pt h 0], I6 f, I6 i] a ∧ St w0 w I [cells m [.bool false, Zs], cells h [U6 a1], cells g [k]] R) O ⟨0, ((a0).length : Int), c, fy z, b⟩ ?_
rintro b9 _ c1 ⟨f, i, c, ⟨c2, rfl⟩, b⟩
obtain ⟨c3, c4, rfl, c, p⟩ := ba c
dsimp only [pi] at c
refine wp_seq (wp_seq (wrl (mi z (mi z (mb z (ab (tn (bs c ?_ ?_))))))))
{
intro q c
refine ar (cvb q) (wp_skip (tn (wp_block (wp_seq (wrl (mi z (mi z (mi z (mk (.int .u64 (u64.wrap (i64.wrap (f + i)))) (mi (tY (by decide) z z) (mk (.int .i64 (i64.wrap (fw .u64 (u64.wrap (i64.wrap (f + i))) 1))) (mi z (ab (tn (wp_seq (wrl (mv (.func (.func 199) #[] #[Pt g 0, Pt h 0]) z (mi z ?_))))))))))))))))))
obtain ⟨P, Q, c⟩ := bn c
refine dj z z (dH call199 (caps := [Pt g 0, Pt h 0]) z (vs := [I6 (i64.wrap (fw .u64 (u64.wrap (i64.wrap (f + i))) 1))]) z) (Calls.mono (show Calls prog 199 #[I6 (i64.wrap (fw .u64 (u64.wrap (i64.wrap (f + i))) 1)), Pt g 0, Pt h 0] _ (fun e w' => ∃ (s : Bool), s = P ∧ e = .returned (.bool s) ∧ St w0 w' I [cells g [k], cells h [U6 a1], cells m [.bool false, Zs]] R) from ?_) ?_)
{
clear c; have c := Q
refine c0 func199 z ntmps199 (wp_seq (wrl (mb z (ab (tn (wp_seq (dO b mixed (by kernel_rfl) (qh _ (fun w b => aq z isAgg238 (b.bc2 z)) (qz (I6 _) z ?_)))))))))
obtain ⟨A, S, c⟩ := bn c
obtain ⟨T, U, V⟩ := aP S
refine qh _ (fun w b => aC z z underlying238 sizeOf214 (ax j) T U) (qh _ (fun w b => aW z underlying214 z sizeOf26 z) ?_)
obtain ⟨c5, W, X⟩ := Rd.jZ j V
obtain ⟨c6, rfl, c7, -⟩ := W
refine qh _ (fun w b => aq z isAgg26 ((X lr b) 0 _ z)) (qh _ (fun w b => aq z isAgg26 (b.bc1 z)) (qz (.bool _) z (qz (.bool _) z (fO ?_))))
intro w b
refine tn (wp_ret (aZ [.bool (decide (A.Epoch > a1))] results199 (rc z ai) ?_))
replace b := b.ag.aA.dF
obtain rfl := sj c
exact ⟨(decide (A.Epoch > a1)), z, z, b⟩
}
rintro _ c8 ⟨s, rfl, rfl, b⟩
refine ⟨_, z, ?_⟩
try dsimp only at c
refine mb z (ab (tn (bs c ?_ ?_)))
{
intro t c
refine ar (cvb t) (wrl (mi z (mi z (mi z (ab (bF (tn ?_)))))))
replace b := b.ag.aA.dF
obtain rfl := sj c
exact ⟨_, nls, (i64.wrap ((i64.wrap (fw .u64 (u64.wrap (i64.wrap (f + i))) 1)) + 1)), i, p, fy z, b⟩
}
{
intro t c
refine ak (cvb t) (wrl (mi z (mi z (ab (bF (tn ?_))))))
replace b := b.ag.aA.dF
obtain rfl := sj c
exact ⟨_, nls, f, (i64.wrap (fw .u64 (u64.wrap (i64.wrap (f + i))) 1)), p, fy z, b⟩
}
}
{
intro q c
refine ak (cvb q) (wp_exit (aV (aV ?_)))
replace c := bo c p
refine de (tn (wp_seq (wrl (mi z (mi z (ab (tn (wp_ret (aZ [I6 f] results179 (rc z ai) ?_)))))))))
replace b := b.ag.aA.dF
obtain rfl := sj c
exact ⟨f, z, z, b⟩
}
}
rintro _ c9 ⟨o, rfl, rfl, b⟩
refine ⟨_, z, ?_⟩
try dsimp only at c
refine mi z (ab (tn (wp_seq (wp_seq (wrl (mi z (mb z (mb z (bs c ?_ ?_)))))))))
{
intro d c
refine go d (go d (go d (go d (go d (go d (mb (aS d z z) (ab (tn (ar z (wp_seq (wrl (mk (.agg #[.bool false, Zs]) ?_))))))))))))
replace b := b.aA
obtain ⟨d0, Y, b⟩ := b.bx [.bool false, Zs] sizeOf61 z (oC z (oC z oN)) (by kernel_rfl)
refine aE z z (aG Y) (ab (tn (wp_ret (aN ?_))))
replace b := b.bd (cp .u8)
obtain rfl := sj c
exact aZ [.agg #[.bool false, Zs]] results147 (bq (bJ (cs := [.bool false, Zs]) z isAgg61 sizeOf61 (b.eK 0 z)) ai) ⟨(.slice none 0 0), z, b.bu⟩
}
{
intro d c
refine gg d (aq z isAgg238 (b.bc0 z)) (gi d z (gi d z ?_))
obtain ⟨d1, Z, c⟩ := bn c
obtain ⟨B, C, b0⟩ := aP Z
refine gg d (aC z z underlying238 sizeOf214 (ax j) B C) (gg d (aW z underlying214 z sizeOf4 z) ?_)
obtain ⟨d2, b1, D⟩ := Rd.jZ j b0
obtain ⟨b2, rfl, b3, -⟩ := b1
refine gg d (aq z isAgg4 ((D lr b) 2 _ z)) (mb (aJ d z z) (ab (tn (bs c ?_ ?_))))
{
intro u c
refine ar (cvb u) (wp_seq (wrl (mk (.agg #[.bool false, Zs]) ?_)))
replace b := b.aA
obtain ⟨d3, b4, b⟩ := b.bx [.bool false, Zs] sizeOf61 z (oC z (oC z oN)) (by kernel_rfl)
refine aE z z (aG b4) (ab (tn (wp_ret (aN ?_))))
replace b := b.bd (cp .u8)
obtain rfl := sj c
exact aZ [.agg #[.bool false, Zs]] results147 (bq (bJ (cs := [.bool false, Zs]) z isAgg61 sizeOf61 (b.eK 0 z)) ai) ⟨(.slice none 0 0), z, b.bu⟩
}
{
intro u c
refine ak (cvb u) (wp_skip (tn (wp_seq (wrl (ml z isAgg238 (b.bc0 z) (mi z (mi z (mz (aC z z underlying238 sizeOf214 (ax j) B C) (mz (aW z underlying214 z sizeOf22 z) (ml z isAgg22 ((D lr b) 3 _ z) ?_))))))))))
obtain ⟨d4, b5, c⟩ := bn c
refine wc call143 [b2] z z z ((iY (b3.mono (cC _)) b.to0 b5).mono ?_)
rintro _ d5 ⟨l, rfl, b⟩
refine ⟨_, z, ?_⟩
replace b := b.of1
refine wv (.agg #[.bool true, l]) z z (by obtain ⟨_, _, hv_, _⟩ := b.sv0; rw [hv_]; kernel_rfl) ?_
replace b := b.au
obtain ⟨d6, b6, b⟩ := b.bx [.bool true, l] sizeOf61 z (oC z (oC (oS b.sv1) oN)) (by kernel_rfl)
refine aE z z (aG b6) (ab (tn (wp_ret ?_)))
obtain rfl := sj c
refine aZ [.agg #[.bool true, l]] results147 (bq (bJ (cs := [.bool true, l]) z isAgg61 sizeOf61 (b.eF 0 z)) ai) ?_
replace b := b.ag
exact ⟨l, z, b.bu⟩
}
}
}
theorem mZ {a0 : (Option cP)} {p0 : Value} {a1 : Nat} {a2 : Int} (a : St w0 w I [cF cL p0 a0] R) {r : (ct)} (b : ea a0 a1 a2 = some r) :
  Calls prog 60 #[p0, F6 a1, U6 a2] w fun e w' => ∃ (j : Value), e = .returned (.agg #[.bool r.Has, j]) ∧ St w0 w' I [bg (cp .u8) j r.Val, cF cL p0 a0] R := by {
rcases a0 with _ | l
{
dsimp only [ea] at b
cases b
}
{
replace a := bH a
dsimp only [ea] at b
refine c0 func60 z ntmps60 (wp_seq (wrl ?_))
obtain ⟨D, E, m, n, a⟩ := a.box [.bool false, Zs] 61
refine wa m n (ab (tn (wp_seq (wrl (mv (p0) z (mv (F6 _) z ?_))))))
obtain ⟨o, p, b⟩ := bn b
refine wc call118 [F6 a1] z z z ((eA a.to0 p).mono ?_)
rintro _ F ⟨rfl, a⟩
refine ⟨_, z, ?_⟩
replace a := aO a.of0.ag
obtain ⟨d, q, b⟩ := bn b
refine wc call146 [p0, U6 o] z z z ((mw a.to1 q).mono ?_)
rintro _ G ⟨rfl, a⟩
refine ⟨_, z, ?_⟩
replace a := bH a.of1
refine mv (.tuple #[I6 d.1, .bool d.2]) z (mi z (mb z (mi z (mb z (ab (tn (wp_seq (wp_seq (wrl (mb z (mb z (ab (tn (bs b ?_ ?_))))))))))))))
{
intro f b
refine ar (cvb f) (wp_seq (wrl (mk (.agg #[.bool false, Zs]) ?_)))
replace a := a.ag
obtain ⟨H, s, a⟩ := a.bx [.bool false, Zs] sizeOf61 z (oC z (oC z oN)) (by kernel_rfl)
refine aE z z (aG s) (ab (tn (wp_ret (aN ?_))))
replace a := aO ((a.bd (cp .u8)).aA)
obtain rfl := sj b
refine aZ [.agg #[.bool false, Zs]] results60 (bq (bJ (cs := [.bool false, Zs]) z isAgg61 sizeOf61 (a.pR 0 z)) ai) ?_
replace a := a.ag
exact ⟨(.slice none 0 0), z, a.ck⟩
}
{
intro f b
refine ak (cvb f) (wp_skip (tn (wp_seq (wrl (mv (p0) z ?_)))))
obtain ⟨t, J, rfl, u⟩ := er a
have a := u
refine mp z (mf z underlying201 z sizeOf199 (ml z isAgg199 (a.bc0 z) (mi z ?_)))
obtain ⟨K, v, b⟩ := bn b
obtain ⟨x, y, g⟩ := aP v
refine mz (aC z z underlying199 sizeOf240 (a.pM 1 z) x y) (mz (aW z underlying240 z sizeOf238 z) ?_)
replace a := a.ag
obtain ⟨A, a⟩ := a.tA g
refine ml z isAgg238 ((a.xA (N := cq) (i := d.1.toNat) 1 z g) 1 _ z) (mi z ?_)
obtain ⟨L, k, a⟩ := a.cB
obtain ⟨h, B, b⟩ := bn b
refine wc call147 [A, U6 a2] z z z ((tm (a.nc k) a.to0 B).mono ?_)
rintro _ M ⟨c, rfl, a⟩
refine ⟨_, z, ?_⟩
replace a := (a.of1.ag.bh k).bf
obtain ⟨O, C, a⟩ := a.bx [.bool h.Has, c] sizeOf61 z (oC z (oC (oS a.sv2) oN)) (by kernel_rfl)
refine aE z z (aG C) (ab (tn (wp_ret ?_)))
replace a := aO (cQ (Pt t 0) l (St.rJ (N := cq) a.au.aA g).au z)
obtain rfl := sj b
refine aZ [.agg #[.bool h.Has, c]] results60 (bq (bJ (cs := [.bool h.Has, c]) z isAgg61 sizeOf61 (a.eK 0 z)) ai) ?_
replace a := a.aA
exact ⟨c, z, a.ck⟩
}
}
}
theorem uU {a0 : Int} (c : St w0 w I [] R) {r : (Nat)} (a : jJ a0 = some r) :
  Calls prog 107 #[U6 a0] w fun e w' => e = .returned (.float .f64 r) ∧ St w0 w' I [] R := by {
unfold jJ at a
refine c0 func107 z ntmps107 (wp_seq (wrl (mv (F6 _) z (ab (tn (wp_seq (wp_seq (wrl (mi z (mi (tY (by decide) z z) (mb z (ab (tn (bs a ?_ ?_))))))))))))))
{
intro b a
refine ar (cvb b) (wp_seq (wrl (mi z (mi z (mk (.float .f64 (Int.toNat (tM .u64 a0 9223372036854775808))) (mv (F6 _) z (ab (tn (wp_ret (aN ?_))))))))))
obtain rfl := sj a
exact aZ [F6 (Int.toNat (tM .u64 a0 9223372036854775808))] results107 (rc z ai) ⟨z, c.bU⟩
}
{
intro b a
refine ak (cvb b) (wp_skip (tn (wp_seq (wrl (mi z (mk (.int .u64 (xp .u64 ((18446744073709551615):Int) a0)) (mk (.float .f64 (Int.toNat (xp .u64 ((18446744073709551615):Int) a0))) (mv (F6 _) z (ab (tn (wp_ret ?_)))))))))))
obtain rfl := sj a
exact aZ [F6 (Int.toNat (xp .u64 ((18446744073709551615):Int) a0))] results107 (rc z ai) ⟨z, c.bU⟩
}
}
theorem sT {a0 : (Option cP)} {p0 : Value} {a1 a2 : Nat} {a3 a4 : Int} (b : St w0 w I [cF cL p0 a0] R) {r : ((List bQ))} (c : fx a0 a1 a2 a3 a4 = some r) :
  Calls prog 77 #[p0, F6 a1, F6 a2, U6 a3, I6 a4] w fun e w' => ∃ (I' : HL) (H : Value), e = .returned (H) ∧ I.le I' ∧ St w0 w' I' [bg az H r, cF cL p0 a0] R := by {
rcases a0 with _ | k
{
dsimp only [fx] at c
cases c
}
{
replace b := bH b
dsimp only [fx] at c
refine c0 func77 z ntmps77 ?_
have m := HL.le.refl I
refine wp_seq (wrl (mv ((.slice none 0 0)) z (ab (tn (wp_seq (wp_seq (wrl (mv (p0) z ?_))))))))
obtain ⟨h, c1, rfl, L⟩ := er b
have b := L
refine mk (.bool false) (ab (tn (ak z (wp_skip (tn (wp_seq (wrl (mv ((.slice none 0 0)) z (ab (tn (wp_seq (wp_seq (wrl (mp z (mv (F6 _) z ?_)))))))))))))))
obtain ⟨M, O, c⟩ := bn c
refine wc call118 [F6 a1] z z z ((eA b.to0 O).mono ?_)
rintro _ c2 ⟨rfl, b⟩
refine ⟨_, z, ?_⟩
replace b := aO (cQ (Pt h 0) k b.of0.ag.ag z)
obtain ⟨y, P, c⟩ := bn c
refine wc call146 [Pt h 0, U6 M] z z z ((mw b.to1 P).mono ?_)
rintro _ c3 ⟨rfl, b⟩
refine ⟨_, z, ?_⟩
replace b := bH b.of1
refine mv (.tuple #[I6 y.1, .bool y.2]) z (mi z (mb z (mi z (mb z (ab (tn (wp_block ?_)))))))
replace b := b.bd az
obtain ⟨Q, c⟩ := aX c
refine bm (fun n a w => ∃ (I823 : HL) (p : (List bQ)) (j : Int) (f : Value), cT (gU k a2 a4 a3) n (p, j) = some r ∧ fz 80 [0, 2, 3, 4, 11, 12] [Pt h 0, F6 a2, U6 a3, I6 a4, f, I6 j] a ∧ I.le I823 ∧ St w0 w I823 [bg az f p, cL (Pt h 0) k] R) Q ⟨_, [], y.1, Zs, c, fy z, lr, b⟩ ?_
rintro c4 _ c5 ⟨I823, p, j, f, c, ⟨c6, rfl⟩, q, b⟩
obtain ⟨c7, c8, rfl, c, s⟩ := ba c
dsimp only [gU] at c
replace m := m.trans q
refine wp_seq (wp_seq ?_)
obtain ⟨c9, d0, A, S⟩ := er b.ag
replace A := dI A
subst A
have b := S
refine rg b 26 [0, 0, 2, 6, 14, 30, 63, 127, 255, 511, 1023, 2047, 255, 8191, 16383, 32767, 255, 65791, 262143, 524287, 1048575, 2097151, 4194303, 2097151, 16777215, 33554431] [] mixed (si 0 z z (sp 1 z z (sp 2 z z (sf 3 z z underlying201 z sizeOf199 (sl 4 z z isAgg199 (fun w b => b.bc0 z) (sh _ 5 z (fun w b => bZ z underlying199 (b.pM 1 z)) (sb 6 z z (sb 7 z z (bs c ?_ ?_)))))))))
{
intro d c
refine sgz (Pt _ _) 8 z d z (sgz (Pt _ _) 9 z d z (sg _ 10 z d (fun w b => aT z underlying201 z sizeOf199 z) (sg _ 11 z d (fun w b => aq z isAgg199 (b.bc0 z)) (sgz (I6 _) 12 z d z ?_))))
obtain ⟨T, U, c⟩ := bn c
obtain ⟨t, u, l⟩ := aP U
refine sg _ 13 z d (fun w b => aC z z underlying199 sizeOf240 (b.pM 1 z) t u) (sg _ 14 z d (fun w b => aW z underlying240 z sizeOf26 z) (sg _ 15 z d (fun w b => aq z isAgg26 (b.Av (N := cq) (i := j.toNat) (o := 0) 1 z l (fun _ => z))) (sgz (F6 _) 16 z d z (hJ 17 (by kernel_rfl) (nxe [18, 19, 20, 21, 22, 23, 24, 25] (by kernel_rfl) z ((aw z z z (cvb d)).trans z) ?_)))))
clear b
intro w b
obtain ⟨d1, V, c⟩ := bn c
refine wec call118 [F6 a2] z z ((eA b.to0 V).mono ?_)
rintro _ d2 ⟨rfl, b⟩
refine ⟨_, z, ?_⟩
replace b := b.of0
refine wn [15, 14, 13, 12, 11, 10, 9, 8] b (db z (cY ((aw z z z (cvb d)).trans z) (fun w b => aq z isAgg26 (b.Av (N := cq) (i := j.toNat) (o := 0) 1 z l (fun _ => z)))) (db z (cY ((aw z z z (cvb d)).trans z) (fun w b => aW z underlying240 z sizeOf26 z)) (db z (cY ((aw z z z (cvb d)).trans z) (fun w b => aC z z underlying199 sizeOf240 (b.pM 1 z) t u)) (db z (cY ((aw z z z (cvb d)).trans z) (fun w b => z)) (db z (cY ((aw z z z (cvb d)).trans z) (fun w b => aq z isAgg199 (b.bc0 z))) (db z (cY ((aw z z z (cvb d)).trans z) (fun w b => aT z underlying201 z sizeOf199 z)) (db z (cY ((aw z z z (cvb d)).trans z) (fun w b => z)) (db z (cY ((aw z z z (cvb d)).trans z) (fun w b => z)) bD)))))))) (sgz (.bool _) 18 z d z (sh (.bool _) 19 z (fun w b => aS d z z) (sb 20 z z (bs c ?_ ?_))))
{
intro g c
refine sgz f 21 z g z (sg _ 22 z g (fun w b => bZ z underlying81 b.sv2) (sgz (I6 _) 23 z g z (sgz (.bool _) 24 z g z (sh (.bool _) 25 z (fun w b => aS g z z) (bp ?_)))))
intro w b
refine tn (bs c ?_ ?_)
{
intro B c
refine ar (cvb B) (wp_skip (tn (wp_seq (wp_block (wp_seq (wrl (mp z (mp z (mf z underlying201 z sizeOf199 (ml z isAgg199 (b.bc0 z) (mi z (mz (aC z z underlying199 sizeOf240 (b.pM 1 z) t u) (mz (aW z underlying240 z sizeOf238 z) ?_)))))))))))))
replace b := b.ag
obtain ⟨W, b⟩ := b.tA l
refine ml z isAgg238 ((b.xA (N := cq) (i := j.toNat) 1 z l) 1 _ z) (mi z ?_)
obtain ⟨d3, J, b⟩ := b.cB
obtain ⟨C, X, c⟩ := bn c
refine wc call147 [W, U6 a3] z z z ((tm (b.nc J) b.to0 X).mono ?_)
rintro _ d4 ⟨D, rfl, b⟩
refine ⟨_, z, ?_⟩
replace b := b.of1.ag.bh J
obtain ⟨d5, d6, Y, Z, b⟩ := b.box [.bool false, Zs] 61
refine wa Y Z ?_
obtain ⟨d7, b0, b⟩ := b.bx [.bool C.Has, D] sizeOf61 z (oC z (oC (oS b.sv2) oN)) (by kernel_rfl)
refine aE z z (aG b0) (ab (tn (wp_seq (wrl (mf z underlying61 z sizeOf4 (ml z isAgg4 (b.bc0 z) (ab (tn (bs c ?_ ?_)))))))))
{
intro F c
refine ar (cvb F) (rg b 16 [0, 0, 2, 6, 14, 0, 62, 126, 254, 510, 0, 1024, 4094, 8190, 16383, 32767] [15] mixed (sz (f) 0 z z (sp 1 z z (sp 2 z z (sf 3 z z underlying201 z sizeOf199 (sl 4 z z isAgg199 (fun w b => b.bc4 z) (si 5 z z (sh _ 6 z (fun w b => aC z z underlying199 sizeOf240 (b.CO 3 z) t u) (sh _ 7 z (fun w b => aW z underlying240 z sizeOf26 z) (sl 8 z z isAgg26 (fun w b => b.FC (N := cq) (i := j.toNat) (o := 0) 3 z l (fun _ => z)) (sf 10 z z underlying61 z sizeOf22 (sl 11 z z isAgg22 (fun w b => b.bc0 z) (e1 9 z z fun w b => ?_)))))))))))))
obtain ⟨x, b1, c⟩ := bn c
refine wec call107 [U6 T.rank] z z ((uU b.to0 b1).mono ?_)
rintro _ d8 ⟨rfl, b⟩
refine ⟨_, z, ?_⟩
replace b := b.of0
refine wn [11, 10, 0] b (pkr z z (fun w b => aq z isAgg22 (b.bc0 z)) (pf z z underlying61 z sizeOf22 (pz bD))) (wsr (.agg #[F6 x, D]) 12 rfl rfl rfl (by kernel_rfl) (fun w b => by obtain ⟨_, _, hv_, _⟩ := b.sv2; rw [hv_]; kernel_rfl) (e1 13 z z fun w b => ?_))
replace b := b.aA
obtain ⟨I876, b2, K, b⟩ := b.cN
replace q := q.trans b2
obtain ⟨b3, b4, b5, b6, b⟩ := b.ey (E := az) (xs := [({ At := x, Val := C.Val } : bQ)]) [[F6 x, D]] 152 1 z (bE.cons ⟨_, z, K, oS (ah K)⟩ bE.nil)
refine bW (v := (.slice (some ⟨b3, 0, none⟩) 1 1)) (w' := b4) z (dn (by kernel_rfl) b5 b6) (wn [0] b (pz bD) (e1 14 z z fun w b => ?_))
obtain ⟨b7, c⟩ := cz c
replace b := b.bc
obtain ⟨G, b8, b9, b⟩ := bI xv underlying81 b b.ju (cK b7 z) 81
refine bW (v := G) (w' := b8) z (bX z z b9) (w0n b (e1 15 z z fun w b => bW (v := G) (w' := w) z z (w0n b (bp ?_))))
intro w b
refine bF (tn (wrl (mi z (mi z (mi z (ab (tn ?_)))))))
replace b := (cQ (Pt h 0) k (St.rJ (N := cq) b.bf.bf l).bf z).ag.ck
obtain rfl := sj c
exact ⟨_, nls, _, (p ++ ([({ At := x, Val := C.Val } : bQ)])), (i64.wrap (j + 1)), G, s, fy z, q, b⟩
}
{
intro F c
refine ak (cvb F) (wp_skip (bF (tn (wrl (mi z (mi z (mi z (ab (tn ?_)))))))))
replace b := (cQ (Pt h 0) k (St.rJ (N := cq) b.au.aA l).au z).au.ck
obtain rfl := sj c
exact ⟨_, nls, _, p, (i64.wrap (j + 1)), f, s, fy z, q, b⟩
}
}
{
intro B c
refine ak (cvb B) (wp_exit (aV (aV ?_)))
replace c := bo c s
refine de (tn (wp_seq (wrl (mv (f) z (mv (f) z (ab (tn (wp_ret ?_))))))))
replace b := aO (cQ (Pt h 0) k b.ag.ag z)
obtain rfl := sj c
refine aZ [f] results77 (rc z ai) ?_
replace b := b.ag
exact ⟨_, f, z, m, b.ck⟩
}
}
{
intro g c
refine so 21 z g (so 22 z g (so 23 z g (so 24 z g (sh (.bool _) 25 z (fun w b => aJ g z z) (bp ?_)))))
intro w b
refine tn (ak z (wp_exit (aV (aV ?_))))
replace c := bo c s
refine de (tn (wp_seq (wrl (mv (f) z (mv (f) z (ab (tn (wp_ret ?_))))))))
replace b := aO (cQ (Pt h 0) k b.ag.ag z)
obtain rfl := sj c
refine aZ [f] results77 (rc z ai) ?_
replace b := b.ag
exact ⟨_, f, z, m, b.ck⟩
}
}
{
intro d c
refine so 8 z d (so 9 z d (so 10 z d (so 11 z d (so 12 z d (so 13 z d (so 14 z d (so 15 z d (so 16 z d (so 17 z d (so 18 z d (sh (.bool _) 19 z (fun w b => aJ d z z) (sb 20 z z (sq 21 z (sq 22 z (sq 23 z (sq 24 z (sh (.bool _) 25 z (fun w b => aJ z z z) (bp ?_))))))))))))))))))
intro w b
refine tn (ak z (wp_exit (aV (aV ?_))))
replace c := bo c s
refine de (tn (wp_seq (wrl (mv (f) z (mv (f) z (ab (tn (wp_ret ?_))))))))
replace b := aO (cQ (Pt h 0) k b.ag.ag z)
obtain rfl := sj c
refine aZ [f] results77 (rc z ai) ?_
replace b := b.ag
exact ⟨_, f, z, m, b.ck⟩
}
}
}
theorem ta {a0 : (Option ae)} {p0 : Value} {a1 : ap} {l m s u : Value} (x : Rd bY R I l a1.Gets) (j : Rd gB R I m a1.Scans) (g5 : Rd bY R I s a1.Puts) (g6 : Rd (cp .u8) R I u a1.Data) (b : St w0 w I [cF aI p0 a0] R) {r : (bw)} (c : jy a0 a1 = some r) :
  Calls prog 33 #[p0, .agg #[U6 a1.ID.Session, U6 a1.ID.Seq, U6 a1.Epoch, l, m, s, u]] w fun e w' => ∃ (I' : HL) (V : Value) (W : Value), e = .returned (.agg #[I6 r.E, U6 r.Epoch, U6 r.Index, V, W]) ∧ I.le I' ∧ St w0 w' I' [bg aD V r.Gots, bg (dJ az) W r.Scans, cF aI p0 a0] R := by {
rcases a0 with _ | f
{
dsimp only [jy] at c
cases c
}
{
replace b := bH b
dsimp only [jy] at c
refine c0 func33 z ntmps33 ?_
have y := HL.le.refl I
refine wp_seq (wrl ?_)
obtain ⟨D, g7, b2, b3, b⟩ := b.box [U6 a1.ID.Session, U6 a1.ID.Seq, U6 a1.Epoch, l, m, s, u] 46
refine wa b2 b3 ?_
obtain ⟨o, g8, b4, b5, b⟩ := b.box [Zi, Zu, Zu, Zs, Zs] 33
refine wa b4 b5 (ab (tn (wp_seq (wrl ?_))))
obtain ⟨p, g9, b6, b7, b⟩ := b.box [Zi, Zu, Zu, Zs, Zs] 33
refine wa b6 b7 (ab (tn (wp_seq (wp_seq (wrl (mv (p0) z ?_))))))
obtain ⟨g, h0, h1, h2, h3, h4, h5, h6, rfl, b8⟩ := bi b.au
have b := b8
refine mk (.bool false) (ab (tn (ak z (wp_skip (tn ?_)))))
obtain ⟨b9, c, c1⟩ := bn c
refine cU (fun a w => ∃ (I820 : HL) (A : (List ct)) (d : Value), (kH a1 f) A = some r ∧ fz 55 [0, 3, 4, 5] [Pt g 0, Pt D 0, Pt o 0, Pt p 0] a ∧ I.le I820 ∧ St w0 w I820 [aI (Pt g 0) f, cells D [U6 a1.ID.Session, U6 a1.ID.Seq, U6 a1.Epoch, l, m, s, u], cells o [Zi, Zu, Zu, Zs, Zs], cells p [Zi, Zu, Zu, d, Zs], bg aD d A] R) ?_ ?_
{
have M := HL.le.refl I
refine wp_seq (wrl (mf z underlying46 z sizeOf43 (ml z isAgg43 (b.uo z) (mz (bZ z underlying43 (ax x)) (mi z (ab (tn (wp_block ?_))))))))
replace b := (av (Pt g 0) f b.aL.aL.aL.aL.aL.aL.aL.aL z).bd aD
obtain ⟨c2, c⟩ := aX c
refine bm (fun n a w => ∃ (I763 : HL) (B : (List ct)) (F : Int) (G : Value), cT (gY a1 f) n (B, F) = some b9 ∧ fz 55 [0, 3, 4, 5, 14, 15, 16] [Pt g 0, Pt D 0, Pt o 0, Pt p 0, l, I6 ((a1.Gets).length : Int), I6 F] a ∧ I.le I763 ∧ St w0 w I763 [bg aD G B, aI (Pt g 0) f, cells p [Zi, Zu, Zu, G, Zs], cells o [Zi, Zu, Zu, Zs, Zs], cells D [U6 a1.ID.Session, U6 a1.ID.Seq, U6 a1.Epoch, l, m, s, u]] R) c2 ⟨_, [], 0, Zs, c, fy z, lr, b⟩ ?_
rintro h7 _ h8 ⟨I763, B, F, G, c, ⟨h9, rfl⟩, C, b⟩
obtain ⟨i0, i1, rfl, c, X⟩ := ba c
dsimp only [gY] at c
replace x := x.mono (ns C)
replace M := M.trans C
refine wp_seq (wrl (mb z (ab (tn (wp_seq (bs c ?_ ?_))))))
{
intro N c
refine ar (cvb N) (wp_skip (tn (wp_seq (wp_block (wp_seq (wrl ?_))))))
obtain ⟨c3, c4, c⟩ := bn c
obtain ⟨c5, c6, c7⟩ := aP c4
refine mz (aC z z underlying43 sizeOf37 (ax x) c5 c6) (ml z isAgg37 (dU x lr b c7 (by rintro _ rfl; rfl)) (mv (F6 _) z (ab (tn ?_))))
obtain ⟨i2, c8, i3, i4, i5, i6, i7, i8, O, c9⟩ := bi b.ag
replace O := dI O
subst O
have b := c9
refine rg b 12 [0, 1, 0, 4, 12, 28, 0, 124, 252, 511, 1023, 2047] [] mixed (sf 0 z z underlying33 z sizeOf30 (sl 1 z z isAgg30 (fun w b => b.bc9 z) (sp 2 z z (sp 3 z z (sf 4 z z underlying111 z sizeOf101 (sl 5 z z isAgg101 (fun w b => b.bc0 z) (sz (F6 _) 6 z z (e1 7 z z fun w b => ?_))))))))
replace b := b.ag
obtain ⟨Q, d0, c⟩ := bn c
refine wec call60 [c8, F6 c3, U6 18446744073709551615] z z ((mZ b.to1 d0).mono ?_)
rintro _ i9 ⟨d1, rfl, b⟩
refine ⟨_, z, ?_⟩
replace b := b.of2
refine wn [1, 0] b (pkr z z (fun w b => aq z isAgg30 (b.uo z)) (pf z z underlying33 z sizeOf30 bD)) (e1 8 z z fun w b => ?_)
obtain ⟨I802, d2, Y, b⟩ := b.cN
replace C := C.trans d2
obtain ⟨d3, d4, d5, d6, b⟩ := b.ey (E := aD) (xs := [Q]) [[.bool Q.Has, d1]] 61 1 z (bE.cons ⟨_, z, Y, oS (ah Y)⟩ bE.nil)
refine bW (v := (.slice (some ⟨d3, 0, none⟩) 1 1)) (w' := d4) z (dn (by kernel_rfl) d5 d6) (wn [1, 0] b (pkr z z (fun w b => aq z isAgg30 (b.uo z)) (pf z z underlying33 z sizeOf30 bD)) (e1 9 z z fun w b => ?_))
obtain ⟨d7, c⟩ := cz c
replace b := b.bS
obtain ⟨H, d8, d9, b⟩ := bI xX underlying30 b b.ju (cK d7 z) 30
refine bW (v := H) (w' := d8) z (bX z z d9) (w0n b (sf 10 z z underlying33 z sizeOf30 (e1 11 z z fun w b => ?_)))
replace b := b.bz
obtain ⟨j0, e0, b⟩ := b.cW (P := prog) (t := 30) (cs' := [Zi, Zu, Zu, H, Zs]) 3 H (oS b.sv1) sizeOf30 z z
refine dz z (aG e0) (w0n b (bp ?_))
intro w b
refine bF (tn (wrl (mi z (mi z (ab (tn ?_))))))
replace b := (av (Pt g 0) f b.bz.bz.bz.bz.bz.bz.bS.bz z).bc.bc.au.au.bf.oX
obtain rfl := sj c
exact ⟨_, nls, _, (B ++ ([Q])), (i64.wrap (F + 1)), H, X, fy z, C, b⟩
}
{
intro N c
refine ak (cvb N) (wp_exit (aV (aV ?_)))
replace c := bo c X
refine de (tn ?_)
replace b := b.aA.au.bf.bf.oX
obtain rfl := sj c
exact ⟨_, B, G, c1, fy z, M, b⟩
}
}
{
rintro _ j1 ⟨I820, A, d, c, ⟨j2, rfl⟩, Z, b⟩
dsimp only [kH] at c
replace j := j.mono (ns Z)
replace y := y.trans Z
refine wp_seq (wp_seq (wrl (mf z underlying46 z sizeOf44 (ml z isAgg44 (b.bc1 z) (mz (bZ z underlying44 (ax j)) (mi z (ab (tn (wp_block ?_)))))))))
replace b := b.ag.sub.bd (dJ az)
obtain ⟨e2, c⟩ := aX c
refine bm (fun n a w => ∃ (I991 : HL) (J : (List (List bQ))) (K : Int) (h : Value), cT (fD a1 f A) n (J, K) = some r ∧ fz 55 [0, 4, 5, 33, 34, 35] [Pt g 0, Pt o 0, Pt p 0, m, I6 ((a1.Scans).length : Int), I6 K] a ∧ I820.le I991 ∧ St w0 w I991 [bg (dJ az) h J, aI (Pt g 0) f, cells o [Zi, Zu, Zu, Zs, Zs], cells p [Zi, Zu, Zu, d, h], bg aD d A] R) e2 ⟨_, [], 0, Zs, c, fy z, lr, b⟩ ?_
rintro j3 _ j4 ⟨I991, J, K, h, c, ⟨j5, rfl⟩, k, b⟩
obtain ⟨j6, j7, rfl, c, b0⟩ := ba c
dsimp only [fD] at c
replace j := j.mono (ns k)
replace y := y.trans k
refine wp_seq (wrl (mb z (ab (tn (wp_seq (bs c ?_ ?_))))))
{
intro S c
refine ar (cvb S) (wp_skip (tn (wp_seq (wp_block (wp_seq (wrl ?_))))))
obtain ⟨q, e3, c⟩ := bn c
obtain ⟨e4, e5, e6⟩ := aP e3
refine mz (aC z z underlying44 sizeOf80 (ax j) e4 e5) (mz (ay (cs := [F6 q.1, F6 q.2]) z isAgg80 sizeOf80 (pD j lr b e6 0 (by rintro _ rfl; rfl))) ?_)
obtain ⟨j8, j9, e7, e8, b⟩ := b.box [Zf, Zf] 80
refine wa e7 e8 ?_
obtain ⟨k0, e9, b⟩ := b.bx [F6 q.1, F6 q.2] sizeOf80 z (oC z (oC z oN)) (by kernel_rfl)
refine aE z z (aG e9) (ab (tn ?_))
obtain ⟨k1, f0, k2, k3, k4, k5, k6, k7, T, f1⟩ := bi b.aA
replace T := dI T
subst T
have b := f1
refine rg b 15 [0, 1, 0, 4, 12, 28, 0, 64, 0, 256, 1020, 2044, 4095, 8191, 16383] [] mixed (sf 0 z z underlying33 z sizeOf31 (sl 1 z z isAgg31 (fun w b => b.Fx z) (sp 2 z z (sp 3 z z (sf 4 z z underlying111 z sizeOf101 (sl 5 z z isAgg101 (fun w b => b.bc0 z) (sh (Pt _ _) 6 z (fun w b => kB (i := 0) z z underlying80 sizeOf37 (by decide) (by decide)) (sl 7 z z isAgg37 (fun w b => b.bc8 z) (sh (Pt _ _) 8 z (fun w b => kB (i := 1) z z underlying80 sizeOf37 (by decide) (by decide)) (sl 9 z z isAgg37 (fun w b => b.bc8 z) (e1 10 z z fun w b => ?_)))))))))))
replace b := b.ag
obtain ⟨b1, f2, c⟩ := bn c
refine wec call77 [f0, F6 q.1, F6 q.2, U6 18446744073709551615, I6 64] z z ((sT b.to1 f2).mono ?_)
rintro _ k8 ⟨I1032, f3, rfl, f4, b⟩
refine ⟨_, z, ?_⟩
replace b := b.of2
replace k := k.trans f4
refine wn [1, 0] b (pkr z z (fun w b => aq z isAgg31 (b.FF z)) (pf z z underlying33 z sizeOf31 bD)) (e1 11 z z fun w b => ?_)
obtain ⟨I1037, f5, U, b⟩ := b.cN
replace k := k.trans f5
obtain ⟨f6, f7, f8, f9, b⟩ := b.ey (E := (dJ az)) (xs := [b1]) [[f3]] 81 1 z (bE.cons ⟨_, z, U, oS (ah U)⟩ bE.nil)
refine bW (v := (.slice (some ⟨f6, 0, none⟩) 1 1)) (w' := f7) z (dn (by obtain ⟨_, _, hv_, _⟩ := (ah U); rw [hv_]; kernel_rfl) f8 f9) (wn [1, 0] b (pkr z z (fun w b => aq z isAgg31 (b.FF z)) (pf z z underlying33 z sizeOf31 bD)) (e1 12 z z fun w b => ?_))
obtain ⟨g0, c⟩ := cz c
replace b := b.bz
obtain ⟨L, g1, g2, b⟩ := bI xI underlying31 b b.ju (cK g0 z) 31
refine bW (v := L) (w' := g1) z (bX z z g2) (w0n b (sf 13 z z underlying33 z sizeOf31 (e1 14 z z fun w b => ?_)))
replace b := b.nv
obtain ⟨k9, g3, b⟩ := b.cW (P := prog) (t := 31) (cs' := [Zi, Zu, Zu, d, L]) 4 L (oS b.sv1) sizeOf31 z z
refine dz z (aG g3) (w0n b (bp ?_))
intro w b
refine bF (tn (wrl (mi z (mi z (ab (tn ?_))))))
replace b := (av (Pt g 0) f b.bz.bz.bz.bz.bz.bz.bS.bz z).da.aA.da.au.bf.oX
obtain rfl := sj c
exact ⟨_, nls, _, (J ++ ([b1])), (i64.wrap (K + 1)), L, b0, fy z, k, b⟩
}
{
intro S c
refine ak (cvb S) (wp_exit (aV (aV ?_)))
replace c := bo c b0
refine de (tn (wp_seq (wrl (mz (ay (cs := [Zi, Zu, Zu, d, h]) z isAgg33 sizeOf33 (b.rI 0 z)) ?_))))
replace b := b.aA
obtain ⟨l0, g4, b⟩ := b.bx [Zi, Zu, Zu, d, h] sizeOf33 z (oJ 3 z (oC (oS b.sv4) (oC (oS b.sv1) oN))) (by kernel_rfl)
refine aE z z (aG g4) (ab (tn (wp_ret ?_)))
replace b := aO b.aA
obtain rfl := sj c
refine aZ [.agg #[Zi, Zu, Zu, d, h]] results33 (bq (bJ (cs := [Zi, Zu, Zu, d, h]) z isAgg33 sizeOf33 (b.eK 0 z)) ai) ?_
replace b := b.aA.bf
exact ⟨_, d, h, z, y, b.dF⟩
}
}
}
}
theorem qV {a0 : (Option ae)} {p0 : Value} {a1 : aH} {d f g h s t u v : Value} (n : Rd bY R I d a1.Hold.Gets) (o : Rd gB R I f a1.Hold.Scans) (p : Rd bY R I g a1.Hold.Puts) (q : Rd (cp .u8) R I h a1.Hold.Data) (S : Rd cI R I s a1.Writes) (T : Rd aD R I t a1.R.Gots) (U : Rd (dJ az) R I u a1.R.Scans) (V : Rd cM R I v a1.Parts) (a : St w0 w I [cF aI p0 a0] R) {r : (bj × (Option ae))} (c : jf a0 a1 = some r) :
  Calls prog 48 #[p0, .agg #[U1 a1.Kind, U6 a1.ID.Session, U6 a1.ID.Seq, U6 a1.Epoch, U6 a1.Index, I6 a1.E, U6 a1.Hold.ID.Session, U6 a1.Hold.ID.Seq, U6 a1.Hold.Epoch, d, f, g, h, s, I6 a1.R.E, U6 a1.R.Epoch, U6 a1.R.Index, t, u, U6 a1.Shards, v, U6 a1.Rule.ID, I6 a1.Rule.From, I6 a1.Rule.To, F6 a1.Rule.Lo, F6 a1.Rule.Hi, U6 a1.Rule.Authority, I6 a1.Rule.Quota, .bool a1.On]] w fun e w' => ∃ (I' : HL) (y : Value) (A : Value), e = .returned (.agg #[U1 r.1.Kind, U6 r.1.ID.Session, U6 r.1.ID.Seq, I6 r.1.R.E, U6 r.1.R.Epoch, U6 r.1.R.Index, y, A]) ∧ I.le I' ∧ St w0 w' I' [bg aD y r.1.R.Gots, bg (dJ az) A r.1.R.Scans, cF aI p0 r.2] R := by {
unfold jf at c
refine c0 func48 z ntmps48 ?_
have k := HL.le.refl I
refine wp_seq (wrl ?_)
obtain ⟨W, X, B, C, a⟩ := a.box [U1 a1.Kind, U6 a1.ID.Session, U6 a1.ID.Seq, U6 a1.Epoch, U6 a1.Index, I6 a1.E, U6 a1.Hold.ID.Session, U6 a1.Hold.ID.Seq, U6 a1.Hold.Epoch, d, f, g, h, s, I6 a1.R.E, U6 a1.R.Epoch, U6 a1.R.Index, t, u, U6 a1.Shards, v, U6 a1.Rule.ID, I6 a1.Rule.From, I6 a1.Rule.To, F6 a1.Rule.Lo, F6 a1.Rule.Hi, U6 a1.Rule.Authority, I6 a1.Rule.Quota, .bool a1.On] 49
refine wa B C ?_
obtain ⟨Y, Z, D, F, a⟩ := a.box [Zb, Zu, Zu, Zi, Zu, Zu, Zs, Zs] 35
refine wa D F (ab (tn (wp_seq (wrl (mf z underlying49 z sizeOf46 (mf z underlying46 z sizeOf28 (mz (ay (cs := [U6 a1.Hold.ID.Session, U6 a1.Hold.ID.Seq]) z isAgg28 sizeOf28 (a.eK 6 z)) (mk (.agg #[U1 2, U6 a1.Hold.ID.Session, U6 a1.Hold.ID.Seq, Zi, Zu, Zu, Zs, Zs]) ?_))))))))
obtain ⟨b0, b1, G, H, a⟩ := a.box [Zb, Zu, Zu, Zi, Zu, Zu, Zs, Zs] 35
refine wa G H ?_
obtain ⟨b2, J, a⟩ := a.bx [U1 2, U6 a1.Hold.ID.Session, U6 a1.Hold.ID.Seq, Zi, Zu, Zu, Zs, Zs] sizeOf35 z (oJ 8 z oN) (by kernel_rfl)
refine aE z z (aG J) (ab (tn (wp_seq (wp_seq (wrl (mv (p0) z (mf z underlying49 z sizeOf46 (mz (ay (cs := [U6 a1.Hold.ID.Session, U6 a1.Hold.ID.Seq, U6 a1.Hold.Epoch, d, f, g, h]) z isAgg46 sizeOf46 (a.pR 6 z)) ?_))))))))
replace a := a.au
obtain ⟨l, K, c⟩ := bn c
refine wc call19 [p0, .agg #[U6 a1.Hold.ID.Session, U6 a1.Hold.ID.Seq, U6 a1.Hold.Epoch, d, f, g, h]] z z z ((te (n.mono (cC _)) (o.mono (cC _)) (p.mono (cC _)) (q.mono (cC _)) a.to1 K).mono ?_)
rintro _ b3 ⟨I158, rfl, m, a⟩
refine ⟨_, z, ?_⟩
replace a := a.of1
replace n := n.mono (ns m)
replace o := o.mono (ns m)
replace p := p.mono (ns m)
replace q := q.mono (ns m)
replace k := k.trans m
refine mf z underlying35 z sizeOf33 (mf z underlying33 z sizeOf29 ?_)
replace a := a.ag
obtain ⟨b4, L, a⟩ := a.by_ [U1 2, U6 a1.Hold.ID.Session, U6 a1.Hold.ID.Seq, I6 l.1, Zu, Zu, Zs, Zs] 3 (.int .i64 l.1) sizeOf29 z (oC z oN) (by kernel_rfl)
refine aE z z (aG L) (ab (tn (wp_seq (wrl (mf z underlying35 z sizeOf33 (mf z underlying33 z sizeOf29 (ml z isAgg29 (a.bc0 z) (mb z (ab (tn (bs c ?_ ?_)))))))))))
{
intro x c
refine ar (cvb x) (wrl (mv (p0) z (mf z underlying49 z sizeOf46 (mz (ay (cs := [U6 a1.Hold.ID.Session, U6 a1.Hold.ID.Seq, U6 a1.Hold.Epoch, d, f, g, h]) z isAgg46 sizeOf46 (a.rI 6 z)) ?_))))
replace a := a.ag
obtain ⟨b, M, c⟩ := bn c
refine wc call33 [p0, .agg #[U6 a1.Hold.ID.Session, U6 a1.Hold.ID.Seq, U6 a1.Hold.Epoch, d, f, g, h]] z z z ((ta (n.mono (cC _)) (o.mono (cC _)) (p.mono (cC _)) (q.mono (cC _)) a.to1 M).mono ?_)
rintro _ b5 ⟨I166, i, j, rfl, N, a⟩
refine ⟨_, z, ?_⟩
replace a := a.of3
replace k := k.trans N
refine mf z underlying35 z sizeOf33 ?_
replace a := a.au
obtain ⟨b6, O, a⟩ := a.by_ [U1 2, U6 a1.Hold.ID.Session, U6 a1.Hold.ID.Seq, I6 b.E, U6 b.Epoch, U6 b.Index, i, j] 3 (.agg #[I6 b.E, U6 b.Epoch, U6 b.Index, i, j]) sizeOf33 z (oJ 3 z (oC (oS a.sv1) (oC (oS a.sv2) oN))) (by kernel_rfl)
refine aE z z (aG O) (ab (tn (wp_seq (wrl (mz (ay (cs := [U1 2, U6 a1.Hold.ID.Session, U6 a1.Hold.ID.Seq, I6 b.E, U6 b.Epoch, U6 b.Index, i, j]) z isAgg35 sizeOf35 (a.eF 0 z)) ?_)))))
replace a := a.bf
obtain ⟨b7, P, a⟩ := a.bx [U1 2, U6 a1.Hold.ID.Session, U6 a1.Hold.ID.Seq, I6 b.E, U6 b.Epoch, U6 b.Index, i, j] sizeOf35 z (oJ 6 z (oC (oS a.sv2) (oC (oS a.sv3) oN))) (by kernel_rfl)
refine aE z z (aG P) (ab (tn (wp_ret ?_)))
obtain rfl := sj c
refine aZ [.agg #[U1 2, U6 a1.Hold.ID.Session, U6 a1.Hold.ID.Seq, I6 b.E, U6 b.Epoch, U6 b.Index, i, j]] results48 (bq (bJ (cs := [U1 2, U6 a1.Hold.ID.Session, U6 a1.Hold.ID.Seq, I6 b.E, U6 b.Epoch, U6 b.Index, i, j]) z isAgg35 sizeOf35 (a.eF 0 z)) ai) ?_
replace a := a.bf.bf.bf
exact ⟨_, i, j, z, k, a.dF⟩
}
{
intro x c
refine ak (cvb x) (wp_skip (tn (wp_seq (wrl (mz (ay (cs := [U1 2, U6 a1.Hold.ID.Session, U6 a1.Hold.ID.Seq, I6 l.1, Zu, Zu, Zs, Zs]) z isAgg35 sizeOf35 (a.eF 0 z)) ?_)))))
replace a := a.aA
obtain ⟨b8, Q, a⟩ := a.bx [U1 2, U6 a1.Hold.ID.Session, U6 a1.Hold.ID.Seq, I6 l.1, Zu, Zu, Zs, Zs] sizeOf35 z (oJ 8 z oN) (by kernel_rfl)
refine aE z z (aG Q) (ab (tn (wp_ret ?_)))
replace a := (a.bd aD).bd (dJ az)
obtain rfl := sj c
refine aZ [.agg #[U1 2, U6 a1.Hold.ID.Session, U6 a1.Hold.ID.Seq, I6 l.1, Zu, Zu, Zs, Zs]] results48 (bq (bJ (cs := [U1 2, U6 a1.Hold.ID.Session, U6 a1.Hold.ID.Seq, I6 l.1, Zu, Zu, Zs, Zs]) z isAgg35 sizeOf35 (a.pR 0 z)) ai) ?_
replace a := a.bf.ag.aA
exact ⟨_, Zs, Zs, z, k, a.dF⟩
}
}
theorem mJ {a0 : (List ap)} {b : Value} {a1 a2 : Int} (a : St w0 w I [bg bt b a0] R) {r : (List ap)} (d : eO a0 a1 a2 = some r) :
  Calls prog 182 #[b, I6 a1, I6 a2] w fun e w' => ∃ (f : Value), e = .returned (f) ∧ St w0 w' I [bg bt f r] R := by {
unfold eO at d
obtain ⟨hg, d⟩ := cz d
obtain rfl := sj d
obtain ⟨g, o, q⟩ := sw hg
obtain ⟨j, rfl⟩ := Int.eq_ofNat_of_zero_le (Int.le_trans g o)
obtain ⟨k, rfl⟩ := Int.eq_ofNat_of_zero_le g
have hkj : k ≤ j := by omega
have hs : ∀ w : World, (sizeOf 46).run prog w = .ok bt.sz w := sizeOf46
obtain ⟨css, hr, a⟩ := a.cB
obtain ⟨n, hn⟩ : ∃ n, css.length = n := ⟨_, rfl⟩
have hln : a0.length = n := hr.1.trans hn
have hjn : j ≤ n := by omega
have hsv : di b n := by have := a.cG.2; rwa [hn] at this
have hoc := hr.sY
refine c0 func182 z ntmps182 (wp_seq (wrl (mv ((.slice none 0 0)) z (ab (tn (wp_seq (wrl (mv (b) z (mi z (mi z (mv (b) z (mz (bZ z underlying125 hsv) (Ek z z (yz underlying125 hs z hsv z z z hkj hjn) fun s => ab (tn (wp_seq (wp_seq (wrl (mi z (mi z (mb z (ab (tn (iw ((k : Int) == (j : Int)) (fun c => ?_) (fun c => ?_))))))))))))))))))))))))
{
refine ar (cvb c) (wp_seq (wrl (mv (b) z (mv (b) z (ab (tn (wp_ret (aN (aZ [b] results182 (rc z ai) ?_)))))))))
rw [zV c]
exact ⟨_, z, (a.bh hr).bu⟩
}
{
refine ak (cvb c) ?_
have hne : ¬ ((k : Int) = (j : Int)) := by simpa using c
have hlt : k < j := by omega
refine wp_skip (tn (wp_seq (wrl (mv (b) z (mz (bZ z underlying125 hsv) (mi z (ab (tn (wp_seq (rg a 8 [0, 0, 3, 0, 0, 24, 63, 127] [7] mixed (sz (b) 0 z z (si 1 z z (sh ((dl bt.sz b 0 k)) 2 z (fun w a => cE (lo := (0 : Nat)) (hi := (k : Nat)) underlying125 hs z hsv (by omega) (by omega) (by omega) .i64 .i64 (.inr ⟨z, z⟩) (.inl z)) (sz (b) 3 z z (si 4 z z (sh ((dl bt.sz b j n)) 5 z (fun w a => cE (lo := (j : Nat)) (hi := (n : Nat)) underlying125 hs z hsv (by omega) (by omega) (by omega) .i64 .i64 (.inl z) (.inr ⟨z, z⟩)) (e1 6 z z fun w a => ?_)))))))))))))))))
obtain ⟨p, hra, a⟩ := vH (P := prog) underlying125 hs a hn hlt hjn hoc 125
refine bW (v := (dl bt.sz b 0 (k + (n - j)))) (w' := p) z (bX z z hra) ?_
have hnl := (show _ from a)
clear hnl
have i : (css.take k ++ (css.drop j ++ css.drop (k + (n - j)))).length = n := by simp only [List.length_append, List.length_take, List.length_drop]; omega
have hsm := Ak a i (m := (k + (n - j))) (by omega)
refine w0n a (e1 7 z z fun w a => bW (v := (dl bt.sz b 0 (k + (n - j)))) (w' := w) z z (w0n a (bp ?_)))
intro w a
refine tn (wp_seq (wrl (mv ((dl bt.sz b 0 (k + (n - j)))) z (mv ((dl bt.sz b 0 (k + (n - j)))) z (mz (bZ z underlying125 hsm) (mi z (mv ((dl bt.sz b (k + (n - j)) n)) (xb underlying125 hs z hsv z z (by omega) (by omega)) ?_)))))))
obtain ⟨t, hrc, a⟩ := wU qw z (nH (by kernel_rfl)) a i (m := (k + (n - j))) (by omega) 0
refine AN z z (Ah z hrc) (ab (tn (wp_seq (wrl (mv ((dl bt.sz b 0 (k + (n - j)))) z (mv ((dl bt.sz b 0 (k + (n - j)))) z (ab (tn (wp_ret (aZ [(dl bt.sz b 0 (k + (n - j)))] results182 (rc z ai) ?_))))))))))
replace a := a.ib (l := 0) (h := (k + (n - j))) (Nat.zero_le _) (by simp only [List.length_append, List.length_take, List.length_drop, List.length_replicate]; omega)
rw [yr hn hlt hjn (List.length_replicate ..)] at a
exact ⟨_, z, (a.bh ((hr.take k).app (hr.drop j))).bu⟩
}
}
theorem rE {a0 : (Option cg)} {p0 : Value} {a1 : bO} (a : St w0 w I [cF bT p0 a0] R) {r : (Bool × (Option cg))} (b : iU a0 a1 = some r) :
  Calls prog 122 #[p0, .agg #[U6 a1.Session, U6 a1.Seq]] w fun e w' => e = .returned (.bool r.1) ∧ St w0 w' I [cF bT p0 r.2] R := by {
rcases a0 with _ | q
{
dsimp only [iU] at b
cases b
}
{
replace a := bH a
dsimp only [iU] at b
refine c0 func122 z ntmps122 (wp_seq (wrl ?_))
obtain ⟨s, u, g, h, a⟩ := a.box [U6 a1.Session, U6 a1.Seq] 28
refine wa g h (mb z (ab (tn (wp_seq (wrl (mv (p0) z (mz (ay (cs := [U6 a1.Session, U6 a1.Seq]) z isAgg28 sizeOf28 (a.eF 0 z)) ?_)))))))
replace a := aO a.ag
obtain ⟨c, i, b⟩ := bn b
refine wc call135 [p0, .agg #[U6 a1.Session, U6 a1.Seq]] z z z ((lT a.to1 i).mono ?_)
rintro _ v ⟨rfl, a⟩
refine ⟨_, z, ?_⟩
replace a := bH a.of1
refine mv (.tuple #[I6 c.1, .bool c.2]) z (mi z (mb z (mi z (mb z (ab (tn (wp_seq (wp_seq (wrl (mb z (ab (tn (bs b ?_ ?_)))))))))))))
{
intro d b
refine ar (cvb d) (wrl (mv (p0) z (mv (p0) z ?_)))
obtain ⟨j, k, rfl, m⟩ := dE a
have a := m
refine mp z (mf z underlying203 z sizeOf125 (ml z isAgg125 (a.bc0 z) (mi z (mi z (mi z ?_)))))
replace a := a.ag
obtain ⟨n, o, b⟩ := bn b
refine wc call182 [k, I6 c.1, I6 (i64.wrap (c.1 + 1))] z z z ((mJ a.to1 o).mono ?_)
rintro _ x ⟨f, rfl, a⟩
refine ⟨_, z, ?_⟩
replace a := a.of1
refine mp z (mf z underlying203 z sizeOf125 ?_)
replace a := a.ag
obtain ⟨y, p, a⟩ := a.cW (P := prog) (t := 125) (cs' := [f]) 0 f (oS a.sv1) sizeOf125 z z
refine aE z z (aG p) (ab (tn (wp_seq (wrl (mb z (mb z (ab (tn (wp_ret ?_)))))))))
replace a := aO (dq (Pt j 0) (({ l := n } : cg)) a.ag.ag z)
obtain rfl := sj b
exact aZ [.bool c.2] results122 (rc z ai) ⟨z, a.bu⟩
}
{
intro d b
refine ak (cvb d) (wp_skip (tn (wp_seq (wrl (mb z (mb z (ab (tn (wp_ret ?_)))))))))
replace a := aO a
obtain rfl := sj b
exact aZ [.bool c.2] results122 (rc z ai) ⟨z, a.bu⟩
}
}
}
theorem lH {a0 : (List (List Value))} {d : Value} {a1 : Int} {a2 : (List (List Value))} {g : Value} (c : St w0 w I [bg (lL 2) d a0, bg (lL 2) g a2] R) {r : (List (List Value))} (q : ft a0 a1 a2 = some r) :
  Calls prog 183 #[d, I6 a1, g] w fun e w' => ∃ (x : Value), e = .returned (x) ∧ St w0 w' I [bg (lL 2) x r] R := by {
unfold ft at q
obtain ⟨hg, q⟩ := cz q
obtain rfl := sj q
obtain ⟨A, S, hrm⟩ := qJ hg
obtain ⟨k, rfl⟩ := Int.eq_ofNat_of_zero_le A
have hsm := qM hrm
have hk : k ≤ a0.length := by omega
have hs : ∀ w : World, (sizeOf 240).run prog w = .ok (lL 2).sz w := sizeOf240
have y : 0 < (lL 2).sz := Nat.le_of_ble_eq_true rfl
have hov : ∀ (args : Array Value) (w : World), (callFunc 205 args).run prog w = (Extern.SlicesOverlaps.overlaps #[199, 199] #[4] args >>= fun v => (pure (.value v) : Sem Next)).run prog w := by intro args w; kernel_rfl
obtain ⟨css, hr, c⟩ := c.cB
replace c := c.ag
obtain ⟨dss, hq, c⟩ := c.cB
replace c := c.ag
obtain ⟨n, hn⟩ : ∃ n, css.length = n := ⟨_, rfl⟩
obtain ⟨m, hm'⟩ : ∃ m, dss.length = m := ⟨_, rfl⟩
have hln : a0.length = n := hr.1.trans hn
have hlm : a2.length = m := hq.1.trans hm'
rw [hln] at hsm hk
rw [hlm] at hsm
have hsv : di d n := by have := c.cG.2; rwa [hn] at this
have hsq : di g m := by have := c.ag.cG.2; rwa [hm'] at this
have hoc := hr.sY
have hoq := hq.sY
have s := wrap_add (a := n) (b := m) (by omega)
have t := wrap_add (a := k) (b := m) (by omega)
have B := pC (a := n + m) (b := k) (by omega) (by omega)
have hrb := cK (b := 32) hrm rfl
rw [hln, hlm] at hrb
refine c0 func183 z ntmps183 (wp_seq (wrl (mv ((.slice none 0 0)) z (ab (tn (wp_seq (wrl (mv (d) z (mi z (mv ((dl (lL 2).sz d k n)) (cE (lo := (k : Nat)) (hi := (n : Nat)) underlying199 hs z hsv (by omega) (by omega) (by omega) .i64 .i64 (.inl z) (.inr ⟨z, z⟩)) (ab (tn (wp_seq (wrl (mv (g) z (mz (bZ z underlying199 hsq) (mi z (ab (tn (wp_seq (wp_seq (wrl (mi z (mb z (ab (tn (iw ((m : Int) == 0) (fun j => ?_) (fun j => ?_))))))))))))))))))))))))))))
{
refine ar (cvb j) (wp_seq (wrl (mv (d) z (mv (d) z (ab (tn (wp_ret (aN (aZ [d] results183 (rc z ai) ?_)))))))))
rw [sD (by rw [hlm]; exact j)]
exact ⟨_, z, (c.bh hr).bu⟩
}
{
refine ak (cvb j) ?_
have C : m ≠ 0 := fun h => by rw [h] at j; cases j
have D : dss ≠ [] := fun h => C (by rw [← hm', h]; rfl)
refine wp_skip (tn (wp_seq (wrl (mv (d) z (mz (bZ z underlying199 hsv) (mi z (ab (tn (wp_seq (wp_seq (wrl (mi z (mi z (mb z (ab (tn (iw ((k : Int) == (n : Int)) (fun o => ?_) (fun o => ?_))))))))))))))))))
{
refine ar (cvb o) (wp_seq (wrl (mv (d) z (mv (g) z ?_))))
replace c := ((c.bh hr).ag.bh hq).ag
obtain ⟨f, u, hra, c⟩ := bI xe underlying199 c c.ju (cK hrm z) 199
refine cb (v := f) (w' := u) z z (bX z z hra) (mv (f) z (ab (tn (wp_ret (aN (aZ [f] results183 (rc z ai) ?_))))))
rw [sK (by rw [hln]; exact o)]
exact ⟨_, z, c.bu⟩
}
{
refine ak (cvb o) ?_
have hkn : k ≠ n := fun h => by rw [h] at o; simp at o
have E : 0 < n := by omega
have F : css ≠ [] := fun h => by rw [h] at hn; simp at hn; omega
refine wp_skip (tn (wp_seq (wp_seq (wrl (mi z (mi z (mi (dy s z) (mv (d) z (mi (xa z underlying199 hsv) (mb z (ab (tn (iw (decide (((n + m : Nat) : Int) > (qL d : Int))) (fun p => ?_) (fun p => ?_))))))))))))))
{
refine ar (cvb p) (wp_seq (wrl (mv (d) z (mi z (mv ((dl (lL 2).sz d 0 k)) (cE (lo := (0 : Nat)) (hi := (k : Nat)) underlying199 hs z hsv (by omega) (by omega) (by omega) .i64 .i64 (.inr ⟨z, z⟩) (.inl z)) (mi z (mi z (mi (dy s z) (mi z (mi (dy B z) ?_))))))))))
obtain ⟨f, u, hra, i, zss, hzl, c⟩ := qI xe underlying3 c k (n + m - k) (by omega) (by have := of_decide_eq_true p; omega) (by rw [show k + (n + m - k) = n + m by omega]; exact hrb) y 199
rw [show k + (n + m - k) = n + m by omega] at i
refine cb (v := f) (w' := u) z z (bX z z hra) (mv (f) z (ab (tn (wp_seq (wrl (mv (f) z (mi z (mv ((dl (lL 2).sz f k (n + m))) (cE (lo := (k : Nat)) (hi := ((n + m) : Nat)) underlying199 hs z i (by omega) (by omega) (by omega) .i64 .i64 (.inl z) (.inr ⟨z, z⟩)) (mv (g) z ?_)))))))))
obtain ⟨G, H, c⟩ := dk (P := prog) (t2 := 199) (ty := 3) underlying199 hs c c.aA k m (N := n + m) (by first | omega | (simp only [List.length_append, List.length_take, List.length_drop]; omega)) (by first | omega | (simp only [List.length_append, List.length_take, List.length_drop]; omega)) (by omega) (by first | omega | (simp only [List.length_append, List.length_take, List.length_drop]; omega)) (dV hoq _)
refine cb (v := .int .i64 (m : Nat)) (w' := G) z z (iF z z H) (ab (tn (wp_seq (rg c 9 [0, 0, 0, 6, 15, 0, 0, 96, 255] [] mixed (sz (f) 0 z z (si 1 z z (si 2 z z (sh (I6 _) 3 z (fun w c => dy t z) (sh ((dl (lL 2).sz f (k + m) (n + m))) 4 z (fun w c => cE (lo := ((k + m) : Nat)) (hi := ((n + m) : Nat)) underlying199 hs z i (by omega) (by omega) (by omega) .i64 .i64 (.inl z) (.inr ⟨z, z⟩)) (sz (d) 5 z z (si 6 z z (sh ((dl (lL 2).sz d k n)) 7 z (fun w c => cE (lo := (k : Nat)) (hi := (n : Nat)) underlying199 hs z hsv (by omega) (by omega) (by omega) .i64 .i64 (.inl z) (.inr ⟨z, z⟩)) (e1 8 z z fun w c => ?_)))))))))))))
obtain ⟨J, K, c⟩ := dk (P := prog) (t2 := 199) (ty := 3) underlying199 hs c (c.ag.ib (l := k) (h := n) hk (by omega)) (k + m) (n - k) (N := n + m) (by first | omega | (simp only [List.length_append, List.length_take, List.length_drop]; omega)) (by first | omega | (simp only [List.length_append, List.length_take, List.length_drop]; omega)) (by omega) (by first | omega | (simp only [List.length_append, List.length_take, List.length_drop]; omega)) (dV (iW (dV hoc _) _) _)
refine bW (v := .int .i64 ((n - k) : Nat)) (w' := J) z (iF z z K) (w0n c (bp ?_))
intro w c
refine tn (wp_seq (wrl (mv (f) z (mv (f) z (ab (tn (wp_ret (aN (aZ [f] results183 (rc z ai) ?_)))))))))
rw [pw hn hm' hk hzl] at c
exact ⟨_, z, (c.bh ((hr.take k).app (hq.app (hr.drop k)))).bu⟩
}
{
refine ak (cvb p) ?_
have hup : n + m ≤ qL d := by have := of_decide_eq_false p; omega
obtain ⟨ess, hel, hem, hst'⟩ := c.uE (n + m) (by omega) hup F
rw [show n + m - css.length = m by omega] at hel
have i : di (upV d (n + m)) (n + m) := by have := hst'.cG.2; rwa [List.length_append, hn, hel] at this
clear c
have c := hst'
clear hst'
refine wp_skip (tn (wp_seq (wrl (mv (d) z (mi z (mi z (mi (dy s z) (mv ((upV d (n + m))) (pj underlying199 hs z hsv z hup E) (mv ((upV d (n + m))) z (ab (tn (wp_seq (wp_seq (wrl (mv (g) z (mv ((upV d (n + m))) z (mi z (mi z (mi (dy t z) (mv ((dl (lL 2).sz (upV d (n + m)) (k + m) (n + m))) (cE (lo := ((k + m) : Nat)) (hi := ((n + m) : Nat)) underlying199 hs z i (by omega) (by omega) (by omega) .i64 .i64 (.inl z) (.inr ⟨z, z⟩)) (mb (wZ z z z (hov _) (mj z underlying199 hs c.ag (k + m) (N := n + m) (by rw [List.length_append]; omega) (by omega) D y)) (mb z (ab (tn (ar z (wp_seq (rg c 9 [0, 0, 0, 6, 15, 0, 0, 96, 255] [] mixed (sz ((upV d (n + m))) 0 z z (si 1 z z (si 2 z z (sh (I6 _) 3 z (fun w c => dy t z) (sh ((dl (lL 2).sz (upV d (n + m)) (k + m) (n + m))) 4 z (fun w c => cE (lo := ((k + m) : Nat)) (hi := ((n + m) : Nat)) underlying199 hs z i (by omega) (by omega) (by omega) .i64 .i64 (.inl z) (.inr ⟨z, z⟩)) (sz ((upV d (n + m))) 5 z z (si 6 z z (sh ((dl (lL 2).sz (upV d (n + m)) k (n + m))) 7 z (fun w c => cE (lo := (k : Nat)) (hi := ((n + m) : Nat)) underlying199 hs z i (by omega) (by omega) (by omega) .i64 .i64 (.inl z) (.inr ⟨z, z⟩)) (e1 8 z z fun w c => ?_))))))))))))))))))))))))))))))))))))
obtain ⟨L, M, c⟩ := dk (P := prog) (t2 := 199) (ty := 3) underlying199 hs c (c.ib (l := k) (h := n + m) (by omega) (by rw [List.length_append]; omega)) (k + m) (n - k) (N := n + m) (by first | omega | (simp only [List.length_append, List.length_take, List.length_drop]; omega)) (by first | omega | (simp only [List.length_append, List.length_take, List.length_drop]; omega)) (by omega) (by first | omega | (simp only [List.length_append, List.length_take, List.length_drop]; omega)) (by rw [qq hn hm' hk hel]; exact iW hoc _)
refine bW (v := .int .i64 ((n - k) : Nat)) (w' := L) z (iF z z M) (w0n c (bp ?_))
intro w c
refine tn (wp_seq (wrl (mv ((upV d (n + m))) z (mi z (mv ((dl (lL 2).sz (upV d (n + m)) k (n + m))) (cE (lo := (k : Nat)) (hi := ((n + m) : Nat)) underlying199 hs z i (by omega) (by omega) (by omega) .i64 .i64 (.inl z) (.inr ⟨z, z⟩)) (mv (g) z ?_))))))
obtain ⟨O, Q, c⟩ := dk (P := prog) (t2 := 199) (ty := 3) underlying199 hs c c.ag k m (N := n + m) (by first | omega | (simp only [List.length_append, List.length_take, List.length_drop]; omega)) (by first | omega | (simp only [List.length_append, List.length_take, List.length_drop]; omega)) (by omega) (by first | omega | (simp only [List.length_append, List.length_take, List.length_drop]; omega)) (dV hoq _)
refine cb (v := .int .i64 (m : Nat)) (w' := O) z z (iF z z Q) (ab (tn (wp_seq (wrl (mv ((upV d (n + m))) z (mv ((upV d (n + m))) z (ab (tn (wp_ret (aN (aZ [(upV d (n + m))] results183 (rc z ai) ?_)))))))))))
rw [pu hn hm' hk hel] at c
exact ⟨_, z, (c.bh ((hr.take k).app (hq.app (hr.drop k)))).bu⟩
}
}
}
}
theorem mT {a0 : (List bV)} {c : Value} {a1 : Int} {a2 : (List bV)} {d : Value} (b : St w0 w I [ql cq c a0, ql cq d a2] R) {r : (List bV)} (a : eN a0 a1 a2 = some r) :
  Calls prog 183 #[c, I6 a1, d] w fun e w' => ∃ (f : Value), e = .returned (f) ∧ St w0 w' I [ql cq f r] R := by {
unfold eN at a
obtain ⟨hg, a⟩ := cz a
obtain rfl := sj a
obtain ⟨vs, us, g, h, b⟩ := b.CI
refine Calls.mono (lH b.to2 (r := ins (cq.cs a0 vs) a1 (cq.cs a2 us)) (by unfold ft; rw [Db g h, hg]; rfl)) ?_
rintro _ w' ⟨q, rfl, hst'⟩
exact ⟨_, z, (hst'.of1.BY g h).bu⟩
}
theorem vJ {a0 : aY} {f : Value} {a1 a2 : Int} (i : Rd (cp .u8) R I f a0.Val) (d : St w0 w I [] R) {r : (Bool)} (c : pA a0 a1 a2 = some r) :
  Calls prog 185 #[.agg #[U6 a0.Epoch, U6 a0.Index, .bool a0.Del, f], U6 a1, U6 a2] w fun e w' => e = .returned (.bool r) ∧ St w0 w' I [] R := by {
unfold pA at c
refine c0 func185 z ntmps185 (wp_seq (wrl ?_))
obtain ⟨j, k, g, h, d⟩ := d.box [U6 a0.Epoch, U6 a0.Index, .bool a0.Del, f] 214
refine wa g h (mb z (ab (tn (wp_seq (wrl (mf z underlying214 z sizeOf26 (ml z isAgg26 (d.bc0 z) (mi z (mb z (mb z (bs c ?_ ?_)))))))))))
{
intro a c
refine go a (go a (go a (go a (go a (gu (gu (gu (gu (go a (mb (aS a z z) (mb z (ab (tn (wp_ret ?_))))))))))))))
obtain rfl := sj c
exact aZ [.bool true] results185 (rc z ai) ⟨z, d.bU⟩
}
{
intro a c
refine gg a (aT z underlying214 z sizeOf26 z) (gg a (aq z isAgg26 (d.bc0 z)) (gi a z (gb a z (gb a z (bs c ?_ ?_)))))
{
intro b c
refine gg b (aT z underlying214 z sizeOf26 z) (gg b (aq z isAgg26 (d.bc0 z)) (gi b z (gb b z (gb a (aS b z z) (mb (aJ a z z) (mb z (ab (tn (wp_ret ?_)))))))))
obtain rfl := sj c
exact aZ [.bool (decide (a0.Index < a2))] results185 (rc z ai) ⟨z, d.bU⟩
}
{
intro b c
refine go b (go b (go b (go b (gb a (aJ b z z) (mb (aJ a z z) (mb z (ab (tn (wp_ret ?_)))))))))
obtain rfl := sj c
exact aZ [.bool false] results185 (rc z ai) ⟨z, d.bU⟩
}
}
}
theorem ku {a0 : (List aY)} {d : Value} {a1 : Int} {a2 : (List aY)} {g : Value} (c : St w0 w I [bg cr d a0, bg cr g a2] R) {r : (List aY)} (q : dN a0 a1 a2 = some r) :
  Calls prog 186 #[d, I6 a1, g] w fun e w' => ∃ (x : Value), e = .returned (x) ∧ St w0 w' I [bg cr x r] R := by {
unfold dN at q
obtain ⟨hg, q⟩ := cz q
obtain rfl := sj q
obtain ⟨A, S, hrm⟩ := qJ hg
obtain ⟨k, rfl⟩ := Int.eq_ofNat_of_zero_le A
have hsm := qM hrm
have hk : k ≤ a0.length := by omega
have hs : ∀ w : World, (sizeOf 214).run prog w = .ok cr.sz w := sizeOf214
have y : 0 < cr.sz := Nat.le_of_ble_eq_true rfl
have hov : ∀ (args : Array Value) (w : World), (callFunc 207 args).run prog w = (Extern.SlicesOverlaps.overlaps #[238, 238] #[4] args >>= fun v => (pure (.value v) : Sem Next)).run prog w := by intro args w; kernel_rfl
obtain ⟨css, hr, c⟩ := c.cB
replace c := c.ag
obtain ⟨dss, hq, c⟩ := c.cB
replace c := c.ag
obtain ⟨n, hn⟩ : ∃ n, css.length = n := ⟨_, rfl⟩
obtain ⟨m, hm'⟩ : ∃ m, dss.length = m := ⟨_, rfl⟩
have hln : a0.length = n := hr.1.trans hn
have hlm : a2.length = m := hq.1.trans hm'
rw [hln] at hsm hk
rw [hlm] at hsm
have hsv : di d n := by have := c.cG.2; rwa [hn] at this
have hsq : di g m := by have := c.ag.cG.2; rwa [hm'] at this
have hoc := hr.sY
have hoq := hq.sY
have s := wrap_add (a := n) (b := m) (by omega)
have t := wrap_add (a := k) (b := m) (by omega)
have B := pC (a := n + m) (b := k) (by omega) (by omega)
have hrb := cK (b := 48) hrm rfl
rw [hln, hlm] at hrb
refine c0 func186 z ntmps186 (wp_seq (wrl (mv ((.slice none 0 0)) z (ab (tn (wp_seq (wrl (mv (d) z (mi z (mv ((dl cr.sz d k n)) (cE (lo := (k : Nat)) (hi := (n : Nat)) underlying238 hs z hsv (by omega) (by omega) (by omega) .i64 .i64 (.inl z) (.inr ⟨z, z⟩)) (ab (tn (wp_seq (wrl (mv (g) z (mz (bZ z underlying238 hsq) (mi z (ab (tn (wp_seq (wp_seq (wrl (mi z (mb z (ab (tn (iw ((m : Int) == 0) (fun j => ?_) (fun j => ?_))))))))))))))))))))))))))))
{
refine ar (cvb j) (wp_seq (wrl (mv (d) z (mv (d) z (ab (tn (wp_ret (aN (aZ [d] results186 (rc z ai) ?_)))))))))
rw [sD (by rw [hlm]; exact j)]
exact ⟨_, z, (c.bh hr).bu⟩
}
{
refine ak (cvb j) ?_
have C : m ≠ 0 := fun h => by rw [h] at j; cases j
have D : dss ≠ [] := fun h => C (by rw [← hm', h]; rfl)
refine wp_skip (tn (wp_seq (wrl (mv (d) z (mz (bZ z underlying238 hsv) (mi z (ab (tn (wp_seq (wp_seq (wrl (mi z (mi z (mb z (ab (tn (iw ((k : Int) == (n : Int)) (fun o => ?_) (fun o => ?_))))))))))))))))))
{
refine ar (cvb o) (wp_seq (wrl (mv (d) z (mv (g) z ?_))))
replace c := ((c.bh hr).ag.bh hq).ag
obtain ⟨f, u, hra, c⟩ := bI yH underlying238 c c.ju (cK hrm z) 238
refine cb (v := f) (w' := u) z z (bX z z hra) (mv (f) z (ab (tn (wp_ret (aN (aZ [f] results186 (rc z ai) ?_))))))
rw [sK (by rw [hln]; exact o)]
exact ⟨_, z, c.bu⟩
}
{
refine ak (cvb o) ?_
have hkn : k ≠ n := fun h => by rw [h] at o; simp at o
have E : 0 < n := by omega
have F : css ≠ [] := fun h => by rw [h] at hn; simp at hn; omega
refine wp_skip (tn (wp_seq (wp_seq (wrl (mi z (mi z (mi (dy s z) (mv (d) z (mi (xa z underlying238 hsv) (mb z (ab (tn (iw (decide (((n + m : Nat) : Int) > (qL d : Int))) (fun p => ?_) (fun p => ?_))))))))))))))
{
refine ar (cvb p) (wp_seq (wrl (mv (d) z (mi z (mv ((dl cr.sz d 0 k)) (cE (lo := (0 : Nat)) (hi := (k : Nat)) underlying238 hs z hsv (by omega) (by omega) (by omega) .i64 .i64 (.inr ⟨z, z⟩) (.inl z)) (mi z (mi z (mi (dy s z) (mi z (mi (dy B z) ?_))))))))))
obtain ⟨f, u, hra, i, zss, hzl, c⟩ := qI yH underlying3 c k (n + m - k) (by omega) (by have := of_decide_eq_true p; omega) (by rw [show k + (n + m - k) = n + m by omega]; exact hrb) y 238
rw [show k + (n + m - k) = n + m by omega] at i
refine cb (v := f) (w' := u) z z (bX z z hra) (mv (f) z (ab (tn (wp_seq (wrl (mv (f) z (mi z (mv ((dl cr.sz f k (n + m))) (cE (lo := (k : Nat)) (hi := ((n + m) : Nat)) underlying238 hs z i (by omega) (by omega) (by omega) .i64 .i64 (.inl z) (.inr ⟨z, z⟩)) (mv (g) z ?_)))))))))
obtain ⟨G, H, c⟩ := dk (P := prog) (t2 := 238) (ty := 3) underlying238 hs c c.aA k m (N := n + m) (by first | omega | (simp only [List.length_append, List.length_take, List.length_drop]; omega)) (by first | omega | (simp only [List.length_append, List.length_take, List.length_drop]; omega)) (by omega) (by first | omega | (simp only [List.length_append, List.length_take, List.length_drop]; omega)) (dV hoq _)
refine cb (v := .int .i64 (m : Nat)) (w' := G) z z (iF z z H) (ab (tn (wp_seq (rg c 9 [0, 0, 0, 6, 15, 0, 0, 96, 255] [] mixed (sz (f) 0 z z (si 1 z z (si 2 z z (sh (I6 _) 3 z (fun w c => dy t z) (sh ((dl cr.sz f (k + m) (n + m))) 4 z (fun w c => cE (lo := ((k + m) : Nat)) (hi := ((n + m) : Nat)) underlying238 hs z i (by omega) (by omega) (by omega) .i64 .i64 (.inl z) (.inr ⟨z, z⟩)) (sz (d) 5 z z (si 6 z z (sh ((dl cr.sz d k n)) 7 z (fun w c => cE (lo := (k : Nat)) (hi := (n : Nat)) underlying238 hs z hsv (by omega) (by omega) (by omega) .i64 .i64 (.inl z) (.inr ⟨z, z⟩)) (e1 8 z z fun w c => ?_)))))))))))))
obtain ⟨J, K, c⟩ := dk (P := prog) (t2 := 238) (ty := 3) underlying238 hs c (c.ag.ib (l := k) (h := n) hk (by omega)) (k + m) (n - k) (N := n + m) (by first | omega | (simp only [List.length_append, List.length_take, List.length_drop]; omega)) (by first | omega | (simp only [List.length_append, List.length_take, List.length_drop]; omega)) (by omega) (by first | omega | (simp only [List.length_append, List.length_take, List.length_drop]; omega)) (dV (iW (dV hoc _) _) _)
refine bW (v := .int .i64 ((n - k) : Nat)) (w' := J) z (iF z z K) (w0n c (bp ?_))
intro w c
refine tn (wp_seq (wrl (mv (f) z (mv (f) z (ab (tn (wp_ret (aN (aZ [f] results186 (rc z ai) ?_)))))))))
rw [pw hn hm' hk hzl] at c
exact ⟨_, z, (c.bh ((hr.take k).app (hq.app (hr.drop k)))).bu⟩
}
{
refine ak (cvb p) ?_
have hup : n + m ≤ qL d := by have := of_decide_eq_false p; omega
obtain ⟨ess, hel, hem, hst'⟩ := c.uE (n + m) (by omega) hup F
rw [show n + m - css.length = m by omega] at hel
have i : di (upV d (n + m)) (n + m) := by have := hst'.cG.2; rwa [List.length_append, hn, hel] at this
clear c
have c := hst'
clear hst'
refine wp_skip (tn (wp_seq (wrl (mv (d) z (mi z (mi z (mi (dy s z) (mv ((upV d (n + m))) (pj underlying238 hs z hsv z hup E) (mv ((upV d (n + m))) z (ab (tn (wp_seq (wp_seq (wrl (mv (g) z (mv ((upV d (n + m))) z (mi z (mi z (mi (dy t z) (mv ((dl cr.sz (upV d (n + m)) (k + m) (n + m))) (cE (lo := ((k + m) : Nat)) (hi := ((n + m) : Nat)) underlying238 hs z i (by omega) (by omega) (by omega) .i64 .i64 (.inl z) (.inr ⟨z, z⟩)) (mb (wZ z z z (hov _) (mj z underlying238 hs c.ag (k + m) (N := n + m) (by rw [List.length_append]; omega) (by omega) D y)) (mb z (ab (tn (ar z (wp_seq (rg c 9 [0, 0, 0, 6, 15, 0, 0, 96, 255] [] mixed (sz ((upV d (n + m))) 0 z z (si 1 z z (si 2 z z (sh (I6 _) 3 z (fun w c => dy t z) (sh ((dl cr.sz (upV d (n + m)) (k + m) (n + m))) 4 z (fun w c => cE (lo := ((k + m) : Nat)) (hi := ((n + m) : Nat)) underlying238 hs z i (by omega) (by omega) (by omega) .i64 .i64 (.inl z) (.inr ⟨z, z⟩)) (sz ((upV d (n + m))) 5 z z (si 6 z z (sh ((dl cr.sz (upV d (n + m)) k (n + m))) 7 z (fun w c => cE (lo := (k : Nat)) (hi := ((n + m) : Nat)) underlying238 hs z i (by omega) (by omega) (by omega) .i64 .i64 (.inl z) (.inr ⟨z, z⟩)) (e1 8 z z fun w c => ?_))))))))))))))))))))))))))))))))))))
obtain ⟨L, M, c⟩ := dk (P := prog) (t2 := 238) (ty := 3) underlying238 hs c (c.ib (l := k) (h := n + m) (by omega) (by rw [List.length_append]; omega)) (k + m) (n - k) (N := n + m) (by first | omega | (simp only [List.length_append, List.length_take, List.length_drop]; omega)) (by first | omega | (simp only [List.length_append, List.length_take, List.length_drop]; omega)) (by omega) (by first | omega | (simp only [List.length_append, List.length_take, List.length_drop]; omega)) (by rw [qq hn hm' hk hel]; exact iW hoc _)
refine bW (v := .int .i64 ((n - k) : Nat)) (w' := L) z (iF z z M) (w0n c (bp ?_))
intro w c
refine tn (wp_seq (wrl (mv ((upV d (n + m))) z (mi z (mv ((dl cr.sz (upV d (n + m)) k (n + m))) (cE (lo := (k : Nat)) (hi := ((n + m) : Nat)) underlying238 hs z i (by omega) (by omega) (by omega) .i64 .i64 (.inl z) (.inr ⟨z, z⟩)) (mv (g) z ?_))))))
obtain ⟨O, Q, c⟩ := dk (P := prog) (t2 := 238) (ty := 3) underlying238 hs c c.ag k m (N := n + m) (by first | omega | (simp only [List.length_append, List.length_take, List.length_drop]; omega)) (by first | omega | (simp only [List.length_append, List.length_take, List.length_drop]; omega)) (by omega) (by first | omega | (simp only [List.length_append, List.length_take, List.length_drop]; omega)) (dV hoq _)
refine cb (v := .int .i64 (m : Nat)) (w' := O) z z (iF z z Q) (ab (tn (wp_seq (wrl (mv ((upV d (n + m))) z (mv ((upV d (n + m))) z (ab (tn (wp_ret (aN (aZ [(upV d (n + m))] results186 (rc z ai) ?_)))))))))))
rw [pu hn hm' hk hel] at c
exact ⟨_, z, (c.bh ((hr.take k).app (hq.app (hr.drop k)))).bu⟩
}
}
}
}
end Go.Proofs.YtgnkkopjkgdieaaGreat
