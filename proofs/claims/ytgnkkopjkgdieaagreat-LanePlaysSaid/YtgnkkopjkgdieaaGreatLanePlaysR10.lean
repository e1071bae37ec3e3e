/- A part of the proof. -/
import Derived.Test.YtgnkkopjkgdieaaGreatLanePlaysR9
set_option linter.unusedVariables false
set_option linter.unusedSimpArgs false
set_option maxRecDepth 100000
set_option maxHeartbeats 4000000
namespace Go.Proofs.YtgnkkopjkgdieaaGreat
open Go Go.V
open _root_.Go.Proofs.Tryz IntKind
variable {w0 w : World} {I : HL} {R : SP}
attribute [local irreducible] wpList Code.wp wpQuiet Calls bodyPost Oper.wp wpS Nx gI YieldsIn
theorem vu {a0 : (Option ae)} {p0 : Value} {a1 : aj} {p1 : Value} (b : St w0 w I [cF aI p0 a0, aR p1 a1] R) {r : (Bool)} (c : pF a0 a1 = some r) :
  Calls prog 40 #[p0, p1] w fun e w' => ∃ (I' : HL), e = .returned (.bool r) ∧ I.le I' ∧ St w0 w' I' [cF aI p0 a0, aR p1 a1] R := by {
unfold pF at c
refine c0 func40 z ntmps40 ?_
have b0 := HL.le.refl I
refine wp_seq (wrl (mb z (ab (tn (wp_seq (wp_seq ?_))))))
obtain ⟨g, W5, W6, W7, W8, W9, X0, X1, ⟨rfl, B2, B3, B4, B5⟩, B6⟩ := bl b.ag
have b := B6
refine rg b 24 [0, 1, 0, 4, 12, 28, 63, 127, 255, 511, 255, 2047, 4095, 8191, 16383, 32767, 65535, 32767, 163839, 425983, 950271, 2097151, 4194303, 8388607] [] mixed (sz (p0) 0 z z (sp 2 z z (sp 3 z z (sf 4 z z underlying130 z sizeOf26 (sl 5 z z isAgg26 (fun w b => b.bc0 z) (e1 1 z z fun w b => ?_))))))
replace b := b.bf
obtain ⟨X2, B7, c⟩ := bn c
refine wec call24 [p0] z z ((oz b.to1 B7).mono ?_)
rintro _ X3 ⟨rfl, b⟩
refine ⟨_, z, ?_⟩
replace b := b.of1
refine wn [5, 4, 3, 2] b (pkr z z (fun w b => aq z isAgg26 (b.bc1 z)) (pf z z underlying130 z sizeOf26 (pz (pz bD)))) (sb 6 z z (sb 7 z z (bs c ?_ ?_)))
{
intro T c
cases c
}
{
intro T c
refine sgz p0 8 z T z (sgz (Pt _ _) 10 z T z (hJ 9 (by kernel_rfl) (nxe [11, 12, 13, 14, 15, 16, 17, 18, 19, 20, 21, 22, 23] (by kernel_rfl) z ((aw z z z (cvb T)).trans z) ?_)))
clear b
intro w b
obtain ⟨B8, B9, c⟩ := bn c
refine wec call85 [p0] z z ((pI b.to1 B9).mono ?_)
rintro _ X4 ⟨rfl, b⟩
refine ⟨_, z, ?_⟩
replace b := b.of1
refine wn [10] b (db z (cY ((aw z z z (cvb T)).trans z) (fun w b => z)) bD) (hJ 11 (by kernel_rfl) (nxe [12, 13, 14, 15, 16, 17, 18, 19, 20, 21, 22, 23] (by kernel_rfl) z ((aw z z z (cvb T)).trans z) ?_))
clear b
intro w b
replace b := al (Pt g 0) a1 b.bf.bf.bf.bf ⟨z, B2, B3, B4, B5⟩
obtain ⟨C0, C1, c⟩ := bn c
refine wec call67 [Pt g 0] z z ((oQ b.to1 C1).mono ?_)
rintro _ X5 ⟨rfl, b⟩
refine ⟨_, z, ?_⟩
obtain ⟨X6, X7, X8, X9, Y0, C2, Y1, Y2, ⟨i5, C3, n0, C4, C5⟩, C6⟩ := bl b.of1
replace i5 := dI i5
subst i5
have b := C6
refine w0n b (sgk (.bool (!(B8 == C0))) 12 z T (sh (.bool _) 13 z (fun w b => aJ T z z) (sb 14 z z (bs c ?_ ?_))))
{
intro F c
cases c
}
{
intro F c
refine sgz p0 15 z F z (sgz (Pt _ _) 17 z F z (sgz (Pt _ _) 18 z F z (sg _ 19 z F (fun w b => aT z underlying130 z sizeOf65 z) (sg _ 20 z F (fun w b => aq z isAgg65 (b.bc0 z)) (hJ 16 (by kernel_rfl) (nxe [21, 22, 23] (by kernel_rfl) z ((aw z z z (cvb F)).trans z) ?_))))))
clear b
intro w b
replace b := b.bf
obtain ⟨Y3, C7, c⟩ := bn c
refine wec call23 [p0] z z ((sM b.to1 C7).mono ?_)
rintro _ Y4 ⟨C8, rfl, b⟩
refine ⟨_, z, ?_⟩
replace b := b.of2
refine wn [20, 19, 18, 17] b (db z (cY ((aw z z z (cvb F)).trans z) (fun w b => aq z isAgg65 (b.bc2 z))) (db z (cY ((aw z z z (cvb F)).trans z) (fun w b => aT z underlying130 z sizeOf65 z)) (db z (cY ((aw z z z (cvb F)).trans z) (fun w b => z)) (db z (cY ((aw z z z (cvb F)).trans z) (fun w b => z)) bD)))) (hJ 21 (by kernel_rfl) (nxe [22, 23] (by kernel_rfl) z ((aw z z z (cvb F)).trans z) ?_))
clear b
intro w b
obtain ⟨Y5, n1, b⟩ := b.cB
replace b := b.au
obtain ⟨Y6, n2, b⟩ := b.cB
obtain ⟨Y7, C9, c⟩ := bn c
refine wec call86 [C8, C2] z z ((qt (b.px n1) (b.nc n2) b.to0 C9).mono ?_)
rintro _ Y8 ⟨rfl, b⟩
refine ⟨_, z, ?_⟩
replace b := (b.of0.ag.bh n1).ag.bh n2
refine w0n b (sgz (.bool _) 22 z F z (sh (.bool _) 23 z (fun w b => aJ F z z) (bp ?_)))
intro w b
refine tn (bs c ?_ ?_)
{
intro n3 c
cases c
}
{
intro n3 c
refine ak (cvb n3) (wp_skip (tn (wp_seq (wrl (mv (p0) z ?_)))))
replace b := b.aA
obtain ⟨i6, D0, c⟩ := bn c
refine wc call87 [p0] z z z ((qY b.to1 D0).mono ?_)
rintro _ Y9 ⟨S, rfl, b⟩
refine ⟨_, z, ?_⟩
replace b := b.of2
refine mv (S) z (ab (tn (wp_seq (wp_seq (wrl (mv (S) z (mz (bZ z underlying159 b.sv0) (mp z (mp z (mf z underlying130 z sizeOf125 (ml z isAgg125 (b.bc4 z) (mz (bZ z underlying125 (ah n0)) (mb z (ab (tn (bs c ?_ ?_))))))))))))))))
{
intro n4 c
cases c
}
{
intro n4 c
refine ak (cvb n4) (wp_skip (tn ?_))
obtain ⟨D1, c, D2⟩ := ec c
refine cU (fun a w => ∃ (I4784 : HL), (mI a0 a1) () = some r ∧ fz 267 [0, 1] [p0, Pt g 0] a ∧ I.le I4784 ∧ St w0 w I4784 [cF aI p0 a0, aR (Pt g 0) a1] R) ?_ ?_
{
have i7 := HL.le.refl I
refine wp_seq (wrl (mi z (ab (tn (wp_block ?_)))))
replace b := (al (Pt g 0) a1 b.da.da.bf.da ⟨z, C3, n0, C4, C5⟩).au.sub
obtain ⟨D3, c⟩ := aX c
refine bm (fun n a w => ∃ (I4630 : HL) (b3 : Int), cT (jW i6 a0 a1) n b3 = some D1 ∧ fz 267 [0, 1, 5, 6] [p0, Pt g 0, S, I6 b3] a ∧ I.le I4630 ∧ St w0 w I4630 [aR (Pt g 0) a1, bg mg S i6, cF aI p0 a0] R) D3 ⟨_, 0, c, fy z, lr, b⟩ ?_
rintro Z0 _ Z1 ⟨I4630, b3, c, ⟨Z2, rfl⟩, b4, b⟩
obtain ⟨Z3, D4, rfl, c, n5⟩ := ba c
dsimp only [jW] at c
replace i7 := i7.trans b4
refine wp_seq (wp_seq (wrl (mi z (mv (S) z (mz (bZ z underlying159 b.sv1) (mb z (ab (tn (bs c ?_ ?_)))))))))
{
intro i8 c
refine ar (cvb i8) (wp_skip (tn (wp_seq (wp_block (wp_seq (wrl (mv (p0) z (mv (S) z (mi z ?_)))))))))
obtain ⟨K, D5, c⟩ := bn c
obtain ⟨i9, j0, j1⟩ := aP D5
refine mz (aC z z underlying159 sizeOf28 b.sv1 i9 j0) (mz (ay (cs := [U6 K.Session, U6 K.Seq]) z isAgg28 sizeOf28 (b.Fy j1 0 (by rintro _ rfl; rfl))) ?_)
replace b := b.aA
obtain ⟨l, D6, c⟩ := bn c
refine wc call88 [p0, .agg #[U6 K.Session, U6 K.Seq]] z z z ((sW b.to1 D6).mono ?_)
rintro _ Z4 ⟨I4648, b5, b6, b7, b8, rfl, D7, g0, g1, g2, g3, b⟩
refine ⟨_, z, ?_⟩
replace b := b.of1
replace b4 := b4.trans D7
refine mv (.tuple #[.agg #[U6 l.1.ID.Session, U6 l.1.ID.Seq, U6 l.1.Epoch, b5, b6, b7, b8], .bool l.2]) z (mv (.agg #[U6 l.1.ID.Session, U6 l.1.ID.Seq, U6 l.1.Epoch, b5, b6, b7, b8]) z (mb z ?_))
obtain ⟨n6, Z5, D8, D9, b⟩ := b.box [Zu, Zu, Zu, Zs, Zs, Zs, Zs] 46
refine wa D8 D9 ?_
obtain ⟨Z6, E0, b⟩ := b.bx [U6 l.1.ID.Session, U6 l.1.ID.Seq, U6 l.1.Epoch, b5, b6, b7, b8] sizeOf46 z (oJ 3 z (oC (oS (ah g0)) (oC (oS (ah g1)) (oC (oS (ah g2)) (oC (oS (ah g3)) oN))))) (by kernel_rfl)
refine aE z z (aG E0) (mb z (ab (tn (wp_seq ?_))))
obtain ⟨Z7, Z8, n7, Z9, a00, a01, a02, a03, ⟨j2, b9, U, c1, c2⟩, E1⟩ := bl b.aA
replace j2 := dI j2
subst j2
have b := E1
obtain ⟨a04, c, n8⟩ := bn c
refine qT (fun a w => ∃ (I4769 : HL) (c3 : Int) (c4 : Int) (c5 : Int) (g4 : (List Nat)) (g5 : (List (Nat × Nat))) (g6 : (List Nat)) (g7 : (List Int)) (j3 : Bool) (j4 : Nat) (d5 : Value) (d6 : Value) (d7 : Value) (d8 : Value), (ow l b3) (c3, c4, c5, g4, g5, g6, g7, j3) = some D4 ∧ fz 267 [0, 1, 5, 6, 7, 8, 9, 10] [p0, Pt g 0, S, I6 b3, Pt n6 0, .bool l.2, Pt j4 0, .bool j3] a ∧ I4648.le I4769 ∧ Ro bY I4769 d5 g4 ∧ Ro gB I4769 d6 g5 ∧ Ro bY I4769 d7 g6 ∧ Ro (cp .u8) I4769 d8 g7 ∧ St w0 w I4769 [cF aI p0 a0, aR (Pt g 0) a1, bg mg S i6, cells n6 [U6 l.1.ID.Session, U6 l.1.ID.Seq, U6 l.1.Epoch, b5, b6, b7, b8], cells j4 [U6 c3, U6 c4, U6 c5, d5, d6, d7, d8]] R) ?_ ?_
{
have c6 := HL.le.refl I4648
refine rg b 15 [0, 1, 3, 7, 0, 0, 48, 112, 255, 511, 1023, 1023, 0, 6143, 16383] [] mixed (sp 0 z z (sp 1 z z (sf 2 z z underlying130 z sizeOf125 (sl 3 z z isAgg125 (fun w b => b.bc0 z) (sz (S) 4 z z (si 5 z z (sh _ 6 z (fun w b => aC z z underlying159 sizeOf28 b.sv6 i9 j0) (sh _ 7 z (fun w b => ay (cs := [U6 K.Session, U6 K.Seq]) z isAgg28 sizeOf28 (b.FL j1 0 (by rintro _ rfl; rfl))) ?_))))))))
obtain ⟨i, n9, c⟩ := bn c
refine pK 8 12 (by kernel_rfl) ?_ ?_
{
refine nx z z fun w b => wec call70 [n7, .agg #[U6 K.Session, U6 K.Seq]] z z ((kp U b.to0 n9).mono ?_)
rintro _ a05 ⟨I4696, g8, g9, h0, h1, rfl, d9, o0, o1, o2, o3, b⟩
refine ⟨_, z, ?_⟩
replace b := b.of0
replace b9 := b9.mono (ro_le d9)
replace U := U.mono (ro_le d9)
replace c1 := c1.mono (ro_le d9)
replace c2 := c2.mono (ro_le d9)
replace c6 := c6.trans d9
refine w0n b (sz (.tuple #[.agg #[U6 i.1.ID.Session, U6 i.1.ID.Seq, U6 i.1.Epoch, g8, g9, h0, h1], .bool i.2]) 9 z z (sz (.agg #[U6 i.1.ID.Session, U6 i.1.ID.Seq, U6 i.1.Epoch, g8, g9, h0, h1]) 10 z z (sb 11 z z (e1 12 z z fun w b => ?_))))
obtain ⟨o4, E2, E3, E4, b⟩ := b.box [Zu, Zu, Zu, Zs, Zs, Zs, Zs] 46
refine bW (v := Pt o4 0) (w' := E2) z (tQ (by kernel_rfl) E3 E4) (wn [11, 10, 9] b (pz (pz (pz bD))) (e1 13 z z fun w b => ?_))
obtain ⟨a06, E5, b⟩ := b.bx [U6 i.1.ID.Session, U6 i.1.ID.Seq, U6 i.1.Epoch, g8, g9, h0, h1] sizeOf46 z (oJ 3 z (oC (oS (ah o0)) (oC (oS (ah o1)) (oC (oS (ah o2)) (oC (oS (ah o3)) oN))))) (by kernel_rfl)
refine dz z (aG E5) (wn [11] b (pz bD) (sb 14 z z (bp ?_)))
intro w b
refine ⟨z, ?_⟩
replace b := (al (Pt g 0) a1 b.bf.bf.bf.bf ⟨z, b9, U, c1, c2⟩).ag.aA.bf.au.bf.oX
obtain rfl := sj c
exact ⟨_, i.1.ID.Session, i.1.ID.Seq, i.1.Epoch, i.1.Gets, i.1.Scans, i.1.Puts, i.1.Data, i.2, o4, g8, g9, h0, h1, n8, fy z, c6, o0, o1, o2, o3, b⟩
}
{
refine nx z z fun w b => ?_
obtain ⟨o5, E6, E7, E8, b⟩ := b.box [Zu, Zu, Zu, Zs, Zs, Zs, Zs] 46
refine bW (v := Pt o5 0) (w' := E6) z (tQ (by kernel_rfl) E7 E8) (wn [7, 6, 5, 4, 3, 2, 1, 0] b (pkr z z (fun w b => ay (cs := [U6 K.Session, U6 K.Seq]) z isAgg28 sizeOf28 (b.Ft j1 0 (by rintro _ rfl; rfl))) (pkr z z (fun w b => aC z z underlying159 sizeOf28 b.sv7 i9 j0) (pz (pz (pkr z z (fun w b => aq z isAgg125 (b.bc1 z)) (pf z z underlying130 z sizeOf125 (pz (pz bD)))))))) (e1 8 z z fun w b => wec call70 [n7, .agg #[U6 K.Session, U6 K.Seq]] z z ((kp U b.to0 n9).mono ?_)))
rintro _ a07 ⟨I4731, h2, h3, h4, h5, rfl, e0, o6, o7, o8, o9, b⟩
refine ⟨_, z, ?_⟩
replace b := b.of0
replace b9 := b9.mono (ro_le e0)
replace U := U.mono (ro_le e0)
replace c1 := c1.mono (ro_le e0)
replace c2 := c2.mono (ro_le e0)
replace c6 := c6.trans e0
refine w0n b (sz (.tuple #[.agg #[U6 i.1.ID.Session, U6 i.1.ID.Seq, U6 i.1.Epoch, h2, h3, h4, h5], .bool i.2]) 9 z z (sz (.agg #[U6 i.1.ID.Session, U6 i.1.ID.Seq, U6 i.1.Epoch, h2, h3, h4, h5]) 10 z z (sb 11 z z (e1 13 z z fun w b => ?_))))
obtain ⟨a08, E9, b⟩ := b.bx [U6 i.1.ID.Session, U6 i.1.ID.Seq, U6 i.1.Epoch, h2, h3, h4, h5] sizeOf46 z (oJ 3 z (oC (oS (ah o6)) (oC (oS (ah o7)) (oC (oS (ah o8)) (oC (oS (ah o9)) oN))))) (by kernel_rfl)
refine dz z (aG E9) (wn [11] b (pz bD) (sb 14 z z (bp ?_)))
intro w b
refine ⟨z, ?_⟩
replace b := (al (Pt g 0) a1 b.bf.bf.bf.bf ⟨z, b9, U, c1, c2⟩).ag.aA.bf.au.bf.oX
obtain rfl := sj c
exact ⟨_, i.1.ID.Session, i.1.ID.Seq, i.1.Epoch, i.1.Gets, i.1.Scans, i.1.Puts, i.1.Data, i.2, o5, h2, h3, h4, h5, n8, fy z, c6, o6, o7, o8, o9, b⟩
}
}
{
rintro _ a09 ⟨I4769, c3, c4, c5, g4, g5, g6, g7, j3, j4, d5, d6, d7, d8, c, ⟨a10, rfl⟩, e2, G0, G1, G2, G3, b⟩
dsimp only [ow] at c
replace g0 := g0.mono (ro_le e2)
replace g1 := g1.mono (ro_le e2)
replace g2 := g2.mono (ro_le e2)
replace g3 := g3.mono (ro_le e2)
replace b4 := b4.trans e2
refine tn (wp_seq (wrl (mb z (mb z (mb z (bs c ?_ ?_))))))
{
intro h6 c
cases c
}
{
intro h6 c
refine gb h6 z (gb h6 z (mb (aJ h6 z z) (mb z (bs c ?_ ?_))))
{
intro c7 c
cases c
}
{
intro c7 c
refine gg c7 (ay (cs := [U6 l.1.ID.Session, U6 l.1.ID.Seq, U6 l.1.Epoch, b5, b6, b7, b8]) z isAgg46 sizeOf46 (b.rI 0 z)) (gg c7 (ay (cs := [U6 c3, U6 c4, U6 c5, d5, d6, d7, d8]) z isAgg46 sizeOf46 (b.wy 0 z)) ?_)
obtain ⟨a11, G4, c⟩ := bn c
refine dj ((aw z z z (cvb c7)).trans z) z (jv call89 z (vs := [.agg #[U6 l.1.ID.Session, U6 l.1.ID.Seq, U6 l.1.Epoch, b5, b6, b7, b8], .agg #[U6 c3, U6 c4, U6 c5, d5, d6, d7, d8]]) z) ((pG (a1 := ({ ID := ({ Session := c3, Seq := c4 } : bO), Epoch := c5, Gets := g4, Scans := g5, Puts := g6, Data := g7 } : ap)) (g0.mono cD) (g1.mono cD) (g2.mono cD) (g3.mono cD) (G0.mono cD) (G1.mono cD) (G2.mono cD) (G3.mono cD) b.to0 G4).mono ?_)
rintro _ a12 ⟨rfl, b⟩
refine ⟨_, z, ?_⟩
replace b := b.of0
refine gb c7 z (mb (aJ c7 z z) (ab (tn (bs c ?_ ?_))))
{
intro q0 c
cases c
}
{
intro q0 c
refine ak (cvb q0) (wp_skip (bF (tn (wrl (mi z (mi z (mi z (ab (tn ?_)))))))))
replace b := b.aA.aA.dF
obtain rfl := sj c
exact ⟨_, nls, _, (i64.wrap (b3 + 1)), n5, fy z, b4, b⟩
}
}
}
}
}
{
intro i8 c
refine ak (cvb i8) (wp_exit (aV (aV ?_)))
replace c := bo c n5
refine de (tn ?_)
replace b := b.aA.ck
obtain rfl := sj c
exact ⟨_, D2, fy z, i7, b⟩
}
}
{
rintro _ a13 ⟨I4784, c, ⟨a14, rfl⟩, G5, b⟩
dsimp only [mI] at c
replace b0 := b0.trans G5
obtain ⟨G6, c, G7⟩ := ec c
refine cU (fun a w => ∃ (I7193 : HL), (qj a0 a1) () = some r ∧ fz 267 [0, 1] [p0, Pt g 0] a ∧ I4784.le I7193 ∧ St w0 w I7193 [cF aI p0 a0, aR (Pt g 0) a1] R) ?_ ?_
{
have j5 := HL.le.refl I4784
refine wp_seq (wrl (mi z (ab (tn (wp_block ?_)))))
obtain ⟨G8, c⟩ := aX c
refine bm (fun n a w => ∃ (I6387 : HL) (C : Int), cT (lu a0 a1) n C = some G6 ∧ fz 267 [0, 1, 11] [p0, Pt g 0, I6 C] a ∧ I4784.le I6387 ∧ St w0 w I6387 [cF aI p0 a0, aR (Pt g 0) a1] R) G8 ⟨_, 0, c, fy z, lr, b⟩ ?_
rintro a15 _ a16 ⟨I6387, C, c, ⟨a17, rfl⟩, c8, b⟩
obtain ⟨a18, q1, rfl, c, q2⟩ := ba c
dsimp only [lu] at c
replace j5 := j5.trans c8
refine wp_seq (wp_seq (wrl (mi z (mb z (ab (tn (bs c ?_ ?_)))))))
{
intro j6 c
refine ar (cvb j6) (wp_skip (tn (wp_seq (wp_block (wp_seq (wp_seq ?_))))))
obtain ⟨a19, j7, a20, a21, a22, a23, a24, a25, ⟨j8, m, x, y, A⟩, G9⟩ := bl b.ag
replace j8 := dI j8
subst j8
have b := G9
obtain ⟨a26, c, h7⟩ := bn c
refine qT (fun a w => ∃ (I6556 : HL) (j9 : Bool), (ov C a0 a1) j9 = some q1 ∧ fz 267 [0, 1, 11, 117] [p0, Pt g 0, I6 C, .bool j9] a ∧ I6387.le I6556 ∧ St w0 w I6556 [cF aI p0 a0, aR (Pt g 0) a1] R) ?_ ?_
{
have B := HL.le.refl I6387
refine rg b 15 [0, 0, 2, 7, 15, 0, 32, 96, 224, 0, 527, 2031, 4079, 8191, 16383] [] mixed (sz (p0) 0 z z (si 1 z z (sp 5 z z (sp 6 z z (sf 7 z z underlying130 z sizeOf124 (sl 8 z z isAgg124 (fun w b => b.bc0 z) (si 9 z z (e1 2 z z fun w b => ?_))))))))
obtain ⟨H0, H1, c⟩ := bn c
refine wec call90 [I6 C] z z ((lp b.to0 H1).mono ?_)
rintro _ a27 ⟨rfl, b⟩
refine ⟨_, z, ?_⟩
replace b := b.of0
refine wn [9, 8, 7, 6, 5, 0] b (pz (pkr z z (fun w b => aq z isAgg124 (b.bc0 z)) (pf z z underlying130 z sizeOf124 (pz (pz (pz bD)))))) (e1 3 z z fun w b => ?_)
replace b := b.bf
obtain ⟨V, H2, c⟩ := bn c
refine wec call21 [p0, F6 H0] z z ((tD b.to1 H2).mono ?_)
rintro _ a28 ⟨h8, rfl, b⟩
refine ⟨_, z, ?_⟩
replace b := b.of2
refine wn [9, 8, 7, 6, 5] b (pz (pkr z z (fun w b => aq z isAgg124 (b.bc2 z)) (pf z z underlying130 z sizeOf124 (pz (pz bD))))) ?_
obtain ⟨k0, q3, c⟩ := bn c
refine pK 4 10 (by kernel_rfl) ?_ ?_
{
refine nx z z fun w b => ?_
obtain ⟨I6432, e3, q4, b⟩ := b.cN
replace m := m.mono (ro_le e3)
replace x := x.mono (ro_le e3)
replace y := y.mono (ro_le e3)
replace A := A.mono (ro_le e3)
replace B := B.trans e3
obtain ⟨q5, H3, H4, H5, b⟩ := b.ey (E := aD) (xs := [V]) [[.bool V.Has, h8]] 61 1 z (bE.cons ⟨_, z, q4, oS (ah q4)⟩ bE.nil)
refine bW (v := (.slice (some ⟨q5, 0, none⟩) 1 1)) (w' := H3) z (dn (by kernel_rfl) H4 H5) (wn [9, 8, 7, 6, 5] b (pz (pkr z z (fun w b => aq z isAgg124 (b.bc2 z)) (pf z z underlying130 z sizeOf124 (pz (pz bD))))) (e1 10 z z fun w b => wec call90 [I6 C] z z ((lp b.to0 q3).mono ?_)))
rintro _ a29 ⟨rfl, b⟩
refine ⟨_, z, ?_⟩
replace b := b.of0
refine wn [8, 7, 6, 5] b (pkr z z (fun w b => aq z isAgg124 (b.bc2 z)) (pf z z underlying130 z sizeOf124 (pz (pz bD)))) (e1 11 z z fun w b => ?_)
obtain ⟨q6, H6, c⟩ := bn c
refine wec call80 [j7, F6 k0, U6 18446744073709551615] z z ((iO m b.to0 H6).mono ?_)
rintro _ a30 ⟨I6446, H7, rfl, e4, q7, b⟩
refine ⟨_, z, ?_⟩
replace b := b.of0
replace m := m.mono (ro_le e4)
replace x := x.mono (ro_le e4)
replace y := y.mono (ro_le e4)
replace A := A.mono (ro_le e4)
replace B := B.trans e4
refine w0n b (e1 12 z z fun w b => ?_)
obtain ⟨q8, H8, H9, J0, b⟩ := b.ey (E := aD) (xs := [q6]) [[.bool q6.Has, H7]] 61 1 z (bE.cons ⟨_, z, q7, oS (ah q7)⟩ bE.nil)
refine bW (v := (.slice (some ⟨q8, 0, none⟩) 1 1)) (w' := H8) z (dn (by kernel_rfl) H9 J0) (w0n b (e1 13 z z fun w b => ?_))
replace b := b.ag
obtain ⟨a31, q9, b⟩ := b.cB
replace b := b.ag
obtain ⟨a32, s0, b⟩ := b.cB
obtain ⟨J1, J2, c⟩ := bn c
refine wec call78 [(.slice (some ⟨q5, 0, none⟩) 1 1), (.slice (some ⟨q8, 0, none⟩) 1 1)] z z ((et (b.px q9) (b.nc s0) b.to0 J2).mono ?_)
rintro _ a33 ⟨rfl, b⟩
refine ⟨_, z, ?_⟩
replace b := (b.of0.ag.bh q9).ag.bh s0
refine w0n b (sb 14 z z (bp ?_))
intro w b
refine ⟨z, ?_⟩
replace b := (al (Pt g 0) a1 b.da.da.da.da ⟨z, m, x, y, A⟩).au.ck
obtain rfl := sj c
exact ⟨_, (!J1), h7, fy z, B, b⟩
}
{
refine nx z z fun w b => wec call90 [I6 C] z z ((lp b.to0 q3).mono ?_)
rintro _ a34 ⟨rfl, b⟩
refine ⟨_, z, ?_⟩
replace b := b.of0
refine wn [8, 7, 6, 5] b (pkr z z (fun w b => aq z isAgg124 (b.bc2 z)) (pf z z underlying130 z sizeOf124 (pz (pz bD)))) ?_
obtain ⟨c9, s1, c⟩ := bn c
refine pK 4 11 (by kernel_rfl) ?_ ?_
{
refine nx z z fun w b => ?_
obtain ⟨I6472, e5, s2, b⟩ := b.cN
replace m := m.mono (ro_le e5)
replace x := x.mono (ro_le e5)
replace y := y.mono (ro_le e5)
replace A := A.mono (ro_le e5)
replace B := B.trans e5
obtain ⟨s3, J3, J4, J5, b⟩ := b.ey (E := aD) (xs := [V]) [[.bool V.Has, h8]] 61 1 z (bE.cons ⟨_, z, s2, oS (ah s2)⟩ bE.nil)
refine bW (v := (.slice (some ⟨s3, 0, none⟩) 1 1)) (w' := J3) z (dn (by kernel_rfl) J4 J5) (wn [8, 7, 6, 5] b (pkr z z (fun w b => aq z isAgg124 (b.bc2 z)) (pf z z underlying130 z sizeOf124 (pz (pz bD)))) (e1 11 z z fun w b => wec call80 [j7, F6 k0, U6 18446744073709551615] z z ((iO m b.to0 s1).mono ?_)))
rintro _ a35 ⟨I6481, J6, rfl, e6, s4, b⟩
refine ⟨_, z, ?_⟩
replace b := b.of0
replace m := m.mono (ro_le e6)
replace x := x.mono (ro_le e6)
replace y := y.mono (ro_le e6)
replace A := A.mono (ro_le e6)
replace B := B.trans e6
refine w0n b (e1 12 z z fun w b => ?_)
obtain ⟨s5, J7, J8, J9, b⟩ := b.ey (E := aD) (xs := [c9]) [[.bool c9.Has, J6]] 61 1 z (bE.cons ⟨_, z, s4, oS (ah s4)⟩ bE.nil)
refine bW (v := (.slice (some ⟨s5, 0, none⟩) 1 1)) (w' := J7) z (dn (by kernel_rfl) J8 J9) (w0n b (e1 13 z z fun w b => ?_))
replace b := b.ag
obtain ⟨a36, s6, b⟩ := b.cB
replace b := b.ag
obtain ⟨a37, s7, b⟩ := b.cB
obtain ⟨K0, K1, c⟩ := bn c
refine wec call78 [(.slice (some ⟨s3, 0, none⟩) 1 1), (.slice (some ⟨s5, 0, none⟩) 1 1)] z z ((et (b.px s6) (b.nc s7) b.to0 K1).mono ?_)
rintro _ a38 ⟨rfl, b⟩
refine ⟨_, z, ?_⟩
replace b := (b.of0.ag.bh s6).ag.bh s7
refine w0n b (sb 14 z z (bp ?_))
intro w b
refine ⟨z, ?_⟩
replace b := (al (Pt g 0) a1 b.da.da.da.da ⟨z, m, x, y, A⟩).au.ck
obtain rfl := sj c
exact ⟨_, (!K0), h7, fy z, B, b⟩
}
{
refine nx z z fun w b => wec call80 [j7, F6 k0, U6 18446744073709551615] z z ((iO m b.to0 s1).mono ?_)
rintro _ a39 ⟨I6502, s8, rfl, e7, d0, b⟩
refine ⟨_, z, ?_⟩
replace b := b.of0
replace m := m.mono (ro_le e7)
replace x := x.mono (ro_le e7)
replace y := y.mono (ro_le e7)
replace A := A.mono (ro_le e7)
replace B := B.trans e7
refine w0n b (pK 4 12 (by kernel_rfl) ?_ ?_)
{
refine nx z z fun w b => ?_
obtain ⟨I6508, d1, s9, b⟩ := b.cN
replace m := m.mono (ro_le d1)
replace x := x.mono (ro_le d1)
replace y := y.mono (ro_le d1)
replace A := A.mono (ro_le d1)
replace d0 := d0.mono (ro_le d1)
replace B := B.trans d1
obtain ⟨t0, K2, K3, K4, b⟩ := b.ey (E := aD) (xs := [V]) [[.bool V.Has, h8]] 61 1 z (bE.cons ⟨_, z, s9, oS (ah s9)⟩ bE.nil)
refine bW (v := (.slice (some ⟨t0, 0, none⟩) 1 1)) (w' := K2) z (dn (by kernel_rfl) K3 K4) (w0n b (e1 12 z z fun w b => ?_))
obtain ⟨t1, K5, K6, K7, b⟩ := b.ey (E := aD) (xs := [c9]) [[.bool c9.Has, s8]] 61 1 z (bE.cons ⟨_, z, d0, oS (ah d0)⟩ bE.nil)
refine bW (v := (.slice (some ⟨t1, 0, none⟩) 1 1)) (w' := K5) z (dn (by kernel_rfl) K6 K7) (w0n b (e1 13 z z fun w b => ?_))
replace b := b.ag
obtain ⟨a40, t2, b⟩ := b.cB
replace b := b.ag
obtain ⟨a41, t3, b⟩ := b.cB
obtain ⟨K8, K9, c⟩ := bn c
refine wec call78 [(.slice (some ⟨t0, 0, none⟩) 1 1), (.slice (some ⟨t1, 0, none⟩) 1 1)] z z ((et (b.px t2) (b.nc t3) b.to0 K9).mono ?_)
rintro _ a42 ⟨rfl, b⟩
refine ⟨_, z, ?_⟩
replace b := (b.of0.ag.bh t2).ag.bh t3
refine w0n b (sb 14 z z (bp ?_))
intro w b
refine ⟨z, ?_⟩
replace b := (al (Pt g 0) a1 b.da.da.da.da ⟨z, m, x, y, A⟩).au.ck
obtain rfl := sj c
exact ⟨_, (!K8), h7, fy z, B, b⟩
}
{
refine nx z z fun w b => ?_
obtain ⟨t4, L0, L1, L2, b⟩ := b.ey (E := aD) (xs := [c9]) [[.bool c9.Has, s8]] 61 1 z (bE.cons ⟨_, z, d0, oS (ah d0)⟩ bE.nil)
refine bW (v := (.slice (some ⟨t4, 0, none⟩) 1 1)) (w' := L0) z (dn (by kernel_rfl) L1 L2) (w0n b (e1 4 z z fun w b => ?_))
replace b := b.ag
obtain ⟨I6538, e8, t5, b⟩ := b.cN
replace m := m.mono (ro_le e8)
replace x := x.mono (ro_le e8)
replace y := y.mono (ro_le e8)
replace A := A.mono (ro_le e8)
replace B := B.trans e8
obtain ⟨t6, L3, L4, L5, b⟩ := b.ey (E := aD) (xs := [V]) [[.bool V.Has, h8]] 61 1 z (bE.cons ⟨_, z, t5, oS (ah t5)⟩ bE.nil)
refine bW (v := (.slice (some ⟨t6, 0, none⟩) 1 1)) (w' := L3) z (dn (by kernel_rfl) L4 L5) (w0n b (e1 13 z z fun w b => ?_))
obtain ⟨a43, t7, b⟩ := b.cB
replace b := b.ag
obtain ⟨a44, t8, b⟩ := b.cB
obtain ⟨L6, L7, c⟩ := bn c
refine wec call78 [(.slice (some ⟨t6, 0, none⟩) 1 1), (.slice (some ⟨t4, 0, none⟩) 1 1)] z z ((et (b.px t7) (b.nc t8) b.to0 L7).mono ?_)
rintro _ a45 ⟨rfl, b⟩
refine ⟨_, z, ?_⟩
replace b := (b.of0.ag.bh t7).ag.bh t8
refine w0n b (sb 14 z z (bp ?_))
intro w b
refine ⟨z, ?_⟩
replace b := (al (Pt g 0) a1 b.da.da.da.da ⟨z, m, x, y, A⟩).au.ck
obtain rfl := sj c
exact ⟨_, (!L6), h7, fy z, B, b⟩
}
}
}
}
{
rintro _ a46 ⟨I6556, j9, c, ⟨a47, rfl⟩, L8, b⟩
dsimp only [ov] at c
replace c8 := c8.trans L8
refine tn (bs c ?_ ?_)
{
intro t9 c
cases c
}
{
intro t9 c
refine ak (cvb t9) (wp_skip (tn (wp_seq (wrl (mi z (ab (tn (wp_block ?_))))))))
obtain ⟨L9, c⟩ := aX c
refine bm (fun n a w => ∃ (I6978 : HL) (L : Int), cT (jV C a0 a1) n L = some q1 ∧ fz 267 [0, 1, 11, 12] [p0, Pt g 0, I6 C, U6 L] a ∧ I6556.le I6978 ∧ St w0 w I6978 [cF aI p0 a0, aR (Pt g 0) a1] R) L9 ⟨_, 0, c, fy z, lr, b⟩ ?_
rintro a48 _ a49 ⟨I6978, L, c, ⟨a50, rfl⟩, h9, b⟩
obtain ⟨a51, u0, rfl, c, u1⟩ := ba c
dsimp only [jV] at c
replace c8 := c8.trans h9
refine wp_seq (wp_seq (wrl (mi z (mb z (ab (tn (bs c ?_ ?_)))))))
{
intro k1 c
refine ar (cvb k1) (wp_skip (tn (wp_seq (wp_block (wp_seq (wrl (mv (p0) z (mi z ?_))))))))
obtain ⟨M0, M1, c⟩ := bn c
refine wc call90 [I6 C] z z z ((lp b.to0 M1).mono ?_)
rintro _ a52 ⟨rfl, b⟩
refine ⟨_, z, ?_⟩
replace b := b.of0
refine mi z ?_
obtain ⟨p, M2, c⟩ := bn c
refine wc call25 [p0, F6 M0, U6 L] z z z ((tL b.to1 M2).mono ?_)
rintro _ a53 ⟨H, rfl, b⟩
refine ⟨_, z, ?_⟩
replace b := b.of2
refine mv (.tuple #[.agg #[.bool p.1.Has, H], I6 p.2]) z (mv (.agg #[.bool p.1.Has, H]) z (mi z ?_))
obtain ⟨u2, a54, M3, M4, b⟩ := b.box [.bool false, Zs] 61
refine wa M3 M4 ?_
obtain ⟨a55, M5, b⟩ := b.bx [.bool p.1.Has, H] sizeOf61 z (oC z (oC (oS b.sv1) oN)) (by kernel_rfl)
refine aE z z (aG M5) (mi z (ab (tn (wp_seq (wrl (mi z (ab (tn ?_))))))))
obtain ⟨a56, c, k2⟩ := bn c
refine cU (fun a w => ∃ (k3 : Int), (mH p C a1 L) k3 = some u0 ∧ fz 267 [0, 1, 11, 12, 13, 14, 15] [p0, Pt g 0, I6 C, U6 L, Pt u2 0, I6 p.2, I6 k3] a ∧ St w0 w I6978 [cF aI p0 a0, aR (Pt g 0) a1, cells u2 [.bool p.1.Has, H], bg (cp .u8) H p.1.Val] R) ?_ ?_
{
refine wp_seq (wrl (mi z (mp z ?_)))
obtain ⟨a57, a58, a59, a60, a61, a62, a63, a64, ⟨k4, k5, k6, k7, k8⟩, M6⟩ := bl b.au
replace k4 := dI k4
subst k4
have b := M6
refine mp z (mf z underlying130 z sizeOf26 (ml z isAgg26 (b.bc0 z) (mb z (ab (tn (bs c ?_ ?_))))))
{
intro k9 c
refine ar (cvb k9) (wrl (mi z (ab (tn ?_))))
replace b := (al (Pt g 0) a1 b.au.au.au.au ⟨z, k5, k6, k7, k8⟩).aA.aA.aA.au.eI
obtain rfl := sj c
exact ⟨2, k2, fy z, b⟩
}
{
intro k9 c
refine ak (cvb k9) (wp_seq (wrl (mi z (mi z (mp z (mp z (mf z underlying130 z sizeOf26 (ml z isAgg26 (b.bc0 z) (mb z (ab (tn (bs c ?_ ?_))))))))))))
{
intro l0 c
refine ar (cvb l0) (wrl (mi z (ab (tn ?_))))
replace b := (al (Pt g 0) a1 b.au.au.au.au ⟨z, k5, k6, k7, k8⟩).aA.aA.aA.au.eI
obtain rfl := sj c
exact ⟨9, k2, fy z, b⟩
}
{
intro l0 c
refine ak (cvb l0) (wp_skip (tn ?_))
replace b := (al (Pt g 0) a1 b.au.au.au.au ⟨z, k5, k6, k7, k8⟩).aA.aA.aA.au.eI
obtain rfl := sj c
exact ⟨0, k2, fy z, b⟩
}
}
}
{
rintro _ a65 ⟨k3, c, ⟨a66, rfl⟩, b⟩
dsimp only [mH] at c
refine wp_seq ?_
obtain ⟨a67, l1, a68, a69, a70, a71, a72, a73, ⟨l2, k, q, s, t⟩, M7⟩ := bl b.ag
replace l2 := dI l2
subst l2
have b := M7
obtain ⟨a74, c, e9⟩ := bn c
refine qT (fun a w => ∃ (I7185 : HL) (l3 : Bool), (mQ L) l3 = some u0 ∧ fz 267 [0, 1, 11, 12, 164] [p0, Pt g 0, I6 C, U6 L, .bool l3] a ∧ I6978.le I7185 ∧ St w0 w I7185 [cF aI p0 a0, aR (Pt g 0) a1] R) ?_ ?_
{
have u := HL.le.refl I6978
refine rg b 22 [0, 0, 3, 7, 15, 31, 63, 127, 255, 127, 639, 1663, 3711, 127, 8319, 127, 65151, 130687, 262143, 524287, 1048575, 2097151] [] mixed (si 0 z z (si 1 z z (sb 2 z z (sb 3 z z (bs c ?_ ?_)))))
{
intro G c
cases c
}
{
intro G c
refine sgz (I6 _) 4 z G z (sgz (.bool _) 5 z G z (sgz (.bool _) 6 z G z (bs c ?_ ?_)))
{
intro d c
refine sg _ 7 z d (fun w b => ay (cs := [.bool p.1.Has, H]) z isAgg61 sizeOf61 (b.xu 0 z)) (sgz (Pt _ _) 9 z d z (sgz (Pt _ _) 10 z d z (sg _ 11 z d (fun w b => aT z underlying130 z sizeOf124 z) (sg _ 12 z d (fun w b => aq z isAgg124 (b.bc0 z)) (sgz (I6 _) 13 z d z (sgz (U6 _) 15 z d z ?_))))))
obtain ⟨l4, u3, c⟩ := bn c
refine pK 8 14 (by kernel_rfl) ?_ ?_
{
refine nxe [14, 16, 17, 18, 19, 20, 21] (by kernel_rfl) z ((aw z z z (cvb d)).trans z) ?_
clear b
intro w b
replace b := b.da
obtain ⟨I7061, f0, u4, b⟩ := b.cN
replace k := k.mono (ro_le f0)
replace q := q.mono (ro_le f0)
replace s := s.mono (ro_le f0)
replace t := t.mono (ro_le f0)
replace u := u.trans f0
obtain ⟨u5, M8, M9, N0, b⟩ := b.ey (E := aD) (xs := [p.1]) [[.bool p.1.Has, H]] 61 1 z (bE.cons ⟨_, z, u4, oS (ah u4)⟩ bE.nil)
refine bW (v := (.slice (some ⟨u5, 0, none⟩) 1 1)) (w' := M8) z (dn (by kernel_rfl) M9 N0) (wn [15, 13, 12, 11, 10, 9] b (db z (cY ((aw z z z (cvb d)).trans z) (fun w b => z)) (db z (cY ((aw z z z (cvb d)).trans z) (fun w b => z)) (db z (cY ((aw z z z (cvb d)).trans z) (fun w b => aq z isAgg124 (b.bc1 z))) (db z (cY ((aw z z z (cvb d)).trans z) (fun w b => aT z underlying130 z sizeOf124 z)) (db z (cY ((aw z z z (cvb d)).trans z) (fun w b => z)) (db z (cY ((aw z z z (cvb d)).trans z) (fun w b => z)) bD)))))) (hJ 14 (by kernel_rfl) (nxe [16, 17, 18, 19, 20, 21] (by kernel_rfl) z ((aw z z z (cvb d)).trans z) ?_)))
clear b
intro w b
refine wec call90 [I6 C] z z ((lp b.to0 u3).mono ?_)
rintro _ a75 ⟨rfl, b⟩
refine ⟨_, z, ?_⟩
replace b := b.of0
refine wn [15, 12, 11, 10, 9] b (db z (cY ((aw z z z (cvb d)).trans z) (fun w b => z)) (db z (cY ((aw z z z (cvb d)).trans z) (fun w b => aq z isAgg124 (b.bc1 z))) (db z (cY ((aw z z z (cvb d)).trans z) (fun w b => aT z underlying130 z sizeOf124 z)) (db z (cY ((aw z z z (cvb d)).trans z) (fun w b => z)) (db z (cY ((aw z z z (cvb d)).trans z) (fun w b => z)) bD))))) (hJ 16 (by kernel_rfl) (nxe [17, 18, 19, 20, 21] (by kernel_rfl) z ((aw z z z (cvb d)).trans z) ?_))
clear b
intro w b
obtain ⟨u6, N1, c⟩ := bn c
refine wec call80 [l1, F6 l4, U6 L] z z ((iO k b.to0 N1).mono ?_)
rintro _ a76 ⟨I7075, N2, rfl, f1, u7, b⟩
refine ⟨_, z, ?_⟩
replace b := b.of0
replace k := k.mono (ro_le f1)
replace q := q.mono (ro_le f1)
replace s := s.mono (ro_le f1)
replace t := t.mono (ro_le f1)
replace u := u.trans f1
refine w0n b (hJ 17 (by kernel_rfl) (nxe [18, 19, 20, 21] (by kernel_rfl) z ((aw z z z (cvb d)).trans z) ?_))
clear b
intro w b
obtain ⟨u9, N3, N4, N5, b⟩ := b.ey (E := aD) (xs := [u6]) [[.bool u6.Has, N2]] 61 1 z (bE.cons ⟨_, z, u7, oS (ah u7)⟩ bE.nil)
refine bW (v := (.slice (some ⟨u9, 0, none⟩) 1 1)) (w' := N3) z (dn (by kernel_rfl) N4 N5) (w0n b (hJ 18 (by kernel_rfl) (nxe [19, 20, 21] (by kernel_rfl) z ((aw z z z (cvb d)).trans z) ?_)))
clear b
intro w b
replace b := b.ag
obtain ⟨a77, v0, b⟩ := b.cB
replace b := b.ag
obtain ⟨a78, v1, b⟩ := b.cB
obtain ⟨N6, N7, c⟩ := bn c
refine wec call78 [(.slice (some ⟨u5, 0, none⟩) 1 1), (.slice (some ⟨u9, 0, none⟩) 1 1)] z z ((et (b.px v0) (b.nc v1) b.to0 N7).mono ?_)
rintro _ a79 ⟨rfl, b⟩
refine ⟨_, z, ?_⟩
replace b := (b.of0.ag.bh v0).ag.bh v1
refine w0n b (sgz (.bool _) 19 z d z (sg (.bool _) 20 z G (fun w b => aS d z z) (sh (.bool _) 21 z (fun w b => aJ G z z) (bp ?_))))
intro w b
refine ⟨z, ?_⟩
replace b := (al (Pt g 0) a1 b.bc.bc.bc.bc ⟨z, k, q, s, t⟩).au.ck
obtain rfl := sj c
exact ⟨_, (!N6), e9, fy z, u, b⟩
}
{
refine nxe [8, 16, 17, 18, 19, 20, 21] (by kernel_rfl) z ((aw z z z (cvb d)).trans z) ?_
clear b
intro w b
refine wec call90 [I6 C] z z ((lp b.to0 u3).mono ?_)
rintro _ a80 ⟨rfl, b⟩
refine ⟨_, z, ?_⟩
replace b := b.of0
refine wn [15, 12, 11, 10, 9, 7] b (db z (cY ((aw z z z (cvb d)).trans z) (fun w b => z)) (db z (cY ((aw z z z (cvb d)).trans z) (fun w b => aq z isAgg124 (b.bc0 z))) (db z (cY ((aw z z z (cvb d)).trans z) (fun w b => aT z underlying130 z sizeOf124 z)) (db z (cY ((aw z z z (cvb d)).trans z) (fun w b => z)) (db z (cY ((aw z z z (cvb d)).trans z) (fun w b => z)) (db z (cY ((aw z z z (cvb d)).trans z) (fun w b => ay (cs := [.bool p.1.Has, H]) z isAgg61 sizeOf61 (b.xu 0 z))) bD)))))) ?_
obtain ⟨d2, v2, c⟩ := bn c
refine pK 8 16 (by kernel_rfl) ?_ ?_
{
refine nxe [16, 17, 18, 19, 20, 21] (by kernel_rfl) z ((aw z z z (cvb d)).trans z) ?_
clear b
intro w b
replace b := b.da
obtain ⟨I7101, f2, v3, b⟩ := b.cN
replace k := k.mono (ro_le f2)
replace q := q.mono (ro_le f2)
replace s := s.mono (ro_le f2)
replace t := t.mono (ro_le f2)
replace u := u.trans f2
obtain ⟨v4, N8, N9, O0, b⟩ := b.ey (E := aD) (xs := [p.1]) [[.bool p.1.Has, H]] 61 1 z (bE.cons ⟨_, z, v3, oS (ah v3)⟩ bE.nil)
refine bW (v := (.slice (some ⟨v4, 0, none⟩) 1 1)) (w' := N8) z (dn (by kernel_rfl) N9 O0) (wn [15, 12, 11, 10, 9] b (db z (cY ((aw z z z (cvb d)).trans z) (fun w b => z)) (db z (cY ((aw z z z (cvb d)).trans z) (fun w b => aq z isAgg124 (b.bc1 z))) (db z (cY ((aw z z z (cvb d)).trans z) (fun w b => aT z underlying130 z sizeOf124 z)) (db z (cY ((aw z z z (cvb d)).trans z) (fun w b => z)) (db z (cY ((aw z z z (cvb d)).trans z) (fun w b => z)) bD))))) (hJ 16 (by kernel_rfl) (nxe [17, 18, 19, 20, 21] (by kernel_rfl) z ((aw z z z (cvb d)).trans z) ?_)))
clear b
intro w b
refine wec call80 [l1, F6 l4, U6 L] z z ((iO k b.to0 v2).mono ?_)
rintro _ a81 ⟨I7110, O1, rfl, f3, v5, b⟩
refine ⟨_, z, ?_⟩
replace b := b.of0
replace k := k.mono (ro_le f3)
replace q := q.mono (ro_le f3)
replace s := s.mono (ro_le f3)
replace t := t.mono (ro_le f3)
replace u := u.trans f3
refine w0n b (hJ 17 (by kernel_rfl) (nxe [18, 19, 20, 21] (by kernel_rfl) z ((aw z z z (cvb d)).trans z) ?_))
clear b
intro w b
obtain ⟨v6, O2, O3, O4, b⟩ := b.ey (E := aD) (xs := [d2]) [[.bool d2.Has, O1]] 61 1 z (bE.cons ⟨_, z, v5, oS (ah v5)⟩ bE.nil)
refine bW (v := (.slice (some ⟨v6, 0, none⟩) 1 1)) (w' := O2) z (dn (by kernel_rfl) O3 O4) (w0n b (hJ 18 (by kernel_rfl) (nxe [19, 20, 21] (by kernel_rfl) z ((aw z z z (cvb d)).trans z) ?_)))
clear b
intro w b
replace b := b.ag
obtain ⟨a82, v7, b⟩ := b.cB
replace b := b.ag
obtain ⟨a83, v8, b⟩ := b.cB
obtain ⟨O5, O6, c⟩ := bn c
refine wec call78 [(.slice (some ⟨v4, 0, none⟩) 1 1), (.slice (some ⟨v6, 0, none⟩) 1 1)] z z ((et (b.px v7) (b.nc v8) b.to0 O6).mono ?_)
rintro _ a84 ⟨rfl, b⟩
refine ⟨_, z, ?_⟩
replace b := (b.of0.ag.bh v7).ag.bh v8
refine w0n b (sgz (.bool _) 19 z d z (sg (.bool _) 20 z G (fun w b => aS d z z) (sh (.bool _) 21 z (fun w b => aJ G z z) (bp ?_))))
intro w b
refine ⟨z, ?_⟩
replace b := (al (Pt g 0) a1 b.bc.bc.bc.bc ⟨z, k, q, s, t⟩).au.ck
obtain rfl := sj c
exact ⟨_, (!O5), e9, fy z, u, b⟩
}
{
refine nxe [8, 17, 18, 19, 20, 21] (by kernel_rfl) z ((aw z z z (cvb d)).trans z) ?_
clear b
intro w b
refine wec call80 [l1, F6 l4, U6 L] z z ((iO k b.to0 v2).mono ?_)
rintro _ a85 ⟨I7131, v9, rfl, f4, d3, b⟩
refine ⟨_, z, ?_⟩
replace b := b.of0
replace k := k.mono (ro_le f4)
replace q := q.mono (ro_le f4)
replace s := s.mono (ro_le f4)
replace t := t.mono (ro_le f4)
replace u := u.trans f4
refine wn [7] b (db z (cY ((aw z z z (cvb d)).trans z) (fun w b => ay (cs := [.bool p.1.Has, H]) z isAgg61 sizeOf61 (b.xu 0 z))) bD) (pK 8 17 (by kernel_rfl) ?_ ?_)
{
refine nxe [17, 18, 19, 20, 21] (by kernel_rfl) z ((aw z z z (cvb d)).trans z) ?_
clear b
intro w b
replace b := b.da
obtain ⟨I7137, d4, x0, b⟩ := b.cN
replace k := k.mono (ro_le d4)
replace q := q.mono (ro_le d4)
replace s := s.mono (ro_le d4)
replace t := t.mono (ro_le d4)
replace d3 := d3.mono (ro_le d4)
replace u := u.trans d4
obtain ⟨x1, O7, O8, O9, b⟩ := b.ey (E := aD) (xs := [p.1]) [[.bool p.1.Has, H]] 61 1 z (bE.cons ⟨_, z, x0, oS (ah x0)⟩ bE.nil)
refine bW (v := (.slice (some ⟨x1, 0, none⟩) 1 1)) (w' := O7) z (dn (by kernel_rfl) O8 O9) (w0n b (hJ 17 (by kernel_rfl) (nxe [18, 19, 20, 21] (by kernel_rfl) z ((aw z z z (cvb d)).trans z) ?_)))
clear b
intro w b
obtain ⟨x2, P0, P1, P2, b⟩ := b.ey (E := aD) (xs := [d2]) [[.bool d2.Has, v9]] 61 1 z (bE.cons ⟨_, z, d3, oS (ah d3)⟩ bE.nil)
refine bW (v := (.slice (some ⟨x2, 0, none⟩) 1 1)) (w' := P0) z (dn (by kernel_rfl) P1 P2) (w0n b (hJ 18 (by kernel_rfl) (nxe [19, 20, 21] (by kernel_rfl) z ((aw z z z (cvb d)).trans z) ?_)))
clear b
intro w b
replace b := b.ag
obtain ⟨a86, x3, b⟩ := b.cB
replace b := b.ag
obtain ⟨a87, x4, b⟩ := b.cB
obtain ⟨P3, P4, c⟩ := bn c
refine wec call78 [(.slice (some ⟨x1, 0, none⟩) 1 1), (.slice (some ⟨x2, 0, none⟩) 1 1)] z z ((et (b.px x3) (b.nc x4) b.to0 P4).mono ?_)
rintro _ a88 ⟨rfl, b⟩
refine ⟨_, z, ?_⟩
replace b := (b.of0.ag.bh x3).ag.bh x4
refine w0n b (sgz (.bool _) 19 z d z (sg (.bool _) 20 z G (fun w b => aS d z z) (sh (.bool _) 21 z (fun w b => aJ G z z) (bp ?_))))
intro w b
refine ⟨z, ?_⟩
replace b := (al (Pt g 0) a1 b.bc.bc.bc.bc ⟨z, k, q, s, t⟩).au.ck
obtain rfl := sj c
exact ⟨_, (!P3), e9, fy z, u, b⟩
}
{
refine nxe [8, 18, 19, 20, 21] (by kernel_rfl) z ((aw z z z (cvb d)).trans z) ?_
clear b
intro w b
obtain ⟨x5, P5, P6, P7, b⟩ := b.ey (E := aD) (xs := [d2]) [[.bool d2.Has, v9]] 61 1 z (bE.cons ⟨_, z, d3, oS (ah d3)⟩ bE.nil)
refine bW (v := (.slice (some ⟨x5, 0, none⟩) 1 1)) (w' := P5) z (dn (by kernel_rfl) P6 P7) (wn [7] b (db z (cY ((aw z z z (cvb d)).trans z) (fun w b => ay (cs := [.bool p.1.Has, H]) z isAgg61 sizeOf61 (b.BR 0 z))) bD) (hJ 8 (by kernel_rfl) (nxe [18, 19, 20, 21] (by kernel_rfl) z ((aw z z z (cvb d)).trans z) ?_)))
clear b
intro w b
replace b := b.aL
obtain ⟨I7167, f5, x6, b⟩ := b.cN
replace k := k.mono (ro_le f5)
replace q := q.mono (ro_le f5)
replace s := s.mono (ro_le f5)
replace t := t.mono (ro_le f5)
replace u := u.trans f5
obtain ⟨x7, P8, P9, Q0, b⟩ := b.ey (E := aD) (xs := [p.1]) [[.bool p.1.Has, H]] 61 1 z (bE.cons ⟨_, z, x6, oS (ah x6)⟩ bE.nil)
refine bW (v := (.slice (some ⟨x7, 0, none⟩) 1 1)) (w' := P8) z (dn (by kernel_rfl) P9 Q0) (w0n b (hJ 18 (by kernel_rfl) (nxe [19, 20, 21] (by kernel_rfl) z ((aw z z z (cvb d)).trans z) ?_)))
clear b
intro w b
obtain ⟨a89, x8, b⟩ := b.cB
replace b := b.ag
obtain ⟨a90, x9, b⟩ := b.cB
obtain ⟨Q1, Q2, c⟩ := bn c
refine wec call78 [(.slice (some ⟨x7, 0, none⟩) 1 1), (.slice (some ⟨x5, 0, none⟩) 1 1)] z z ((et (b.px x8) (b.nc x9) b.to0 Q2).mono ?_)
rintro _ a91 ⟨rfl, b⟩
refine ⟨_, z, ?_⟩
replace b := (b.of0.ag.bh x8).ag.bh x9
refine w0n b (sgz (.bool _) 19 z d z (sg (.bool _) 20 z G (fun w b => aS d z z) (sh (.bool _) 21 z (fun w b => aJ G z z) (bp ?_))))
intro w b
refine ⟨z, ?_⟩
replace b := (al (Pt g 0) a1 b.bc.bc.bc.bc ⟨z, k, q, s, t⟩).au.ck
obtain rfl := sj c
exact ⟨_, (!Q1), e9, fy z, u, b⟩
}
}
}
}
{
intro d c
refine so 7 z d (so 8 z d (so 9 z d (so 10 z d (so 11 z d (so 12 z d (so 13 z d (so 14 z d (so 15 z d (so 16 z d (so 17 z d (so 18 z d (so 19 z d (sg (.bool _) 20 z G (fun w b => aJ d z z) (sh (.bool _) 21 z (fun w b => aJ G z z) (bp ?_)))))))))))))))
intro w b
refine ⟨z, ?_⟩
replace b := (al (Pt g 0) a1 b.au.au.au.au ⟨z, k, q, s, t⟩).ag.ck
obtain rfl := sj c
exact ⟨_, false, e9, fy z, u, b⟩
}
}
}
{
rintro _ a92 ⟨I7185, l3, c, ⟨a93, rfl⟩, Q3, b⟩
dsimp only [mQ] at c
replace h9 := h9.trans Q3
refine tn (bs c ?_ ?_)
{
intro y0 c
cases c
}
{
intro y0 c
refine ak (cvb y0) (wp_skip (bF (tn (wrl (mi z (mi z (mi z (ab (tn ?_)))))))))
replace b := b.ag.ag.ck
obtain rfl := sj c
exact ⟨_, nls, _, (u64.wrap (L + 1)), u1, fy z, h9, b⟩
}
}
}
}
{
intro k1 c
refine ak (cvb k1) (wp_exit (aV (aV ?_)))
replace c := bo c u1
refine de (bF (tn (wrl (mi z (mi z (mi z (ab (tn ?_))))))))
replace b := b.ag.ag.ck
obtain rfl := sj c
exact ⟨_, nls, _, (i64.wrap (C + 1)), q2, fy z, c8, b⟩
}
}
}
}
{
intro j6 c
refine ak (cvb j6) (wp_exit (aV (aV ?_)))
replace c := bo c q2
refine de (tn ?_)
replace b := b.ag.ag.ck
obtain rfl := sj c
exact ⟨_, G7, fy z, j5, b⟩
}
}
{
rintro _ a94 ⟨I7193, c, ⟨a95, rfl⟩, Q4, b⟩
dsimp only [qj] at c
replace b0 := b0.trans Q4
refine wp_seq (wp_seq (wrl (mi z (ab (tn (wp_block ?_))))))
obtain ⟨Q5, c⟩ := aX c
refine bm (fun n a w => ∃ (I8017 : HL) (j : Int), cT (lx a0 a1) n j = some r ∧ fz 267 [0, 1, 16] [p0, Pt g 0, I6 j] a ∧ I7193.le I8017 ∧ St w0 w I8017 [cF aI p0 a0, aR (Pt g 0) a1] R) Q5 ⟨_, 0, c, fy z, lr, b⟩ ?_
rintro a96 _ a97 ⟨I8017, j, c, ⟨a98, rfl⟩, M, b⟩
obtain ⟨a99, y1, rfl, c, y2⟩ := ba c
dsimp only [lx] at c
replace b0 := b0.trans M
refine wp_seq (wp_seq (wrl (mi z (mb z (ab (tn (bs c ?_ ?_)))))))
{
intro l5 c
refine ar (cvb l5) (wp_skip (tn (wp_seq (wp_block (wp_seq (wp_seq ?_))))))
obtain ⟨b00, b01, b02, b03, b04, b05, b06, b07, ⟨l6, Q6, Q7, Q8, Q9⟩, S0⟩ := bl b.ag
replace l6 := dI l6
subst l6
have b := S0
refine rg b 23 [0, 0, 3, 0, 0, 31, 63, 127, 255, 511, 511, 1535, 4095, 511, 8703, 25087, 57855, 511, 131583, 524287, 1048575, 2097151, 4194303] [] mixed (sz (p0) 0 z z (si 1 z z (sp 3 z z (si 4 z z (e1 2 z z fun w b => ?_)))))
replace b := b.bf
obtain ⟨b08, S1, c⟩ := bn c
refine wec call15 [p0, I6 j] z z ((tC b.to1 S1).mono ?_)
rintro _ b09 ⟨S2, rfl, b⟩
refine ⟨_, z, ?_⟩
replace b := b.of2
refine wn [4, 3] b (pz (pz bD)) (e1 5 z z fun w b => ?_)
replace b := al (Pt g 0) a1 b.bc.bc.bc.bc ⟨z, Q6, Q7, Q8, Q9⟩
obtain ⟨b10, S3, c⟩ := bn c
refine wec call92 [Pt g 0, I6 j] z z ((tx b.to1 S3).mono ?_)
rintro _ b11 ⟨S4, rfl, b⟩
refine ⟨_, z, ?_⟩
replace b := b.of2
refine w0n b (e1 6 z z fun w b => ?_)
replace b := b.aA
obtain ⟨I8061, S5, l7, b⟩ := b.cN
replace M := M.trans S5
obtain ⟨I8064, y3, S6, b⟩ := b.cN
replace l7 := l7.mono (ro_le y3)
replace M := M.trans y3
obtain ⟨b12, S7, c⟩ := bn c
refine wec call91 [S2, S4] z z ((sQ l7 S6 b.to0 S7).mono ?_)
rintro _ b13 ⟨rfl, b⟩
refine ⟨_, z, ?_⟩
obtain ⟨b14, b15, b16, y4, b17, b18, b19, b20, ⟨l8, W, X, Q, Y⟩, S8⟩ := bl b.of0
replace l8 := dI l8
subst l8
have b := S8
refine w0n b (sb 7 z z (sb 8 z z (bs c ?_ ?_)))
{
intro o c
cases c
}
{
intro o c
refine sgz p0 9 z o z (sgz (I6 _) 10 z o z (sgk (.int .u64 (u64.wrap j)) 11 z o (sgz (Pt _ _) 13 z o z (sgz (Pt _ _) 14 z o z (sg _ 15 z o (fun w b => aT z underlying130 z sizeOf126 z) (sg _ 16 z o (fun w b => aq z isAgg126 (b.bc0 z)) (sgz (I6 _) 17 z o z (sgk (.int .u64 (u64.wrap j)) 18 z o (hJ 12 (by kernel_rfl) (nxe [19, 20, 21, 22] (by kernel_rfl) z ((aw z z z (cvb o)).trans z) ?_))))))))))
clear b
intro w b
replace b := b.bf
obtain ⟨y5, S9, c⟩ := bn c
refine wec call22 [p0, U6 (u64.wrap j)] z z ((sP b.to1 S9).mono ?_)
rintro _ b21 ⟨rfl, b⟩
refine ⟨_, z, ?_⟩
replace b := b.of1
refine wn [18, 17, 16, 15, 14, 13] b (db z (cY ((aw z z z (cvb o)).trans z) (fun w b => by kernel_rfl)) (db z (cY ((aw z z z (cvb o)).trans z) (fun w b => z)) (db z (cY ((aw z z z (cvb o)).trans z) (fun w b => aq z isAgg126 (b.bc1 z))) (db z (cY ((aw z z z (cvb o)).trans z) (fun w b => aT z underlying130 z sizeOf126 z)) (db z (cY ((aw z z z (cvb o)).trans z) (fun w b => z)) (db z (cY ((aw z z z (cvb o)).trans z) (fun w b => z)) bD)))))) (hJ 19 (by kernel_rfl) (nxe [20, 21, 22] (by kernel_rfl) z ((aw z z z (cvb o)).trans z) ?_))
clear b
intro w b
obtain ⟨l9, T0, c⟩ := bn c
refine wec call93 [y4, U6 (u64.wrap j)] z z ((lW Q b.to0 T0).mono ?_)
rintro _ b22 ⟨I8101, b23, b24, rfl, f6, T1, T2, b⟩
refine ⟨_, z, ?_⟩
replace b := b.of0
replace W := W.mono (ro_le f6)
replace X := X.mono (ro_le f6)
replace Q := Q.mono (ro_le f6)
replace Y := Y.mono (ro_le f6)
replace M := M.trans f6
refine w0n b (wE (v := .int .u64 l9.Seq) 20 [21, 22] (by kernel_rfl) rfl rfl (cY ((aw rfl rfl rfl (cvb o)).trans rfl) (fun w b => by obtain ⟨_, _, hv_, _⟩ := (ah T2); rw [hv_]; obtain ⟨_, _, hv_, _⟩ := (ah T1); rw [hv_]; kernel_rfl)) (wE (v := .bool (y5 != l9.Seq)) 21 [22] (by kernel_rfl) rfl rfl (cY ((aw rfl rfl rfl (cvb o)).trans rfl) (fun w b => rfl)) (wsr (.bool (y5 != l9.Seq)) 22 rfl rfl rfl (by kernel_rfl) (fun w b => aJ o rfl rfl) (bp ?_))))
intro w b
refine tn (bs c ?_ ?_)
{
intro y6 c
cases c
}
{
intro y6 c
refine ak (cvb y6) (wp_skip (tn (wp_seq (wrl (mp z (mp z (mf z underlying130 z sizeOf126 (ml z isAgg126 (b.bc1 z) (mi z (mk (.int .u64 (u64.wrap j)) ?_))))))))))
obtain ⟨J, T3, c⟩ := bn c
refine wc call93 [y4, U6 (u64.wrap j)] z z z ((lW Q b.to0 T3).mono ?_)
rintro _ b25 ⟨I8113, m0, m1, rfl, f7, i0, i1, b⟩
refine ⟨_, z, ?_⟩
replace b := b.of0
replace W := W.mono (ro_le f7)
replace X := X.mono (ro_le f7)
replace Q := Q.mono (ro_le f7)
replace Y := Y.mono (ro_le f7)
replace M := M.trans f7
obtain ⟨b26, b27, T4, T5, b⟩ := b.box [Zu, Zu, Zi, Zu, Zu, Zs, Zs] 164
refine wa T4 T5 ?_
obtain ⟨b28, T6, b⟩ := b.bx [U6 J.Session, U6 J.Seq, I6 J.R.E, U6 J.R.Epoch, U6 J.R.Index, m0, m1] sizeOf164 z (oJ 5 z (oC (oS (ah i0)) (oC (oS (ah i1)) oN))) (by kernel_rfl)
refine aE z z (aG T6) (ab (tn (wp_seq (wrl (mv (p0) z (mi z (mk (.int .u64 (u64.wrap j)) (mf z underlying164 z sizeOf26 (ml z isAgg26 (b.bc0 z) (mk (.agg #[U6 (u64.wrap j), U6 J.Seq]) ?_))))))))))
replace b := b.ag
obtain ⟨D, T7, c⟩ := bn c
refine wc call37 [p0, .agg #[U6 (u64.wrap j), U6 J.Seq]] z z z ((rv b.to1 T7).mono ?_)
rintro _ b29 ⟨I8133, f8, f9, rfl, b1, y7, y8, b⟩
refine ⟨_, z, ?_⟩
replace b := b.of1
replace W := W.mono (ro_le b1)
replace X := X.mono (ro_le b1)
replace Q := Q.mono (ro_le b1)
replace Y := Y.mono (ro_le b1)
replace i0 := i0.mono (ro_le b1)
replace i1 := i1.mono (ro_le b1)
replace M := M.trans b1
refine mv (.tuple #[.agg #[I6 D.1.E, U6 D.1.Epoch, U6 D.1.Index, f8, f9], I6 D.2]) z (mv (.agg #[I6 D.1.E, U6 D.1.Epoch, U6 D.1.Index, f8, f9]) z (mi z ?_))
obtain ⟨b30, b31, T8, T9, b⟩ := b.box [Zi, Zu, Zu, Zs, Zs] 33
refine wa T8 T9 ?_
obtain ⟨b32, V0, b⟩ := b.bx [I6 D.1.E, U6 D.1.Epoch, U6 D.1.Index, f8, f9] sizeOf33 z (oJ 3 z (oC (oS (ah y7)) (oC (oS (ah y8)) oN))) (by kernel_rfl)
refine aE z z (aG V0) (mi z (ab (tn ?_)))
obtain ⟨b33, c, y9⟩ := ec c
refine cU (fun a w =>(nM a0 j a1) () = some y1 ∧ fz 267 [0, 1, 16] [p0, Pt g 0, I6 j] a ∧ St w0 w I8133 [cF aI p0 a0, aR (Pt g 0) a1] R) ?_ ?_
{
refine wp_seq (wrl (mf z underlying164 z sizeOf26 (ml z isAgg26 (b.bc2 z) (mb z (mb z (bs c ?_ ?_))))))
{
intro N c
refine gi N z (gb N z (gb N z (bs c ?_ ?_)))
{
intro b2 c
cases c
}
{
intro b2 c
refine gg b2 (ay (cs := [I6 D.1.E, U6 D.1.Epoch, U6 D.1.Index, f8, f9]) z isAgg33 sizeOf33 (b.eF 0 z)) (gg b2 (aT z underlying164 z sizeOf33 z) (gg b2 (ay (cs := [I6 J.R.E, U6 J.R.Epoch, U6 J.R.Index, m0, m1]) z isAgg33 sizeOf33 (b.pR 2 z)) ?_))
obtain ⟨b34, V1, c⟩ := bn c
refine dj ((aw z z z (cvb b2)).trans z) z (jv call32 z (vs := [.agg #[I6 D.1.E, U6 D.1.Epoch, U6 D.1.Index, f8, f9], .agg #[I6 J.R.E, U6 J.R.Epoch, U6 J.R.Index, m0, m1]]) z) ((oR (y7.mono cD) (y8.mono cD) (i0.mono cD) (i1.mono cD) b.to0 V1).mono ?_)
rintro _ b35 ⟨rfl, b⟩
refine ⟨_, z, ?_⟩
replace b := b.of0
refine gb b2 z (gb N (aJ b2 z z) (mb (aS N z z) (ab (tn (bs c ?_ ?_)))))
{
intro A0 c
cases c
}
{
intro A0 c
refine ak (cvb A0) (wp_skip (tn ?_))
replace b := (al (Pt g 0) a1 b.da.da.da.da ⟨z, W, X, Q, Y⟩).aA.ck
obtain rfl := sj c
exact ⟨y9, fy z, b⟩
}
}
}
{
intro N c
refine go N (go N (go N (gu (gu (gu (gu (gu (go N (mb (aJ N z z) (ab (tn (ak z (wp_skip (tn ?_))))))))))))))
replace b := (al (Pt g 0) a1 b.da.da.da.da ⟨z, W, X, Q, Y⟩).aA.ck
obtain rfl := sj c
exact ⟨y9, fy z, b⟩
}
}
{
rintro _ b36 ⟨c, ⟨b37, rfl⟩, b⟩
dsimp only [nM] at c
refine wp_seq (wrl (mi z (ab (tn (wp_block ?_)))))
obtain ⟨V2, c⟩ := aX c
refine bm (fun n a w => ∃ (O : Int), cT (jc a0 j a1) n O = some y1 ∧ fz 267 [0, 1, 16, 20] [p0, Pt g 0, I6 j, U6 O] a ∧ St w0 w I8133 [cF aI p0 a0, aR (Pt g 0) a1] R) V2 ⟨0, c, fy z, b⟩ ?_
rintro b38 _ b39 ⟨O, c, ⟨b40, rfl⟩, b⟩
obtain ⟨b41, A1, rfl, c, m2⟩ := ba c
dsimp only [jc] at c
refine wp_seq (wp_seq (wrl (mi z (mb z (ab (tn (bs c ?_ ?_)))))))
{
intro m3 c
refine ar (cvb m3) (wp_skip (tn (wp_seq (wp_block (wp_seq (wrl (mv (p0) z (mi z (mk (.int .u64 (u64.wrap j)) (mi z ?_))))))))))
obtain ⟨f, V3, c⟩ := bn c
refine wc call94 [p0, U6 (u64.wrap j), U6 O] z z z ((sZ b.to1 V3).mono ?_)
rintro _ b42 ⟨rfl, b⟩
refine ⟨_, z, ?_⟩
replace b := b.of1
refine mv (.tuple #[.agg #[U6 f.1.ID, I6 f.1.From, I6 f.1.To, F6 f.1.Lo, F6 f.1.Hi, U6 f.1.Authority, I6 f.1.Quota], I6 f.2]) z (mv (.agg #[U6 f.1.ID, I6 f.1.From, I6 f.1.To, F6 f.1.Lo, F6 f.1.Hi, U6 f.1.Authority, I6 f.1.Quota]) z (mi z ?_))
obtain ⟨i2, b43, V4, V5, b⟩ := b.box [Zu, Zi, Zi, Zf, Zf, Zu, Zi] 39
refine wa V4 V5 ?_
obtain ⟨b44, V6, b⟩ := b.bx [U6 f.1.ID, I6 f.1.From, I6 f.1.To, F6 f.1.Lo, F6 f.1.Hi, U6 f.1.Authority, I6 f.1.Quota] sizeOf39 z (oJ 7 z oN) (by kernel_rfl)
refine aE z z (aG V6) (mi z (ab (tn (wp_seq (wrl (mp z ?_))))))
obtain ⟨b45, b46, b47, b48, V7, b49, b50, b51, ⟨m4, A2, A3, A4, m5⟩, V8⟩ := bl b.aA
replace m4 := dI m4
subst m4
have b := V8
refine mp z (mf z underlying130 z sizeOf127 (ml z isAgg127 (b.bc0 z) (mi z (mk (.int .u64 (u64.wrap j)) (mi z ?_)))))
obtain ⟨h, V9, c⟩ := bn c
refine wc call95 [V7, U6 (u64.wrap j), U6 O] z z z ((xC (m5.mono cD) b.to0 V9).mono ?_)
rintro _ b52 ⟨rfl, b⟩
refine ⟨_, z, ?_⟩
replace b := b.of0
refine mv (.tuple #[.agg #[U6 h.1.ID, I6 h.1.From, I6 h.1.To, F6 h.1.Lo, F6 h.1.Hi, U6 h.1.Authority, I6 h.1.Quota], .bool h.2]) z (mv (.agg #[U6 h.1.ID, I6 h.1.From, I6 h.1.To, F6 h.1.Lo, F6 h.1.Hi, U6 h.1.Authority, I6 h.1.Quota]) z (mb z ?_))
obtain ⟨i3, b53, W0, W1, b⟩ := b.box [Zu, Zi, Zi, Zf, Zf, Zu, Zi] 39
refine wa W0 W1 ?_
obtain ⟨b54, W2, b⟩ := b.bx [U6 h.1.ID, I6 h.1.From, I6 h.1.To, F6 h.1.Lo, F6 h.1.Hi, U6 h.1.Authority, I6 h.1.Quota] sizeOf39 z (oJ 7 z oN) (by kernel_rfl)
refine aE z z (aG W2) (mb z (ab (tn (wp_seq (wrl (mi z (ab (tn ?_))))))))
obtain ⟨b55, c, A5⟩ := bn c
refine cU (fun a w => ∃ (i4 : Int), (kl O a1 f h) i4 = some A1 ∧ fz 267 [0, 1, 16, 20, 21, 22, 23, 25] [p0, Pt g 0, I6 j, U6 O, Pt i2 0, I6 f.2, Pt i3 0, I6 i4] a ∧ St w0 w I8133 [cF aI p0 a0, aR (Pt g 0) a1, cells i2 [U6 f.1.ID, I6 f.1.From, I6 f.1.To, F6 f.1.Lo, F6 f.1.Hi, U6 f.1.Authority, I6 f.1.Quota], cells i3 [U6 h.1.ID, I6 h.1.From, I6 h.1.To, F6 h.1.Lo, F6 h.1.Hi, U6 h.1.Authority, I6 h.1.Quota]] R) ?_ ?_
{
refine wp_seq (wrl (mb z (mb z (ab (tn (bs c ?_ ?_))))))
{
intro m6 c
refine ar (cvb m6) (wrl (mi z (ab (tn ?_))))
replace b := (al (Pt g 0) a1 b.bf.bf.bf.bf ⟨z, A2, A3, A4, m5⟩).ag.aA.aA.au.eI
obtain rfl := sj c
exact ⟨12, A5, fy z, b⟩
}
{
intro m6 c
refine ak (cvb m6) (wp_skip (tn ?_))
replace b := (al (Pt g 0) a1 b.bf.bf.bf.bf ⟨z, A2, A3, A4, m5⟩).ag.aA.aA.au.eI
obtain rfl := sj c
exact ⟨0, A5, fy z, b⟩
}
}
{
rintro _ b56 ⟨i4, c, ⟨b57, rfl⟩, b⟩
dsimp only [kl] at c
obtain ⟨b58, c, A6⟩ := bn c
refine cU (fun a w => ∃ (m7 : Int), (km f h O) m7 = some A1 ∧ fz 267 [0, 1, 16, 20, 21, 22, 23, 25] [p0, Pt g 0, I6 j, U6 O, Pt i2 0, I6 f.2, Pt i3 0, I6 m7] a ∧ St w0 w I8133 [cF aI p0 a0, aR (Pt g 0) a1, cells i2 [U6 f.1.ID, I6 f.1.From, I6 f.1.To, F6 f.1.Lo, F6 f.1.Hi, U6 f.1.Authority, I6 f.1.Quota], cells i3 [U6 h.1.ID, I6 h.1.From, I6 h.1.To, F6 h.1.Lo, F6 h.1.Hi, U6 h.1.Authority, I6 h.1.Quota]] R) ?_ ?_
{
refine wp_seq (wrl (mi z (mp z ?_)))
obtain ⟨b59, b60, b61, b62, b63, b64, b65, b66, ⟨m8, A7, A8, A9, B0⟩, W3⟩ := bl b.ag
replace m8 := dI m8
subst m8
have b := W3
refine mp z (mf z underlying130 z sizeOf26 (ml z isAgg26 (b.bc0 z) (mb z (ab (tn (bs c ?_ ?_))))))
{
intro m9 c
refine ar (cvb m9) (wrl (mi z (ab (tn ?_))))
replace b := (al (Pt g 0) a1 b.au.au.au.au ⟨z, A7, A8, A9, B0⟩).au.au.aA.au.eI
obtain rfl := sj c
exact ⟨2, A6, fy z, b⟩
}
{
intro m9 c
refine ak (cvb m9) (wp_skip (tn ?_))
replace b := (al (Pt g 0) a1 b.au.au.au.au ⟨z, A7, A8, A9, B0⟩).au.au.aA.au.eI
obtain rfl := sj c
exact ⟨i4, A6, fy z, b⟩
}
}
{
rintro _ b67 ⟨m7, c, ⟨b68, rfl⟩, b⟩
dsimp only [km] at c
refine wp_seq (wrl (mi z (mi z (mb z (mb z (bs c ?_ ?_))))))
{
intro Z c
cases c
}
{
intro Z c
refine gi Z z (gb Z z (gb Z z (bs c ?_ ?_)))
{
intro P c
refine gg P (ay (cs := [U6 f.1.ID, I6 f.1.From, I6 f.1.To, F6 f.1.Lo, F6 f.1.Hi, U6 f.1.Authority, I6 f.1.Quota]) z isAgg39 sizeOf39 (b.pR 0 z)) (gg P (ay (cs := [U6 h.1.ID, I6 h.1.From, I6 h.1.To, F6 h.1.Lo, F6 h.1.Hi, U6 h.1.Authority, I6 h.1.Quota]) z isAgg39 sizeOf39 (b.rI 0 z)) ?_)
obtain ⟨b69, W4, c⟩ := bn c
refine dj ((aw z z z (cvb P)).trans z) z (jv call96 z (vs := [.agg #[U6 f.1.ID, I6 f.1.From, I6 f.1.To, F6 f.1.Lo, F6 f.1.Hi, U6 f.1.Authority, I6 f.1.Quota], .agg #[U6 h.1.ID, I6 h.1.From, I6 h.1.To, F6 h.1.Lo, F6 h.1.Hi, U6 h.1.Authority, I6 h.1.Quota]]) z) ((tJ b.to0 W4).mono ?_)
rintro _ b70 ⟨rfl, b⟩
refine ⟨_, z, ?_⟩
replace b := b.of0
refine gb P z (gb Z (aS P z z) (mb (aJ Z z z) (ab (tn (bs c ?_ ?_)))))
{
intro B1 c
cases c
}
{
intro B1 c
refine ak (cvb B1) (wp_skip (bF (tn (wrl (mi z (mi z (mi z (ab (tn ?_)))))))))
replace b := b.ag.ag.ck
obtain rfl := sj c
exact ⟨_, nls, (u64.wrap (O + 1)), m2, fy z, b⟩
}
}
{
intro P c
refine go P (go P (go P (go P (gb Z (aJ P z z) (mb (aJ Z z z) (ab (tn (ak z (wp_skip (bF (tn (wrl (mi z (mi z (mi z (ab (tn ?_)))))))))))))))))
replace b := b.ag.ag.ck
obtain rfl := sj c
exact ⟨_, nls, (u64.wrap (O + 1)), m2, fy z, b⟩
}
}
}
}
}
{
intro m3 c
refine ak (cvb m3) (wp_exit (aV (aV ?_)))
replace c := bo c m2
refine de (bF (tn (wrl (mi z (mi z (mi z (ab (tn ?_))))))))
replace b := b.ag.ag.ck
obtain rfl := sj c
exact ⟨_, nls, _, (i64.wrap (j + 1)), y2, fy z, M, b⟩
}
}
}
}
}
{
intro l5 c
refine ak (cvb l5) (wp_exit (aV (aV ?_)))
replace c := bo c y2
refine de (tn (wp_seq (wrl (mb z (ab (tn (wp_ret ?_)))))))
obtain rfl := sj c
refine aZ [.bool true] results40 (rc z ai) ?_
replace b := b.ag.ag
exact ⟨_, z, b0, b.ck⟩
}
}
}
}
}
}
}
}
theorem sO {a0 : (List Int)} {A : Value} {a1 : Int} (P : Ro (cp .u8) I A a0) (c : St w0 w I [] R) {r : (Bool)} (d : mV a0 a1 = some r) :
  Calls prog 10 #[A, U1 a1] w fun e w' => ∃ (I' : HL), e = .returned (.bool r) ∧ I.le I' ∧ St w0 w' I' [] R := by {
unfold mV at d
refine c0 func10 z ntmps10 ?_
have k := HL.le.refl I
refine wp_seq (wrl (mb z (ab (tn (wp_seq (wp_seq (wrl ?_)))))))
obtain ⟨f3, b9, d⟩ := bn d
refine wc call12 [] z z z ((oO c.to0 b9).mono ?_)
rintro _ f4 ⟨I351, rfl, b4, c⟩
refine ⟨_, z, ?_⟩
replace c := c.of0
replace P := P.mono (ro_le b4)
replace k := k.trans b4
refine mb z (mb z (bs d ?_ ?_))
{
intro m d
refine go m (go m (go m (mb (aS m z z) (ab (tn (ar z (wp_seq (wrl ?_))))))))
obtain ⟨c1, c2, d⟩ := bn d
refine wc call12 [] z z z ((oO c.to0 c2).mono ?_)
rintro _ f5 ⟨I357, rfl, c3, c⟩
refine ⟨_, z, ?_⟩
replace c := c.of0
replace k := k.trans c3
refine mb z (ab (tn (wp_ret (aN ?_))))
obtain rfl := sj d
exact aZ [.bool c1] results10 (rc z ai) ⟨_, z, k, c.bU⟩
}
{
intro m d
refine gv (A) m z (gg m (bZ z underlying22 (ah P)) (gb m z (mb (aJ m z z) (ab (tn (bs d ?_ ?_))))))
{
intro V d
refine ar (cvb V) (wp_seq (wrl ?_))
obtain ⟨c4, c5, d⟩ := bn d
refine wc call12 [] z z z ((oO c.to0 c5).mono ?_)
rintro _ f6 ⟨I363, rfl, c6, c⟩
refine ⟨_, z, ?_⟩
replace c := c.of0
replace k := k.trans c6
refine mb z (ab (tn (wp_ret (aN ?_))))
obtain rfl := sj d
exact aZ [.bool c4] results10 (rc z ai) ⟨_, z, k, c.bU⟩
}
{
intro V d
refine ak (cvb V) (wp_skip (tn (wp_seq (wrl (mv (A) z (wv (.agg #[A, Zi]) z z (by obtain ⟨_, _, hv_, _⟩ := (ah P); rw [hv_]; kernel_rfl) ?_))))))
obtain ⟨S, f7, c7, c8, c⟩ := c.box [A, Zi] 74
refine wa c7 c8 (mp z (ab (tn (wp_seq (wrl (mi z (mk (.int .i64 (i64.wrap a1)) (mi (yR (by decide) z z) ?_))))))))
obtain ⟨c9, d0, d⟩ := bn d
refine wc call13 [I6 (Int.tmod (i64.wrap a1) 6)] z z z ((tN c.to0 d0).mono ?_)
rintro _ f8 ⟨t, rfl, c⟩
refine ⟨_, z, ?_⟩
replace c := c.of1
refine mv (t) z (ab (tn (wp_seq (wrl (mi z (mk (.int .i64 (i64.wrap a1)) (mi (yR (by decide) z z) ?_)))))))
obtain ⟨d1, d2, d⟩ := bn d
refine wc call26 [I6 (Int.tmod (i64.wrap a1) 6)] z z z ((wG c.to0 d2).mono ?_)
rintro _ f9 ⟨u, rfl, c⟩
refine ⟨_, z, ?_⟩
replace c := c.of1
refine mv (u) z (ab (tn (wp_seq (wp_seq (wrl (mi z (ab (tn (wp_block ?_)))))))))
replace c := mE (Pt S 0) (({ L := a0, I := 0 } : ao)) c.aA ⟨z, P⟩
obtain ⟨d3, d⟩ := aX d
refine bm (fun n a w => ∃ (I587 : HL) (W : ao) (X : ae) (Y : aj) (p : Int), cT (jb) n (W, X, Y, p) = some r ∧ fz 55 [5, 6, 7, 8] [Pt S 0, t, u, I6 p] a ∧ I351.le I587 ∧ St w0 w I587 [bG (Pt S 0) W, aR u Y, aI t X] R) d3 ⟨_, ({ L := a0, I := 0 } : ao), c9, d1, 0, d, fy z, lr, c⟩ ?_
rintro g0 _ g1 ⟨I587, W, X, Y, p, d, ⟨g2, rfl⟩, f, c⟩
obtain ⟨g3, g4, rfl, d, b5⟩ := ba d
dsimp only [jb] at d
replace k := k.trans f
refine wp_seq (wp_seq (wrl (mi z (mb z (ab (tn (bs d ?_ ?_)))))))
{
intro Z d
refine ar (cvb Z) (wp_skip (tn (wp_seq (wp_block (wp_seq (wrl (mp z ?_)))))))
obtain ⟨b, d4, d⟩ := bn d
refine wc call38 [Pt S 0] z z z ((sU c.to1 d4).mono ?_)
rintro _ g5 ⟨I600, B, C, D, F, G, H, J, K, rfl, d5, c⟩
refine ⟨_, z, ?_⟩
replace c := c.of9
replace f := f.trans d5
obtain ⟨g6, g7, d6, d7, c⟩ := c.box [Zb, Zu, Zu, Zu, Zu, Zi, Zu, Zu, Zu, Zs, Zs, Zs, Zs, Zs, Zi, Zu, Zu, Zs, Zs, Zu, Zs, Zu, Zi, Zi, Zf, Zf, Zu, Zi, .bool false] 49
refine wa d6 d7 ?_
obtain ⟨g8, d8, c⟩ := c.bx [U1 b.1.Kind, U6 b.1.ID.Session, U6 b.1.ID.Seq, U6 b.1.Epoch, U6 b.1.Index, I6 b.1.E, U6 b.1.Hold.ID.Session, U6 b.1.Hold.ID.Seq, U6 b.1.Hold.Epoch, B, C, D, F, G, I6 b.1.R.E, U6 b.1.R.Epoch, U6 b.1.R.Index, H, J, U6 b.1.Shards, K, U6 b.1.Rule.ID, I6 b.1.Rule.From, I6 b.1.Rule.To, F6 b.1.Rule.Lo, F6 b.1.Rule.Hi, U6 b.1.Rule.Authority, I6 b.1.Rule.Quota, .bool b.1.On] sizeOf49 z (oJ 9 z (oC (oS c.sv1) (oC (oS c.sv2) (oC (oS c.sv3) (oC (oS c.sv4) (oC (oS c.sv5) (oJ 3 z (oC (oS c.sv6) (oC (oS c.sv7) (oC z (oC (oS c.sv8) (oJ 8 z oN)))))))))))) (by kernel_rfl)
refine aE z z (aG d8) (ab (tn (wp_seq (rg c 20 [0, 0, 2, 6, 0, 31, 0, 0, 128, 384, 0, 2047, 4095, 8191, 16383, 32767, 32767, 131071, 262143, 524287] [] mixed (sz (t) 0 z z (si 1 z z (si 2 z z (sk (.int .u64 (u64.wrap (i64.wrap (p + 1)))) 3 z (sh _ 4 z (fun w c => ay (cs := [U1 b.1.Kind, U6 b.1.ID.Session, U6 b.1.ID.Seq, U6 b.1.Epoch, U6 b.1.Index, I6 b.1.E, U6 b.1.Hold.ID.Session, U6 b.1.Hold.ID.Seq, U6 b.1.Hold.Epoch, B, C, D, F, G, I6 b.1.R.E, U6 b.1.R.Epoch, U6 b.1.R.Index, H, J, U6 b.1.Shards, K, U6 b.1.Rule.ID, I6 b.1.Rule.From, I6 b.1.Rule.To, F6 b.1.Rule.Lo, F6 b.1.Rule.Hi, U6 b.1.Rule.Authority, I6 b.1.Rule.Quota, .bool b.1.On]) z isAgg49 sizeOf49 (c.eF 0 z)) (sz (u) 6 z z (si 7 z z (si 8 z z (sk (.int .u64 (u64.wrap (i64.wrap (p + 1)))) 9 z (sh _ 10 z (fun w c => ay (cs := [U1 b.1.Kind, U6 b.1.ID.Session, U6 b.1.ID.Seq, U6 b.1.Epoch, U6 b.1.Index, I6 b.1.E, U6 b.1.Hold.ID.Session, U6 b.1.Hold.ID.Seq, U6 b.1.Hold.Epoch, B, C, D, F, G, I6 b.1.R.E, U6 b.1.R.Epoch, U6 b.1.R.Index, H, J, U6 b.1.Shards, K, U6 b.1.Rule.ID, I6 b.1.Rule.From, I6 b.1.Rule.To, F6 b.1.Rule.Lo, F6 b.1.Rule.Hi, U6 b.1.Rule.Authority, I6 b.1.Rule.Quota, .bool b.1.On]) z isAgg49 sizeOf49 (c.eF 0 z)) (e1 5 z z fun w c => ?_)))))))))))))))
replace c := (aO c.oc).aA
obtain ⟨I633, d9, g, c⟩ := c.cN
replace f := f.trans d9
replace c := c.aA
obtain ⟨I636, b6, h, c⟩ := c.cN
replace g := g.mono (ro_le b6)
replace f := f.trans b6
replace c := c.aA
obtain ⟨I639, b0, i, c⟩ := c.cN
replace g := g.mono (ro_le b0)
replace h := h.mono (ro_le b0)
replace f := f.trans b0
replace c := c.aA
obtain ⟨I642, T, j, c⟩ := c.cN
replace g := g.mono (ro_le T)
replace h := h.mono (ro_le T)
replace i := i.mono (ro_le T)
replace f := f.trans T
replace c := c.aA
obtain ⟨I645, Q, l, c⟩ := c.cN
replace g := g.mono (ro_le Q)
replace h := h.mono (ro_le Q)
replace i := i.mono (ro_le Q)
replace j := j.mono (ro_le Q)
replace f := f.trans Q
replace c := c.aA
obtain ⟨I648, M, q, c⟩ := c.cN
replace g := g.mono (ro_le M)
replace h := h.mono (ro_le M)
replace i := i.mono (ro_le M)
replace j := j.mono (ro_le M)
replace l := l.mono (ro_le M)
replace f := f.trans M
replace c := c.aA
obtain ⟨I651, v, N, c⟩ := c.cN
replace g := g.mono (ro_le v)
replace h := h.mono (ro_le v)
replace i := i.mono (ro_le v)
replace j := j.mono (ro_le v)
replace l := l.mono (ro_le v)
replace q := q.mono (ro_le v)
replace f := f.trans v
replace c := c.aA
obtain ⟨I654, s, U, c⟩ := c.cN
replace g := g.mono (ro_le s)
replace h := h.mono (ro_le s)
replace i := i.mono (ro_le s)
replace j := j.mono (ro_le s)
replace l := l.mono (ro_le s)
replace q := q.mono (ro_le s)
replace N := N.mono (ro_le s)
replace f := f.trans s
obtain ⟨x, e0, d⟩ := bn d
refine wec call14 [t, U6 (u64.wrap (i64.wrap (p + 1))), .agg #[U1 b.1.Kind, U6 b.1.ID.Session, U6 b.1.ID.Seq, U6 b.1.Epoch, U6 b.1.Index, I6 b.1.E, U6 b.1.Hold.ID.Session, U6 b.1.Hold.ID.Seq, U6 b.1.Hold.Epoch, B, C, D, F, G, I6 b.1.R.E, U6 b.1.R.Epoch, U6 b.1.R.Index, H, J, U6 b.1.Shards, K, U6 b.1.Rule.ID, I6 b.1.Rule.From, I6 b.1.Rule.To, F6 b.1.Rule.Lo, F6 b.1.Rule.Hi, U6 b.1.Rule.Authority, I6 b.1.Rule.Quota, .bool b.1.On]] z z ((oH g h i j l q N U c.to1 e0).mono ?_)
rintro _ g9 ⟨I660, e2, e3, rfl, o, b1, b2, c⟩
refine ⟨_, z, ?_⟩
replace c := c.of1
replace g := g.mono (ro_le o)
replace h := h.mono (ro_le o)
replace i := i.mono (ro_le o)
replace j := j.mono (ro_le o)
replace l := l.mono (ro_le o)
replace q := q.mono (ro_le o)
replace N := N.mono (ro_le o)
replace U := U.mono (ro_le o)
replace f := f.trans o
rcases b7 : x.2 with _ | e4
· rw [b7] at d; cases d
rw [b7] at d c; dsimp only at d; replace c := bH c
refine wn [10, 9, 8, 7, 6] c (pkr z z (fun w c => ay (cs := [U1 b.1.Kind, U6 b.1.ID.Session, U6 b.1.ID.Seq, U6 b.1.Epoch, U6 b.1.Index, I6 b.1.E, U6 b.1.Hold.ID.Session, U6 b.1.Hold.ID.Seq, U6 b.1.Hold.Epoch, B, C, D, F, G, I6 b.1.R.E, U6 b.1.R.Epoch, U6 b.1.R.Index, H, J, U6 b.1.Shards, K, U6 b.1.Rule.ID, I6 b.1.Rule.From, I6 b.1.Rule.To, F6 b.1.Rule.Lo, F6 b.1.Rule.Hi, U6 b.1.Rule.Authority, I6 b.1.Rule.Quota, .bool b.1.On]) z isAgg49 sizeOf49 (c.eK 0 z)) (pkr z z (fun w c => by kernel_rfl) (pz (pz (pz bD))))) (e1 11 z z fun w c => ?_)
replace c := c.au
obtain ⟨y, e5, d⟩ := bn d
refine wec call30 [u, U6 (u64.wrap (i64.wrap (p + 1))), .agg #[U1 b.1.Kind, U6 b.1.ID.Session, U6 b.1.ID.Seq, U6 b.1.Epoch, U6 b.1.Index, I6 b.1.E, U6 b.1.Hold.ID.Session, U6 b.1.Hold.ID.Seq, U6 b.1.Hold.Epoch, B, C, D, F, G, I6 b.1.R.E, U6 b.1.R.Epoch, U6 b.1.R.Index, H, J, U6 b.1.Shards, K, U6 b.1.Rule.ID, I6 b.1.Rule.From, I6 b.1.Rule.To, F6 b.1.Rule.Lo, F6 b.1.Rule.Hi, U6 b.1.Rule.Authority, I6 b.1.Rule.Quota, .bool b.1.On]] z z ((rr g h i j l q N U c.to1 e5).mono ?_)
rintro _ h0 ⟨I673, e6, e7, rfl, b3, e8, e9, c⟩
refine ⟨_, z, ?_⟩
replace c := c.of1
replace b1 := b1.mono (ro_le b3)
replace b2 := b2.mono (ro_le b3)
replace f := f.trans b3
refine w0n c (e1 12 z z fun w c => ?_)
obtain ⟨h1, f0, d⟩ := bn d
refine wec call39 [.agg #[U1 x.1.Kind, U6 x.1.ID.Session, U6 x.1.ID.Seq, I6 x.1.R.E, U6 x.1.R.Epoch, U6 x.1.R.Index, e2, e3], .agg #[U1 y.1.Kind, U6 y.1.ID.Session, U6 y.1.ID.Seq, I6 y.1.R.E, U6 y.1.R.Epoch, U6 y.1.R.Index, e6, e7]] z z ((rT (b1.mono cD) (b2.mono cD) (e8.mono cD) (e9.mono cD) c.to0 f0).mono ?_)
rintro _ h2 ⟨rfl, c⟩
refine ⟨_, z, ?_⟩
replace c := c.of0
refine w0n c (sb 13 z z (sb 14 z z (bs d ?_ ?_)))
{
intro O d
cases d
}
{
intro O d
refine sgz t 15 z O z (sgz u 16 z O z (hJ 17 (by kernel_rfl) (nxe [18, 19] (by kernel_rfl) z ((aw z z z (cvb O)).trans z) ?_)))
clear c
intro w c
replace c := (aO c.ag).ag.ag
obtain ⟨h3, f1, d⟩ := bn d
refine wec call40 [t, u] z z ((vu c.to2 f1).mono ?_)
rintro _ h4 ⟨I690, rfl, f2, c⟩
refine ⟨_, z, ?_⟩
replace c := c.of2
replace f := f.trans f2
replace c := bH c
refine w0n c (sgz (.bool _) 18 z O z (sh (.bool _) 19 z (fun w c => aJ O z z) (bp ?_)))
intro w c
refine tn (bs d ?_ ?_)
{
intro b8 d
cases d
}
{
intro b8 d
refine ak (cvb b8) (wp_skip (bF (tn (wrl (mi z (mi z (mi z (ab (tn ?_)))))))))
replace c := c.ag.au.dF
obtain rfl := sj d
exact ⟨_, nls, _, b.2, e4, y.2, (i64.wrap (p + 1)), b5, fy z, f, c⟩
}
}
}
{
intro Z d
refine ak (cvb Z) (wp_exit (aV (aV ?_)))
replace d := bo d b5
refine de (tn (wp_seq (wrl (mb z (ab (tn (wp_ret ?_)))))))
obtain rfl := sj d
exact aZ [.bool true] results10 (rc z ai) ⟨_, z, k, c.bU⟩
}
}
}
}
end Go.Proofs.YtgnkkopjkgdieaaGreat
