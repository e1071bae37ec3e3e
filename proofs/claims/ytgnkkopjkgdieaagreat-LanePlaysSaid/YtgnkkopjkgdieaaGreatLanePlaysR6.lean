/- A part of the proof. -/
import Derived.Test.YtgnkkopjkgdieaaGreatLanePlaysR5
set_option linter.unusedVariables false
set_option linter.unusedSimpArgs false
set_option maxRecDepth 100000
set_option maxHeartbeats 4000000
namespace Go.Proofs.YtgnkkopjkgdieaaGreat
open Go Go.V
open _root_.Go.Proofs.Tryz IntKind
variable {w0 w : World} {I : HL} {R : SP}
attribute [local irreducible] wpList Code.wp wpQuiet Calls bodyPost Oper.wp wpS Nx gI YieldsIn
theorem vO {a0 : (List ap)} {f : Value} {a1 : ap} {g h i j : Value} (l : Ro bt I f a0) (m : Ro bY I g a1.Gets) (p : Ro gB I h a1.Scans) (q : Ro bY I i a1.Puts) (s : Ro (cp .u8) I j a1.Data) (b : St w0 w I [] R) {r : ((List ap) × Bool)} (c : oq a0 a1 = some r) :
  Calls prog 150 #[f, .agg #[U6 a1.ID.Session, U6 a1.ID.Seq, U6 a1.Epoch, g, h, i, j]] w fun e w' => ∃ (I' : HL) (H : Value), e = .returned (.tuple #[H, .bool r.2]) ∧ I.le I' ∧ Ro bt I' H r.1 ∧ St w0 w' I' [] R := by {
unfold oq at c
refine c0 func150 z ntmps150 ?_
have x := HL.le.refl I
refine wp_seq (wrl ?_)
obtain ⟨y, d4, V, W, b⟩ := b.box [U6 a1.ID.Session, U6 a1.ID.Seq, U6 a1.Epoch, g, h, i, j] 46
refine wa V W (mv ((.slice none 0 0)) z (mb z (ab (tn ?_))))
obtain ⟨X, c, J⟩ := ec c
refine cU (fun a w =>(mS a0 a1) () = some r ∧ fz 37 [0, 3] [f, Pt y 0] a ∧ St w0 w I [cells y [U6 a1.ID.Session, U6 a1.ID.Seq, U6 a1.Epoch, g, h, i, j]] R) ?_ ?_
{
refine wp_seq (wrl (mi z (ab (tn (wp_block ?_)))))
obtain ⟨Y, c⟩ := aX c
refine bm (fun n a w => ∃ (t : Int), cT (lB a0 a1) n t = some X ∧ fz 37 [0, 3, 6] [f, Pt y 0, I6 t] a ∧ St w0 w I [cells y [U6 a1.ID.Session, U6 a1.ID.Seq, U6 a1.Epoch, g, h, i, j]] R) Y ⟨0, c, fy z, b⟩ ?_
rintro d5 _ d6 ⟨t, c, ⟨d7, rfl⟩, b⟩
obtain ⟨d8, d9, rfl, c, A⟩ := ba c
dsimp only [lB] at c
refine wp_seq (wp_seq (wrl (mi z (mv (f) z (mz (bZ z underlying125 (ah l)) (mb z (ab (tn (bs c ?_ ?_)))))))))
{
intro B c
refine ar (cvb B) (wp_skip (tn (wp_seq (wp_block (wp_seq (rg b 16 [0, 0, 3, 7, 15, 0, 32, 127, 255, 511, 511, 2047, 4095, 511, 16383, 32767] [] mixed (sz (f) 0 z z (si 1 z z ?_))))))))
obtain ⟨k, Z, c⟩ := bn c
obtain ⟨K, L, b0⟩ := aP Z
refine sh _ 2 z (fun w b => aC z z underlying125 sizeOf46 (ah l) K L) (sh _ 3 z (fun w b => aW z underlying46 z sizeOf28 z) ?_)
obtain ⟨e0, b1, M⟩ := Ro.jZ l b0
obtain ⟨N, O, P, Q, rfl, b2, b3, b4, b5, -⟩ := b1
refine sh _ 4 z (fun w b => ay (cs := [U6 k.ID.Session, U6 k.ID.Seq]) z isAgg28 sizeOf28 (dS (o := 0) (M lr b) z)) (sf 5 z z underlying46 z sizeOf28 (sh _ 6 z (fun w b => ay (cs := [U6 a1.ID.Session, U6 a1.ID.Seq]) z isAgg28 sizeOf28 (b.eF 0 z)) (sh (.bool _) 7 z (fun w b => rM z z (by kernel_rfl) underlying28 (by kernel_rfl) (by kernel_rfl) (by kernel_rfl) underlying26 underlying26 (fun _ _ _ => by kernel_rfl) (fun _ _ _ => by kernel_rfl)) (sb 8 z z (bs c ?_ ?_)))))
{
intro d c
refine sgz f 9 z d z (sgz (I6 _) 10 z d z (sg _ 11 z d (fun w b => aC z z underlying125 sizeOf46 (ah l) K L) (sg _ 12 z d (fun w b => ay (cs := [U6 k.ID.Session, U6 k.ID.Seq, U6 k.Epoch, N, O, P, Q]) z isAgg46 sizeOf46 (dS (o := 0) (M lr b) z)) (sg _ 13 z d (fun w b => ay (cs := [U6 a1.ID.Session, U6 a1.ID.Seq, U6 a1.Epoch, g, h, i, j]) z isAgg46 sizeOf46 (b.eF 0 z)) (hJ 14 (by kernel_rfl) (nxe [15] (by kernel_rfl) z ((aw z z z (cvb d)).trans z) ?_))))))
clear b
intro w b
obtain ⟨e2, b6, c⟩ := bn c
refine wec call202 [.agg #[U6 k.ID.Session, U6 k.ID.Seq, U6 k.Epoch, N, O, P, Q], .agg #[U6 a1.ID.Session, U6 a1.ID.Seq, U6 a1.Epoch, g, h, i, j]] z z ((vp (b2.mono cD) (b3.mono cD) (b4.mono cD) (b5.mono cD) (m.mono cD) (p.mono cD) (q.mono cD) (s.mono cD) b.to0 b6).mono ?_)
rintro _ e3 ⟨rfl, b⟩
refine ⟨_, z, ?_⟩
replace b := b.of0
refine w0n b (sh (.bool _) 15 z (fun w b => aS d z z) (bp ?_))
intro w b
refine tn (bs c ?_ ?_)
{
intro C c
refine ar (cvb C) (wp_seq (wrl (mv (f) z (mv (f) z (mb z (ab (tn (wp_ret (dm (aN (aN ?_)))))))))))
replace c := bo c A
refine dm (aN ?_)
replace c := bo c J
obtain rfl := sj c
exact aZ [f, .bool false] results150 (rc z (rc z ai)) ⟨_, f, z, x, l, b.bU⟩
}
{
intro C c
refine ak (cvb C) (wp_skip (bF (tn (wrl (mi z (mi z (mi z (ab (tn ?_)))))))))
replace b := b.bu
obtain rfl := sj c
exact ⟨_, nls, (i64.wrap (t + 1)), A, fy z, b⟩
}
}
{
intro d c
refine so 9 z d (so 10 z d (so 11 z d (so 12 z d (so 13 z d (so 14 z d (sh (.bool _) 15 z (fun w b => aJ d z z) (bp ?_)))))))
intro w b
refine tn (ak z (wp_skip (bF (tn (wrl (mi z (mi z (mi z (ab (tn ?_))))))))))
replace b := b.bu
obtain rfl := sj c
exact ⟨_, nls, (i64.wrap (t + 1)), A, fy z, b⟩
}
}
{
intro B c
refine ak (cvb B) (wp_exit (aV (aV ?_)))
replace c := bo c A
refine de (tn ?_)
replace b := b.bu
obtain rfl := sj c
exact ⟨J, fy z, b⟩
}
}
{
rintro _ e4 ⟨c, ⟨e5, rfl⟩, b⟩
dsimp only [mS] at c
refine wp_seq ?_
obtain ⟨e6, c, S⟩ := bn c
refine qT (fun a w => ∃ (D : (List ap)) (u : Value), (ox) D = some r ∧ fz 37 [4, 5] [u, .bool true] a ∧ St w0 w I [bg bt u D] R) ?_ ?_
{
refine rg b 9 [0, 0, 2, 7, 0, 16, 63, 127, 255] [] mixed (sz (f) 0 z z (sf 1 z z underlying46 z sizeOf28 (sh _ 2 z (fun w b => ay (cs := [U6 a1.ID.Session, U6 a1.ID.Seq]) z isAgg28 sizeOf28 (b.eF 0 z)) (sh _ 4 z (fun w b => ay (cs := [U6 a1.ID.Session, U6 a1.ID.Seq, U6 a1.Epoch, g, h, i, j]) z isAgg46 sizeOf46 (b.eF 0 z)) ?_))))
obtain ⟨T, U, c⟩ := bn c
refine pK 3 5 (by kernel_rfl) ?_ ?_
{
refine nx z z fun w b => wec call71 [f, .agg #[U6 a1.ID.Session, U6 a1.ID.Seq]] z z ((py l b.to0 U).mono ?_)
rintro _ e7 ⟨e8, rfl, b⟩
refine ⟨_, z, ?_⟩
replace b := b.of1
refine wn [4] b (pkr z z (fun w b => ay (cs := [U6 a1.ID.Session, U6 a1.ID.Seq, U6 a1.Epoch, g, h, i, j]) z isAgg46 sizeOf46 (b.eK 0 z)) bD) (e1 5 z z fun w b => ?_)
obtain ⟨b7, b8, b9, c1, b⟩ := b.ey (E := bt) (xs := [a1]) [[U6 a1.ID.Session, U6 a1.ID.Seq, U6 a1.Epoch, g, h, i, j]] 46 1 z (bE.cons ⟨_, _, _, _, z, m, p, q, s, oS (ah m), oS (ah p), oS (ah q), oS (ah s)⟩ bE.nil)
refine bW (v := (.slice (some ⟨b7, 0, none⟩) 1 1)) (w' := b8) z (dn (by kernel_rfl) b9 c1) (w0n b (e1 6 z z fun w b => ?_))
obtain ⟨c2, c⟩ := cz c
replace b := b.ag
obtain ⟨F, c3, c4, b⟩ := bI qw underlying125 b b.ju (cK c2 z) 125
refine bW (v := F) (w' := c3) z (bX z z c4) (w0n b (sz (F) 7 z z (sb 8 z z (bp ?_))))
intro w b
refine ⟨z, ?_⟩
replace b := b.bu
obtain rfl := sj c
exact ⟨(T ++ ([a1])), F, S, fy z, b⟩
}
{
refine nx z z fun w b => ?_
obtain ⟨c5, c6, c7, c8, b⟩ := b.ey (E := bt) (xs := [a1]) [[U6 a1.ID.Session, U6 a1.ID.Seq, U6 a1.Epoch, g, h, i, j]] 46 1 z (bE.cons ⟨_, _, _, _, z, m, p, q, s, oS (ah m), oS (ah p), oS (ah q), oS (ah s)⟩ bE.nil)
refine bW (v := (.slice (some ⟨c5, 0, none⟩) 1 1)) (w' := c6) z (dn (by kernel_rfl) c7 c8) (wn [2, 1, 0] b (pkr z z (fun w b => ay (cs := [U6 a1.ID.Session, U6 a1.ID.Seq]) z isAgg28 sizeOf28 (b.eK 0 z)) (pf z z underlying46 z sizeOf28 (pz bD))) (e1 3 z z fun w b => wec call71 [f, .agg #[U6 a1.ID.Session, U6 a1.ID.Seq]] z z ((py l b.to0 U).mono ?_)))
rintro _ e9 ⟨f0, rfl, b⟩
refine ⟨_, z, ?_⟩
replace b := b.of1
refine w0n b (e1 6 z z fun w b => ?_)
obtain ⟨c9, c⟩ := cz c
obtain ⟨G, d0, d1, b⟩ := bI qw underlying125 b b.ju (cK c9 z) 125
refine bW (v := G) (w' := d0) z (bX z z d1) (w0n b (sz (G) 7 z z (sb 8 z z (bp ?_))))
intro w b
refine ⟨z, ?_⟩
replace b := b.bu
obtain rfl := sj c
exact ⟨(T ++ ([a1])), G, S, fy z, b⟩
}
}
{
rintro _ f1 ⟨D, u, c, ⟨f2, rfl⟩, b⟩
dsimp only [ox] at c
refine tn (wp_ret ?_)
obtain ⟨I646, d2, d3, b⟩ := b.cN
replace x := x.trans d2
obtain rfl := sj c
exact aZ [u, .bool true] results150 (rc z (rc z ai)) ⟨_, u, z, x, d3, b.bU⟩
}
}
}
theorem rQ {a0 : aj} {p0 : Value} {a1 : ap} {j k l m : Value} (S : Ro bY I j a1.Gets) (T : Ro gB I k a1.Scans) (U : Ro bY I l a1.Puts) (V : Ro (cp .u8) I m a1.Data) (b : St w0 w I [aR p0 a0] R) {r : (Int × aj)} (c : iV a0 a1 = some r) :
  Calls prog 69 #[p0, .agg #[U6 a1.ID.Session, U6 a1.ID.Seq, U6 a1.Epoch, j, k, l, m]] w fun e w' => ∃ (I' : HL), e = .returned (.int .i64 r.1) ∧ I.le I' ∧ St w0 w' I' [aR p0 r.2] R := by {
unfold iV at c
refine c0 func69 z ntmps69 ?_
have n := HL.le.refl I
refine wp_seq (wrl ?_)
obtain ⟨p, h9, f2, f3, b⟩ := b.box [U6 a1.ID.Session, U6 a1.ID.Seq, U6 a1.Epoch, j, k, l, m] 46
refine wa f2 f3 (mi z (ab (tn (wp_seq ?_))))
obtain ⟨h, i0, d6, i1, i2, i3, i4, i5, ⟨rfl, A, q, B, C⟩, f4⟩ := bl b.ag
have b := f4
obtain ⟨i6, c, d7⟩ := bn c
refine qT (fun a w => ∃ (I466 : HL) (u : Int) (x : Int) (s : Int) (W : (List Nat)) (X : (List (Nat × Nat))) (Y : (List Nat)) (Z : (List Int)) (y : Bool) (L : Nat) (D : Value) (E : Value) (F : Value) (G : Value), (mA a1 a0) (u, x, s, W, X, Y, Z, y) = some r ∧ fz 65 [0, 3, 5, 6] [Pt h 0, Pt p 0, Pt L 0, .bool y] a ∧ I.le I466 ∧ Ro bY I466 D W ∧ Ro gB I466 E X ∧ Ro bY I466 F Y ∧ Ro (cp .u8) I466 G Z ∧ St w0 w I466 [aR (Pt h 0) a0, cells p [U6 a1.ID.Session, U6 a1.ID.Seq, U6 a1.Epoch, j, k, l, m], cells L [U6 u, U6 x, U6 s, D, E, F, G]] R) ?_ ?_
{
have J := HL.le.refl I
refine rg b 13 [0, 1, 3, 7, 0, 16, 63, 127, 255, 255, 0, 1535, 4095] [] mixed (sp 0 z z (sp 1 z z (sf 2 z z underlying130 z sizeOf125 (sl 3 z z isAgg125 (fun w b => b.bc0 z) (sf 4 z z underlying46 z sizeOf28 (sh _ 5 z (fun w b => ay (cs := [U6 a1.ID.Session, U6 a1.ID.Seq]) z isAgg28 sizeOf28 (b.wy 0 z)) ?_))))))
obtain ⟨d, d8, c⟩ := bn c
refine pK 6 10 (by kernel_rfl) ?_ ?_
{
refine nx z z fun w b => wec call70 [d6, .agg #[U6 a1.ID.Session, U6 a1.ID.Seq]] z z ((kp q b.to0 d8).mono ?_)
rintro _ i7 ⟨I393, b0, b1, b2, b3, rfl, M, d9, e0, e2, e3, b⟩
refine ⟨_, z, ?_⟩
replace b := b.of0
replace A := A.mono (ro_le M)
replace q := q.mono (ro_le M)
replace B := B.mono (ro_le M)
replace C := C.mono (ro_le M)
replace J := J.trans M
refine w0n b (sz (.tuple #[.agg #[U6 d.1.ID.Session, U6 d.1.ID.Seq, U6 d.1.Epoch, b0, b1, b2, b3], .bool d.2]) 7 z z (sz (.agg #[U6 d.1.ID.Session, U6 d.1.ID.Seq, U6 d.1.Epoch, b0, b1, b2, b3]) 8 z z (sb 9 z z (e1 10 z z fun w b => ?_))))
obtain ⟨e4, f5, f6, f7, b⟩ := b.box [Zu, Zu, Zu, Zs, Zs, Zs, Zs] 46
refine bW (v := Pt e4 0) (w' := f5) z (tQ (by kernel_rfl) f6 f7) (wn [9, 8, 7] b (pz (pz (pz bD))) (e1 11 z z fun w b => ?_))
obtain ⟨i8, f8, b⟩ := b.bx [U6 d.1.ID.Session, U6 d.1.ID.Seq, U6 d.1.Epoch, b0, b1, b2, b3] sizeOf46 z (oJ 3 z (oC (oS (ah d9)) (oC (oS (ah e0)) (oC (oS (ah e2)) (oC (oS (ah e3)) oN))))) (by kernel_rfl)
refine dz z (aG f8) (wn [9] b (pz bD) (sb 12 z z (bp ?_)))
intro w b
refine ⟨z, ?_⟩
replace b := (al (Pt h 0) a0 b.bf.bf.bf.bf ⟨z, A, q, B, C⟩).ag.aA.aA.dF
obtain rfl := sj c
exact ⟨_, d.1.ID.Session, d.1.ID.Seq, d.1.Epoch, d.1.Gets, d.1.Scans, d.1.Puts, d.1.Data, d.2, e4, b0, b1, b2, b3, d7, fy z, J, d9, e0, e2, e3, b⟩
}
{
refine nx z z fun w b => ?_
obtain ⟨e5, f9, g0, g1, b⟩ := b.box [Zu, Zu, Zu, Zs, Zs, Zs, Zs] 46
refine bW (v := Pt e5 0) (w' := f9) z (tQ (by kernel_rfl) g0 g1) (wn [5, 4, 3, 2, 1, 0] b (pkr z z (fun w b => ay (cs := [U6 a1.ID.Session, U6 a1.ID.Seq]) z isAgg28 sizeOf28 (b.xu 0 z)) (pf z z underlying46 z sizeOf28 (pkr z z (fun w b => aq z isAgg125 (b.bc1 z)) (pf z z underlying130 z sizeOf125 (pz (pz bD)))))) (e1 6 z z fun w b => wec call70 [d6, .agg #[U6 a1.ID.Session, U6 a1.ID.Seq]] z z ((kp q b.to0 d8).mono ?_)))
rintro _ i9 ⟨I428, b4, b5, b6, b7, rfl, N, e6, e7, e8, e9, b⟩
refine ⟨_, z, ?_⟩
replace b := b.of0
replace A := A.mono (ro_le N)
replace q := q.mono (ro_le N)
replace B := B.mono (ro_le N)
replace C := C.mono (ro_le N)
replace J := J.trans N
refine w0n b (sz (.tuple #[.agg #[U6 d.1.ID.Session, U6 d.1.ID.Seq, U6 d.1.Epoch, b4, b5, b6, b7], .bool d.2]) 7 z z (sz (.agg #[U6 d.1.ID.Session, U6 d.1.ID.Seq, U6 d.1.Epoch, b4, b5, b6, b7]) 8 z z (sb 9 z z (e1 11 z z fun w b => ?_))))
obtain ⟨j0, g2, b⟩ := b.bx [U6 d.1.ID.Session, U6 d.1.ID.Seq, U6 d.1.Epoch, b4, b5, b6, b7] sizeOf46 z (oJ 3 z (oC (oS (ah e6)) (oC (oS (ah e7)) (oC (oS (ah e8)) (oC (oS (ah e9)) oN))))) (by kernel_rfl)
refine dz z (aG g2) (wn [9] b (pz bD) (sb 12 z z (bp ?_)))
intro w b
refine ⟨z, ?_⟩
replace b := (al (Pt h 0) a0 b.bf.bf.bf.bf ⟨z, A, q, B, C⟩).ag.aA.aA.dF
obtain rfl := sj c
exact ⟨_, d.1.ID.Session, d.1.ID.Seq, d.1.Epoch, d.1.Gets, d.1.Scans, d.1.Puts, d.1.Data, d.2, e5, b4, b5, b6, b7, d7, fy z, J, e6, e7, e8, e9, b⟩
}
}
{
rintro _ j1 ⟨I466, u, x, s, W, X, Y, Z, y, L, D, E, F, G, c, ⟨j2, rfl⟩, O, g3, g4, g5, g6, b⟩
dsimp only [mA] at c
replace S := S.mono (ro_le O)
replace T := T.mono (ro_le O)
replace U := U.mono (ro_le O)
replace V := V.mono (ro_le O)
replace n := n.trans O
refine tn ?_
obtain ⟨j3, c, c4⟩ := ec c
refine cU (fun a w =>(mD y a1 a0 s) () = some r ∧ fz 65 [0, 3, 5, 6] [Pt h 0, Pt p 0, Pt L 0, .bool y] a ∧ St w0 w I466 [aR (Pt h 0) a0, cells p [U6 a1.ID.Session, U6 a1.ID.Seq, U6 a1.Epoch, j, k, l, m], cells L [U6 u, U6 x, U6 s, D, E, F, G]] R) ?_ ?_
{
refine wp_seq (wrl (mb z (mb z (bs c ?_ ?_))))
{
intro o c
refine gg o (ay (cs := [U6 u, U6 x, U6 s, D, E, F, G]) z isAgg46 sizeOf46 (b.pR 0 z)) (gg o (ay (cs := [U6 a1.ID.Session, U6 a1.ID.Seq, U6 a1.Epoch, j, k, l, m]) z isAgg46 sizeOf46 (b.eK 0 z)) ?_)
obtain ⟨j4, g7, c⟩ := bn c
refine dj ((aw z z z (cvb o)).trans z) z (jv call89 z (vs := [.agg #[U6 u, U6 x, U6 s, D, E, F, G], .agg #[U6 a1.ID.Session, U6 a1.ID.Seq, U6 a1.Epoch, j, k, l, m]]) z) ((pG (a0 := ({ ID := ({ Session := u, Seq := x } : bO), Epoch := s, Gets := W, Scans := X, Puts := Y, Data := Z } : ap)) (g3.mono cD) (g4.mono cD) (g5.mono cD) (g6.mono cD) (S.mono cD) (T.mono cD) (U.mono cD) (V.mono cD) b.to0 g7).mono ?_)
rintro _ j5 ⟨rfl, b⟩
refine ⟨_, z, ?_⟩
replace b := b.of0
refine mb (aS o z z) (ab (tn (bs c ?_ ?_)))
{
intro c5 c
refine ar (cvb c5) (wp_seq (wrl (mi z (ab (tn (wp_ret (aN ?_)))))))
replace c := bo c c4
obtain rfl := sj c
exact aZ [Zi] results69 (rc z ai) ⟨_, z, n, b.bu⟩
}
{
intro c5 c
refine ak (cvb c5) (wp_skip (tn ?_))
replace b := b.aA.aA.aA.dF
obtain rfl := sj c
exact ⟨c4, fy z, b⟩
}
}
{
intro o c
refine go o (go o (go o (mb (aJ o z z) (ab (tn (ak z (wp_skip (tn ?_))))))))
replace b := b.aA.aA.aA.dF
obtain rfl := sj c
exact ⟨c4, fy z, b⟩
}
}
{
rintro _ j6 ⟨c, ⟨j7, rfl⟩, b⟩
dsimp only [mD] at c
obtain ⟨j8, c, b8⟩ := ec c
refine cU (fun a w =>(mB y a1 a0) () = some r ∧ fz 65 [0, 3, 6] [Pt h 0, Pt p 0, .bool y] a ∧ St w0 w I466 [aR (Pt h 0) a0, cells p [U6 a1.ID.Session, U6 a1.ID.Seq, U6 a1.Epoch, j, k, l, m]] R) ?_ ?_
{
refine wp_seq (wrl (mb z (mb z (bs c ?_ ?_))))
{
intro f c
refine gg f (aT z underlying46 z sizeOf28 z) (gg f (aT z underlying28 z sizeOf26 z) (gg f (aq z isAgg26 (b.bc1 z)) (gb f z (gb f z (bs c ?_ ?_)))))
{
intro i c
refine go i (go i (go i (go i (go i (gb f (aS i z z) (mb (aS f z z) (ab (tn (ar z (wp_seq (wrl (mi z (ab (tn (wp_ret (aN ?_))))))))))))))))
replace c := bo c b8
obtain rfl := sj c
exact aZ [I6 8] results69 (rc z ai) ⟨_, z, n, b.bu⟩
}
{
intro i c
refine gg i (aT z underlying46 z sizeOf26 z) (gg i (aq z isAgg26 (b.bc1 z)) (gg i (aT z underlying46 z sizeOf26 z) (gg i (aq z isAgg26 (b.bc2 z)) (gb i z (gb f (aJ i z z) (mb (aS f z z) (ab (tn (bs c ?_ ?_)))))))))
{
intro c6 c
refine ar (cvb c6) (wp_seq (wrl (mi z (ab (tn (wp_ret (aN ?_)))))))
replace c := bo c b8
obtain rfl := sj c
exact aZ [I6 8] results69 (rc z ai) ⟨_, z, n, b.bu⟩
}
{
intro c6 c
refine ak (cvb c6) (wp_skip (tn ?_))
replace b := b.ag.ag.ck
obtain rfl := sj c
exact ⟨b8, fy z, b⟩
}
}
}
{
intro f c
refine go f (go f (go f (go f (go f (gu (gu (gu (gu (gu (go f (mb (aJ f z z) (ab (tn (ak z (wp_skip (tn ?_))))))))))))))))
replace b := b.ag.ag.ck
obtain rfl := sj c
exact ⟨b8, fy z, b⟩
}
}
{
rintro _ j9 ⟨c, ⟨k0, rfl⟩, b⟩
dsimp only [mB] at c
obtain ⟨k1, c, c7⟩ := ec c
refine cU (fun a w =>(dY a0 a1) () = some r ∧ fz 65 [0, 3] [Pt h 0, Pt p 0] a ∧ St w0 w I466 [aR (Pt h 0) a0, cells p [U6 a1.ID.Session, U6 a1.ID.Seq, U6 a1.Epoch, j, k, l, m]] R) ?_ ?_
{
refine wp_seq ?_
obtain ⟨k2, k3, k4, k5, k6, k7, k8, k9, ⟨c8, c9, d0, d1, d2⟩, g8⟩ := bl b
replace c8 := dI c8
subst c8
have b := g8
refine dO b mixed (by kernel_rfl) (qz (.bool _) z (qz (.bool _) z (qz (.bool _) z (bs c ?_ ?_))))
{
intro g c
refine qg _ g (fun w b => aT z underlying46 z sizeOf26 z) (qg _ g (fun w b => aq z isAgg26 (b.bc4 z)) (qgz (Pt _ _) g z (qgz (Pt _ _) g z (qg _ g (fun w b => aT z underlying130 z sizeOf26 z) (qg _ g (fun w b => aq z isAgg26 (b.bc0 z)) (qgz (.bool _) g z (qh (.bool _) (fun w b => aS g z z) (fO ?_))))))))
intro w b
refine tn (bs c ?_ ?_)
{
intro d3 c
refine ar (cvb d3) (wp_seq (wrl (mi z (ab (tn (wp_ret (aN ?_)))))))
replace c := bo c c7
replace b := al (Pt h 0) a0 b.au.au.au.au ⟨z, c9, d0, d1, d2⟩
obtain rfl := sj c
exact aZ [I6 9] results69 (rc z ai) ⟨_, z, n, b.bu⟩
}
{
intro d3 c
refine ak (cvb d3) (wp_skip (tn ?_))
replace b := (al (Pt h 0) a0 b.au.au.au.au ⟨z, c9, d0, d1, d2⟩).ag.ag.ck
obtain rfl := sj c
exact ⟨c7, fy z, b⟩
}
}
{
intro g c
refine qo g (qo g (qo g (qo g (qo g (qo g (qo g (qh (.bool _) (fun w b => aJ g z z) (fO ?_))))))))
intro w b
refine tn (ak z (wp_skip (tn ?_)))
replace b := (al (Pt h 0) a0 b.au.au.au.au ⟨z, c9, d0, d1, d2⟩).ag.ag.ck
obtain rfl := sj c
exact ⟨c7, fy z, b⟩
}
}
{
rintro _ l0 ⟨c, ⟨l1, rfl⟩, b⟩
dsimp only [dY] at c
refine wp_seq ?_
obtain ⟨l2, g9, h0, h1, h2, h3, h4, h5, ⟨d4, b9, c1, c2, c3⟩, h6⟩ := bl b
replace d4 := dI d4
subst d4
have b := h6
refine rg b 11 [0, 1, 3, 7, 0, 31, 63, 127, 127, 255, 1023] [] mixed (sp 0 z z (sp 1 z z (sf 2 z z underlying130 z sizeOf125 (sl 3 z z isAgg125 (fun w b => b.bc0 z) (sh _ 4 z (fun w b => ay (cs := [U6 a1.ID.Session, U6 a1.ID.Seq, U6 a1.Epoch, j, k, l, m]) z isAgg46 sizeOf46 (b.wy 0 z)) (e1 5 z z fun w b => ?_))))))
obtain ⟨f0, h7, c⟩ := bn c
refine wec call150 [h0, .agg #[U6 a1.ID.Session, U6 a1.ID.Seq, U6 a1.Epoch, j, k, l, m]] z z ((vO c1 S T U V b.to0 h7).mono ?_)
rintro _ l3 ⟨I543, K, rfl, Q, f1, b⟩
refine ⟨_, z, ?_⟩
replace b := b.of0
replace b9 := b9.mono (ro_le Q)
replace c1 := c1.mono (ro_le Q)
replace c2 := c2.mono (ro_le Q)
replace c3 := c3.mono (ro_le Q)
replace n := n.trans Q
refine w0n b (sz (.tuple #[K, .bool f0.2]) 6 z z (sz (K) 7 z z (sb 8 z z (sz (K) 9 z z (sb 10 z z (bp ?_))))))
intro w b
refine tn (wp_seq (wp_seq (wrl (mb z (mb z (ab (tn (bs c ?_ ?_))))))))
{
intro d5 c
refine ar (cvb d5) (wp_seq (wrl (mi z (ab (tn (wp_ret (aN ?_)))))))
replace b := al (Pt h 0) a0 b.au.au.au.au ⟨z, b9, c1, c2, c3⟩
obtain rfl := sj c
exact aZ [I6 8] results69 (rc z ai) ⟨_, z, n, b.bu⟩
}
{
intro d5 c
refine ak (cvb d5) (wp_skip (tn (wp_seq (wrl (mp z (mv (K) z (mp z (mf z underlying130 z sizeOf125 ?_))))))))
obtain ⟨l4, h8, b⟩ := b.cW (P := prog) (t := 125) (cs' := [I6 a0.Wide, U6 a0.Epoch, g9, K, h1, h2, h3, h4, h5]) 3 K (oS (ah f1)) sizeOf125 z z
refine aE z z (aG h8) (ab (tn (wp_seq (wrl (mi z (ab (tn (wp_ret ?_))))))))
replace b := al (Pt h 0) (({ a0 with H := f0.1 } : aj)) b.au.au.au.au ⟨z, b9, f1, c2, c3⟩
obtain rfl := sj c
exact aZ [Zi] results69 (rc z ai) ⟨_, z, n, b.bu⟩
}
}
}
}
}
}
theorem vL {a0 : (List aF)} {k : Value} {a1 : Nat} {a2 : Int} (l : Rd cX R I k a0) (b : St w0 w I [] R) {r : (Int)} (c : pO a0 a1 a2 = some r) :
  Calls prog 149 #[k, F6 a1, U6 a2] w fun e w' => e = .returned (.int .i64 r) ∧ St w0 w' I [] R := by {
unfold pO at c
refine c0 func149 z ntmps149 (wp_seq (wrl (mi z (ab (tn (wp_seq (wrl (mi z (ab (tn (wp_seq (wp_seq (wrl (mi z (ab (tn (wp_block ?_)))))))))))))))))
obtain ⟨B, c⟩ := aX c
refine bm (fun n a w => ∃ (m : Int) (j : Int), cT (li a0 a1 a2) n (m, j) = some r ∧ fz 76 [0, 1, 2, 7, 8] [k, F6 a1, U6 a2, I6 m, I6 j] a ∧ St w0 w I [] R) B ⟨((-1):Int), 0, c, fy z, b⟩ ?_
rintro M _ N ⟨m, j, c, ⟨O, rfl⟩, b⟩
obtain ⟨P, Q, rfl, c, o⟩ := ba c
dsimp only [li] at c
refine wp_seq (wp_seq (wrl (mi z (mv (k) z (mz (bZ z underlying124 (ax l)) (mb z (ab (tn (bs c ?_ ?_)))))))))
{
intro t c
refine ar (cvb t) (wp_skip (tn (wp_seq (wp_block (wp_seq (rg b 59 [0, 0, 3, 7, 15, 0, 63, 127, 255, 255, 1023, 2047, 4095, 255, 16383, 32767, 65535, 131071, 262143, 524287, 1048575, 1048575, 4194303, 8388607, 16777215, 1048575, 1048575, 101711871, 235929599, 504365055, 1073741823, 2147483647, 4294967295, 8589934591, 8589934591, 34359738367, 68719476735, 137438953471, 8589934591, 8589934591, 833223655423, 1932735283199, 4131758538751, 8796093022207, 17592186044415, 35184372088831, 35184372088831, 140737488355327, 281474976710655, 562949953421311, 35184372088831, 35184372088831, 3412884092616703, 7916483719987199, 16923682974728191, 36028797018963967, 72057594037927935, 144115188075855871, 288230376151711743] [] mixed (sz (k) 0 z z (si 1 z z ?_))))))))
obtain ⟨C, D, c⟩ := bn c
obtain ⟨p, q, A⟩ := aP D
refine sh _ 2 z (fun w b => aC z z underlying124 sizeOf139 (ax l) p q) (sh _ 3 z (fun w b => aW z underlying139 z sizeOf37 z) ?_)
obtain ⟨S, E, F⟩ := Rd.jZ l A
obtain ⟨T, rfl, U, -⟩ := E
refine sl 4 z z isAgg37 (fun w b => (F lr b) 0 _ z) (sz (F6 _) 5 z z (e1 6 z z fun w b => ?_))
obtain ⟨V, G, c⟩ := bn c
refine wec call20 [F6 C.At, F6 a1] z z ((ez b.to0 G).mono ?_)
rintro _ W ⟨rfl, b⟩
refine ⟨_, z, ?_⟩
replace b := b.of0
refine w0n b (sb 7 z z (bs c ?_ ?_))
{
intro i c
refine sgz k 8 z i z (sgz (I6 _) 9 z i z (sg _ 10 z i (fun w b => aC z z underlying124 sizeOf139 (ax l) p q) (sg _ 11 z i (fun w b => aW z underlying139 z sizeOf26 z) ?_)))
obtain ⟨X, H, s⟩ := Rd.jZ l A
obtain ⟨Y, rfl, Z, -⟩ := H
refine sg _ 12 z i (fun w b => aq z isAgg26 ((s lr b) 1 _ z)) (sgz (U6 _) 13 z i z (sgz (.bool _) 14 z i z (sh (.bool _) 15 z (fun w b => aS i z z) (sb 16 z z (bs c ?_ ?_)))))
{
intro h c
refine sgz (I6 _) 17 z h z (sgz (.bool _) 18 z h z (sgz (.bool _) 19 z h z (bs c ?_ ?_)))
{
intro f c
refine so 20 z f (so 21 z f (so 22 z f (so 23 z f (so 24 z f (so 25 z f (so 26 z f (so 27 z f (so 28 z f (so 29 z f (so 30 z f (sg (.bool _) 31 z h (fun w b => aS f z z) (sgz (.bool _) 32 z h z (sq 33 z (sq 34 z (sq 35 z (sq 36 z (sq 37 z (sq 38 z (sq 39 z (sq 40 z (sq 41 z (sq 42 z (sq 43 z (sq 44 z (su 45 z (su 46 z (su 47 z (su 48 z (su 49 z (su 50 z (su 51 z (su 52 z (su 53 z (su 54 z (su 55 z (sq 56 z (sg (.bool _) 57 z h (fun w b => aS z z z) (sh (.bool _) 58 z (fun w b => aS h z z) (bp ?_)))))))))))))))))))))))))))))))))))))))
intro w b
refine tn (ar z (wrl (mi z (mi z (ab (bF (tn (wrl (mi z (mi z (mi z (ab (tn ?_)))))))))))))
replace b := b.bU
obtain rfl := sj c
exact ⟨_, nls, j, (i64.wrap (j + 1)), o, fy z, b⟩
}
{
intro f c
refine sgz k 20 z f z (sgz (I6 _) 21 z f z ?_)
obtain ⟨b0, J, c⟩ := bn c
obtain ⟨u, v, K⟩ := aP J
refine sg _ 22 z f (fun w b => aC z z underlying124 sizeOf139 (ax l) u v) (sg _ 23 z f (fun w b => aW z underlying139 z sizeOf26 z) ?_)
obtain ⟨b1, L, x⟩ := Rd.jZ l K
obtain ⟨b2, rfl, b3, -⟩ := L
refine sg _ 24 z f (fun w b => aq z isAgg26 ((x lr b) 1 _ z)) (sgz k 25 z f z (sgz (I6 _) 26 z f z (sg _ 27 z f (fun w b => aC z z underlying124 sizeOf139 (ax l) p q) (sg _ 28 z f (fun w b => aW z underlying139 z sizeOf26 z) (sg _ 29 z f (fun w b => aq z isAgg26 ((s lr b) 1 _ z)) (sgz (.bool _) 30 z f z (sg (.bool _) 31 z h (fun w b => aJ f z z) (sgz (.bool _) 32 z h z (bs c ?_ ?_)))))))))
{
intro d c
refine so 33 z d (so 34 z d (so 35 z d (so 36 z d (so 37 z d (so 38 z d (so 39 z d (so 40 z d (so 41 z d (so 42 z d (so 43 z d (so 44 z d (su 45 z (su 46 z (su 47 z (su 48 z (su 49 z (su 50 z (su 51 z (su 52 z (su 53 z (su 54 z (su 55 z (so 56 z d (sg (.bool _) 57 z h (fun w b => aS d z z) (sh (.bool _) 58 z (fun w b => aS h z z) (bp ?_))))))))))))))))))))))))))
intro w b
refine tn (ar z (wrl (mi z (mi z (ab (bF (tn (wrl (mi z (mi z (mi z (ab (tn ?_)))))))))))))
replace b := b.bU
obtain rfl := sj c
exact ⟨_, nls, j, (i64.wrap (j + 1)), o, fy z, b⟩
}
{
intro d c
refine sgz k 33 z d z (sgz (I6 _) 34 z d z (sg _ 35 z d (fun w b => aC z z underlying124 sizeOf139 (ax l) u v) (sg _ 36 z d (fun w b => aW z underlying139 z sizeOf26 z) (sg _ 37 z d (fun w b => aq z isAgg26 ((x lr b) 1 _ z)) (sgz k 38 z d z (sgz (I6 _) 39 z d z (sg _ 40 z d (fun w b => aC z z underlying124 sizeOf139 (ax l) p q) (sg _ 41 z d (fun w b => aW z underlying139 z sizeOf26 z) (sg _ 42 z d (fun w b => aq z isAgg26 ((s lr b) 1 _ z)) (sgz (.bool _) 43 z d z (sgz (.bool _) 44 z d z (bs c ?_ ?_))))))))))))
{
intro g c
refine sgz k 45 z g z (sgz (I6 _) 46 z g z (sg _ 47 z g (fun w b => aC z z underlying124 sizeOf139 (ax l) u v) (sg _ 48 z g (fun w b => aW z underlying139 z sizeOf26 z) (sg _ 49 z g (fun w b => aq z isAgg26 ((x lr b) 2 _ z)) (sgz k 50 z g z (sgz (I6 _) 51 z g z (sg _ 52 z g (fun w b => aC z z underlying124 sizeOf139 (ax l) p q) (sg _ 53 z g (fun w b => aW z underlying139 z sizeOf26 z) (sg _ 54 z g (fun w b => aq z isAgg26 ((s lr b) 2 _ z)) (sgz (.bool _) 55 z g z (sg (.bool _) 56 z d (fun w b => aS g z z) (sg (.bool _) 57 z h (fun w b => aJ d z z) (sh (.bool _) 58 z (fun w b => aS h z z) (bp ?_))))))))))))))
intro w b
refine tn (bs c ?_ ?_)
{
intro y c
refine ar (cvb y) (wrl (mi z (mi z (ab (bF (tn (wrl (mi z (mi z (mi z (ab (tn ?_))))))))))))
replace b := b.bU
obtain rfl := sj c
exact ⟨_, nls, j, (i64.wrap (j + 1)), o, fy z, b⟩
}
{
intro y c
refine ak (cvb y) (wp_skip (bF (tn (wrl (mi z (mi z (mi z (ab (tn ?_)))))))))
replace b := b.bU
obtain rfl := sj c
exact ⟨_, nls, m, (i64.wrap (j + 1)), o, fy z, b⟩
}
}
{
intro g c
refine so 45 z g (so 46 z g (so 47 z g (so 48 z g (so 49 z g (so 50 z g (so 51 z g (so 52 z g (so 53 z g (so 54 z g (so 55 z g (sg (.bool _) 56 z d (fun w b => aJ g z z) (sg (.bool _) 57 z h (fun w b => aJ d z z) (sh (.bool _) 58 z (fun w b => aS h z z) (bp ?_))))))))))))))
intro w b
refine tn (ak z (wp_skip (bF (tn (wrl (mi z (mi z (mi z (ab (tn ?_))))))))))
replace b := b.bU
obtain rfl := sj c
exact ⟨_, nls, m, (i64.wrap (j + 1)), o, fy z, b⟩
}
}
}
}
{
intro h c
refine so 17 z h (so 18 z h (so 19 z h (su 20 z (su 21 z (su 22 z (su 23 z (su 24 z (su 25 z (su 26 z (su 27 z (su 28 z (su 29 z (su 30 z (so 31 z h (so 32 z h (su 33 z (su 34 z (su 35 z (su 36 z (su 37 z (su 38 z (su 39 z (su 40 z (su 41 z (su 42 z (su 43 z (su 44 z (su 45 z (su 46 z (su 47 z (su 48 z (su 49 z (su 50 z (su 51 z (su 52 z (su 53 z (su 54 z (su 55 z (su 56 z (so 57 z h (sh (.bool _) 58 z (fun w b => aJ h z z) (bp ?_))))))))))))))))))))))))))))))))))))))))))
intro w b
refine tn (ak z (wp_skip (bF (tn (wrl (mi z (mi z (mi z (ab (tn ?_))))))))))
replace b := b.bU
obtain rfl := sj c
exact ⟨_, nls, m, (i64.wrap (j + 1)), o, fy z, b⟩
}
}
{
intro i c
refine so 8 z i (so 9 z i (so 10 z i (so 11 z i (so 12 z i (so 13 z i (so 14 z i (sh (.bool _) 15 z (fun w b => aJ i z z) (sb 16 z z (sq 17 z (sq 18 z (sq 19 z (su 20 z (su 21 z (su 22 z (su 23 z (su 24 z (su 25 z (su 26 z (su 27 z (su 28 z (su 29 z (su 30 z (sq 31 z (sq 32 z (su 33 z (su 34 z (su 35 z (su 36 z (su 37 z (su 38 z (su 39 z (su 40 z (su 41 z (su 42 z (su 43 z (su 44 z (su 45 z (su 46 z (su 47 z (su 48 z (su 49 z (su 50 z (su 51 z (su 52 z (su 53 z (su 54 z (su 55 z (su 56 z (sq 57 z (sh (.bool _) 58 z (fun w b => aJ z z z) (bp ?_)))))))))))))))))))))))))))))))))))))))))))))))))))
intro w b
refine tn (ak z (wp_skip (bF (tn (wrl (mi z (mi z (mi z (ab (tn ?_))))))))))
replace b := b.bU
obtain rfl := sj c
exact ⟨_, nls, m, (i64.wrap (j + 1)), o, fy z, b⟩
}
}
{
intro t c
refine ak (cvb t) (wp_exit (aV (aV ?_)))
replace c := bo c o
refine de (tn (wp_seq (wrl (mi z (mi z (ab (tn (wp_ret ?_))))))))
obtain rfl := sj c
exact aZ [I6 m] results149 (rc z ai) ⟨z, b.bU⟩
}
}
theorem iO {a0 : (List aF)} {d : Value} {a1 : Nat} {a2 : Int} (g : Ro cX I d a0) (a : St w0 w I [] R) {r : (ct)} (b : iS a0 a1 a2 = some r) :
  Calls prog 80 #[d, F6 a1, U6 a2] w fun e w' => ∃ (I' : HL) (k : Value), e = .returned (.agg #[.bool r.Has, k]) ∧ I.le I' ∧ Ro (cp .u8) I' k r.Val ∧ St w0 w' I' [] R := by {
unfold iS at b
refine c0 func80 z ntmps80 ?_
have h := HL.le.refl I
refine wp_seq (wrl ?_)
obtain ⟨C, D, o, p, a⟩ := a.box [.bool false, Zs] 61
refine wa o p (ab (tn (wp_seq (wrl (mv (d) z (mv (F6 _) z (mi z ?_)))))))
obtain ⟨E, q, b⟩ := bn b
refine wc call149 [d, F6 a1, U6 a2] z z z ((vL (g.mono cD) a.to0 q).mono ?_)
rintro _ F ⟨rfl, a⟩
refine ⟨_, z, ?_⟩
replace a := a.of0
refine mi z (ab (tn (wp_seq (wp_seq (wrl (mi z (mb z (mb z (bs b ?_ ?_)))))))))
{
intro c b
refine go c (go c (go c (go c (go c (mb (aS c z z) (ab (tn (ar z (wp_seq (wrl (mk (.agg #[.bool false, Zs]) ?_)))))))))))
obtain ⟨G, s, a⟩ := a.bx [.bool false, Zs] sizeOf61 z (oC z (oC z oN)) (by kernel_rfl)
refine aE z z (aG s) (ab (tn (wp_ret (aN ?_))))
have t : Ro (cp .u8) I (.slice none 0 0) [] := cy
obtain rfl := sj b
exact aZ [.agg #[.bool false, Zs]] results80 (bq (bJ (cs := [.bool false, Zs]) z isAgg61 sizeOf61 (a.eF 0 z)) ai) ⟨_, Zs, z, h, t, a.bU⟩
}
{
intro c b
refine gv (d) c z (gi c z ?_)
obtain ⟨H, u, b⟩ := bn b
obtain ⟨l, m, v⟩ := aP u
refine gg c (aC z z underlying124 sizeOf139 (ah g) l m) (gg c (aW z underlying139 z sizeOf4 z) ?_)
obtain ⟨J, x, n⟩ := Ro.jZ g v
obtain ⟨f, rfl, i, -⟩ := x
refine gg c (aq z isAgg4 ((n lr a) 3 _ z)) (mb (aJ c z z) (ab (tn (bs b ?_ ?_))))
{
intro j b
refine ar (cvb j) (wp_seq (wrl (mk (.agg #[.bool false, Zs]) ?_)))
obtain ⟨K, y, a⟩ := a.bx [.bool false, Zs] sizeOf61 z (oC z (oC z oN)) (by kernel_rfl)
refine aE z z (aG y) (ab (tn (wp_ret (aN ?_))))
have A : Ro (cp .u8) I (.slice none 0 0) [] := cy
obtain rfl := sj b
exact aZ [.agg #[.bool false, Zs]] results80 (bq (bJ (cs := [.bool false, Zs]) z isAgg61 sizeOf61 (a.eF 0 z)) ai) ⟨_, Zs, z, h, A, a.bU⟩
}
{
intro j b
refine ak (cvb j) (wp_skip (tn (wp_seq (wrl (mv (d) z (mi z (mz (aC z z underlying124 sizeOf139 (ah g) l m) (mz (aW z underlying139 z sizeOf22 z) (ml z isAgg22 ((n lr a) 4 _ z) (wv (.agg #[.bool true, f]) z z (by obtain ⟨_, _, hv_, _⟩ := (ah i); rw [hv_]; kernel_rfl) ?_))))))))))
obtain ⟨L, B, a⟩ := a.bx [.bool true, f] sizeOf61 z (oC z (oC (oS (ah i)) oN)) (by kernel_rfl)
refine aE z z (aG B) (ab (tn (wp_ret ?_)))
obtain rfl := sj b
exact aZ [.agg #[.bool true, f]] results80 (bq (bJ (cs := [.bool true, f]) z isAgg61 sizeOf61 (a.eF 0 z)) ai) ⟨_, f, z, h, i, a.bU⟩
}
}
}
theorem wo {a0 : (List aF)} {k : Value} (j : Rd cX R I k a0) (b : St w0 w I [] R) {r : ((List Nat))} (c : qC a0 = some r) :
  Calls prog 152 #[k] w fun e w' => ∃ (I' : HL) (L : Value), e = .returned (L) ∧ I.le I' ∧ St w0 w' I' [bg bY L r] R := by {
unfold qC at c
refine c0 func152 z ntmps152 ?_
have u := HL.le.refl I
refine wp_seq (wrl (mv ((.slice none 0 0)) z (ab (tn (wp_seq (wrl (mv ((.slice none 0 0)) z (ab (tn (wp_seq (wp_seq (wrl (mi z (ab (tn (wp_block ?_))))))))))))))))
replace b := b.bd bY
obtain ⟨b5, c⟩ := aX c
refine bm (fun n a w => ∃ (I1565 : HL) (f : (List Nat)) (l : Int) (d : Value), cT (mm a0) n (f, l) = some r ∧ fz 66 [0, 3, 4] [k, d, I6 l] a ∧ I.le I1565 ∧ St w0 w I1565 [bg bY d f] R) b5 ⟨_, [], 0, Zs, c, fy z, lr, b⟩ ?_
rintro i4 _ i5 ⟨I1565, f, l, d, c, ⟨i6, rfl⟩, m, b⟩
obtain ⟨i7, b6, rfl, c, p⟩ := ba c
dsimp only [mm] at c
replace j := j.mono (ns m)
replace u := u.trans m
refine wp_seq (wp_seq (wrl (mi z (mv (k) z (mz (bZ z underlying124 (ax j)) (mb z (ab (tn (bs c ?_ ?_)))))))))
{
intro x c
refine ar (cvb x) (wp_skip (tn (wp_seq (wp_block (wp_seq (wrl (mi z (ab (tn ?_)))))))))
obtain ⟨b7, c, M⟩ := bn c
refine cU (fun a w => ∃ (i : Int), (kD f a0 l) i = some b6 ∧ fz 66 [0, 3, 4, 5] [k, d, I6 l, I6 i] a ∧ St w0 w I1565 [bg bY d f] R) ?_ ?_
{
refine wp_block ?_
obtain ⟨b8, c⟩ := aX c
refine bm (fun n a w => ∃ (o : Int), cT (kP f a0 l) n o = some b7 ∧ fz 66 [0, 3, 4, 5] [k, d, I6 l, I6 o] a ∧ St w0 w I1565 [bg bY d f] R) b8 ⟨0, c, fy z, b⟩ ?_
rintro i8 _ i9 ⟨o, c, ⟨j0, rfl⟩, b⟩
obtain ⟨j1, j2, rfl, c, y⟩ := ba c
dsimp only [kP] at c
refine wp_seq (wp_seq (rg b 16 [0, 0, 2, 7, 15, 31, 31, 127, 255, 31, 31, 1567, 3615, 7711, 16383, 32767] [] mixed (si 0 z z (sz (d) 1 z z (sh _ 2 z (fun w b => bZ z underlying43 b.sv0) (sb 3 z z (sb 4 z z (bs c ?_ ?_))))))))
{
intro g c
refine sgz d 5 z g z (sgz (I6 _) 6 z g z ?_)
obtain ⟨b9, c1, c⟩ := bn c
obtain ⟨c2, c3, c4⟩ := aP c1
refine sg _ 7 z g (fun w b => aC z z underlying43 sizeOf37 b.sv0 c2 c3) (sg _ 8 z g (fun w b => aq z isAgg37 (b.ol0 c4 (by rintro _ rfl; rfl))) (sgz k 9 z g z (sgz (I6 _) 10 z g z ?_)))
obtain ⟨c5, c6, c⟩ := bn c
obtain ⟨c7, c8, c9⟩ := aP c6
refine sg _ 11 z g (fun w b => aC z z underlying124 sizeOf139 (ax j) c7 c8) (sg _ 12 z g (fun w b => aW z underlying139 z sizeOf37 z) ?_)
obtain ⟨j3, d0, d1⟩ := Rd.jZ j c9
obtain ⟨j4, rfl, j5, -⟩ := d0
refine sg _ 13 z g (fun w b => aq z isAgg37 ((d1 lr b) 0 _ z)) (hJ 14 (by kernel_rfl) (nxe [15] (by kernel_rfl) z ((aw z z z (cvb g)).trans z) ?_))
clear b
intro w b
obtain ⟨j6, d2, c⟩ := bn c
refine wec call59 [F6 b9, F6 c5.At] z z ((kQ b.to0 d2).mono ?_)
rintro _ j7 ⟨rfl, b⟩
refine ⟨_, z, ?_⟩
replace b := b.of0
refine w0n b (sh (.bool _) 15 z (fun w b => aS g z z) (bp ?_))
intro w b
refine tn (bs c ?_ ?_)
{
intro A c
refine ar (cvb A) (wp_skip (tn (wp_block (wrl (mi z (mi z (mi z (ab (bF (tn ?_))))))))))
replace b := b.bu
obtain rfl := sj c
exact ⟨_, nls, (i64.wrap (o + 1)), y, fy z, b⟩
}
{
intro A c
refine ak (cvb A) (wp_exit (aV (aV ?_)))
replace c := bo c y
refine de (tn ?_)
replace b := b.bu
obtain rfl := sj c
exact ⟨o, M, fy z, b⟩
}
}
{
intro g c
refine so 5 z g (so 6 z g (so 7 z g (so 8 z g (so 9 z g (so 10 z g (so 11 z g (so 12 z g (so 13 z g (so 14 z g (sh (.bool _) 15 z (fun w b => aJ g z z) (bp ?_)))))))))))
intro w b
refine tn (ak z (wp_exit (aV (aV ?_))))
replace c := bo c y
refine de (tn ?_)
replace b := b.bu
obtain rfl := sj c
exact ⟨o, M, fy z, b⟩
}
}
{
rintro _ j8 ⟨i, c, ⟨j9, rfl⟩, b⟩
dsimp only [kD] at c
refine wp_seq (wp_seq (rg b 16 [0, 0, 2, 7, 15, 31, 31, 127, 255, 31, 31, 1567, 3615, 7711, 16383, 32767] [] mixed (si 0 z z (sz (d) 1 z z (sh _ 2 z (fun w b => bZ z underlying43 b.sv0) (sb 3 z z (sb 4 z z (bs c ?_ ?_))))))))
{
intro h c
refine sgz d 5 z h z (sgz (I6 _) 6 z h z ?_)
obtain ⟨d3, d4, c⟩ := bn c
obtain ⟨d5, d6, d7⟩ := aP d4
refine sg _ 7 z h (fun w b => aC z z underlying43 sizeOf37 b.sv0 d5 d6) (sg _ 8 z h (fun w b => aq z isAgg37 (b.ol0 d7 (by rintro _ rfl; rfl))) (sgz k 9 z h z (sgz (I6 _) 10 z h z ?_)))
obtain ⟨q, d8, c⟩ := bn c
obtain ⟨N, O, P⟩ := aP d8
refine sg _ 11 z h (fun w b => aC z z underlying124 sizeOf139 (ax j) N O) (sg _ 12 z h (fun w b => aW z underlying139 z sizeOf37 z) ?_)
obtain ⟨k0, d9, e0⟩ := Rd.jZ j P
obtain ⟨k1, rfl, k2, -⟩ := d9
refine sg _ 13 z h (fun w b => aq z isAgg37 ((e0 lr b) 0 _ z)) (hJ 14 (by kernel_rfl) (nxe [15] (by kernel_rfl) z ((aw z z z (cvb h)).trans z) ?_))
clear b
intro w b
obtain ⟨k3, e1, c⟩ := bn c
refine wec call20 [F6 d3, F6 q.At] z z ((ez b.to0 e1).mono ?_)
rintro _ k4 ⟨rfl, b⟩
refine ⟨_, z, ?_⟩
replace b := b.of0
refine w0n b (sh (.bool _) 15 z (fun w b => aS h z z) (bp ?_))
intro w b
refine tn (bs c ?_ ?_)
{
intro B c
refine ar (cvb B) (wp_exit (aV (de (tn (wrl (mi z (mi z (mi z (ab (tn ?_))))))))))
replace b := b.bu
obtain rfl := sj c
exact ⟨_, nls, _, f, (i64.wrap (l + 1)), d, p, fy z, m, b⟩
}
{
intro B c
refine ak (cvb B) (wp_skip (tn (wp_seq (wrl (mv ((.slice none 0 0)) z (ab (tn (wp_seq (wrl (mv ((.slice none 0 0)) z (mv (d) z (mi z ?_))))))))))))
obtain ⟨I1684, Q, s, b⟩ := b.cN
replace j := j.mono (ns Q)
replace m := m.trans Q
obtain ⟨e2, c⟩ := cz c
obtain ⟨S, T, U⟩ := sw e2
have e3 : Ro bY I1684 (dl 1 d (0:Int).toNat i.toNat) (lZ f 0 i) := Ro.part s T U S
refine mv ((dl 1 d (0:Int).toNat i.toNat)) (cE underlying43 sizeOf37 z (ah s) S T U .i64 .i64 (.inr ⟨z, z⟩) (.inl z)) ?_
replace b := b.bd bY
obtain ⟨e4, c⟩ := cz c
obtain ⟨C, e5, e6, b⟩ := bI oZ underlying43 b (Src.xc b e3) (cK e4 z) 43
replace b := St.Am b
refine cb (v := C) (w' := e5) z z (bX z z e6) (mv (C) z (ab (tn (wp_seq (wrl (mv (C) z (mv (k) z (mi z (mz (aC z z underlying124 sizeOf139 (ax j) N O) (mz (aW z underlying139 z sizeOf37 z) ?_))))))))))
obtain ⟨k5, e7, e8⟩ := Rd.jZ j P
obtain ⟨k6, rfl, k7, -⟩ := e7
refine ml z isAgg37 ((e8 lr b) 0 _ z) ?_
obtain ⟨e9, f0, f1, f2, b⟩ := b.ey (E := bY) (xs := [q.At]) [[F6 q.At]] 37 1 z (bE.cons z bE.nil)
refine cb (v := (.slice (some ⟨e9, 0, none⟩) 1 1)) (w' := f0) z z (dn (by kernel_rfl) f1 f2) ?_
obtain ⟨f3, c⟩ := cz c
replace b := b.ag
obtain ⟨D, f4, f5, b⟩ := bI oZ underlying43 b b.ju (cK f3 z) 43
refine cb (v := D) (w' := f4) z z (bX z z f5) (mv (D) z (ab (tn (wrl (mv (D) z (mv (d) z (mi z ?_)))))))
obtain ⟨f6, c⟩ := cz c
obtain ⟨V, W, X⟩ := sw f6
have f7 : Ro bY I1684 (dl 1 d i.toNat (((f).length : Nat) : Int).toNat) (lZ f i (((f).length : Nat) : Int)) := Ro.part s W X V
refine mv ((dl 1 d i.toNat (((f).length : Nat) : Int).toNat)) (cE underlying43 sizeOf37 z (ah s) V W X .i64 .i64 (.inl z) (.inr ⟨z, z⟩)) ?_
obtain ⟨f8, c⟩ := cz c
obtain ⟨F, f9, g0, b⟩ := bI oZ underlying43 b (Src.xc b f7) (cK f8 z) 43
refine cb (v := F) (w' := f9) z z (bX z z g0) (mv (F) z (ab (bF (tn (wrl (mi z (mi z (mi z (ab (tn ?_))))))))))
replace b := b.bu
obtain rfl := sj c
exact ⟨_, nls, _, (((lZ f 0 i) ++ ([q.At])) ++ (lZ f i (((f).length : Nat) : Int))), (i64.wrap (l + 1)), F, p, fy z, m, b⟩
}
}
{
intro h c
refine so 5 z h (so 6 z h (so 7 z h (so 8 z h (so 9 z h (so 10 z h (so 11 z h (so 12 z h (so 13 z h (so 14 z h (sh (.bool _) 15 z (fun w b => aJ h z z) (bp ?_)))))))))))
intro w b
refine tn (ak z (wp_skip (tn (wp_seq (wrl (mv ((.slice none 0 0)) z (ab (tn (wp_seq (wrl (mv ((.slice none 0 0)) z (mv (d) z (mi z ?_)))))))))))))
obtain ⟨I1726, Y, t, b⟩ := b.cN
replace j := j.mono (ns Y)
replace m := m.trans Y
obtain ⟨g1, c⟩ := cz c
obtain ⟨Z, b0, b1⟩ := sw g1
have g2 : Ro bY I1726 (dl 1 d (0:Int).toNat i.toNat) (lZ f 0 i) := Ro.part t b0 b1 Z
refine mv ((dl 1 d (0:Int).toNat i.toNat)) (cE underlying43 sizeOf37 z (ah t) Z b0 b1 .i64 .i64 (.inr ⟨z, z⟩) (.inl z)) ?_
replace b := b.bd bY
obtain ⟨g3, c⟩ := cz c
obtain ⟨G, g4, g5, b⟩ := bI oZ underlying43 b (Src.xc b g2) (cK g3 z) 43
replace b := St.Am b
refine cb (v := G) (w' := g4) z z (bX z z g5) (mv (G) z (ab (tn (wp_seq (wrl (mv (G) z (mv (k) z (mi z ?_))))))))
obtain ⟨H, g6, c⟩ := bn c
obtain ⟨g7, g8, g9⟩ := aP g6
refine mz (aC z z underlying124 sizeOf139 (ax j) g7 g8) (mz (aW z underlying139 z sizeOf37 z) ?_)
obtain ⟨k8, h0, h1⟩ := Rd.jZ j g9
obtain ⟨k9, rfl, l0, -⟩ := h0
refine ml z isAgg37 ((h1 lr b) 0 _ z) ?_
obtain ⟨h2, h3, h4, h5, b⟩ := b.ey (E := bY) (xs := [H.At]) [[F6 H.At]] 37 1 z (bE.cons z bE.nil)
refine cb (v := (.slice (some ⟨h2, 0, none⟩) 1 1)) (w' := h3) z z (dn (by kernel_rfl) h4 h5) ?_
obtain ⟨h6, c⟩ := cz c
replace b := b.ag
obtain ⟨J, h7, h8, b⟩ := bI oZ underlying43 b b.ju (cK h6 z) 43
refine cb (v := J) (w' := h7) z z (bX z z h8) (mv (J) z (ab (tn (wrl (mv (J) z (mv (d) z (mi z ?_)))))))
obtain ⟨h9, c⟩ := cz c
obtain ⟨b2, b3, b4⟩ := sw h9
have i0 : Ro bY I1726 (dl 1 d i.toNat (((f).length : Nat) : Int).toNat) (lZ f i (((f).length : Nat) : Int)) := Ro.part t b3 b4 b2
refine mv ((dl 1 d i.toNat (((f).length : Nat) : Int).toNat)) (cE underlying43 sizeOf37 z (ah t) b2 b3 b4 .i64 .i64 (.inl z) (.inr ⟨z, z⟩)) ?_
obtain ⟨i1, c⟩ := cz c
obtain ⟨K, i2, i3, b⟩ := bI oZ underlying43 b (Src.xc b i0) (cK i1 z) 43
refine cb (v := K) (w' := i2) z z (bX z z i3) (mv (K) z (ab (bF (tn (wrl (mi z (mi z (mi z (ab (tn ?_))))))))))
replace b := b.bu
obtain rfl := sj c
exact ⟨_, nls, _, (((lZ f 0 i) ++ ([H.At])) ++ (lZ f i (((f).length : Nat) : Int))), (i64.wrap (l + 1)), K, p, fy z, m, b⟩
}
}
}
{
intro x c
refine ak (cvb x) (wp_exit (aV (aV ?_)))
replace c := bo c p
refine de (tn (wp_seq (wrl (mv (d) z (mv (d) z (ab (tn (wp_ret ?_))))))))
obtain rfl := sj c
exact aZ [d] results152 (rc z ai) ⟨_, d, z, u, b.bu⟩
}
}
theorem vE {a0 : (List aF)} {j : Value} {a1 a2 : Nat} {a3 a4 : Int} (m : Ro cX I j a0) (b : St w0 w I [] R) {r : ((List bQ))} (c : lO a0 a1 a2 a3 a4 = some r) :
  Calls prog 81 #[j, F6 a1, F6 a2, U6 a3, I6 a4] w fun e w' => ∃ (I' : HL) (F : Value), e = .returned (F) ∧ I.le I' ∧ St w0 w' I' [bg az F r] R := by {
unfold lO at c
refine c0 func81 z ntmps81 ?_
have o := HL.le.refl I
refine wp_seq (wrl (mv ((.slice none 0 0)) z (ab (tn (wp_seq (wrl (mv ((.slice none 0 0)) z (ab (tn (wp_seq (wrl (mv (j) z ?_))))))))))))
obtain ⟨G, J, c⟩ := bn c
refine wc call152 [j] z z z ((wo (m.mono cD) b.to0 J).mono ?_)
rintro _ b1 ⟨I618, h, rfl, H, b⟩
refine ⟨_, z, ?_⟩
replace b := b.of1
replace m := m.mono (ro_le H)
replace o := o.trans H
refine mv (h) z (ab (tn (wp_seq (wp_seq (wrl (mi z (ab (tn (wp_block ?_)))))))))
replace b := b.bd az
obtain ⟨K, c⟩ := aX c
refine bm (fun n a w => ∃ (I756 : HL) (p : (List bQ)) (i : Int) (f : Value), cT (ly G a4 a0 a3 a1 a2) n (p, i) = some r ∧ fz 58 [0, 1, 2, 3, 4, 11, 12, 13] [j, F6 a1, F6 a2, U6 a3, I6 a4, f, h, I6 i] a ∧ I618.le I756 ∧ St w0 w I756 [bg az f p, bg bY h G] R) K ⟨_, [], 0, Zs, c, fy z, lr, b⟩ ?_
rintro b2 _ b3 ⟨I756, p, i, f, c, ⟨b4, rfl⟩, k, b⟩
obtain ⟨b5, b6, rfl, c, q⟩ := ba c
dsimp only [ly] at c
replace m := m.mono (ro_le k)
replace o := o.trans k
refine wp_seq (wp_seq (wrl (mi z (mv (h) z (mz (bZ z underlying43 b.sv1) (mb z (mb z (bs c ?_ ?_))))))))
{
intro g c
refine gv (f) g z (gg g (bZ z underlying81 b.sv0) (gi g z (gb g z (mb (aS g z z) (ab (tn (bs c ?_ ?_)))))))
{
intro u c
refine ar (cvb u) (wp_skip (tn (wp_seq (wp_block (wp_seq (wrl (mv (j) z (mv (h) z (mi z ?_)))))))))
obtain ⟨l, L, c⟩ := bn c
obtain ⟨x, y, A⟩ := aP L
refine mz (aC z z underlying43 sizeOf37 b.sv1 x y) (ml z isAgg37 (b.ol1 A (by rintro _ rfl; rfl)) (mi z ?_))
obtain ⟨B, M, c⟩ := bn c
refine wc call80 [j, F6 l, U6 a3] z z z ((iO m b.to0 M).mono ?_)
rintro _ b7 ⟨I775, s, rfl, N, t, b⟩
refine ⟨_, z, ?_⟩
replace b := b.of0
replace k := k.trans N
obtain ⟨O, b8, P, Q, b⟩ := b.box [.bool false, Zs] 61
refine wa P Q ?_
obtain ⟨b9, S, b⟩ := b.bx [.bool B.Has, s] sizeOf61 z (oC z (oC (oS (ah t)) oN)) (by kernel_rfl)
refine aE z z (aG S) (ab (tn (wp_seq (wrl (mf z underlying61 z sizeOf4 (ml z isAgg4 (b.bc0 z) (mb z (bs c ?_ ?_))))))))
{
intro d c
refine gv (h) d z (gi d z (gg d (aC z z underlying43 sizeOf37 b.sv2 x y) (gg d (aq z isAgg37 (b.ol2 A (by rintro _ rfl; rfl))) (gv (F6 _) d z (gv (F6 _) d z ?_)))))
obtain ⟨c1, T, c⟩ := bn c
refine dj ((aw z z z (cvb d)).trans z) z (jv call153 z (vs := [F6 l, F6 a1, F6 a2]) z) ((qv b.to0 T).mono ?_)
rintro _ c2 ⟨rfl, b⟩
refine ⟨_, z, ?_⟩
replace b := b.of0
refine mb (aS d z z) (ab (tn (bs c ?_ ?_)))
{
intro C c
refine ar (cvb C) (rg b 11 [0, 0, 0, 6, 14, 0, 32, 126, 254, 511, 1023] [10] mixed (wsr (f) 0 rfl rfl rfl (by kernel_rfl) (fun w b => rfl) (wsr (h) 1 rfl rfl rfl (by kernel_rfl) (fun w b => rfl) (wsr (.int .i64 i) 2 rfl rfl rfl (by kernel_rfl) (fun w b => rfl) (wsr (.pointer (some (dQ h (i.toNat * 1 + 0)))) 3 rfl rfl rfl (by kernel_rfl) (fun w b => aC rfl rfl underlying43 sizeOf37 b.sv2 x y) (wsr (.float .f64 l) 4 rfl rfl rfl (by kernel_rfl) (fun w b => aq rfl isAgg37 (b.ol2 A (by rintro _ rfl; rfl))) (wsr (Pt O 1) 5 rfl rfl rfl (by kernel_rfl) (fun w b => aT rfl underlying61 rfl sizeOf22 rfl) (wsr (s) 6 rfl rfl rfl (by kernel_rfl) (fun w b => aq rfl isAgg22 (b.bc0 rfl)) (wsr (.agg #[F6 l, s]) 7 rfl rfl rfl (by kernel_rfl) (fun w b => by obtain ⟨_, _, hv_, _⟩ := (ah t); rw [hv_]; kernel_rfl) (e1 8 z z fun w b => ?_))))))))))
obtain ⟨U, V, W, X, b⟩ := b.ey (E := az) (xs := [({ At := l, Val := B.Val } : bQ)]) [[F6 l, s]] 152 1 z (bE.cons ⟨_, z, t, oS (ah t)⟩ bE.nil)
refine bW (v := (.slice (some ⟨U, 0, none⟩) 1 1)) (w' := V) z (dn (by kernel_rfl) W X) (wn [0] b (pz bD) (e1 9 z z fun w b => ?_))
obtain ⟨Y, c⟩ := cz c
replace b := b.aA
obtain ⟨D, Z, b0, b⟩ := bI xv underlying81 b b.ju (cK Y z) 81
refine bW (v := D) (w' := Z) z (bX z z b0) (w0n b (e1 10 z z fun w b => bW (v := D) (w' := w) z z (w0n b (bp ?_))))
intro w b
refine bF (tn (wrl (mi z (mi z (mi z (ab (tn ?_)))))))
replace b := b.au.ag.ck
obtain rfl := sj c
exact ⟨_, nls, _, (p ++ ([({ At := l, Val := B.Val } : bQ)])), (i64.wrap (i + 1)), D, q, fy z, k, b⟩
}
{
intro C c
refine ak (cvb C) (wp_skip (bF (tn (wrl (mi z (mi z (mi z (ab (tn ?_)))))))))
replace b := b.aA.aA.ck
obtain rfl := sj c
exact ⟨_, nls, _, p, (i64.wrap (i + 1)), f, q, fy z, k, b⟩
}
}
{
intro d c
refine go d (go d (go d (go d (go d (go d (go d (mb (aJ d z z) (ab (tn (ak z (wp_skip (bF (tn (wrl (mi z (mi z (mi z (ab (tn ?_)))))))))))))))))))
replace b := b.aA.aA.ck
obtain rfl := sj c
exact ⟨_, nls, _, p, (i64.wrap (i + 1)), f, q, fy z, k, b⟩
}
}
{
intro u c
refine ak (cvb u) (wp_exit (aV (aV ?_)))
replace c := bo c q
refine de (tn (wp_seq (wrl (mv (f) z (mv (f) z (ab (tn (wp_ret ?_))))))))
obtain rfl := sj c
exact aZ [f] results81 (rc z ai) ⟨_, f, z, o, b.bu⟩
}
}
{
intro g c
refine go g (go g (go g (go g (mb (aJ g z z) (ab (tn (ak z (wp_exit (aV (aV ?_))))))))))
replace c := bo c q
refine de (tn (wp_seq (wrl (mv (f) z (mv (f) z (ab (tn (wp_ret ?_))))))))
obtain rfl := sj c
exact aZ [f] results81 (rc z ai) ⟨_, f, z, o, b.bu⟩
}
}
theorem rF {a0 : aj} {p0 : Value} {a1 : ap} {j k l m : Value} (u : Rd bY R I j a1.Gets) (f : Rd gB R I k a1.Scans) (g8 : Rd bY R I l a1.Puts) (g9 : Rd (cp .u8) R I m a1.Data) (b : St w0 w I [aR p0 a0] R) {r : (bw)} (c : iR a0 a1 = some r) :
  Calls prog 34 #[p0, .agg #[U6 a1.ID.Session, U6 a1.ID.Seq, U6 a1.Epoch, j, k, l, m]] w fun e w' => ∃ (I' : HL) (b1 : Value) (b2 : Value), e = .returned (.agg #[I6 r.E, U6 r.Epoch, U6 r.Index, b1, b2]) ∧ I.le I' ∧ St w0 w' I' [bg aD b1 r.Gots, bg (dJ az) b2 r.Scans, aR p0 a0] R := by {
unfold iR at c
refine c0 func34 z ntmps34 ?_
have x := HL.le.refl I
refine wp_seq (wrl ?_)
obtain ⟨o, h0, c3, c4, b⟩ := b.box [U6 a1.ID.Session, U6 a1.ID.Seq, U6 a1.Epoch, j, k, l, m] 46
refine wa c3 c4 ?_
obtain ⟨p, h1, c5, c6, b⟩ := b.box [Zi, Zu, Zu, Zs, Zs] 33
refine wa c5 c6 (ab (tn (wp_seq (wrl (mk (.agg #[Zi, Zu, Zu, Zs, Zs]) ?_)))))
obtain ⟨q, h2, c7, c8, b⟩ := b.box [Zi, Zu, Zu, Zs, Zs] 33
refine wa c7 c8 ?_
obtain ⟨h3, c9, b⟩ := b.bx [Zi, Zu, Zu, Zs, Zs] sizeOf33 z (oJ 5 z oN) (by kernel_rfl)
refine aE z z (aG c9) (ab (tn ?_))
obtain ⟨d0, c, d1⟩ := bn c
refine cU (fun a w => ∃ (I859 : HL) (y : (List ct)) (d : Value), (ka a1 a0) y = some r ∧ fz 61 [0, 3, 4, 5] [p0, Pt o 0, Pt p 0, Pt q 0] a ∧ I.le I859 ∧ St w0 w I859 [aR p0 a0, cells o [U6 a1.ID.Session, U6 a1.ID.Seq, U6 a1.Epoch, j, k, l, m], cells p [Zi, Zu, Zu, Zs, Zs], cells q [Zi, Zu, Zu, d, Zs], bg aD d y] R) ?_ ?_
{
have T := HL.le.refl I
refine wp_seq (wrl (mi z (ab (tn (wp_block ?_)))))
replace b := b.bd aD
obtain ⟨d2, c⟩ := aX c
refine bm (fun n a w => ∃ (I801 : HL) (A : (List ct)) (K : Int) (L : Value), cT (gq a1 a0) n (A, K) = some d0 ∧ fz 61 [0, 3, 4, 5, 6] [p0, Pt o 0, Pt p 0, Pt q 0, I6 K] a ∧ I.le I801 ∧ St w0 w I801 [bg aD L A, cells q [Zi, Zu, Zu, L, Zs], cells p [Zi, Zu, Zu, Zs, Zs], cells o [U6 a1.ID.Session, U6 a1.ID.Seq, U6 a1.Epoch, j, k, l, m], aR p0 a0] R) d2 ⟨_, [], 0, Zs, c, fy z, lr, b⟩ ?_
rintro h4 _ h5 ⟨I801, A, K, L, c, ⟨h6, rfl⟩, B, b⟩
obtain ⟨h7, h8, rfl, c, b3⟩ := ba c
dsimp only [gq] at c
replace u := u.mono (ns B)
replace T := T.trans B
refine wp_seq (wp_seq (wrl (mi z (mf z underlying46 z sizeOf43 (ml z isAgg43 (b.bc3 z) (mz (bZ z underlying43 (ax u)) (mb z (ab (tn (bs c ?_ ?_))))))))))
{
intro U c
refine ar (cvb U) (wp_skip (tn (wp_seq (wp_block ?_))))
obtain ⟨d3, d4, h9, i0, i1, i2, i3, i4, ⟨rfl, M, V, W, X⟩, d5⟩ := bl b.bf
have b := d5
refine rg b 16 [0, 1, 0, 4, 12, 28, 0, 64, 0, 448, 960, 2044, 4092, 8191, 16383, 32767] [] mixed (sf 0 z z underlying33 z sizeOf30 (sl 1 z z isAgg30 (fun w b => b.bc5 z) (sp 2 z z (sp 3 z z (sf 4 z z underlying130 z sizeOf124 (sl 5 z z isAgg124 (fun w b => b.bc0 z) (sf 6 z z underlying46 z sizeOf43 (sl 7 z z isAgg43 (fun w b => b.bc7 z) (si 8 z z ?_)))))))))
obtain ⟨d6, d7, c⟩ := bn c
obtain ⟨d8, d9, e0⟩ := aP d7
refine sh _ 9 z (fun w b => aC z z underlying43 sizeOf37 (ax u) d8 d9) (sl 10 z z isAgg37 (fun w b => dU u lr b e0 (by rintro _ rfl; rfl)) (e1 11 z z fun w b => ?_))
obtain ⟨Y, e2, c⟩ := bn c
refine wec call80 [d4, F6 d6, U6 18446744073709551615] z z ((iO M b.to0 e2).mono ?_)
rintro _ i5 ⟨I838, e3, rfl, C, b4, b⟩
refine ⟨_, z, ?_⟩
replace b := b.of0
replace M := M.mono (ro_le C)
replace V := V.mono (ro_le C)
replace W := W.mono (ro_le C)
replace X := X.mono (ro_le C)
replace B := B.trans C
refine wn [1, 0] b (pkr z z (fun w b => aq z isAgg30 (b.bc5 z)) (pf z z underlying33 z sizeOf30 bD)) (e1 12 z z fun w b => ?_)
obtain ⟨e4, e5, e6, e7, b⟩ := b.ey (E := aD) (xs := [Y]) [[.bool Y.Has, e3]] 61 1 z (bE.cons ⟨_, z, b4, oS (ah b4)⟩ bE.nil)
refine bW (v := (.slice (some ⟨e4, 0, none⟩) 1 1)) (w' := e5) z (dn (by kernel_rfl) e6 e7) (wn [1, 0] b (pkr z z (fun w b => aq z isAgg30 (b.bc6 z)) (pf z z underlying33 z sizeOf30 bD)) (e1 13 z z fun w b => ?_))
obtain ⟨e8, c⟩ := cz c
replace b := b.bc
obtain ⟨N, e9, f0, b⟩ := bI xX underlying30 b b.ju (cK e8 z) 30
refine bW (v := N) (w' := e9) z (bX z z f0) (w0n b (sf 14 z z underlying33 z sizeOf30 (e1 15 z z fun w b => ?_)))
replace b := b.da
obtain ⟨i6, f1, b⟩ := b.cW (P := prog) (t := 30) (cs' := [Zi, Zu, Zu, N, Zs]) 3 N (oS b.sv1) sizeOf30 z z
refine dz z (aG f1) (w0n b (bp ?_))
intro w b
refine bF (tn (wrl (mi z (mi z (mi z (ab (tn ?_)))))))
replace b := (al (Pt d3 0) a0 b.da.da.da.da ⟨z, M, V, W, X⟩).bc.bc.au.bf.oX
obtain rfl := sj c
exact ⟨_, nls, _, (A ++ ([Y])), (i64.wrap (K + 1)), N, b3, fy z, B, b⟩
}
{
intro U c
refine ak (cvb U) (wp_exit (aV (aV ?_)))
replace c := bo c b3
refine de (tn ?_)
replace b := b.ag.aA.au.bf.oX
obtain rfl := sj c
exact ⟨_, A, L, d1, fy z, T, b⟩
}
}
{
rintro _ i7 ⟨I859, y, d, c, ⟨i8, rfl⟩, b5, b⟩
dsimp only [ka] at c
replace f := f.mono (ns b5)
replace x := x.trans b5
refine wp_seq (wp_seq (wrl (mi z (ab (tn (wp_block ?_))))))
replace b := b.bd (dJ az)
obtain ⟨f2, c⟩ := aX c
refine bm (fun n a w => ∃ (I1018 : HL) (O : (List (List bQ))) (Q : Int) (g : Value), cT (fi a1 a0 y) n (O, Q) = some r ∧ fz 61 [0, 3, 4, 5, 7] [p0, Pt o 0, Pt p 0, Pt q 0, I6 Q] a ∧ I859.le I1018 ∧ St w0 w I1018 [bg (dJ az) g O, aR p0 a0, cells o [U6 a1.ID.Session, U6 a1.ID.Seq, U6 a1.Epoch, j, k, l, m], cells p [Zi, Zu, Zu, Zs, Zs], cells q [Zi, Zu, Zu, d, g], bg aD d y] R) f2 ⟨_, [], 0, Zs, c, fy z, lr, b⟩ ?_
rintro i9 _ j0 ⟨I1018, O, Q, g, c, ⟨j1, rfl⟩, h, b⟩
obtain ⟨j2, j3, rfl, c, b6⟩ := ba c
dsimp only [fi] at c
replace f := f.mono (ns h)
replace x := x.trans h
refine wp_seq (wp_seq (wrl (mi z (mf z underlying46 z sizeOf44 (ml z isAgg44 (b.bc2 z) (mz (bZ z underlying44 (ax f)) (mb z (ab (tn (bs c ?_ ?_))))))))))
{
intro Z c
refine ar (cvb Z) (wp_skip (tn (wp_seq (wp_block ?_))))
obtain ⟨f3, f4, j4, j5, j6, j7, j8, j9, ⟨rfl, s, D, F, G⟩, f5⟩ := bl b.ag
have b := f5
refine rg b 23 [0, 1, 0, 4, 12, 28, 0, 64, 0, 448, 960, 1984, 0, 4096, 0, 28672, 61440, 126976, 262140, 524284, 1048575, 2097151, 4194303] [] mixed (sf 0 z z underlying33 z sizeOf31 (sl 1 z z isAgg31 (fun w b => b.bc7 z) (sp 2 z z (sp 3 z z (sf 4 z z underlying130 z sizeOf124 (sl 5 z z isAgg124 (fun w b => b.bc0 z) (sf 6 z z underlying46 z sizeOf44 (sl 7 z z isAgg44 (fun w b => b.bc5 z) (si 8 z z ?_)))))))))
obtain ⟨b7, f6, c⟩ := bn c
obtain ⟨b8, b9, c1⟩ := aP f6
refine sh _ 9 z (fun w b => aC z z underlying44 sizeOf80 (ax f) b8 b9) (sh (.pointer (some _)) 10 z (fun w b => iP (i := 0) z z underlying80 sizeOf37 (by decide) (by decide) z) (sl 11 z z isAgg37 (fun w b => dU f lr b c1 (by rintro _ rfl; rfl)) (sf 12 z z underlying46 z sizeOf44 (sl 13 z z isAgg44 (fun w b => b.bc5 z) (si 14 z z (sh _ 15 z (fun w b => aC z z underlying44 sizeOf80 (ax f) b8 b9) (sh (.pointer (some _)) 16 z (fun w b => iP (i := 1) z z underlying80 sizeOf37 (by decide) (by decide) z) (sl 17 z z isAgg37 (fun w b => dU f lr b c1 (by rintro _ rfl; rfl)) (e1 18 z z fun w b => ?_)))))))))
obtain ⟨c2, f7, c⟩ := bn c
refine wec call81 [f4, F6 b7.1, F6 b7.2, U6 18446744073709551615, I6 64] z z ((vE s b.to0 f7).mono ?_)
rintro _ k0 ⟨I1055, f8, rfl, H, b⟩
refine ⟨_, z, ?_⟩
replace b := b.of1
replace s := s.mono (ro_le H)
replace D := D.mono (ro_le H)
replace F := F.mono (ro_le H)
replace G := G.mono (ro_le H)
replace h := h.trans H
refine wn [1, 0] b (pkr z z (fun w b => aq z isAgg31 (b.bc8 z)) (pf z z underlying33 z sizeOf31 bD)) (e1 19 z z fun w b => ?_)
obtain ⟨I1060, J, b0, b⟩ := b.cN
replace s := s.mono (ro_le J)
replace D := D.mono (ro_le J)
replace F := F.mono (ro_le J)
replace G := G.mono (ro_le J)
replace h := h.trans J
obtain ⟨f9, g0, g1, g2, b⟩ := b.ey (E := (dJ az)) (xs := [c2]) [[f8]] 81 1 z (bE.cons ⟨_, z, b0, oS (ah b0)⟩ bE.nil)
refine bW (v := (.slice (some ⟨f9, 0, none⟩) 1 1)) (w' := g0) z (dn (by obtain ⟨_, _, hv_, _⟩ := (ah b0); rw [hv_]; kernel_rfl) g1 g2) (wn [1, 0] b (pkr z z (fun w b => aq z isAgg31 (b.bc8 z)) (pf z z underlying33 z sizeOf31 bD)) (e1 20 z z fun w b => ?_))
obtain ⟨g3, c⟩ := cz c
replace b := b.bc
obtain ⟨S, g4, g5, b⟩ := bI xI underlying31 b b.ju (cK g3 z) 31
refine bW (v := S) (w' := g4) z (bX z z g5) (w0n b (sf 21 z z underlying33 z sizeOf31 (e1 22 z z fun w b => ?_)))
replace b := b.bM
obtain ⟨k1, g6, b⟩ := b.cW (P := prog) (t := 31) (cs' := [Zi, Zu, Zu, d, S]) 4 S (oS b.sv1) sizeOf31 z z
refine dz z (aG g6) (w0n b (bp ?_))
intro w b
refine bF (tn (wrl (mi z (mi z (mi z (ab (tn ?_)))))))
replace b := (al (Pt f3 0) a0 b.da.da.da.da ⟨z, s, D, F, G⟩).da.aA.da.da.bf.bc.kj
obtain rfl := sj c
exact ⟨_, nls, _, (O ++ ([c2])), (i64.wrap (Q + 1)), S, b6, fy z, h, b⟩
}
{
intro Z c
refine ak (cvb Z) (wp_exit (aV (aV ?_)))
replace c := bo c b6
refine de (tn (wp_seq (wrl (mz (ay (cs := [Zi, Zu, Zu, d, g]) z isAgg33 sizeOf33 (b.wy 0 z)) ?_))))
replace b := b.au
obtain ⟨k2, g7, b⟩ := b.bx [Zi, Zu, Zu, d, g] sizeOf33 z (oJ 3 z (oC (oS b.sv5) (oC (oS b.sv1) oN))) (by kernel_rfl)
refine aE z z (aG g7) (ab (tn (wp_ret ?_)))
obtain rfl := sj c
refine aZ [.agg #[Zi, Zu, Zu, d, g]] results34 (bq (bJ (cs := [Zi, Zu, Zu, d, g]) z isAgg33 sizeOf33 (b.eF 0 z)) ai) ?_
replace b := b.aA.aA.bc
exact ⟨_, d, g, z, x, b.dF⟩
}
}
}
theorem wk {a0 : (List aF)} {h : Value} {a1 : aF} {m : Value} (i : Ro cX I h a0) (U : Ro (cp .u8) I m a1.Val) (b : St w0 w I [] R) {r : ((List aF))} (c : nX a0 a1 = some r) :
  Calls prog 72 #[h, .agg #[F6 a1.At, U6 a1.Epoch, U6 a1.Index, .bool a1.Del, m]] w fun e w' => ∃ (O : Value), e = .returned (O) ∧ St w0 w' I [bg cX O r] R := by {
unfold nX at c
refine c0 func72 z ntmps72 (wp_seq (wrl ?_))
obtain ⟨p, e9, V, W, b⟩ := b.box [F6 a1.At, U6 a1.Epoch, U6 a1.Index, .bool a1.Del, m] 139
refine wa V W (mv ((.slice none 0 0)) z (ab (tn (wp_seq (wrl (mv ((.slice none 0 0)) z (ab (tn ?_))))))))
obtain ⟨X, c, Y⟩ := bn c
refine cU (fun a w => ∃ (u : (List aF)) (q : Value), (ph a1) u = some r ∧ fz 56 [3, 5] [Pt p 0, q] a ∧ St w0 w I [cells p [F6 a1.At, U6 a1.Epoch, U6 a1.Index, .bool a1.Del, m], bg cX q u] R) ?_ ?_
{
refine wp_seq (wrl (mi z (ab (tn (wp_block ?_)))))
replace b := b.bd cX
obtain ⟨Z, c⟩ := aX c
refine bm (fun n a w => ∃ (j : (List aF)) (l : Int) (k : Value), cT (me a0 a1) n (j, l) = some X ∧ fz 56 [0, 3, 5, 6] [h, Pt p 0, k, I6 l] a ∧ St w0 w I [bg cX k j, cells p [F6 a1.At, U6 a1.Epoch, U6 a1.Index, .bool a1.Del, m]] R) Z ⟨[], 0, Zs, c, fy z, b⟩ ?_
rintro f0 _ f1 ⟨j, l, k, c, ⟨f2, rfl⟩, b⟩
obtain ⟨f3, f4, rfl, c, x⟩ := ba c
dsimp only [me] at c
refine wp_seq (wp_seq (wrl (mi z (mv (h) z (mz (bZ z underlying124 (ah i)) (mb z (ab (tn (bs c ?_ ?_)))))))))
{
intro G c
refine ar (cvb G) (wp_skip (tn (wp_seq (wp_block (wp_seq (rg b 29 [0, 0, 3, 7, 15, 0, 32, 127, 255, 511, 1023, 1023, 4095, 8191, 16383, 1023, 33791, 131071, 262143, 524287, 1048575, 1048575, 4194303, 8388607, 16777215, 1048575, 34603007, 134217727, 268435455] [] mixed (sz (h) 0 z z (si 1 z z ?_))))))))
obtain ⟨d, b0, c⟩ := bn c
obtain ⟨s, t, H⟩ := aP b0
refine sh _ 2 z (fun w b => aC z z underlying124 sizeOf139 (ah i) s t) (sh _ 3 z (fun w b => aW z underlying139 z sizeOf37 z) ?_)
obtain ⟨f5, b1, b2⟩ := Ro.jZ i H
obtain ⟨f6, rfl, f7, -⟩ := b1
refine sl 4 z z isAgg37 (fun w b => (b2 lr b) 0 _ z) (sf 5 z z underlying139 z sizeOf37 (sl 6 z z isAgg37 (fun w b => b.bc1 z) (e1 7 z z fun w b => ?_)))
obtain ⟨f8, b3, c⟩ := bn c
refine wec call20 [F6 d.At, F6 a1.At] z z ((ez b.to0 b3).mono ?_)
rintro _ f9 ⟨rfl, b⟩
refine ⟨_, z, ?_⟩
replace b := b.of0
refine w0n b (sb 8 z z (sb 9 z z (bs c ?_ ?_)))
{
intro f c
refine so 10 z f (so 11 z f (so 12 z f (so 13 z f (so 14 z f (so 15 z f (so 16 z f (so 17 z f (sh (.bool _) 18 z (fun w b => aS f z z) (sb 19 z z (sq 20 z (sq 21 z (sq 22 z (sq 23 z (sq 24 z (sq 25 z (sq 26 z (sq 27 z (sh (.bool _) 28 z (fun w b => aS z z z) (bp ?_)))))))))))))))))))
intro w b
refine tn (ar z (wrl (mv (k) z (mv (h) z (mi z (mz (aC z z underlying124 sizeOf139 (ah i) s t) ?_))))))
obtain ⟨g0, b4, b5⟩ := Ro.jZ i H
obtain ⟨P, rfl, Q, -⟩ := b4
refine mz (ay (cs := [F6 d.At, U6 d.Epoch, U6 d.Index, .bool d.Del, P]) z isAgg139 sizeOf139 (dS (o := 0) (b5 lr b) z)) ?_
obtain ⟨b6, b7, b8, b9, b⟩ := b.ey (E := cX) (xs := [d]) [[F6 d.At, U6 d.Epoch, U6 d.Index, .bool d.Del, P]] 139 1 z (bE.cons ⟨_, z, Q, oS (ah Q)⟩ bE.nil)
refine cb (v := (.slice (some ⟨b6, 0, none⟩) 1 1)) (w' := b7) z z (dn (by kernel_rfl) b8 b9) ?_
obtain ⟨c1, c⟩ := cz c
replace b := b.ag
obtain ⟨J, c2, c3, b⟩ := bI uc underlying124 b b.ju (cK c1 z) 124
refine cb (v := J) (w' := c2) z z (bX z z c3) (mv (J) z (ab (bF (tn (wrl (mi z (mi z (mi z (ab (tn ?_))))))))))
replace b := b.aA.ag.ck
obtain rfl := sj c
exact ⟨_, nls, (j ++ ([d])), (i64.wrap (l + 1)), J, x, fy z, b⟩
}
{
intro f c
refine sgz h 10 z f z (sgz (I6 _) 11 z f z (sg _ 12 z f (fun w b => aC z z underlying124 sizeOf139 (ah i) s t) (sg _ 13 z f (fun w b => aW z underlying139 z sizeOf26 z) ?_)))
obtain ⟨g1, c4, A⟩ := Ro.jZ i H
obtain ⟨B, rfl, C, -⟩ := c4
refine sg _ 14 z f (fun w b => aq z isAgg26 ((A lr b) 1 _ z)) (sg _ 15 z f (fun w b => aT z underlying139 z sizeOf26 z) (sg _ 16 z f (fun w b => aq z isAgg26 (b.bc1 z)) (sgz (.bool _) 17 z f z (sh (.bool _) 18 z (fun w b => aJ f z z) (sb 19 z z (bs c ?_ ?_))))))
{
intro g c
refine so 20 z g (so 21 z g (so 22 z g (so 23 z g (so 24 z g (so 25 z g (so 26 z g (so 27 z g (sh (.bool _) 28 z (fun w b => aS g z z) (bp ?_)))))))))
intro w b
refine tn (ar z (wrl (mv (k) z (mv (h) z (mi z (mz (aC z z underlying124 sizeOf139 (ah i) s t) (mz (ay (cs := [F6 d.At, U6 d.Epoch, U6 d.Index, .bool d.Del, B]) z isAgg139 sizeOf139 (dS (o := 0) (A lr b) z)) ?_)))))))
obtain ⟨c5, c6, c7, c8, b⟩ := b.ey (E := cX) (xs := [d]) [[F6 d.At, U6 d.Epoch, U6 d.Index, .bool d.Del, B]] 139 1 z (bE.cons ⟨_, z, C, oS (ah C)⟩ bE.nil)
refine cb (v := (.slice (some ⟨c5, 0, none⟩) 1 1)) (w' := c6) z z (dn (by kernel_rfl) c7 c8) ?_
obtain ⟨c9, c⟩ := cz c
replace b := b.ag
obtain ⟨K, d0, d1, b⟩ := bI uc underlying124 b b.ju (cK c9 z) 124
refine cb (v := K) (w' := d0) z z (bX z z d1) (mv (K) z (ab (bF (tn (wrl (mi z (mi z (mi z (ab (tn ?_))))))))))
replace b := b.aA.ag.ck
obtain rfl := sj c
exact ⟨_, nls, (j ++ ([d])), (i64.wrap (l + 1)), K, x, fy z, b⟩
}
{
intro g c
refine sgz h 20 z g z (sgz (I6 _) 21 z g z (sg _ 22 z g (fun w b => aC z z underlying124 sizeOf139 (ah i) s t) (sg _ 23 z g (fun w b => aW z underlying139 z sizeOf26 z) (sg _ 24 z g (fun w b => aq z isAgg26 ((A lr b) 2 _ z)) (sg _ 25 z g (fun w b => aT z underlying139 z sizeOf26 z) (sg _ 26 z g (fun w b => aq z isAgg26 (b.bc1 z)) (sgz (.bool _) 27 z g z (sh (.bool _) 28 z (fun w b => aJ g z z) (bp ?_)))))))))
intro w b
refine tn (bs c ?_ ?_)
{
intro L c
refine ar (cvb L) (wrl (mv (k) z (mv (h) z (mi z (mz (aC z z underlying124 sizeOf139 (ah i) s t) (mz (ay (cs := [F6 d.At, U6 d.Epoch, U6 d.Index, .bool d.Del, B]) z isAgg139 sizeOf139 (dS (o := 0) (A lr b) z)) ?_))))))
obtain ⟨d2, d3, d4, d5, b⟩ := b.ey (E := cX) (xs := [d]) [[F6 d.At, U6 d.Epoch, U6 d.Index, .bool d.Del, B]] 139 1 z (bE.cons ⟨_, z, C, oS (ah C)⟩ bE.nil)
refine cb (v := (.slice (some ⟨d2, 0, none⟩) 1 1)) (w' := d3) z z (dn (by kernel_rfl) d4 d5) ?_
obtain ⟨d6, c⟩ := cz c
replace b := b.ag
obtain ⟨M, d7, d8, b⟩ := bI uc underlying124 b b.ju (cK d6 z) 124
refine cb (v := M) (w' := d7) z z (bX z z d8) (mv (M) z (ab (bF (tn (wrl (mi z (mi z (mi z (ab (tn ?_))))))))))
replace b := b.aA.ag.ck
obtain rfl := sj c
exact ⟨_, nls, (j ++ ([d])), (i64.wrap (l + 1)), M, x, fy z, b⟩
}
{
intro L c
refine ak (cvb L) (wp_skip (bF (tn (wrl (mi z (mi z (mi z (ab (tn ?_)))))))))
replace b := b.ag.ag.ck
obtain rfl := sj c
exact ⟨_, nls, j, (i64.wrap (l + 1)), k, x, fy z, b⟩
}
}
}
}
{
intro G c
refine ak (cvb G) (wp_exit (aV (aV ?_)))
replace c := bo c x
refine de (tn ?_)
replace b := b.ag.ck
obtain rfl := sj c
exact ⟨j, k, Y, fy z, b⟩
}
}
{
rintro _ g2 ⟨u, q, c, ⟨g3, rfl⟩, b⟩
dsimp only [ph] at c
obtain ⟨g4, c, S⟩ := bn c
refine cU (fun a w => ∃ (D : (List Int)) (y : Value), (pe u a1) D = some r ∧ fz 56 [3, 5] [Pt p 0, q] a ∧ Ro (cp .u8) I y D ∧ St w0 w I [cells p [F6 a1.At, U6 a1.Epoch, U6 a1.Index, .bool a1.Del, y], bg cX q u] R) ?_ ?_
{
refine wp_seq (wrl (mf z underlying139 z sizeOf4 (ml z isAgg4 (b.bc0 z) (ab (tn (bs c ?_ ?_))))))
{
intro N c
refine ar (cvb N) (wrl (mf z underlying139 z sizeOf22 ?_))
obtain ⟨g5, d9, b⟩ := b.by_ [F6 a1.At, U6 a1.Epoch, U6 a1.Index, .bool a1.Del, Zs] 4 ((.slice none 0 0)) sizeOf22 z (oC z oN) (by kernel_rfl)
refine aE z z (aG d9) (ab (tn ?_))
have e0 : Ro (cp .u8) I (.slice none 0 0) [] := cy
replace b := b.ag.ag.ck
obtain rfl := sj c
exact ⟨([]), Zs, S, fy z, e0, b⟩
}
{
intro N c
refine ak (cvb N) (wp_skip (tn ?_))
replace b := b.ag.ag.ck
obtain rfl := sj c
exact ⟨a1.Val, m, S, fy z, U, b⟩
}
}
{
rintro _ g6 ⟨D, y, c, ⟨g7, rfl⟩, T, b⟩
dsimp only [pe] at c
refine wp_seq (wrl (mv (q) z (mz (ay (cs := [F6 a1.At, U6 a1.Epoch, U6 a1.Index, .bool a1.Del, y]) z isAgg139 sizeOf139 (b.eF 0 z)) ?_)))
obtain ⟨e2, e3, e4, e5, b⟩ := b.ey (E := cX) (xs := [({ a1 with Val := D } : aF)]) [[F6 a1.At, U6 a1.Epoch, U6 a1.Index, .bool a1.Del, y]] 139 1 z (bE.cons ⟨_, z, T, oS (ah T)⟩ bE.nil)
refine cb (v := (.slice (some ⟨e2, 0, none⟩) 1 1)) (w' := e3) z z (dn (by kernel_rfl) e4 e5) ?_
obtain ⟨e6, c⟩ := cz c
replace b := b.aA
obtain ⟨F, e7, e8, b⟩ := bI uc underlying124 b b.ju (cK e6 z) 124
refine cb (v := F) (w' := e7) z z (bX z z e8) (mv (F) z (ab (tn (wp_ret ?_))))
obtain rfl := sj c
exact aZ [F] results72 (rc z ai) ⟨F, z, b.bu⟩
}
}
}
theorem lW {a0 : (List cw)} {f : Value} {a1 : Int} (i : Ro eC I f a0) (d : St w0 w I [] R) {r : (cw)} (b : iE a0 a1 = some r) :
  Calls prog 93 #[f, U6 a1] w fun e w' => ∃ (I' : HL) (p : Value) (q : Value), e = .returned (.agg #[U6 r.Session, U6 r.Seq, I6 r.R.E, U6 r.R.Epoch, U6 r.R.Index, p, q]) ∧ I.le I' ∧ Ro aD I' p r.R.Gots ∧ Ro (dJ az) I' q r.R.Scans ∧ St w0 w' I' [] R := by {
unfold iE at b
refine c0 func93 z ntmps93 ?_
have s := HL.le.refl I
refine wp_seq (wrl ?_)
obtain ⟨t, N, B, C, d⟩ := d.box [Zu, Zu, Zi, Zu, Zu, Zs, Zs] 164
refine wa B C (ab (tn (wp_seq (wp_seq (wrl (mi z (ab (tn (wp_block ?_)))))))))
obtain ⟨D, b⟩ := aX b
refine bm (fun n a w => ∃ (j : Int), cT (jS a0 a1) n j = some r ∧ fz 25 [0, 1, 4, 5] [f, U6 a1, Pt t 0, I6 j] a ∧ St w0 w I [cells t [Zu, Zu, Zi, Zu, Zu, Zs, Zs]] R) D ⟨0, b, fy z, d⟩ ?_
rintro O _ P ⟨j, b, ⟨Q, rfl⟩, d⟩
obtain ⟨S, T, rfl, b, k⟩ := ba b
dsimp only [jS] at b
refine wp_seq (wp_seq (wrl (mi z (mv (f) z (mz (bZ z underlying126 (ah i)) (mb z (ab (tn (bs b ?_ ?_)))))))))
{
intro l b
refine ar (cvb l) (wp_skip (tn (wp_seq (wp_block (wp_seq (wrl (mv (f) z (mi z ?_))))))))
obtain ⟨c, F, b⟩ := bn b
obtain ⟨u, v, G⟩ := aP F
refine mz (aC z z underlying126 sizeOf164 (ah i) u v) (mz (aW z underlying164 z sizeOf26 z) ?_)
obtain ⟨U, H, x⟩ := Ro.jZ i G
obtain ⟨g, h, rfl, y, A, -⟩ := H
refine ml z isAgg26 ((x lr d) 0 _ z) (mi z (mb z (ab (tn (bs b ?_ ?_)))))
{
intro m b
refine ar (cvb m) (wp_seq (wrl (mv (f) z (mi z (mz (aC z z underlying126 sizeOf164 (ah i) u v) (mz (ay (cs := [U6 c.Session, U6 c.Seq, I6 c.R.E, U6 c.R.Epoch, U6 c.R.Index, g, h]) z isAgg164 sizeOf164 (dS (o := 0) (x lr d) z)) ?_))))))
obtain ⟨V, J, d⟩ := d.bx [U6 c.Session, U6 c.Seq, I6 c.R.E, U6 c.R.Epoch, U6 c.R.Index, g, h] sizeOf164 z (oJ 5 z (oC (oS (ah y)) (oC (oS (ah A)) oN))) (by kernel_rfl)
refine aE z z (aG J) (ab (tn (wp_ret (dm (aN (aN ?_))))))
replace b := bo b k
refine dm (aN ?_)
obtain rfl := sj b
exact aZ [.agg #[U6 c.Session, U6 c.Seq, I6 c.R.E, U6 c.R.Epoch, U6 c.R.Index, g, h]] results93 (bq (bJ (cs := [U6 c.Session, U6 c.Seq, I6 c.R.E, U6 c.R.Epoch, U6 c.R.Index, g, h]) z isAgg164 sizeOf164 (d.eF 0 z)) ai) ⟨_, g, h, z, s, y, A, d.bU⟩
}
{
intro m b
refine ak (cvb m) (wp_skip (bF (tn (wrl (mi z (mi z (mi z (ab (tn ?_)))))))))
replace d := d.bu
obtain rfl := sj b
exact ⟨_, nls, (i64.wrap (j + 1)), k, fy z, d⟩
}
}
{
intro l b
refine ak (cvb l) (wp_exit (aV (aV ?_)))
replace b := bo b k
refine de (tn (wp_seq (wrl (mi z (mk (.agg #[U6 a1, Zu, Zi, Zu, Zu, Zs, Zs]) ?_)))))
obtain ⟨W, K, d⟩ := d.bx [U6 a1, Zu, Zi, Zu, Zu, Zs, Zs] sizeOf164 z (oJ 7 z oN) (by kernel_rfl)
refine aE z z (aG K) (ab (tn (wp_ret ?_)))
have L : Ro aD I (.slice none 0 0) [] := cy
have M : Ro (dJ az) I (.slice none 0 0) [] := cy
obtain rfl := sj b
exact aZ [.agg #[U6 a1, Zu, Zi, Zu, Zu, Zs, Zs]] results93 (bq (bJ (cs := [U6 a1, Zu, Zi, Zu, Zu, Zs, Zs]) z isAgg164 sizeOf164 (d.eF 0 z)) ai) ⟨_, Zs, Zs, z, s, L, M, d.bU⟩
}
}
end Go.Proofs.YtgnkkopjkgdieaaGreat
