/- A part of the proof. -/
import Derived.Test.YtgnkkopjkgdieaaGreatLanePlaysR2
set_option linter.unusedVariables false
set_option linter.unusedSimpArgs false
set_option maxRecDepth 100000
set_option maxHeartbeats 4000000
namespace Go.Proofs.YtgnkkopjkgdieaaGreat
open Go Go.V
open _root_.Go.Proofs.Tryz IntKind
variable {w0 w : World} {I : HL} {R : SP}
attribute [local irreducible] wpList Code.wp wpQuiet Calls bodyPost Oper.wp wpS Nx gI YieldsIn
theorem ry {a0 : (Option ae)} {p0 : Value} {a1 : Int} {a2 : aH} {y A B C D l m q : Value} (h6 : Ro bY I y a2.Hold.Gets) (h7 : Ro gB I A a2.Hold.Scans) (h8 : Ro bY I B a2.Hold.Puts) (h9 : Ro (cp .u8) I C a2.Hold.Data) (i0 : Ro cI I D a2.Writes) (Q : Ro aD I l a2.R.Gots) (S : Ro (dJ az) I m a2.R.Scans) (c8 : Ro cM I q a2.Parts) (b : St w0 w I [cF aI p0 a0] R) {r : (bj × (Option ae))} (c : fX a0 a1 a2 = some r) :
  Calls prog 50 #[p0, U6 a1, .agg #[U1 a2.Kind, U6 a2.ID.Session, U6 a2.ID.Seq, U6 a2.Epoch, U6 a2.Index, I6 a2.E, U6 a2.Hold.ID.Session, U6 a2.Hold.ID.Seq, U6 a2.Hold.Epoch, y, A, B, C, D, I6 a2.R.E, U6 a2.R.Epoch, U6 a2.R.Index, l, m, U6 a2.Shards, q, U6 a2.Rule.ID, I6 a2.Rule.From, I6 a2.Rule.To, F6 a2.Rule.Lo, F6 a2.Rule.Hi, U6 a2.Rule.Authority, I6 a2.Rule.Quota, .bool a2.On]] w fun e w' => ∃ (I' : HL) (b7 : Value) (b8 : Value), e = .returned (.agg #[U1 r.1.Kind, U6 r.1.ID.Session, U6 r.1.ID.Seq, I6 r.1.R.E, U6 r.1.R.Epoch, U6 r.1.R.Index, b7, b8]) ∧ I.le I' ∧ Ro aD I' b7 r.1.R.Gots ∧ Ro (dJ az) I' b8 r.1.R.Scans ∧ St w0 w' I' [cF aI p0 r.2] R := by {
rcases a0 with _ | d
{
dsimp only [fX] at c
cases c
}
{
replace b := bH b
dsimp only [fX] at c
refine c0 func50 z ntmps50 ?_
have p := HL.le.refl I
refine wp_seq (wrl ?_)
obtain ⟨s, i1, c9, d0, b⟩ := b.box [U1 a2.Kind, U6 a2.ID.Session, U6 a2.ID.Seq, U6 a2.Epoch, U6 a2.Index, I6 a2.E, U6 a2.Hold.ID.Session, U6 a2.Hold.ID.Seq, U6 a2.Hold.Epoch, y, A, B, C, D, I6 a2.R.E, U6 a2.R.Epoch, U6 a2.R.Index, l, m, U6 a2.Shards, q, U6 a2.Rule.ID, I6 a2.Rule.From, I6 a2.Rule.To, F6 a2.Rule.Lo, F6 a2.Rule.Hi, U6 a2.Rule.Authority, I6 a2.Rule.Quota, .bool a2.On] 49
refine wa c9 d0 ?_
obtain ⟨u, i2, d1, d2, b⟩ := b.box [Zb, Zu, Zu, Zi, Zu, Zu, Zs, Zs] 35
refine wa d1 d2 (ab (tn (wp_seq (wrl (mf z underlying49 z sizeOf33 (mz (ay (cs := [I6 a2.R.E, U6 a2.R.Epoch, U6 a2.R.Index, l, m]) z isAgg33 sizeOf33 (b.eK 14 z)) ?_))))))
obtain ⟨x, i3, d3, d4, b⟩ := b.box [Zi, Zu, Zu, Zs, Zs] 33
refine wa d3 d4 ?_
obtain ⟨i4, d5, b⟩ := b.bx [I6 a2.R.E, U6 a2.R.Epoch, U6 a2.R.Index, l, m] sizeOf33 z (oJ 3 z (oC (oS (ah Q)) (oC (oS (ah S)) oN))) (by kernel_rfl)
refine aE z z (aG d5) (ab (tn (wp_seq (wrl (mf z underlying49 z sizeOf26 (ml z isAgg26 (b.bc2 z) (mi z (mf z underlying33 z sizeOf26 ?_))))))))
obtain ⟨i5, d6, b⟩ := b.by_ [I6 a2.R.E, U6 a2.Epoch, U6 a2.R.Index, l, m] 1 (.int .u64 a2.Epoch) sizeOf26 z (oC z oN) (by kernel_rfl)
refine aE z z (aG d6) (mf z underlying33 z sizeOf26 ?_)
obtain ⟨i6, d7, b⟩ := b.by_ [I6 a2.R.E, U6 a2.Epoch, U6 a1, l, m] 2 (.int .u64 a1) sizeOf26 z (oC z oN) (by kernel_rfl)
refine aE z z (aG d7) (ab (tn ?_))
obtain ⟨i7, c, T⟩ := bn c
refine cU (fun a w => ∃ (g : Int) (F : (List ct)) (G : (List (List bQ))) (j : Value) (k : Value), (ic a2 d a1) (g, F, G) = some r ∧ fz 103 [0, 1, 5, 6, 7] [p0, U6 a1, Pt s 0, Pt u 0, Pt x 0] a ∧ Ro aD I j F ∧ Ro (dJ az) I k G ∧ St w0 w I [aI p0 d, cells s [U1 a2.Kind, U6 a2.ID.Session, U6 a2.ID.Seq, U6 a2.Epoch, U6 a2.Index, I6 a2.E, U6 a2.Hold.ID.Session, U6 a2.Hold.ID.Seq, U6 a2.Hold.Epoch, y, A, B, C, D, I6 a2.R.E, U6 a2.R.Epoch, U6 a2.R.Index, l, m, U6 a2.Shards, q, U6 a2.Rule.ID, I6 a2.Rule.From, I6 a2.Rule.To, F6 a2.Rule.Lo, F6 a2.Rule.Hi, U6 a2.Rule.Authority, I6 a2.Rule.Quota, .bool a2.On], cells u [Zb, Zu, Zu, Zi, Zu, Zu, Zs, Zs], cells x [I6 g, U6 a2.Epoch, U6 a1, j, k]] R) ?_ ?_
{
refine wp_seq ?_
obtain ⟨U, i8, i9, j0, j1, j2, j3, j4, rfl, d8⟩ := bi b.au
have b := d8
refine dO b mixed (by kernel_rfl) (qh _ (fun w b => aT z underlying33 z sizeOf29 z) (qh _ (fun w b => aq z isAgg29 (b.bc8 z)) (qz (.bool _) z (qz (.bool _) z (bs c ?_ ?_)))))
{
intro i c
refine qg _ i (fun w b => aT z underlying49 z sizeOf26 z) (qg _ i (fun w b => aq z isAgg26 (b.uo z)) (qgz (Pt _ _) i z (qgz (Pt _ _) i z (qg _ i (fun w b => aT z underlying111 z sizeOf26 z) (qg _ i (fun w b => aq z isAgg26 (b.bc0 z)) (qgz (.bool _) i z (qh (.bool _) (fun w b => aS i z z) (fO ?_))))))))
intro w b
refine tn (bs c ?_ ?_)
{
intro V c
refine ar (cvb V) (wrl (mf z underlying49 z sizeOf26 (ml z isAgg26 (b.uo z) (mi z (mk (.agg #[I6 9, U6 a2.Epoch, U6 a1, Zs, Zs]) ?_)))))
replace b := b.bM
obtain ⟨j5, d9, b⟩ := b.bx [I6 9, U6 a2.Epoch, U6 a1, Zs, Zs] sizeOf33 z (oJ 5 z oN) (by kernel_rfl)
refine aE z z (aG d9) (ab (tn ?_))
have e0 : Ro aD I (.slice none 0 0) [] := cy
have e2 : Ro (dJ az) I (.slice none 0 0) [] := cy
replace b := (av (Pt U 0) d b.bM.bM.bM.bM.bM.bM.bM.bM z).ag.aA.au.au.eI
obtain rfl := sj c
exact ⟨9, ([]), ([]), Zs, Zs, T, fy z, e0, e2, b⟩
}
{
intro V c
refine ak (cvb V) (wp_skip (tn ?_))
replace b := (av (Pt U 0) d b.aL.aL.aL.aL.aL.aL.aL.aL z).ag.aA.au.au.eI
obtain rfl := sj c
exact ⟨a2.R.E, a2.R.Gots, a2.R.Scans, l, m, T, fy z, Q, S, b⟩
}
}
{
intro i c
refine qo i (qo i (qo i (qo i (qo i (qo i (qo i (qh (.bool _) (fun w b => aJ i z z) (fO ?_))))))))
intro w b
refine tn (ak z (wp_skip (tn ?_)))
replace b := (av (Pt U 0) d b.aL.aL.aL.aL.aL.aL.aL.aL z).ag.aA.au.au.eI
obtain rfl := sj c
exact ⟨a2.R.E, a2.R.Gots, a2.R.Scans, l, m, T, fy z, Q, S, b⟩
}
}
{
rintro _ j6 ⟨g, F, G, j, k, c, ⟨j7, rfl⟩, H, J, b⟩
dsimp only [ic] at c
obtain ⟨j8, c, W⟩ := ec c
refine cU (fun a w =>(jG d a2 g a1 F G) () = some r ∧ fz 103 [0, 1, 5, 6, 7] [p0, U6 a1, Pt s 0, Pt u 0, Pt x 0] a ∧ St w0 w I [aI p0 d, cells s [U1 a2.Kind, U6 a2.ID.Session, U6 a2.ID.Seq, U6 a2.Epoch, U6 a2.Index, I6 a2.E, U6 a2.Hold.ID.Session, U6 a2.Hold.ID.Seq, U6 a2.Hold.Epoch, y, A, B, C, D, I6 a2.R.E, U6 a2.R.Epoch, U6 a2.R.Index, l, m, U6 a2.Shards, q, U6 a2.Rule.ID, I6 a2.Rule.From, I6 a2.Rule.To, F6 a2.Rule.Lo, F6 a2.Rule.Hi, U6 a2.Rule.Authority, I6 a2.Rule.Quota, .bool a2.On], cells u [Zb, Zu, Zu, Zi, Zu, Zu, Zs, Zs], cells x [I6 g, U6 a2.Epoch, U6 a1, j, k]] R) ?_ ?_
{
refine wp_seq (wrl (mf z underlying33 z sizeOf29 (ml z isAgg29 (b.bc3 z) (mb z (mb z (bs c ?_ ?_))))))
{
intro n c
refine gg n (aT z underlying49 z sizeOf28 z) (gg n (aT z underlying28 z sizeOf26 z) (gg n (aq z isAgg26 (b.bc1 z)) (gb n z (mb (aS n z z) (ab (tn (bs c ?_ ?_)))))))
{
intro X c
refine ar (cvb X) (wp_seq (wrl (mk (.agg #[Zb, Zu, Zu, Zi, Zu, Zu, Zs, Zs]) ?_)))
replace b := b.aA
obtain ⟨j9, e3, b⟩ := b.bx [Zb, Zu, Zu, Zi, Zu, Zu, Zs, Zs] sizeOf35 z (oJ 8 z oN) (by kernel_rfl)
refine aE z z (aG e3) (ab (tn (wp_ret (aN ?_))))
replace c := bo c W
have e4 : Ro aD I (.slice none 0 0) [] := cy
have e5 : Ro (dJ az) I (.slice none 0 0) [] := cy
replace b := aO b.ag
obtain rfl := sj c
exact aZ [.agg #[Zb, Zu, Zu, Zi, Zu, Zu, Zs, Zs]] results50 (bq (bJ (cs := [Zb, Zu, Zu, Zi, Zu, Zu, Zs, Zs]) z isAgg35 sizeOf35 (b.eK 0 z)) ai) ⟨_, Zs, Zs, z, p, e4, e5, b.bu⟩
}
{
intro X c
refine ak (cvb X) (wp_skip (tn ?_))
replace b := b.au.au.au.au.eI
obtain rfl := sj c
exact ⟨W, fy z, b⟩
}
}
{
intro n c
refine go n (go n (go n (go n (mb (aJ n z z) (ab (tn (ak z (wp_skip (tn ?_)))))))))
replace b := b.au.au.au.au.eI
obtain rfl := sj c
exact ⟨W, fy z, b⟩
}
}
{
rintro _ k0 ⟨c, ⟨k1, rfl⟩, b⟩
dsimp only [jG] at c
refine wp_seq (wp_seq ?_)
obtain ⟨o, k2, k3, e6, k4, k5, k6, k7, rfl, e7⟩ := bi b
have b := e7
refine rg b 13 [0, 1, 3, 7, 0, 16, 48, 0, 128, 384, 0, 2047, 4095] [] mixed (sp 0 z z (sp 1 z z (sf 2 z z underlying111 z sizeOf105 (sl 3 z z isAgg105 (fun w b => b.bc0 z) (sf 4 z z underlying49 z sizeOf28 (sf 5 z z underlying28 z sizeOf26 (sl 6 z z isAgg26 (fun w b => b.bc8 z) (sf 7 z z underlying49 z sizeOf28 (sf 8 z z underlying28 z sizeOf26 (sl 9 z z isAgg26 (fun w b => b.bc8 z) (sh _ 10 z (fun w b => ay (cs := [I6 g, U6 a2.Epoch, U6 a1, j, k]) z isAgg33 sizeOf33 (b.Eu 0 z)) (e1 11 z z fun w b => ?_))))))))))))
replace b := b.au
obtain ⟨f, e8, c⟩ := bn c
refine wec call124 [e6, U6 a2.ID.Session, U6 a2.ID.Seq, .agg #[I6 g, U6 a2.Epoch, U6 a1, j, k]] z z ((nT (a3 := ({ E := g, Epoch := a2.Epoch, Index := a1, Gots := F, Scans := G } : bw)) H J b.to1 e8).mono ?_)
rintro _ k8 ⟨rfl, b⟩
refine ⟨_, z, ?_⟩
replace b := b.of1
refine w0n b (sb 12 z z (bp ?_))
intro w b
refine tn (bs c ?_ ?_)
{
intro Y c
refine ar (cvb Y) (wp_seq (wrl (mp z (mf z underlying49 z sizeOf28 (mz (ay (cs := [U6 a2.ID.Session, U6 a2.ID.Seq]) z isAgg28 sizeOf28 (b.wC 1 z)) ?_)))))
replace b := aO (av (Pt o 0) (({ d with last := f.2 } : ae)) b.aL.aL.aL.aL.bf.aL.aL.aL z)
obtain ⟨h, e9, c⟩ := bn c
refine wc call125 [Pt o 0, .agg #[U6 a2.ID.Session, U6 a2.ID.Seq]] z z z ((oV b.to1 e9).mono ?_)
rintro _ k9 ⟨L, M, rfl, b⟩
refine ⟨_, z, ?_⟩
replace b := (bH b.of3.aA).bf
obtain ⟨l0, f0, b⟩ := b.bx [U1 h.Kind, U6 h.ID.Session, U6 h.ID.Seq, I6 h.R.E, U6 h.R.Epoch, U6 h.R.Index, L, M] sizeOf35 z (oJ 6 z (oC (oS b.sv2) (oC (oS b.sv3) oN))) (by kernel_rfl)
refine aE z z (aG f0) (ab (tn (wp_ret (aN ?_))))
replace b := b.aA
obtain ⟨I399, f1, Z, b⟩ := b.cN
replace p := p.trans f1
replace b := b.aA
obtain ⟨I402, b9, f2, b⟩ := b.cN
replace Z := Z.mono (ro_le b9)
replace p := p.trans b9
replace b := aO b.ag
obtain rfl := sj c
exact aZ [.agg #[U1 h.Kind, U6 h.ID.Session, U6 h.ID.Seq, I6 h.R.E, U6 h.R.Epoch, U6 h.R.Index, L, M]] results50 (bq (bJ (cs := [U1 h.Kind, U6 h.ID.Session, U6 h.ID.Seq, I6 h.R.E, U6 h.R.Epoch, U6 h.R.Index, L, M]) z isAgg35 sizeOf35 (b.eK 0 z)) ai) ⟨_, L, M, z, p, Z, f2, b.bu⟩
}
{
intro Y c
refine ak (cvb Y) (wp_skip (tn ?_))
obtain ⟨f3, c, c1⟩ := bn c
refine cU (fun a w => ∃ (I473 : HL) (b0 : ae), (jA a2 g a1 F G) b0 = some r ∧ fz 103 [5, 6, 7] [Pt s 0, Pt u 0, Pt x 0] a ∧ I.le I473 ∧ St w0 w I473 [cells s [U1 a2.Kind, U6 a2.ID.Session, U6 a2.ID.Seq, U6 a2.Epoch, U6 a2.Index, I6 a2.E, U6 a2.Hold.ID.Session, U6 a2.Hold.ID.Seq, U6 a2.Hold.Epoch, y, A, B, C, D, I6 a2.R.E, U6 a2.R.Epoch, U6 a2.R.Index, l, m, U6 a2.Shards, q, U6 a2.Rule.ID, I6 a2.Rule.From, I6 a2.Rule.To, F6 a2.Rule.Lo, F6 a2.Rule.Hi, U6 a2.Rule.Authority, I6 a2.Rule.Quota, .bool a2.On], cells u [Zb, Zu, Zu, Zi, Zu, Zu, Zs, Zs], cells x [I6 g, U6 a2.Epoch, U6 a1, j, k], aI (Pt o 0) b0] R) ?_ ?_
{
have N := HL.le.refl I
refine wp_seq (wrl (mf z underlying49 z sizeOf26 (ml z isAgg26 (b.bc8 z) (mb z (ab (tn (bs c ?_ ?_)))))))
{
intro b1 c
refine ar (cvb b1) (wp_seq (wrl (mf z underlying49 z sizeOf28 (mz (ay (cs := [U6 a2.ID.Session, U6 a2.ID.Seq]) z isAgg28 sizeOf28 (b.wC 1 z)) (mf z underlying33 z sizeOf29 (ml z isAgg29 (b.uo z) (mf z underlying49 z sizeOf26 (ml z isAgg26 (b.bc8 z) (mi z (mf z underlying49 z sizeOf26 (ml z isAgg26 (b.bc8 z) (mk (.agg #[U6 a2.ID.Session, U6 a2.ID.Seq, I6 g, U6 a2.Epoch, U6 a1, U6 a2.Shards, Zs]) ?_))))))))))))
obtain ⟨c2, l1, f4, f5, b⟩ := b.box [Zu, Zu, Zi, Zu, Zu, Zu, Zs] 89
refine wa f4 f5 ?_
obtain ⟨l2, f6, b⟩ := b.bx [U6 a2.ID.Session, U6 a2.ID.Seq, I6 g, U6 a2.Epoch, U6 a1, U6 a2.Shards, Zs] sizeOf89 z (oJ 7 z oN) (by kernel_rfl)
refine aE z z (aG f6) (ab (tn ?_))
obtain ⟨l3, c, c3⟩ := bn c
refine cU (fun a w => ∃ (O : (List ee)) (K : Value), (jM d f a2 g a1) O = some f3 ∧ fz 103 [0, 5, 6, 7, 8] [Pt o 0, Pt s 0, Pt u 0, Pt x 0, Pt c2 0] a ∧ St w0 w I [aI (Pt o 0) ({ d with last := f.2 } : ae), cells s [U1 a2.Kind, U6 a2.ID.Session, U6 a2.ID.Seq, U6 a2.Epoch, U6 a2.Index, I6 a2.E, U6 a2.Hold.ID.Session, U6 a2.Hold.ID.Seq, U6 a2.Hold.Epoch, y, A, B, C, D, I6 a2.R.E, U6 a2.R.Epoch, U6 a2.R.Index, l, m, U6 a2.Shards, q, U6 a2.Rule.ID, I6 a2.Rule.From, I6 a2.Rule.To, F6 a2.Rule.Lo, F6 a2.Rule.Hi, U6 a2.Rule.Authority, I6 a2.Rule.Quota, .bool a2.On], cells u [Zb, Zu, Zu, Zi, Zu, Zu, Zs, Zs], cells x [I6 g, U6 a2.Epoch, U6 a1, j, k], cells c2 [U6 a2.ID.Session, U6 a2.ID.Seq, I6 g, U6 a2.Epoch, U6 a1, U6 a2.Shards, K], bg cM K O] R) ?_ ?_
{
refine wp_seq (wrl (mf z underlying33 z sizeOf29 (ml z isAgg29 (b.Fx z) (mb z (ab (tn (bs c ?_ ?_)))))))
{
intro b2 c
refine ar (cvb b2) (wrl (mf z underlying49 z sizeOf47 (ml z isAgg47 (b.bc9 z) ?_)))
obtain ⟨f7, f8, c⟩ := bn c
refine wc call126 [q] z z z ((mX (RdO.xc c8 _) b.to0 f8).mono ?_)
rintro _ l4 ⟨b3, rfl, b⟩
refine ⟨_, z, ?_⟩
replace b := b.of1
refine mf z underlying89 z sizeOf47 ?_
replace b := b.ag
obtain ⟨l5, f9, b⟩ := b.cW (P := prog) (t := 47) (cs' := [U6 a2.ID.Session, U6 a2.ID.Seq, I6 g, U6 a2.Epoch, U6 a1, U6 a2.Shards, b3]) 6 b3 (oS b.sv1) sizeOf47 z z
refine aE z z (aG f9) (ab (tn ?_))
replace b := (av (Pt o 0) (({ d with last := f.2 } : ae)) b.bS.bS.bS.bS.da.bS.bS.bS z).aA.aA.bc.bc.bc.bc.kj
obtain rfl := sj c
exact ⟨f7, b3, c3, fy z, b⟩
}
{
intro b2 c
refine ak (cvb b2) (wp_skip (tn ?_))
replace b := (av (Pt o 0) (({ d with last := f.2 } : ae)) (b.bd cM).bS.bS.bS.bS.da.bS.bS.bS z).ag.aA.bc.bc.bc.bc.kj
obtain rfl := sj c
exact ⟨([]), Zs, c3, fy z, b⟩
}
}
{
rintro _ l6 ⟨O, K, c, ⟨l7, rfl⟩, b⟩
dsimp only [jM] at c
refine wp_seq (wrl (mp z (mf z underlying49 z sizeOf28 (mz (ay (cs := [U6 a2.ID.Session, U6 a2.ID.Seq]) z isAgg28 sizeOf28 (b.eK 1 z)) ?_))))
replace b := aO b
obtain ⟨b4, g0, c⟩ := bn c
refine wc call51 [Pt o 0, .agg #[U6 a2.ID.Session, U6 a2.ID.Seq]] z z z ((oW b.to1 g0).mono ?_)
rintro _ l8 ⟨rfl, b⟩
refine ⟨_, z, ?_⟩
replace b := bH b.of1
refine mv (.tuple #[I6 b4.1, .bool b4.2]) z (mi z (mb z (mi z (mb z (ab (tn ?_))))))
obtain ⟨l9, g1, g2, g3, g4, g5, g6, g7, b5, g8⟩ := bi b
replace b5 := dI b5
subst b5
have b := g8
refine rg b 12 [0, 0, 2, 6, 14, 0, 0, 64, 254, 511, 1023, 2047] [] mixed (sp 0 z z (sp 1 z z (sp 2 z z (sf 3 z z underlying111 z sizeOf65 (sl 4 z z isAgg65 (fun w b => b.bc0 z) (si 5 z z (sh _ 6 z (fun w b => ay (cs := [U6 a2.ID.Session, U6 a2.ID.Seq, I6 g, U6 a2.Epoch, U6 a1, U6 a2.Shards, K]) z isAgg89 sizeOf89 (b.FH 0 z)) (e1 7 z z fun w b => ?_))))))))
replace b := b.nv
obtain ⟨I455, g9, c4, b⟩ := b.cN
replace N := N.trans g9
obtain ⟨c5, h0, h1, h2, b⟩ := b.ey (E := aM) (xs := [({ a2 with E := g, Index := a1, Parts := O } : bC)]) [[U6 a2.ID.Session, U6 a2.ID.Seq, I6 g, U6 a2.Epoch, U6 a1, U6 a2.Shards, K]] 89 1 z (bE.cons ⟨_, z, c4, oS (ah c4)⟩ bE.nil)
refine bW (v := (.slice (some ⟨c5, 0, none⟩) 1 1)) (w' := h0) z (dn (by kernel_rfl) h1 h2) (wn [5, 4, 3, 2, 1, 0] b (pz (pkr z z (fun w b => aq z isAgg65 (b.bc1 z)) (pf z z underlying111 z sizeOf65 (pz (pz (pz bD)))))) (e1 8 z z fun w b => ?_))
replace b := b.da
obtain ⟨c6, h3, c⟩ := bn c
refine wec call127 [g5, I6 b4.1, (.slice (some ⟨c5, 0, none⟩) 1 1)] z z ((kw b.to2 h3).mono ?_)
rintro _ m0 ⟨c7, rfl, b⟩
refine ⟨_, z, ?_⟩
replace b := b.of1
refine wn [0] b (pz bD) (sp 9 z z (sf 10 z z underlying111 z sizeOf65 (e1 11 z z fun w b => ?_)))
replace b := b.ag
obtain ⟨m1, h4, b⟩ := b.cW (P := prog) (t := 65) (cs' := [I6 (({ d with last := f.2 } : ae).wide), U6 (({ d with last := f.2 } : ae).epoch), g1, g2, g3, g4, c7, g6, g7]) 6 c7 (oS b.sv1) sizeOf65 z z
refine dz z (aG h4) (w0n b (bp ?_))
intro w b
refine tn ?_
replace b := av (Pt o 0) (({ wide := ({ d with last := f.2 } : ae).wide, epoch := ({ d with last := f.2 } : ae).epoch, store := ({ d with last := f.2 } : ae).store, locks := ({ d with last := f.2 } : ae).locks, last := ({ d with last := f.2 } : ae).last, book := ({ d with last := f.2 } : ae).book, open_ := c6, out := ({ d with last := f.2 } : ae).out, used := ({ d with last := f.2 } : ae).used } : ae)) b.aL.aL.au.aL.aL.aL.aL.aL z
replace b := b.au.au.au.eI
obtain rfl := sj c
exact ⟨_, ({ wide := ({ d with last := f.2 } : ae).wide, epoch := ({ d with last := f.2 } : ae).epoch, store := ({ d with last := f.2 } : ae).store, locks := ({ d with last := f.2 } : ae).locks, last := ({ d with last := f.2 } : ae).last, book := ({ d with last := f.2 } : ae).book, open_ := c6, out := ({ d with last := f.2 } : ae).out, used := ({ d with last := f.2 } : ae).used } : ae), c1, fy z, N, b⟩
}
}
{
intro b1 c
refine ak (cvb b1) (wp_skip (tn ?_))
replace b := (av (Pt o 0) (({ d with last := f.2 } : ae)) b.aL.aL.aL.aL.bf.aL.aL.aL z).au.au.au.eI
obtain rfl := sj c
exact ⟨_, ({ d with last := f.2 } : ae), c1, fy z, N, b⟩
}
}
{
rintro _ m2 ⟨I473, b0, c, ⟨m3, rfl⟩, b6, b⟩
dsimp only [jA] at c
replace H := H.mono (ro_le b6)
replace J := J.mono (ro_le b6)
replace p := p.trans b6
refine wp_seq (wrl (mf z underlying49 z sizeOf28 (mz (ay (cs := [U6 a2.ID.Session, U6 a2.ID.Seq]) z isAgg28 sizeOf28 (b.eF 1 z)) (mz (ay (cs := [I6 g, U6 a2.Epoch, U6 a1, j, k]) z isAgg33 sizeOf33 (b.pR 0 z)) (wv (.agg #[U1 4, U6 a2.ID.Session, U6 a2.ID.Seq, I6 g, U6 a2.Epoch, U6 a1, j, k]) z z (by obtain ⟨_, _, hv_, _⟩ := (ah J); rw [hv_]; obtain ⟨_, _, hv_, _⟩ := (ah H); rw [hv_]; kernel_rfl) ?_)))))
replace b := b.ag
obtain ⟨m4, h5, b⟩ := b.bx [U1 4, U6 a2.ID.Session, U6 a2.ID.Seq, I6 g, U6 a2.Epoch, U6 a1, j, k] sizeOf35 z (oJ 6 z (oC (oS (ah H)) (oC (oS (ah J)) oN))) (by kernel_rfl)
refine aE z z (aG h5) (ab (tn (wp_ret ?_)))
replace b := aO b.au
obtain rfl := sj c
exact aZ [.agg #[U1 4, U6 a2.ID.Session, U6 a2.ID.Seq, I6 g, U6 a2.Epoch, U6 a1, j, k]] results50 (bq (bJ (cs := [U1 4, U6 a2.ID.Session, U6 a2.ID.Seq, I6 g, U6 a2.Epoch, U6 a1, j, k]) z isAgg35 sizeOf35 (b.eK 0 z)) ai) ⟨_, j, k, z, p, H, J, b.bu⟩
}
}
}
}
}
}
theorem kx {a0 : (List bC)} {b : Value} {a1 a2 : Int} (a : St w0 w I [bg aM b a0] R) {r : (List bC)} (d : dt a0 a1 a2 = some r) :
  Calls prog 52 #[b, I6 a1, I6 a2] w fun e w' => ∃ (f : Value), e = .returned (f) ∧ St w0 w' I [bg aM f r] R := by {
unfold dt at d
obtain ⟨hg, d⟩ := cz d
obtain rfl := sj d
obtain ⟨g, o, q⟩ := sw hg
obtain ⟨j, rfl⟩ := Int.eq_ofNat_of_zero_le (Int.le_trans g o)
obtain ⟨k, rfl⟩ := Int.eq_ofNat_of_zero_le g
have hkj : k ≤ j := by omega
have hs : ∀ w : World, (sizeOf 89).run prog w = .ok aM.sz w := sizeOf89
obtain ⟨css, hr, a⟩ := a.cB
obtain ⟨n, hn⟩ : ∃ n, css.length = n := ⟨_, rfl⟩
have hln : a0.length = n := hr.1.trans hn
have hjn : j ≤ n := by omega
have hsv : di b n := by have := a.cG.2; rwa [hn] at this
have hoc := hr.sY
refine c0 func52 z ntmps52 (wp_seq (wrl (mv ((.slice none 0 0)) z (ab (tn (wp_seq (wrl (mv (b) z (mi z (mi z (mv (b) z (mz (bZ z underlying65 hsv) (Ek z z (yz underlying65 hs z hsv z z z hkj hjn) fun s => ab (tn (wp_seq (wp_seq (wrl (mi z (mi z (mb z (ab (tn (iw ((k : Int) == (j : Int)) (fun c => ?_) (fun c => ?_))))))))))))))))))))))))
{
refine ar (cvb c) (wp_seq (wrl (mv (b) z (mv (b) z (ab (tn (wp_ret (aN (aZ [b] results52 (rc z ai) ?_)))))))))
rw [zV c]
exact ⟨_, z, (a.bh hr).bu⟩
}
{
refine ak (cvb c) ?_
have hne : ¬ ((k : Int) = (j : Int)) := by simpa using c
have hlt : k < j := by omega
refine wp_skip (tn (wp_seq (wrl (mv (b) z (mz (bZ z underlying65 hsv) (mi z (ab (tn (wp_seq (rg a 8 [0, 0, 3, 0, 0, 24, 63, 127] [7] mixed (sz (b) 0 z z (si 1 z z (sh ((dl aM.sz b 0 k)) 2 z (fun w a => cE (lo := (0 : Nat)) (hi := (k : Nat)) underlying65 hs z hsv (by omega) (by omega) (by omega) .i64 .i64 (.inr ⟨z, z⟩) (.inl z)) (sz (b) 3 z z (si 4 z z (sh ((dl aM.sz b j n)) 5 z (fun w a => cE (lo := (j : Nat)) (hi := (n : Nat)) underlying65 hs z hsv (by omega) (by omega) (by omega) .i64 .i64 (.inl z) (.inr ⟨z, z⟩)) (e1 6 z z fun w a => ?_)))))))))))))))))
obtain ⟨p, hra, a⟩ := vH (P := prog) underlying65 hs a hn hlt hjn hoc 65
refine bW (v := (dl aM.sz b 0 (k + (n - j)))) (w' := p) z (bX z z hra) ?_
have hnl := (show _ from a)
clear hnl
have i : (css.take k ++ (css.drop j ++ css.drop (k + (n - j)))).length = n := by simp only [List.length_append, List.length_take, List.length_drop]; omega
have hsm := Ak a i (m := (k + (n - j))) (by omega)
refine w0n a (e1 7 z z fun w a => bW (v := (dl aM.sz b 0 (k + (n - j)))) (w' := w) z z (w0n a (bp ?_)))
intro w a
refine tn (wp_seq (wrl (mv ((dl aM.sz b 0 (k + (n - j)))) z (mv ((dl aM.sz b 0 (k + (n - j)))) z (mz (bZ z underlying65 hsm) (mi z (mv ((dl aM.sz b (k + (n - j)) n)) (xb underlying65 hs z hsv z z (by omega) (by omega)) ?_)))))))
obtain ⟨t, hrc, a⟩ := wU sE z (nH (by kernel_rfl)) a i (m := (k + (n - j))) (by omega) 0
refine AN z z (Ah z hrc) (ab (tn (wp_seq (wrl (mv ((dl aM.sz b 0 (k + (n - j)))) z (mv ((dl aM.sz b 0 (k + (n - j)))) z (ab (tn (wp_ret (aZ [(dl aM.sz b 0 (k + (n - j)))] results52 (rc z ai) ?_))))))))))
replace a := a.ib (l := 0) (h := (k + (n - j))) (Nat.zero_le _) (by simp only [List.length_append, List.length_take, List.length_drop, List.length_replicate]; omega)
rw [yr hn hlt hjn (List.length_replicate ..)] at a
exact ⟨_, z, (a.bh ((hr.take k).app (hr.drop j))).bu⟩
}
}
theorem nC {a0 : (Option cA)} {p0 : Value} {a1 a2 : Int} (b : St w0 w I [cF cO p0 a0] R) {r : (Bool × (Option cA))} (c : eS a0 a1 a2 = some r) :
  Calls prog 54 #[p0, U6 a1, U6 a2] w fun e w' => e = .returned (.bool r.1) ∧ St w0 w' I [cF cO p0 r.2] R := by {
rcases a0 with _ | j
{
dsimp only [eS] at c
cases c
}
{
replace b := bH b
dsimp only [eS] at c
refine c0 func54 z ntmps54 (wp_seq (wrl (mb z (ab (tn (wp_seq (wp_seq (wrl (mv (p0) z ?_)))))))))
obtain ⟨h, E, rfl, x⟩ := eH b
have b := x
refine mk (.bool false) (ab (tn (ak z (wp_skip (tn (wp_seq (wrl (mb z (ab (tn (wp_seq (wp_seq (wrl (mp z (mp z (mf z underlying209 z sizeOf207 (ml z isAgg207 (b.bc0 z) (mz (bZ z underlying207 b.sv1) (mi z (ab (tn (wp_block ?_))))))))))))))))))))))
replace b := dc (Pt h 0) j b.ag.ag z
obtain ⟨A, c⟩ := aX c
refine bm (fun n a w => ∃ (f : cA) (g : Int) (i : Bool), cT (fq j a1 a2) n (f, g, i) = some r ∧ fz 52 [0, 1, 2, 7, 15, 16] [Pt h 0, U6 a1, U6 a2, .bool i, I6 ((j.l).length : Int), I6 g] a ∧ St w0 w I [cO (Pt h 0) f] R) A ⟨j, 0, false, c, fy z, b⟩ ?_
rintro F _ G ⟨f, g, i, c, ⟨H, rfl⟩, b⟩
obtain ⟨J, K, rfl, c, k⟩ := ba c
dsimp only [fq] at c
refine wp_seq (wrl (mb z (ab (tn (wp_seq (bs c ?_ ?_))))))
{
intro m c
refine ar (cvb m) (wp_skip (tn (wp_seq (wp_block (wp_seq (wrl (mi z (mi z (ab (tn (wp_seq (wrl (mp z ?_)))))))))))))
obtain ⟨L, M, o, B⟩ := eH b
replace o := dI o
subst o
have b := B
refine mp z (mf z underlying209 z sizeOf207 (ml z isAgg207 (b.bc0 z) (mi z ?_)))
obtain ⟨p, C, c⟩ := bn c
obtain ⟨q, s, u⟩ := aP C
refine mz (aC z z underlying207 sizeOf224 b.sv1 q s) (mz (aW z underlying224 z sizeOf39 z) (mz (aW z underlying39 z sizeOf26 z) (ml z isAgg26 (b.ol1 u (by rintro _ rfl; rfl)) (mi z (mb z (mb z (bs c ?_ ?_)))))))
{
intro d c
refine gp d z (gp d z (gg d (aT z underlying209 z sizeOf207 z) (gg d (aq z isAgg207 (b.bc0 z)) (gi d z (gg d (aC z z underlying207 sizeOf224 b.sv1 q s) (gg d (aW z underlying224 z sizeOf26 z) (gg d (aq z isAgg26 (b.ol1 u (by rintro _ rfl; rfl))) (gb d z (mb (aS d z z) (ab (tn (bs c ?_ ?_))))))))))))
{
intro v c
refine ar (cvb v) (wrl (mp z (mp z (mf z underlying209 z sizeOf207 (ml z isAgg207 (b.bc0 z) (mi z (mi z (mk (.int .u64 (if 1 > a2 then 1 else a2)) (mz (aC z z underlying207 sizeOf224 b.sv1 q s) (mz (aW z underlying224 z sizeOf26 z) ?_))))))))))
replace b := b.ag
obtain ⟨N, D, b⟩ := b.oi (P := prog) (t := 26) (y := ({ p with to_ := (if 1 > a2 then 1 else a2) } : dg)) u 8 (.int .u64 (if 1 > a2 then 1 else a2)) sizeOf26 (Nat.le_of_ble_eq_true z) (oC z oN) (by rintro _ rfl; rfl)
refine aE z z (aG D) (mb z (ab (bF (tn (wrl (mi z (mi z (ab (tn ?_)))))))))
replace b := (dc (Pt h 0) (({ l := (f.l.set g.toNat ({ p with to_ := (if 1 > a2 then 1 else a2) } : dg)) } : cA)) b.ag z).bu
obtain rfl := sj c
exact ⟨_, nls, ({ l := (f.l.set g.toNat ({ p with to_ := (if 1 > a2 then 1 else a2) } : dg)) } : cA), (i64.wrap (g + 1)), true, k, fy z, b⟩
}
{
intro v c
refine ak (cvb v) (wp_skip (bF (tn (wrl (mi z (mi z (ab (tn ?_))))))))
replace b := (dc (Pt h 0) f b.ag.ag z).bu
obtain rfl := sj c
exact ⟨_, nls, f, (i64.wrap (g + 1)), i, k, fy z, b⟩
}
}
{
intro d c
refine go d (go d (go d (go d (go d (go d (go d (go d (go d (mb (aJ d z z) (ab (tn (ak z (wp_skip (bF (tn (wrl (mi z (mi z (ab (tn ?_))))))))))))))))))))
replace b := (dc (Pt h 0) f b.ag.ag z).bu
obtain rfl := sj c
exact ⟨_, nls, f, (i64.wrap (g + 1)), i, k, fy z, b⟩
}
}
{
intro m c
refine ak (cvb m) (wp_exit (aV (aV ?_)))
replace c := bo c k
refine de (tn (wp_seq (wrl (mb z (mb z (ab (tn (wp_ret ?_))))))))
replace b := aO b
obtain rfl := sj c
exact aZ [.bool i] results54 (rc z ai) ⟨z, b.bu⟩
}
}
}
theorem rp {a0 : (Option cA)} {p0 : Value} {a1 : du} {a2 : Int} (a : St w0 w I [cF cO p0 a0] R) {r : ((Option cA))} (b : fT a0 a1 a2 = some r) :
  Calls prog 53 #[p0, .agg #[U6 a1.ID, I6 a1.From, I6 a1.To, F6 a1.Lo, F6 a1.Hi, U6 a1.Authority, I6 a1.Quota], U6 a2] w fun e w' => e = .returned (.tuple #[]) ∧ St w0 w' I [cF cO p0 r] R := by {
rcases a0 with _ | h
{
dsimp only [fT] at b
cases b
}
{
replace a := bH a
dsimp only [fT] at b
refine c0 func53 z ntmps53 (wp_seq (wrl ?_))
obtain ⟨D, F, i, j, a⟩ := a.box [U6 a1.ID, I6 a1.From, I6 a1.To, F6 a1.Lo, F6 a1.Hi, U6 a1.Authority, I6 a1.Quota] 39
refine wa i j (ab (tn (wp_seq (wp_seq (wrl (mv (p0) z ?_))))))
obtain ⟨c, G, rfl, k⟩ := eH a.ag
have a := k
refine mk (.bool false) (ab (tn (ak z (wp_skip (tn (wp_seq (wrl (mp z (mf z underlying39 z sizeOf26 (ml z isAgg26 (a.bc2 z) (mi z ?_)))))))))))
replace a := aO (dc (Pt c 0) h a.ag.ag z)
obtain ⟨m, n, b⟩ := bn b
refine wc call54 [Pt c 0, U6 a1.ID, U6 a2] z z z ((nC a.to1 n).mono ?_)
rintro _ H ⟨rfl, a⟩
refine ⟨_, z, ?_⟩
replace a := a.of1
rcases g : m.2 with _ | o
· rw [g] at b; cases b
rw [g] at b a; dsimp only at b; replace a := bH a
refine ab (tn ?_)
obtain ⟨J, K, d, p⟩ := eH a
replace d := dI d
subst d
have a := p
refine rg a 13 [0, 0, 2, 6, 14, 0, 0, 96, 224, 510, 1023, 2047, 4095] [] mixed (sp 0 z z (sp 1 z z (sp 2 z z (sf 3 z z underlying209 z sizeOf207 (sl 4 z z isAgg207 (fun w a => a.bc0 z) (sh _ 5 z (fun w a => ay (cs := [U6 a1.ID, I6 a1.From, I6 a1.To, F6 a1.Lo, F6 a1.Hi, U6 a1.Authority, I6 a1.Quota]) z isAgg39 sizeOf39 (a.pR 0 z)) (si 6 z z (sk (.agg #[U6 a1.ID, I6 a1.From, I6 a1.To, F6 a1.Lo, F6 a1.Hi, U6 a1.Authority, I6 a1.Quota, U6 a2, Zu]) 7 z (e1 8 z z fun w a => ?_)))))))))
obtain ⟨q, s, u, x, a⟩ := a.ey (E := jk) (xs := [({ r := a1, from_ := a2, to_ := 0 } : dg)]) [[U6 a1.ID, I6 a1.From, I6 a1.To, F6 a1.Lo, F6 a1.Hi, U6 a1.Authority, I6 a1.Quota, U6 a2, Zu]] 224 1 z (bE.cons z bE.nil)
refine bW (v := (.slice (some ⟨q, 0, none⟩) 1 1)) (w' := s) z (dn (by kernel_rfl) u x) (wn [4, 3, 2, 1, 0] a (pkr z z (fun w a => aq z isAgg207 (a.bc1 z)) (pf z z underlying209 z sizeOf207 (pz (pz (pz bD))))) (e1 9 z z fun w a => ?_))
obtain ⟨y, b⟩ := cz b
replace a := a.aA
obtain ⟨f, A, B, a⟩ := bI Ct underlying207 a a.ju (cK y z) 207
refine bW (v := f) (w' := A) z (bX z z B) (wn [0] a (pz bD) (sp 10 z z (sf 11 z z underlying209 z sizeOf207 (e1 12 z z fun w a => ?_))))
replace a := a.aA
obtain ⟨L, C, a⟩ := a.cW (P := prog) (t := 207) (cs' := [f]) 0 f (oS a.sv1) sizeOf207 z z
refine dz z (aG C) (w0n a (bp ?_))
intro w a
replace a := aO (dc (Pt c 0) (({ l := (o.l ++ ([({ r := a1, from_ := a2, to_ := 0 } : dg)])) } : cA)) a.ag.ag z)
obtain rfl := sj b
exact vM (vs := []) results53 ai ⟨z, a.bu⟩
}
}
theorem nU {a0 : cn} {a1 : Int} (a : St w0 w I [] R) {r : (Int)} (b : ik a0 a1 = some r) :
  Calls prog 133 #[.agg #[U6 a0.jT, U6 a0.epoch, I6 a0.n], U6 a1] w fun e w' => e = .returned (.int .i64 r) ∧ St w0 w' I [] R := by {
unfold ik at b
refine c0 func133 z ntmps133 (wp_seq (wrl ?_))
obtain ⟨h, i, c, d, a⟩ := a.box [U6 a0.jT, U6 a0.epoch, I6 a0.n] 189
refine wa c d (mi z (ab (tn (wp_seq (wrl (mf z underlying189 z sizeOf26 (ml z isAgg26 (a.bc0 z) (mi z ?_))))))))
obtain ⟨f, g, b⟩ := bn b
refine wc call131 [U6 a0.jT, U6 a1] z z z ((eZ a.to0 g).mono ?_)
rintro _ j ⟨rfl, a⟩
refine ⟨_, z, ?_⟩
replace a := a.of0
refine mi z (ab (tn (wp_ret ?_)))
obtain rfl := sj b
exact aZ [I6 f] results133 (rc z ai) ⟨z, a.bU⟩
}
theorem mn {a0 : (List cn)} {d : Value} {a1 : Int} {a2 : (List cn)} {g : Value} (c : St w0 w I [bg cJ d a0, bg cJ g a2] R) {r : (List cn)} (q : dM a0 a1 a2 = some r) :
  Calls prog 134 #[d, I6 a1, g] w fun e w' => ∃ (x : Value), e = .returned (x) ∧ St w0 w' I [bg cJ x r] R := by {
unfold dM at q
obtain ⟨hg, q⟩ := cz q
obtain rfl := sj q
obtain ⟨A, S, hrm⟩ := qJ hg
obtain ⟨k, rfl⟩ := Int.eq_ofNat_of_zero_le A
have hsm := qM hrm
have hk : k ≤ a0.length := by omega
have hs : ∀ w : World, (sizeOf 189).run prog w = .ok cJ.sz w := sizeOf189
have y : 0 < cJ.sz := Nat.le_of_ble_eq_true rfl
have hov : ∀ (args : Array Value) (w : World), (callFunc 191 args).run prog w = (Extern.SlicesOverlaps.overlaps #[109, 109] #[4] args >>= fun v => (pure (.value v) : Sem Next)).run prog w := by intro args w; kernel_rfl
obtain ⟨css, hr, c⟩ := c.cB
replace c := c.ag
obtain ⟨dss, hq, c⟩ := c.cB
replace c := c.ag
obtain ⟨n, hn⟩ : ∃ n, css.length = n := ⟨_, rfl⟩
obtain ⟨m, hm'⟩ : ∃ m, dss.length = m := ⟨_, rfl⟩
have hln : a0.length = n := hr.1.trans hn
have hlm : a2.length = m := hq.1.trans hm'
rw [hln] at hsm hk
rw [hlm] at hsm
have hsv : di d n := by have := c.cG.2; rwa [hn] at this
have hsq : di g m := by have := c.ag.cG.2; rwa [hm'] at this
have hoc := hr.sY
have hoq := hq.sY
have s := wrap_add (a := n) (b := m) (by omega)
have t := wrap_add (a := k) (b := m) (by omega)
have B := pC (a := n + m) (b := k) (by omega) (by omega)
have hrb := cK (b := 24) hrm rfl
rw [hln, hlm] at hrb
refine c0 func134 z ntmps134 (wp_seq (wrl (mv ((.slice none 0 0)) z (ab (tn (wp_seq (wrl (mv (d) z (mi z (mv ((dl cJ.sz d k n)) (cE (lo := (k : Nat)) (hi := (n : Nat)) underlying109 hs z hsv (by omega) (by omega) (by omega) .i64 .i64 (.inl z) (.inr ⟨z, z⟩)) (ab (tn (wp_seq (wrl (mv (g) z (mz (bZ z underlying109 hsq) (mi z (ab (tn (wp_seq (wp_seq (wrl (mi z (mb z (ab (tn (iw ((m : Int) == 0) (fun j => ?_) (fun j => ?_))))))))))))))))))))))))))))
{
refine ar (cvb j) (wp_seq (wrl (mv (d) z (mv (d) z (ab (tn (wp_ret (aN (aZ [d] results134 (rc z ai) ?_)))))))))
rw [sD (by rw [hlm]; exact j)]
exact ⟨_, z, (c.bh hr).bu⟩
}
{
refine ak (cvb j) ?_
have C : m ≠ 0 := fun h => by rw [h] at j; cases j
have D : dss ≠ [] := fun h => C (by rw [← hm', h]; rfl)
refine wp_skip (tn (wp_seq (wrl (mv (d) z (mz (bZ z underlying109 hsv) (mi z (ab (tn (wp_seq (wp_seq (wrl (mi z (mi z (mb z (ab (tn (iw ((k : Int) == (n : Int)) (fun o => ?_) (fun o => ?_))))))))))))))))))
{
refine ar (cvb o) (wp_seq (wrl (mv (d) z (mv (g) z ?_))))
replace c := ((c.bh hr).ag.bh hq).ag
obtain ⟨f, u, hra, c⟩ := bI yW underlying109 c c.ju (cK hrm z) 109
refine cb (v := f) (w' := u) z z (bX z z hra) (mv (f) z (ab (tn (wp_ret (aN (aZ [f] results134 (rc z ai) ?_))))))
rw [sK (by rw [hln]; exact o)]
exact ⟨_, z, c.bu⟩
}
{
refine ak (cvb o) ?_
have hkn : k ≠ n := fun h => by rw [h] at o; simp at o
have E : 0 < n := by omega
have F : css ≠ [] := fun h => by rw [h] at hn; simp at hn; omega
refine wp_skip (tn (wp_seq (wp_seq (wrl (mi z (mi z (mi (dy s z) (mv (d) z (mi (xa z underlying109 hsv) (mb z (ab (tn (iw (decide (((n + m : Nat) : Int) > (qL d : Int))) (fun p => ?_) (fun p => ?_))))))))))))))
{
refine ar (cvb p) (wp_seq (wrl (mv (d) z (mi z (mv ((dl cJ.sz d 0 k)) (cE (lo := (0 : Nat)) (hi := (k : Nat)) underlying109 hs z hsv (by omega) (by omega) (by omega) .i64 .i64 (.inr ⟨z, z⟩) (.inl z)) (mi z (mi z (mi (dy s z) (mi z (mi (dy B z) ?_))))))))))
obtain ⟨f, u, hra, i, zss, hzl, c⟩ := qI yW underlying3 c k (n + m - k) (by omega) (by have := of_decide_eq_true p; omega) (by rw [show k + (n + m - k) = n + m by omega]; exact hrb) y 109
rw [show k + (n + m - k) = n + m by omega] at i
refine cb (v := f) (w' := u) z z (bX z z hra) (mv (f) z (ab (tn (wp_seq (wrl (mv (f) z (mi z (mv ((dl cJ.sz f k (n + m))) (cE (lo := (k : Nat)) (hi := ((n + m) : Nat)) underlying109 hs z i (by omega) (by omega) (by omega) .i64 .i64 (.inl z) (.inr ⟨z, z⟩)) (mv (g) z ?_)))))))))
obtain ⟨G, H, c⟩ := dk (P := prog) (t2 := 109) (ty := 3) underlying109 hs c c.aA k m (N := n + m) (by first | omega | (simp only [List.length_append, List.length_take, List.length_drop]; omega)) (by first | omega | (simp only [List.length_append, List.length_take, List.length_drop]; omega)) (by omega) (by first | omega | (simp only [List.length_append, List.length_take, List.length_drop]; omega)) (dV hoq _)
refine cb (v := .int .i64 (m : Nat)) (w' := G) z z (iF z z H) (ab (tn (wp_seq (rg c 9 [0, 0, 0, 6, 15, 0, 0, 96, 255] [] mixed (sz (f) 0 z z (si 1 z z (si 2 z z (sh (I6 _) 3 z (fun w c => dy t z) (sh ((dl cJ.sz f (k + m) (n + m))) 4 z (fun w c => cE (lo := ((k + m) : Nat)) (hi := ((n + m) : Nat)) underlying109 hs z i (by omega) (by omega) (by omega) .i64 .i64 (.inl z) (.inr ⟨z, z⟩)) (sz (d) 5 z z (si 6 z z (sh ((dl cJ.sz d k n)) 7 z (fun w c => cE (lo := (k : Nat)) (hi := (n : Nat)) underlying109 hs z hsv (by omega) (by omega) (by omega) .i64 .i64 (.inl z) (.inr ⟨z, z⟩)) (e1 8 z z fun w c => ?_)))))))))))))
obtain ⟨J, K, c⟩ := dk (P := prog) (t2 := 109) (ty := 3) underlying109 hs c (c.ag.ib (l := k) (h := n) hk (by omega)) (k + m) (n - k) (N := n + m) (by first | omega | (simp only [List.length_append, List.length_take, List.length_drop]; omega)) (by first | omega | (simp only [List.length_append, List.length_take, List.length_drop]; omega)) (by omega) (by first | omega | (simp only [List.length_append, List.length_take, List.length_drop]; omega)) (dV (iW (dV hoc _) _) _)
refine bW (v := .int .i64 ((n - k) : Nat)) (w' := J) z (iF z z K) (w0n c (bp ?_))
intro w c
refine tn (wp_seq (wrl (mv (f) z (mv (f) z (ab (tn (wp_ret (aN (aZ [f] results134 (rc z ai) ?_)))))))))
rw [pw hn hm' hk hzl] at c
exact ⟨_, z, (c.bh ((hr.take k).app (hq.app (hr.drop k)))).bu⟩
}
{
refine ak (cvb p) ?_
have hup : n + m ≤ qL d := by have := of_decide_eq_false p; omega
obtain ⟨ess, hel, hem, hst'⟩ := c.uE (n + m) (by omega) hup F
rw [show n + m - css.length = m by omega] at hel
have i : di (upV d (n + m)) (n + m) := by have := hst'.cG.2; rwa [List.length_append, hn, hel] at this
clear c
have c := hst'
clear hst'
refine wp_skip (tn (wp_seq (wrl (mv (d) z (mi z (mi z (mi (dy s z) (mv ((upV d (n + m))) (pj underlying109 hs z hsv z hup E) (mv ((upV d (n + m))) z (ab (tn (wp_seq (wp_seq (wrl (mv (g) z (mv ((upV d (n + m))) z (mi z (mi z (mi (dy t z) (mv ((dl cJ.sz (upV d (n + m)) (k + m) (n + m))) (cE (lo := ((k + m) : Nat)) (hi := ((n + m) : Nat)) underlying109 hs z i (by omega) (by omega) (by omega) .i64 .i64 (.inl z) (.inr ⟨z, z⟩)) (mb (wZ z z z (hov _) (mj z underlying109 hs c.ag (k + m) (N := n + m) (by rw [List.length_append]; omega) (by omega) D y)) (mb z (ab (tn (ar z (wp_seq (rg c 9 [0, 0, 0, 6, 15, 0, 0, 96, 255] [] mixed (sz ((upV d (n + m))) 0 z z (si 1 z z (si 2 z z (sh (I6 _) 3 z (fun w c => dy t z) (sh ((dl cJ.sz (upV d (n + m)) (k + m) (n + m))) 4 z (fun w c => cE (lo := ((k + m) : Nat)) (hi := ((n + m) : Nat)) underlying109 hs z i (by omega) (by omega) (by omega) .i64 .i64 (.inl z) (.inr ⟨z, z⟩)) (sz ((upV d (n + m))) 5 z z (si 6 z z (sh ((dl cJ.sz (upV d (n + m)) k (n + m))) 7 z (fun w c => cE (lo := (k : Nat)) (hi := ((n + m) : Nat)) underlying109 hs z i (by omega) (by omega) (by omega) .i64 .i64 (.inl z) (.inr ⟨z, z⟩)) (e1 8 z z fun w c => ?_))))))))))))))))))))))))))))))))))))
obtain ⟨L, M, c⟩ := dk (P := prog) (t2 := 109) (ty := 3) underlying109 hs c (c.ib (l := k) (h := n + m) (by omega) (by rw [List.length_append]; omega)) (k + m) (n - k) (N := n + m) (by first | omega | (simp only [List.length_append, List.length_take, List.length_drop]; omega)) (by first | omega | (simp only [List.length_append, List.length_take, List.length_drop]; omega)) (by omega) (by first | omega | (simp only [List.length_append, List.length_take, List.length_drop]; omega)) (by rw [qq hn hm' hk hel]; exact iW hoc _)
refine bW (v := .int .i64 ((n - k) : Nat)) (w' := L) z (iF z z M) (w0n c (bp ?_))
intro w c
refine tn (wp_seq (wrl (mv ((upV d (n + m))) z (mi z (mv ((dl cJ.sz (upV d (n + m)) k (n + m))) (cE (lo := (k : Nat)) (hi := ((n + m) : Nat)) underlying109 hs z i (by omega) (by omega) (by omega) .i64 .i64 (.inl z) (.inr ⟨z, z⟩)) (mv (g) z ?_))))))
obtain ⟨O, Q, c⟩ := dk (P := prog) (t2 := 109) (ty := 3) underlying109 hs c c.ag k m (N := n + m) (by first | omega | (simp only [List.length_append, List.length_take, List.length_drop]; omega)) (by first | omega | (simp only [List.length_append, List.length_take, List.length_drop]; omega)) (by omega) (by first | omega | (simp only [List.length_append, List.length_take, List.length_drop]; omega)) (dV hoq _)
refine cb (v := .int .i64 (m : Nat)) (w' := O) z z (iF z z Q) (ab (tn (wp_seq (wrl (mv ((upV d (n + m))) z (mv ((upV d (n + m))) z (ab (tn (wp_ret (aN (aZ [(upV d (n + m))] results134 (rc z ai) ?_)))))))))))
rw [pu hn hm' hk hel] at c
exact ⟨_, z, (c.bh ((hr.take k).app (hq.app (hr.drop k)))).bu⟩
}
}
}
}
theorem xY {a0 : bR} {f : Value} {a1 : Int} (o : Rd (cp .u8) R I f a0.Val) (b : St w0 w I [] R) {r : (bR)} (c : rU a0 a1 = some r) :
  Calls prog 17 #[.agg #[F6 a0.At, .bool a0.Del, f], I6 a1] w fun e w' => ∃ (j : Value), e = .returned (.agg #[F6 r.At, .bool r.Del, j]) ∧ St w0 w' I [bg (cp .u8) j r.Val] R := by {
unfold rU at c
refine c0 func17 z ntmps17 (wp_seq (wrl ?_))
obtain ⟨l, D, p, q, b⟩ := b.box [F6 a0.At, .bool a0.Del, f] 41
refine wa p q ?_
obtain ⟨m, E, s, t, b⟩ := b.box [Zf, .bool false, Zs] 41
refine wa s t (ab (tn (wp_seq (wrl (mi z (mk (.int .i64 (if 0 > a1 then 0 else a1)) ?_))))))
obtain ⟨u, c⟩ := cz c
obtain ⟨g, x, y, b⟩ := run_mk (k := .i64) (k' := .i64) (zm := 0) uV b u (by decide) z
refine cb (v := g) (w' := x) z z (Fc z z y) (mv (g) z (ab (tn (wp_seq (wrl (mv (g) z (mf z underlying41 z sizeOf22 (ml z isAgg22 (b.bc2 z) ?_))))))))
obtain ⟨A, B, b⟩ := yA (P := prog) (t2 := 22) (ty := 3) underlying22 sizeOf5 b (Src.rf b o mO)
refine cb (v := .int .i64 ((min (a0.Val).length ((List.replicate (Int.toNat (if 0 > a1 then 0 else a1)) 0)).length : Nat) : Int)) (w' := A) z z (iF z z B) (ab (tn ?_))
obtain ⟨F, c, n⟩ := bn c
refine cU (fun a w => ∃ (h : (List Int)) (d : Value), (qi a0) h = some r ∧ fz 21 [2, 4, 5] [Pt l 0, Pt m 0, d] a ∧ St w0 w I [cells l [F6 a0.At, .bool a0.Del, f], cells m [Zf, .bool false, Zs], bg (cp .u8) d h] R) ?_ ?_
{
refine wp_seq (wrl (mf z underlying41 z sizeOf4 (ml z isAgg4 (b.bc2 z) (ab (tn (bs c ?_ ?_))))))
{
intro i c
refine ar (cvb i) (wrl (mv ((.slice none 0 0)) z (ab (tn ?_))))
replace b := (b.bd (cp .u8)).aA.au.dF
obtain rfl := sj c
exact ⟨([]), Zs, n, fy z, b⟩
}
{
intro i c
refine ak (cvb i) (wp_skip (tn ?_))
replace b := b.ag.aA.dF
obtain rfl := sj c
exact ⟨(cpy (List.replicate (Int.toNat (if 0 > a1 then 0 else a1)) 0) a0.Val), g, n, fy z, b⟩
}
}
{
rintro _ G ⟨h, d, c, ⟨H, rfl⟩, b⟩
dsimp only [qi] at c
refine wp_seq (wrl (mf z underlying41 z sizeOf37 (ml z isAgg37 (b.bc0 z) (mf z underlying41 z sizeOf4 (ml z isAgg4 (b.bc0 z) (mv (d) z (wv (.agg #[F6 a0.At, .bool a0.Del, d]) z z (by obtain ⟨_, _, hv_, _⟩ := b.sv2; rw [hv_]; kernel_rfl) ?_)))))))
replace b := b.ag
obtain ⟨J, C, b⟩ := b.bx [F6 a0.At, .bool a0.Del, d] sizeOf41 z (oJ 2 z (oC (oS b.sv2) oN)) (by kernel_rfl)
refine aE z z (aG C) (ab (tn (wp_ret ?_)))
obtain rfl := sj c
refine aZ [.agg #[F6 a0.At, .bool a0.Del, d]] results17 (bq (bJ (cs := [F6 a0.At, .bool a0.Del, d]) z isAgg41 sizeOf41 (b.eF 0 z)) ai) ?_
replace b := b.aA
exact ⟨d, z, b.bu⟩
}
}
theorem td {a0 : (Option ae)} {p0 : Value} {a1 : Int} {a2 : aH} {B C D F G H J K : Value} (t1 : Rd bY R I B a2.Hold.Gets) (t2 : Rd gB R I C a2.Hold.Scans) (t3 : Rd bY R I D a2.Hold.Puts) (t4 : Rd (cp .u8) R I F a2.Hold.Data) (d0 : Rd cI R I G a2.Writes) (t5 : Rd aD R I H a2.R.Gots) (t6 : Rd (dJ az) R I J a2.R.Scans) (t7 : Rd cM R I K a2.Parts) (b : St w0 w I [cF aI p0 a0] R) {r : (bj × (Option ae))} (c : iC a0 a1 a2 = some r) :
  Calls prog 55 #[p0, U6 a1, .agg #[U1 a2.Kind, U6 a2.ID.Session, U6 a2.ID.Seq, U6 a2.Epoch, U6 a2.Index, I6 a2.E, U6 a2.Hold.ID.Session, U6 a2.Hold.ID.Seq, U6 a2.Hold.Epoch, B, C, D, F, G, I6 a2.R.E, U6 a2.R.Epoch, U6 a2.R.Index, H, J, U6 a2.Shards, K, U6 a2.Rule.ID, I6 a2.Rule.From, I6 a2.Rule.To, F6 a2.Rule.Lo, F6 a2.Rule.Hi, U6 a2.Rule.Authority, I6 a2.Rule.Quota, .bool a2.On]] w fun e w' => ∃ (I' : HL) (g2 : Value) (g3 : Value), e = .returned (.agg #[U1 r.1.Kind, U6 r.1.ID.Session, U6 r.1.ID.Seq, I6 r.1.R.E, U6 r.1.R.Epoch, U6 r.1.R.Index, g2, g3]) ∧ I.le I' ∧ Ro aD I' g2 r.1.R.Gots ∧ Ro (dJ az) I' g3 r.1.R.Scans ∧ St w0 w' I' [cF aI p0 r.2] R := by {
rcases a0 with _ | d
{
dsimp only [iC] at c
cases c
}
{
replace b := bH b
dsimp only [iC] at c
refine c0 func55 z ntmps55 ?_
have Q := HL.le.refl I
refine wp_seq (wrl ?_)
obtain ⟨q, t8, i5, i6, b⟩ := b.box [U1 a2.Kind, U6 a2.ID.Session, U6 a2.ID.Seq, U6 a2.Epoch, U6 a2.Index, I6 a2.E, U6 a2.Hold.ID.Session, U6 a2.Hold.ID.Seq, U6 a2.Hold.Epoch, B, C, D, F, G, I6 a2.R.E, U6 a2.R.Epoch, U6 a2.R.Index, H, J, U6 a2.Shards, K, U6 a2.Rule.ID, I6 a2.Rule.From, I6 a2.Rule.To, F6 a2.Rule.Lo, F6 a2.Rule.Hi, U6 a2.Rule.Authority, I6 a2.Rule.Quota, .bool a2.On] 49
refine wa i5 i6 ?_
obtain ⟨s, t9, i7, i8, b⟩ := b.box [Zb, Zu, Zu, Zi, Zu, Zu, Zs, Zs] 35
refine wa i7 i8 (ab (tn (wp_seq (wrl (mf z underlying49 z sizeOf33 (mf z underlying33 z sizeOf29 (ml z isAgg29 (b.bc1 z) (mf z underlying49 z sizeOf26 (ml z isAgg26 (b.bc1 z) (mi z (mk (.agg #[I6 a2.R.E, U6 a2.Epoch, U6 a1, Zs, Zs]) ?_)))))))))))
obtain ⟨u, u0, i9, j0, b⟩ := b.box [Zi, Zu, Zu, Zs, Zs] 33
refine wa i9 j0 ?_
obtain ⟨u1, j1, b⟩ := b.bx [I6 a2.R.E, U6 a2.Epoch, U6 a1, Zs, Zs] sizeOf33 z (oJ 5 z oN) (by kernel_rfl)
refine aE z z (aG j1) (ab (tn (wp_seq ?_)))
obtain ⟨g, Y, Z, b0, b1, b2, b3, x, rfl, j2⟩ := bi b.au
have b := j2
refine rg b 13 [0, 1, 3, 7, 0, 16, 48, 127, 255, 511, 511, 1023, 4095] [] mixed (sp 0 z z (sp 1 z z (sf 2 z z underlying111 z sizeOf109 (sl 3 z z isAgg109 (fun w b => b.bc0 z) (sf 4 z z underlying49 z sizeOf39 (sf 5 z z underlying39 z sizeOf26 (sl 6 z z isAgg26 (fun w b => b.uo z) (e1 7 z z fun w b => ?_))))))))
obtain ⟨g4, j3, c⟩ := bn c
refine oy z (dH call132 (caps := []) z (vs := [x, U6 a2.Rule.ID, .func (.func 133) #[] #[]]) z) (Calls.mono (show Calls prog 132 #[x, U6 a2.Rule.ID, .func (.func 133) #[] #[]] _ (fun e w' => ∃ (j : Int) (S : Bool), (j, S) = g4 ∧ e = .returned (.tuple #[I6 j, .bool S]) ∧ St w0 w' I [cells g [I6 d.wide, U6 d.epoch, Y, Z, b0, b1, b2, b3, x], cF cL Y d.store, cF bT Z d.locks, cF cd b0 d.last, cF cO b1 d.book, bg aM b2 d.open_, bg cj b3 d.out, bg cJ x d.used, cells q [U1 a2.Kind, U6 a2.ID.Session, U6 a2.ID.Seq, U6 a2.Epoch, U6 a2.Index, I6 a2.E, U6 a2.Hold.ID.Session, U6 a2.Hold.ID.Seq, U6 a2.Hold.Epoch, B, C, D, F, G, I6 a2.R.E, U6 a2.R.Epoch, U6 a2.R.Index, H, J, U6 a2.Shards, K, U6 a2.Rule.ID, I6 a2.Rule.From, I6 a2.Rule.To, F6 a2.Rule.Lo, F6 a2.Rule.Hi, U6 a2.Rule.Authority, I6 a2.Rule.Quota, .bool a2.On], cells s [Zb, Zu, Zu, Zi, Zu, Zu, Zs, Zs], cells u [I6 a2.R.E, U6 a2.Epoch, U6 a1, Zs, Zs]] R) from ?_) ?_)
{
clear c; have c := j3
refine c0 func132 z ntmps132 (wp_seq (wrl (mi z (mb z (ab (tn (wp_seq (wrl (mv (x) z (mz (bZ z underlying109 b.sv7) (mi z (ab (tn (wp_seq (wrl (mi z (mi z (mi z (ab (tn ?_))))))))))))))))))))
obtain ⟨j4, c, j5⟩ := bn c
refine cU (fun a w => ∃ (U : Int), (jd d a2) U = some g4 ∧ fz 49 [0, 1, 2, 8, 9] [x, U6 a2.Rule.ID, .func (.func 133) #[] #[], I6 ((d.used).length : Int), I6 U] a ∧ St w0 w I [bg cJ x d.used, cells g [I6 d.wide, U6 d.epoch, Y, Z, b0, b1, b2, b3, x], cF cL Y d.store, cF bT Z d.locks, cF cd b0 d.last, cF cO b1 d.book, bg aM b2 d.open_, bg cj b3 d.out, cells q [U1 a2.Kind, U6 a2.ID.Session, U6 a2.ID.Seq, U6 a2.Epoch, U6 a2.Index, I6 a2.E, U6 a2.Hold.ID.Session, U6 a2.Hold.ID.Seq, U6 a2.Hold.Epoch, B, C, D, F, G, I6 a2.R.E, U6 a2.R.Epoch, U6 a2.R.Index, H, J, U6 a2.Shards, K, U6 a2.Rule.ID, I6 a2.Rule.From, I6 a2.Rule.To, F6 a2.Rule.Lo, F6 a2.Rule.Hi, U6 a2.Rule.Authority, I6 a2.Rule.Quota, .bool a2.On], cells s [Zb, Zu, Zu, Zi, Zu, Zu, Zs, Zs], cells u [I6 a2.R.E, U6 a2.Epoch, U6 a1, Zs, Zs]] R) ?_ ?_
{
refine wp_block ?_
obtain ⟨j6, c⟩ := aX c
refine bm (fun n a w => ∃ (T : Int) (L : Int), cT (fJ d a2) n (T, L) = some j4 ∧ fz 49 [0, 1, 2, 8, 9, 10] [x, U6 a2.Rule.ID, .func (.func 133) #[] #[], I6 ((d.used).length : Int), I6 L, I6 T] a ∧ St w0 w I [cells g [I6 d.wide, U6 d.epoch, Y, Z, b0, b1, b2, b3, x], cF cL Y d.store, cF bT Z d.locks, cF cd b0 d.last, cF cO b1 d.book, bg aM b2 d.open_, bg cj b3 d.out, bg cJ x d.used, cells u [I6 a2.R.E, U6 a2.Epoch, U6 a1, Zs, Zs], cells s [Zb, Zu, Zu, Zi, Zu, Zu, Zs, Zs], cells q [U1 a2.Kind, U6 a2.ID.Session, U6 a2.ID.Seq, U6 a2.Epoch, U6 a2.Index, I6 a2.E, U6 a2.Hold.ID.Session, U6 a2.Hold.ID.Seq, U6 a2.Hold.Epoch, B, C, D, F, G, I6 a2.R.E, U6 a2.R.Epoch, U6 a2.R.Index, H, J, U6 a2.Shards, K, U6 a2.Rule.ID, I6 a2.Rule.From, I6 a2.Rule.To, F6 a2.Rule.Lo, F6 a2.Rule.Hi, U6 a2.Rule.Authority, I6 a2.Rule.Quota, .bool a2.On]] R) j6 ⟨((d.used).length : Int), 0, c, fy z, b⟩ ?_
rintro u2 _ u3 ⟨T, L, c, ⟨u4, rfl⟩, b⟩
obtain ⟨u5, u6, rfl, c, d5⟩ := ba c
dsimp only [fJ] at c
refine wp_seq (wp_seq (wrl (mi z (mi z (mb z (ab (tn (bs c ?_ ?_))))))))
{
intro d6 c
refine ar (cvb d6) (wp_skip (tn (wp_block (wp_seq (wrl (mi z (mi z (mi z (mk (.int .u64 (u64.wrap (i64.wrap (L + T)))) (mi (tY (by decide) z z) (mk (.int .i64 (i64.wrap (fw .u64 (u64.wrap (i64.wrap (L + T))) 1))) (mi z (ab (tn (wp_seq (wrl (mv (.func (.func 133) #[] #[]) z (mv (x) z (mi z ?_)))))))))))))))))))
obtain ⟨b4, j7, c⟩ := bn c
obtain ⟨j8, j9, k0⟩ := aP j7
refine mz (aC z z underlying109 sizeOf189 b.sv7 j8 j9) (mz (ay (cs := [U6 b4.jT, U6 b4.epoch, I6 b4.n]) z isAgg189 sizeOf189 (b.Ft k0 0 (by rintro _ rfl; rfl))) (mi z ?_))
obtain ⟨u7, k1, c⟩ := bn c
refine dj z z (dH call133 (caps := []) z (vs := [.agg #[U6 b4.jT, U6 b4.epoch, I6 b4.n], U6 a2.Rule.ID]) z) ((nU b.to0 k1).mono ?_)
rintro _ u9 ⟨rfl, b⟩
refine ⟨_, z, ?_⟩
replace b := b.of0
refine mb z (ab (tn (bs c ?_ ?_)))
{
intro d7 c
refine ar (cvb d7) (wrl (mi z (mi z (mi z (ab (bF (tn ?_)))))))
replace b := b.bz.bz.bz.bz.bz.bz.bz.bz.bz.bz.bz.vf
obtain rfl := sj c
exact ⟨_, nls, T, (i64.wrap ((i64.wrap (fw .u64 (u64.wrap (i64.wrap (L + T))) 1)) + 1)), d5, fy z, b⟩
}
{
intro d7 c
refine ak (cvb d7) (wrl (mi z (mi z (ab (bF (tn ?_))))))
replace b := b.bz.bz.bz.bz.bz.bz.bz.bz.bz.bz.bz.vf
obtain rfl := sj c
exact ⟨_, nls, (i64.wrap (fw .u64 (u64.wrap (i64.wrap (L + T))) 1)), L, d5, fy z, b⟩
}
}
{
intro d6 c
refine ak (cvb d6) (wp_exit (aV (aV ?_)))
replace c := bo c d5
refine de (tn ?_)
replace b := b.bM.bS.bz.bS.bS.bS.bS.bS.bS.bS.bz.vf
obtain rfl := sj c
exact ⟨L, j5, fy z, b⟩
}
}
{
rintro _ v0 ⟨U, c, ⟨v1, rfl⟩, b⟩
dsimp only [jd] at c
refine wp_seq (wrl (mi z (mi z (mi z (mb z (mb z (bs c ?_ ?_)))))))
{
intro k c
refine gv (.func (.func 133) #[] #[]) k z (gv (x) k z (gi k z ?_))
obtain ⟨b5, k2, c⟩ := bn c
obtain ⟨k3, k4, k5⟩ := aP k2
refine gg k (aC z z underlying109 sizeOf189 b.sv0 k3 k4) (gg k (ay (cs := [U6 b5.jT, U6 b5.epoch, I6 b5.n]) z isAgg189 sizeOf189 (b.FK k5 0 (by rintro _ rfl; rfl))) (gi k z ?_))
obtain ⟨g5, k6, c⟩ := bn c
refine dj ((aw z z z (cvb k)).trans z) z (dH call133 (caps := []) z (vs := [.agg #[U6 b5.jT, U6 b5.epoch, I6 b5.n], U6 a2.Rule.ID]) z) ((nU b.to0 k6).mono ?_)
rintro _ v2 ⟨rfl, b⟩
refine ⟨_, z, ?_⟩
replace b := b.of0
refine gb k z (mb (aS k z z) (mi z (mb z (ab (tn (wp_ret (aZ [I6 U, .bool (g5 == 0)] results132 (rc z (rc z ai)) ?_)))))))
replace b := b.bz.bz.bz.au.bz.bz.bz.bz.bz.bz.bz.vf
obtain rfl := sj c
exact ⟨U, (g5 == 0), z, z, b⟩
}
{
intro k c
refine go k (go k (go k (go k (go k (go k (go k (go k (mb (aJ k z z) (mi z (mb z (ab (tn (wp_ret (aZ [I6 U, .bool false] results132 (rc z (rc z ai)) ?_))))))))))))))
replace b := b.bz.bz.bz.au.bz.bz.bz.bz.bz.bz.bz.vf
obtain rfl := sj c
exact ⟨U, false, z, z, b⟩
}
}
}
rintro _ v3 ⟨j, S, rfl, rfl, b⟩
refine ⟨_, z, ?_⟩
try dsimp only at c
refine w0n b (sz (.tuple #[I6 j, .bool S]) 8 z z (si 9 z z (sb 10 z z (si 11 z z (sb 12 z z (bp ?_))))))
intro w b
refine tn (wp_seq (wrl (mi z (ab (tn ?_)))))
obtain ⟨v4, c, d8⟩ := bn c
refine cU (fun a w => ∃ (A : Int), (kN a2 d a1 S j) A = some r ∧ fz 170 [0, 5, 6, 7, 8, 9, 10] [Pt g 0, Pt q 0, Pt s 0, Pt u 0, I6 j, .bool S, I6 A] a ∧ St w0 w I [aI (Pt g 0) d, cells q [U1 a2.Kind, U6 a2.ID.Session, U6 a2.ID.Seq, U6 a2.Epoch, U6 a2.Index, I6 a2.E, U6 a2.Hold.ID.Session, U6 a2.Hold.ID.Seq, U6 a2.Hold.Epoch, B, C, D, F, G, I6 a2.R.E, U6 a2.R.Epoch, U6 a2.R.Index, H, J, U6 a2.Shards, K, U6 a2.Rule.ID, I6 a2.Rule.From, I6 a2.Rule.To, F6 a2.Rule.Lo, F6 a2.Rule.Hi, U6 a2.Rule.Authority, I6 a2.Rule.Quota, .bool a2.On], cells s [Zb, Zu, Zu, Zi, Zu, Zu, Zs, Zs], cells u [I6 a2.R.E, U6 a2.Epoch, U6 a1, Zs, Zs]] R) ?_ ?_
{
refine wp_seq (dO b mixed (by kernel_rfl) (qz (.bool _) z (qz (.bool _) z (bs c ?_ ?_))))
{
intro i c
refine qgz (Pt _ _) i z (qgz (Pt _ _) i z (qg _ i (fun w b => aT z underlying111 z sizeOf109 z) (qg _ i (fun w b => aq z isAgg109 (b.bc0 z)) (qgz (I6 _) i z ?_))))
obtain ⟨k7, k8, c⟩ := bn c
obtain ⟨g6, g7, g8⟩ := aP k8
refine qg _ i (fun w b => aC z z underlying109 sizeOf189 b.sv7 g6 g7) (qg _ i (fun w b => aW z underlying189 z sizeOf26 z) (qg _ i (fun w b => aq z isAgg26 (b.ol7 g8 (by rintro _ rfl; rfl))) (qg _ i (fun w b => aT z underlying49 z sizeOf26 z) (qg _ i (fun w b => aq z isAgg26 (b.bc8 z)) (qgz (.bool _) i z (qh (.bool _) (fun w b => aS i z z) (fO ?_)))))))
intro w b
refine tn (bs c ?_ ?_)
{
intro d9 c
refine ar (cvb d9) (wrl (mp z (mp z (mf z underlying111 z sizeOf109 (ml z isAgg109 (b.bc0 z) (mi z (mz (aC z z underlying109 sizeOf189 b.sv7 g6 g7) (mz (aW z underlying189 z sizeOf3 z) (ml z isAgg3 (b.ol7 g8 (by rintro _ rfl; rfl)) (mi z (ab (tn ?_))))))))))))
replace b := (av (Pt g 0) d b.aL.aL.aL.aL.aL.aL.aL.aL z).au.au.au.au.eI
obtain rfl := sj c
exact ⟨k7.n, d8, fy z, b⟩
}
{
intro d9 c
refine ak (cvb d9) (wp_skip (tn ?_))
replace b := (av (Pt g 0) d b.aL.aL.aL.aL.aL.aL.aL.aL z).au.au.au.au.eI
obtain rfl := sj c
exact ⟨0, d8, fy z, b⟩
}
}
{
intro i c
refine qo i (qo i (qo i (qo i (qo i (qo i (qo i (qo i (qo i (qo i (qo i (qh (.bool _) (fun w b => aJ i z z) (fO ?_))))))))))))
intro w b
refine tn (ak z (wp_skip (tn ?_)))
replace b := (av (Pt g 0) d b.aL.aL.aL.aL.aL.aL.aL.aL z).au.au.au.au.eI
obtain rfl := sj c
exact ⟨0, d8, fy z, b⟩
}
}
{
rintro _ v5 ⟨A, c, ⟨v6, rfl⟩, b⟩
dsimp only [kN] at c
obtain ⟨v7, c, b8⟩ := bn c
refine cU (fun a w => ∃ (p : Int), (jm d a2 a1 S j A) p = some r ∧ fz 170 [0, 5, 6, 7, 8, 9, 10] [Pt g 0, Pt q 0, Pt s 0, Pt u 0, I6 j, .bool S, I6 A] a ∧ St w0 w I [aI (Pt g 0) d, cells q [U1 a2.Kind, U6 a2.ID.Session, U6 a2.ID.Seq, U6 a2.Epoch, U6 a2.Index, I6 a2.E, U6 a2.Hold.ID.Session, U6 a2.Hold.ID.Seq, U6 a2.Hold.Epoch, B, C, D, F, G, I6 a2.R.E, U6 a2.R.Epoch, U6 a2.R.Index, H, J, U6 a2.Shards, K, U6 a2.Rule.ID, I6 a2.Rule.From, I6 a2.Rule.To, F6 a2.Rule.Lo, F6 a2.Rule.Hi, U6 a2.Rule.Authority, I6 a2.Rule.Quota, .bool a2.On], cells s [Zb, Zu, Zu, Zi, Zu, Zu, Zs, Zs], cells u [I6 p, U6 a2.Epoch, U6 a1, Zs, Zs]] R) ?_ ?_
{
refine wp_block (wp_seq (wrl (mf z underlying33 z sizeOf29 (ml z isAgg29 (b.bc3 z) (mb z (mb z (ab (tn (bs c ?_ ?_)))))))))
{
intro e0 c
refine ar (cvb e0) (wp_skip (bF (tn ?_)))
replace b := b.au.au.au.au.eI
obtain rfl := sj c
exact ⟨a2.R.E, b8, fy z, b⟩
}
{
intro e0 c
refine ak (cvb e0) (wp_seq ?_)
obtain ⟨v8, v9, x0, x1, x2, x3, x4, x5, e2, k9⟩ := bi b
replace e2 := dI e2
subst e2
have b := k9
refine dO b mixed (by kernel_rfl) (qh _ (fun w b => aT z underlying49 z sizeOf26 z) (qh _ (fun w b => aq z isAgg26 (b.bc8 z)) (qz (Pt _ _) z (qz (Pt _ _) z (qh _ (fun w b => aT z underlying111 z sizeOf26 z) (qh _ (fun w b => aq z isAgg26 (b.bc0 z)) (qz (.bool _) z (qz (.bool _) z (fO ?_)))))))))
intro w b
refine tn (bs c ?_ ?_)
{
intro e3 c
refine ar (cvb e3) (wrl (mf z underlying33 z sizeOf29 ?_))
replace b := b.bz
obtain ⟨x6, l0, b⟩ := b.by_ [I6 9, U6 a2.Epoch, U6 a1, Zs, Zs] 0 (.int .i64 9) sizeOf29 z (oC z oN) (by kernel_rfl)
refine aE z z (aG l0) (ab (bF (tn ?_)))
replace b := (av (Pt g 0) d b.bM.bM.bM.bM.bM.bM.bM.bM z).ag.au.au.au.eI
obtain rfl := sj c
exact ⟨9, b8, fy z, b⟩
}
{
intro e3 c
refine ak (cvb e3) (wp_seq (wrl (mf z underlying49 z sizeOf42 (ml z isAgg42 (b.bc8 z) (mz (bZ z underlying42 (ax d0)) (mb z (mb z (ab (tn (bs c ?_ ?_))))))))))
{
intro e4 c
refine ar (cvb e4) (wrl (mf z underlying33 z sizeOf29 ?_))
replace b := b.bz
obtain ⟨x7, l1, b⟩ := b.by_ [I6 1, U6 a2.Epoch, U6 a1, Zs, Zs] 0 (.int .i64 1) sizeOf29 z (oC z oN) (by kernel_rfl)
refine aE z z (aG l1) (ab (bF (tn ?_)))
replace b := (av (Pt g 0) d b.bM.bM.bM.bM.bM.bM.bM.bM z).ag.au.au.au.eI
obtain rfl := sj c
exact ⟨1, b8, fy z, b⟩
}
{
intro e4 c
refine ak (cvb e4) (wp_seq (wrl (mi z (mf z underlying49 z sizeOf39 (mf z underlying39 z sizeOf3 (ml z isAgg3 (b.bc8 z) (mb z (mb z (ab (tn (bs c ?_ ?_)))))))))))
{
intro e5 c
refine ar (cvb e5) (wrl (mf z underlying33 z sizeOf29 ?_))
replace b := b.bz
obtain ⟨x8, l2, b⟩ := b.by_ [I6 13, U6 a2.Epoch, U6 a1, Zs, Zs] 0 (.int .i64 13) sizeOf29 z (oC z oN) (by kernel_rfl)
refine aE z z (aG l2) (ab (bF (tn ?_)))
replace b := (av (Pt g 0) d b.bM.bM.bM.bM.bM.bM.bM.bM z).ag.au.au.au.eI
obtain rfl := sj c
exact ⟨13, b8, fy z, b⟩
}
{
intro e5 c
refine ak (cvb e5) (wp_skip (bF (tn ?_)))
replace b := (av (Pt g 0) d b.aL.aL.aL.aL.aL.aL.aL.aL z).au.au.au.au.eI
obtain rfl := sj c
exact ⟨a2.R.E, b8, fy z, b⟩
}
}
}
}
}
{
rintro _ x9 ⟨p, c, ⟨y0, rfl⟩, b⟩
dsimp only [jm] at c
refine wp_seq (wp_seq ?_)
obtain ⟨y1, l3, l4, g9, l5, l6, l7, l8, e6, l9⟩ := bi b
replace e6 := dI e6
subst e6
have b := l9
refine rg b 13 [0, 1, 3, 7, 0, 16, 48, 0, 128, 384, 0, 2047, 4095] [] mixed (sp 0 z z (sp 1 z z (sf 2 z z underlying111 z sizeOf105 (sl 3 z z isAgg105 (fun w b => b.bc0 z) (sf 4 z z underlying49 z sizeOf28 (sf 5 z z underlying28 z sizeOf26 (sl 6 z z isAgg26 (fun w b => b.bc8 z) (sf 7 z z underlying49 z sizeOf28 (sf 8 z z underlying28 z sizeOf26 (sl 9 z z isAgg26 (fun w b => b.bc8 z) (sh _ 10 z (fun w b => ay (cs := [I6 p, U6 a2.Epoch, U6 a1, Zs, Zs]) z isAgg33 sizeOf33 (b.Eu 0 z)) (e1 11 z z fun w b => ?_))))))))))))
have b9 : Ro aD I (.slice none 0 0) [] := cy
have c1 : Ro (dJ az) I (.slice none 0 0) [] := cy
replace b := b.au
obtain ⟨V, m0, c⟩ := bn c
refine wec call124 [g9, U6 a2.ID.Session, U6 a2.ID.Seq, .agg #[I6 p, U6 a2.Epoch, U6 a1, Zs, Zs]] z z ((nT (a3 := ({ E := p, Epoch := a2.Epoch, Index := a1, Gots := [], Scans := [] } : bw)) b9 c1 b.to1 m0).mono ?_)
rintro _ y2 ⟨rfl, b⟩
refine ⟨_, z, ?_⟩
replace b := b.of1
refine w0n b (sb 12 z z (bp ?_))
intro w b
refine tn (bs c ?_ ?_)
{
intro e7 c
refine ar (cvb e7) (wp_seq (wrl (mp z (mf z underlying49 z sizeOf28 (mz (ay (cs := [U6 a2.ID.Session, U6 a2.ID.Seq]) z isAgg28 sizeOf28 (b.wC 1 z)) ?_)))))
replace b := aO (av (Pt g 0) (({ d with last := V.2 } : ae)) b.aL.aL.aL.aL.bf.aL.aL.aL z)
obtain ⟨l, m1, c⟩ := bn c
refine wc call125 [Pt g 0, .agg #[U6 a2.ID.Session, U6 a2.ID.Seq]] z z z ((oV b.to1 m1).mono ?_)
rintro _ y3 ⟨d1, d2, rfl, b⟩
refine ⟨_, z, ?_⟩
replace b := (bH b.of3.aA).bf
obtain ⟨y4, m2, b⟩ := b.bx [U1 l.Kind, U6 l.ID.Session, U6 l.ID.Seq, I6 l.R.E, U6 l.R.Epoch, U6 l.R.Index, d1, d2] sizeOf35 z (oJ 6 z (oC (oS b.sv2) (oC (oS b.sv3) oN))) (by kernel_rfl)
refine aE z z (aG m2) (ab (tn (wp_ret (aN ?_))))
replace b := b.aA
obtain ⟨I819, m3, e8, b⟩ := b.cN
replace Q := Q.trans m3
replace b := b.aA
obtain ⟨I822, h0, m4, b⟩ := b.cN
replace e8 := e8.mono (ro_le h0)
replace Q := Q.trans h0
replace b := aO b.ag
obtain rfl := sj c
exact aZ [.agg #[U1 l.Kind, U6 l.ID.Session, U6 l.ID.Seq, I6 l.R.E, U6 l.R.Epoch, U6 l.R.Index, d1, d2]] results55 (bq (bJ (cs := [U1 l.Kind, U6 l.ID.Session, U6 l.ID.Seq, I6 l.R.E, U6 l.R.Epoch, U6 l.R.Index, d1, d2]) z isAgg35 sizeOf35 (b.eK 0 z)) ai) ⟨_, d1, d2, z, Q, e8, m4, b.bu⟩
}
{
intro e7 c
refine ak (cvb e7) (wp_skip (tn ?_))
obtain ⟨m5, c, h1⟩ := bn c
refine cU (fun a w => ∃ (I1065 : HL) (e9 : ae), (kL a2 p a1) e9 = some r ∧ fz 170 [5, 6, 7] [Pt q 0, Pt s 0, Pt u 0] a ∧ I.le I1065 ∧ St w0 w I1065 [cells q [U1 a2.Kind, U6 a2.ID.Session, U6 a2.ID.Seq, U6 a2.Epoch, U6 a2.Index, I6 a2.E, U6 a2.Hold.ID.Session, U6 a2.Hold.ID.Seq, U6 a2.Hold.Epoch, B, C, D, F, G, I6 a2.R.E, U6 a2.R.Epoch, U6 a2.R.Index, H, J, U6 a2.Shards, K, U6 a2.Rule.ID, I6 a2.Rule.From, I6 a2.Rule.To, F6 a2.Rule.Lo, F6 a2.Rule.Hi, U6 a2.Rule.Authority, I6 a2.Rule.Quota, .bool a2.On], cells s [Zb, Zu, Zu, Zi, Zu, Zu, Zs, Zs], cells u [I6 p, U6 a2.Epoch, U6 a1, Zs, Zs], aI (Pt g 0) e9] R) ?_ ?_
{
have d3 := HL.le.refl I
refine wp_seq (wrl (mf z underlying33 z sizeOf29 (ml z isAgg29 (b.uo z) (mb z (ab (tn (bs c ?_ ?_)))))))
{
intro f0 c
refine ar (cvb f0) ?_
obtain ⟨y5, c, h2⟩ := bn c
refine cU (fun a w => ∃ (f : ae), (kE j a2 A) f = some m5 ∧ fz 170 [0, 5, 6, 7, 8, 10] [Pt g 0, Pt q 0, Pt s 0, Pt u 0, I6 j, I6 A] a ∧ St w0 w I [aI (Pt g 0) f, cells q [U1 a2.Kind, U6 a2.ID.Session, U6 a2.ID.Seq, U6 a2.Epoch, U6 a2.Index, I6 a2.E, U6 a2.Hold.ID.Session, U6 a2.Hold.ID.Seq, U6 a2.Hold.Epoch, B, C, D, F, G, I6 a2.R.E, U6 a2.R.Epoch, U6 a2.R.Index, H, J, U6 a2.Shards, K, U6 a2.Rule.ID, I6 a2.Rule.From, I6 a2.Rule.To, F6 a2.Rule.Lo, F6 a2.Rule.Hi, U6 a2.Rule.Authority, I6 a2.Rule.Quota, .bool a2.On], cells s [Zb, Zu, Zu, Zi, Zu, Zu, Zs, Zs], cells u [I6 p, U6 a2.Epoch, U6 a1, Zs, Zs]] R) ?_ ?_
{
refine wp_seq (wrl (mb z (mb z (ab (tn (bs c ?_ ?_))))))
{
intro f1 c
refine ar (cvb f1) (rg b 15 [0, 0, 2, 6, 14, 0, 0, 64, 192, 448, 960, 2046, 4095, 8191, 16383] [] mixed (sp 0 z z (sp 1 z z (sp 2 z z (sf 3 z z underlying111 z sizeOf109 (sl 4 z z isAgg109 (fun w b => b.bc1 z) (si 5 z z (sf 6 z z underlying49 z sizeOf39 (sf 7 z z underlying39 z sizeOf26 (sl 8 z z isAgg26 (fun w b => b.bc8 z) (sk (.agg #[U6 a2.Rule.ID, Zu, Zi]) 9 z (e1 10 z z fun w b => ?_))))))))))))
obtain ⟨h3, m6, m7, m8, b⟩ := b.ey (E := cJ) (xs := [({ jT := a2.Rule.ID, epoch := 0, n := 0 } : cn)]) [[U6 a2.Rule.ID, Zu, Zi]] 189 1 z (bE.cons z bE.nil)
refine bW (v := (.slice (some ⟨h3, 0, none⟩) 1 1)) (w' := m6) z (dn (by kernel_rfl) m7 m8) (wn [5, 4, 3, 2, 1, 0] b (pz (pkr z z (fun w b => aq z isAgg109 (b.bc2 z)) (pf z z underlying111 z sizeOf109 (pz (pz (pz bD)))))) (e1 11 z z fun w b => ?_))
replace b := b.bM
obtain ⟨h4, m9, c⟩ := bn c
refine wec call134 [l8, I6 j, (.slice (some ⟨h3, 0, none⟩) 1 1)] z z ((mn b.to2 m9).mono ?_)
rintro _ y6 ⟨h5, rfl, b⟩
refine ⟨_, z, ?_⟩
replace b := b.of1
refine wn [0] b (pz bD) (sp 12 z z (sf 13 z z underlying111 z sizeOf109 (e1 14 z z fun w b => ?_)))
replace b := b.aA
obtain ⟨y7, n0, b⟩ := b.cW (P := prog) (t := 109) (cs' := [I6 d.wide, U6 d.epoch, l3, l4, g9, l5, l6, l7, h5]) 8 h5 (oS b.sv1) sizeOf109 z z
refine dz z (aG n0) (w0n b (bp ?_))
intro w b
refine tn ?_
replace b := (av (Pt g 0) (({ d with last := V.2, used := h4 } : ae)) b.ag.aL.aL.aL.bc.aL.aL.aL z).au.au.au.au.eI
obtain rfl := sj c
exact ⟨({ d with last := V.2, used := h4 } : ae), h2, fy z, b⟩
}
{
intro f1 c
refine ak (cvb f1) (wp_skip (tn ?_))
replace b := (av (Pt g 0) (({ d with last := V.2 } : ae)) b.aL.aL.aL.aL.bf.aL.aL.aL z).au.au.au.au.eI
obtain rfl := sj c
exact ⟨({ d with last := V.2 } : ae), h2, fy z, b⟩
}
}
{
rintro _ y8 ⟨f, c, ⟨y9, rfl⟩, b⟩
dsimp only [kE] at c
refine wp_seq ?_
obtain ⟨A0, c2, c3, c4, c5, c6, c7, c8, f2, n1⟩ := bi b
replace f2 := dI f2
subst f2
have b := n1
refine rg b 20 [0, 1, 3, 7, 0, 0, 32, 96, 224, 0, 0, 1024, 0, 4096, 3583, 19967, 52735, 131071, 262143, 524287] [] mixed (sp 0 z z (sp 1 z z (sf 2 z z underlying111 z sizeOf109 (sl 3 z z isAgg109 (fun w b => b.bc0 z) (si 4 z z (sp 5 z z (sp 6 z z (sf 7 z z underlying111 z sizeOf109 (sl 8 z z isAgg109 (fun w b => b.bc0 z) (si 9 z z (sf 10 z z underlying49 z sizeOf26 (sl 11 z z isAgg26 (fun w b => b.bc8 z) (si 12 z z (si 13 z z ?_))))))))))))))
obtain ⟨m, n2, c⟩ := bn c
obtain ⟨h6, h7, h8⟩ := aP n2
refine sh _ 14 z (fun w b => aC z z underlying109 sizeOf189 b.sv7 h6 h7) (sh _ 15 z (fun w b => aW z underlying189 z sizeOf26 z) (e1 16 z z fun w b => ?_))
replace b := b.aL
obtain ⟨A1, n3, b⟩ := b.oi (P := prog) (t := 26) (y := ({ m with epoch := a2.Epoch } : cn)) h8 1 (.int .u64 a2.Epoch) sizeOf26 (Nat.le_of_ble_eq_true z) (oC z oN) (by rintro _ rfl; rfl)
have n4 := AK h8 ({ m with epoch := a2.Epoch } : cn)
have n5 := Cg h7 j.toNat ({ m with epoch := a2.Epoch } : cn)
refine dz z (aG n3) (wn [13, 12, 9] b (pz (pz (pz bD))) (sh _ 17 z (fun w b => aC z z underlying109 sizeOf189 b.sv0 h6 n5) (sh _ 18 z (fun w b => aW z underlying189 z sizeOf3 z) (e1 19 z z fun w b => ?_))))
obtain ⟨A2, n6, b⟩ := b.oi (P := prog) (t := 3) (y := ({ jT := ({ m with epoch := a2.Epoch } : cn).jT, epoch := ({ m with epoch := a2.Epoch } : cn).epoch, n := (i64.wrap (A + 1)) } : cn)) n4 2 (.int .i64 (i64.wrap (A + 1))) sizeOf3 (Nat.le_of_ble_eq_true z) (oC z oN) (by rintro _ rfl; rfl)
refine dz z (aG n6) (w0n b (bp ?_))
intro w b
refine tn (rg b 36 [0, 0, 2, 6, 14, 0, 32, 96, 0, 0, 512, 1536, 3840, 7936, 16128, 32512, 0, 65536, 196608, 0, 524288, 0, 2097152, 6291456, 14680064, 0, 33554432, 100663296, 234881024, 534781696, 1073741792, 2147483616, 4294967294, 8589934591, 17179869183, 34359738367] [] mixed (sp 0 z z (sp 1 z z (sp 2 z z (sf 3 z z underlying111 z sizeOf50 (sl 4 z z isAgg50 (fun w b => b.bc1 z) (sf 5 z z underlying49 z sizeOf39 (sf 6 z z underlying39 z sizeOf3 (sl 7 z z isAgg3 (fun w b => b.bc8 z) (sp 8 z z (sf 9 z z underlying49 z sizeOf39 (sf 10 z z underlying39 z sizeOf3 (sl 11 z z isAgg3 (fun w b => b.bc8 z) (sf 16 z z underlying49 z sizeOf39 (sf 17 z z underlying39 z sizeOf26 (sl 18 z z isAgg26 (fun w b => b.bc8 z) (sf 19 z z underlying49 z sizeOf26 (sl 20 z z isAgg26 (fun w b => b.bc8 z) (sf 21 z z underlying49 z sizeOf42 (sl 22 z z isAgg42 (fun w b => b.bc8 z) ?_))))))))))))))))))))
obtain ⟨b6, n7, c⟩ := bn c
obtain ⟨h9, i0, n8⟩ := aP n7
refine sh _ 23 z (fun w b => aC z z underlying42 sizeOf41 (ax d0) h9 i0) ?_
obtain ⟨A3, n9, i1⟩ := Rd.jZ d0 n8
obtain ⟨f3, rfl, o1, -⟩ := n9
refine sh _ 24 z (fun w b => ay (cs := [F6 b6.At, .bool b6.Del, f3]) z isAgg41 sizeOf41 (dS (o := 0) (i1 lr b) z)) (sp 25 z z (sp 26 z z (sf 27 z z underlying111 z sizeOf3 (sl 28 z z isAgg3 (fun w b => b.bc1 z) (e1 12 z z fun w b => ?_)))))
obtain ⟨i2, o2, c⟩ := bn c
refine oy z (dH call15 (caps := []) z (vs := [Pt g 0, I6 a2.Rule.To]) z) (Calls.mono (show Calls prog 15 #[Pt g 0, I6 a2.Rule.To] _ (fun e w' => ∃ (M : (List cR)) (f4 : Value), M = i2 ∧ e = .returned (f4) ∧ St w0 w' I [bg cj f4 M, cells g [I6 f.wide, U6 f.epoch, c2, c3, c4, c5, c6, c7, c8], cF cL c2 f.store, cF bT c3 f.locks, cF cd c4 f.last, cF cO c5 f.book, bg aM c6 f.open_, bg cj c7 f.out, bg cJ c8 ((f.used.set j.toNat ({ m with epoch := a2.Epoch } : cn)).set j.toNat ({ jT := ({ m with epoch := a2.Epoch } : cn).jT, epoch := ({ m with epoch := a2.Epoch } : cn).epoch, n := (i64.wrap (A + 1)) } : cn)), cells q [U1 a2.Kind, U6 a2.ID.Session, U6 a2.ID.Seq, U6 a2.Epoch, U6 a2.Index, I6 a2.E, U6 a2.Hold.ID.Session, U6 a2.Hold.ID.Seq, U6 a2.Hold.Epoch, B, C, D, F, G, I6 a2.R.E, U6 a2.R.Epoch, U6 a2.R.Index, H, J, U6 a2.Shards, K, U6 a2.Rule.ID, I6 a2.Rule.From, I6 a2.Rule.To, F6 a2.Rule.Lo, F6 a2.Rule.Hi, U6 a2.Rule.Authority, I6 a2.Rule.Quota, .bool a2.On], cells s [Zb, Zu, Zu, Zi, Zu, Zu, Zs, Zs], cells u [I6 p, U6 a2.Epoch, U6 a1, Zs, Zs]] R) from ?_) ?_)
{
clear c; have c := o2
refine c0 func15 z ntmps15 (wp_seq (wrl (mv ((.slice none 0 0)) z (ab (tn (wp_seq (wrl (mv ((.slice none 0 0)) z (ab (tn (wp_seq (wp_seq (wrl (mp z (mk (.bool false) (ab (tn (ak z (wp_skip (tn (wp_seq (wp_seq (wrl (mp z (mp z (mf z underlying111 z sizeOf50 (ml z isAgg50 (b.bc1 z) (mz (bZ z underlying50 b.sv7) (mi z (ab (tn (wp_block ?_))))))))))))))))))))))))))))))))
replace b := b.bd cj
obtain ⟨o3, c⟩ := aX c
refine bm (fun n a w => ∃ (c9 : Int) (b7 : (List cR)) (O : Value), cT (gX f a2) n (c9, b7) = some i2 ∧ fz 30 [1, 5, 14, 15, 16] [I6 a2.Rule.To, O, c7, I6 ((f.out).length : Int), I6 c9] a ∧ St w0 w I [bg cj O b7, bg cJ c8 ((f.used.set j.toNat ({ m with epoch := a2.Epoch } : cn)).set j.toNat ({ jT := ({ m with epoch := a2.Epoch } : cn).jT, epoch := ({ m with epoch := a2.Epoch } : cn).epoch, n := (i64.wrap (A + 1)) } : cn)), cells g [I6 f.wide, U6 f.epoch, c2, c3, c4, c5, c6, c7, c8], cF cL c2 f.store, cF bT c3 f.locks, cF cd c4 f.last, cF cO c5 f.book, bg aM c6 f.open_, bg cj c7 f.out, cells q [U1 a2.Kind, U6 a2.ID.Session, U6 a2.ID.Seq, U6 a2.Epoch, U6 a2.Index, I6 a2.E, U6 a2.Hold.ID.Session, U6 a2.Hold.ID.Seq, U6 a2.Hold.Epoch, B, C, D, F, G, I6 a2.R.E, U6 a2.R.Epoch, U6 a2.R.Index, H, J, U6 a2.Shards, K, U6 a2.Rule.ID, I6 a2.Rule.From, I6 a2.Rule.To, F6 a2.Rule.Lo, F6 a2.Rule.Hi, U6 a2.Rule.Authority, I6 a2.Rule.Quota, .bool a2.On], cells s [Zb, Zu, Zu, Zi, Zu, Zu, Zs, Zs], cells u [I6 p, U6 a2.Epoch, U6 a1, Zs, Zs]] R) o3 ⟨0, [], Zs, c, fy z, b⟩ ?_
rintro A4 _ A5 ⟨c9, b7, O, c, ⟨A6, rfl⟩, b⟩
obtain ⟨A7, A8, rfl, c, f5⟩ := ba c
dsimp only [gX] at c
refine wp_seq (wrl (mb z (ab (tn (wp_seq (bs c ?_ ?_))))))
{
intro f6 c
refine ar (cvb f6) (wp_skip (tn (wp_seq (wp_block (wp_seq (wrl ?_))))))
obtain ⟨h, o4, c⟩ := bn c
obtain ⟨o5, o6, o7⟩ := aP o4
refine mz (aC z z underlying50 sizeOf53 b.sv8 o5 o6) ?_
obtain ⟨A9, o8, o9⟩ := b.og8 o7
obtain ⟨d4, rfl, f7, -⟩ := o8
refine mz (ay (cs := [I6 h.To, U6 h.N, U6 h.Rule, U6 h.Epoch, F6 h.W.At, .bool h.W.Del, d4]) z isAgg53 sizeOf53 (dS (o := 0) o9 z)) ?_
obtain ⟨B0, B1, q0, q1, b⟩ := b.box [Zi, Zu, Zu, Zu, Zf, .bool false, Zs] 53
refine wa q0 q1 ?_
obtain ⟨B2, q2, b⟩ := b.bx [I6 h.To, U6 h.N, U6 h.Rule, U6 h.Epoch, F6 h.W.At, .bool h.W.Del, d4] sizeOf53 z (oJ 6 z (oC (oS (ah f7)) oN)) (by kernel_rfl)
refine aE z z (aG q2) (ab (tn (wp_seq (wrl (mf z underlying53 z sizeOf3 (ml z isAgg3 (b.bc0 z) (mi z (mb z (ab (tn (bs c ?_ ?_)))))))))))
{
intro f8 c
refine ar (cvb f8) (wrl (mv (O) z (mz (ay (cs := [I6 h.To, U6 h.N, U6 h.Rule, U6 h.Epoch, F6 h.W.At, .bool h.W.Del, d4]) z isAgg53 sizeOf53 (b.eF 0 z)) ?_)))
obtain ⟨q3, q4, q5, q6, b⟩ := b.ey (E := cj) (xs := [h]) [[I6 h.To, U6 h.N, U6 h.Rule, U6 h.Epoch, F6 h.W.At, .bool h.W.Del, d4]] 53 1 z (bE.cons ⟨_, z, f7, oS (ah f7)⟩ bE.nil)
refine cb (v := (.slice (some ⟨q3, 0, none⟩) 1 1)) (w' := q4) z z (dn (by kernel_rfl) q5 q6) ?_
obtain ⟨q7, c⟩ := cz c
replace b := b.aA
obtain ⟨f9, q8, q9, b⟩ := bI sH underlying50 b b.ju (cK q7 z) 50
refine cb (v := f9) (w' := q8) z z (bX z z q9) (mv (f9) z (ab (bF (tn (wrl (mi z (mi z (ab (tn ?_)))))))))
replace b := b.pP.pP.pP.pP.pP.pP.pP.pP.pP.pP.pP.oc.zJ
obtain rfl := sj c
exact ⟨_, nls, (i64.wrap (c9 + 1)), (b7 ++ ([h])), f9, f5, fy z, b⟩
}
{
intro f8 c
refine ak (cvb f8) (wp_skip (bF (tn (wrl (mi z (mi z (ab (tn ?_))))))))
replace b := b.nv.nv.nv.nv.nv.nv.nv.nv.nv.nv.nv.nv.zJ
obtain rfl := sj c
exact ⟨_, nls, (i64.wrap (c9 + 1)), b7, O, f5, fy z, b⟩
}
}
{
intro f6 c
refine ak (cvb f6) (wp_exit (aV (aV ?_)))
replace c := bo c f5
refine de (tn (wp_seq (wrl (mv (O) z (mv (O) z (ab (tn (wp_ret (aZ [O] results15 (rc z ai) ?_)))))))))
replace b := b.oc.oc.oc.bf.oc.oc.oc.oc.oc.oc.oc.oc.zJ
obtain rfl := sj c
exact ⟨b7, O, z, z, b⟩
}
}
rintro _ B3 ⟨M, f4, rfl, rfl, b⟩
refine ⟨_, z, ?_⟩
try dsimp only at c
refine wn [28, 27, 26, 25, 24, 23, 22, 21, 20, 19, 18, 17, 16, 7, 6, 5, 4, 3, 2, 1, 0] b (pkr z z (fun w b => aq z isAgg3 (b.bc1 z)) (pf z z underlying111 z sizeOf3 (pz (pz (pkr z z (fun w b => ay (cs := [F6 b6.At, .bool b6.Del, f3]) z isAgg41 sizeOf41 (dS (o := 0) (i1 lr b) z)) (pkr z z (fun w b => aC z z underlying42 sizeOf41 (ax d0) h9 i0) (pkr z z (fun w b => aq z isAgg42 (b.bc9 z)) (pf z z underlying49 z sizeOf42 (pkr z z (fun w b => aq z isAgg26 (b.bc9 z)) (pf z z underlying49 z sizeOf26 (pkr z z (fun w b => aq z isAgg26 (b.bc9 z)) (pf z z underlying39 z sizeOf26 (pf z z underlying49 z sizeOf39 (pkr z z (fun w b => aq z isAgg3 (b.bc9 z)) (pf z z underlying39 z sizeOf3 (pf z z underlying49 z sizeOf39 (pkr z z (fun w b => aq z isAgg50 (b.bc1 z)) (pf z z underlying111 z sizeOf50 (pz (pz (pz bD))))))))))))))))))))) (sh _ 13 z (fun w b => bZ z underlying50 b.sv0) (si 14 z z (sk (.int .u64 (u64.wrap (i64.wrap (((M).length : Int) + 1)))) 15 z (e1 29 z z fun w b => ?_))))
obtain ⟨X, s0, c⟩ := bn c
refine wec call17 [.agg #[F6 b6.At, .bool b6.Del, f3], I6 f.wide] z z ((xY (o1.mono (cC _)) b.to0 s0).mono ?_)
rintro _ B4 ⟨i3, rfl, b⟩
refine ⟨_, z, ?_⟩
replace b := b.of1
refine wn [15, 14, 13, 20, 19, 18, 17, 16, 7, 6, 5, 4, 3, 2, 1, 0] b (pkr z z (fun w b => by kernel_rfl) (pz (pkr z z (fun w b => bZ z underlying50 b.sv1) (pkr z z (fun w b => aq z isAgg26 (b.uo z)) (pf z z underlying49 z sizeOf26 (pkr z z (fun w b => aq z isAgg26 (b.uo z)) (pf z z underlying39 z sizeOf26 (pf z z underlying49 z sizeOf39 (pkr z z (fun w b => aq z isAgg3 (b.uo z)) (pf z z underlying39 z sizeOf3 (pf z z underlying49 z sizeOf39 (pkr z z (fun w b => aq z isAgg50 (b.bc2 z)) (pf z z underlying111 z sizeOf50 (pz (pz (pz bD)))))))))))))))) (wsr (.agg #[I6 a2.Rule.To, U6 (u64.wrap (i64.wrap (((M).length : Int) + 1))), U6 a2.Rule.ID, U6 a2.Epoch, F6 X.At, .bool X.Del, i3]) 30 rfl rfl rfl (by kernel_rfl) (fun w b => by obtain ⟨_, _, hv_, _⟩ := b.sv0; rw [hv_]; kernel_rfl) (e1 31 z z fun w b => ?_))
obtain ⟨I1049, s1, i4, b⟩ := b.cN
replace d3 := d3.trans s1
obtain ⟨s2, s3, s4, s5, b⟩ := b.ey (E := cj) (xs := [({ To := a2.Rule.To, N := (u64.wrap (i64.wrap (((M).length : Int) + 1))), Rule := a2.Rule.ID, Epoch := a2.Epoch, W := X } : cR)]) [[I6 a2.Rule.To, U6 (u64.wrap (i64.wrap (((M).length : Int) + 1))), U6 a2.Rule.ID, U6 a2.Epoch, F6 X.At, .bool X.Del, i3]] 53 1 z (bE.cons ⟨_, z, i4, oS (ah i4)⟩ bE.nil)
refine bW (v := (.slice (some ⟨s2, 0, none⟩) 1 1)) (w' := s3) z (dn (by kernel_rfl) s4 s5) (wn [4, 3, 2, 1, 0] b (pkr z z (fun w b => aq z isAgg50 (b.bc2 z)) (pf z z underlying111 z sizeOf50 (pz (pz (pz bD))))) (e1 32 z z fun w b => ?_))
obtain ⟨s6, c⟩ := cz c
replace b := b.bM
obtain ⟨g0, s7, s8, b⟩ := bI sH underlying50 b b.ju (cK s6 z) 50
refine bW (v := g0) (w' := s7) z (bX z z s8) (wn [0] b (pz bD) (sp 33 z z (sf 34 z z underlying111 z sizeOf50 (e1 35 z z fun w b => ?_))))
replace b := b.au
obtain ⟨B5, s9, b⟩ := b.cW (P := prog) (t := 50) (cs' := [I6 f.wide, U6 f.epoch, c2, c3, c4, c5, c6, g0, c8]) 7 g0 (oS b.sv1) sizeOf50 z z
refine dz z (aG s9) (w0n b (bp ?_))
intro w b
refine tn ?_
replace b := (av (Pt g 0) (({ f with out := (f.out ++ ([({ To := a2.Rule.To, N := (u64.wrap (i64.wrap (((M).length : Int) + 1))), Rule := a2.Rule.ID, Epoch := a2.Epoch, W := X } : cR)])), used := ((f.used.set j.toNat ({ m with epoch := a2.Epoch } : cn)).set j.toNat ({ jT := ({ m with epoch := a2.Epoch } : cn).jT, epoch := ({ m with epoch := a2.Epoch } : cn).epoch, n := (i64.wrap (A + 1)) } : cn)) } : ae)) b.bS.aA.bS.bS.bS.bS.bS.aL z).bc.bc.bc.eI
obtain rfl := sj c
exact ⟨_, ({ f with out := (f.out ++ ([({ To := a2.Rule.To, N := (u64.wrap (i64.wrap (((M).length : Int) + 1))), Rule := a2.Rule.ID, Epoch := a2.Epoch, W := X } : cR)])), used := ((f.used.set j.toNat ({ m with epoch := a2.Epoch } : cn)).set j.toNat ({ jT := ({ m with epoch := a2.Epoch } : cn).jT, epoch := ({ m with epoch := a2.Epoch } : cn).epoch, n := (i64.wrap (A + 1)) } : cn)) } : ae), h1, fy z, d3, b⟩
}
}
{
intro f0 c
refine ak (cvb f0) (wp_skip (tn ?_))
replace b := (av (Pt g 0) (({ d with last := V.2 } : ae)) b.aL.aL.aL.aL.bf.aL.aL.aL z).au.au.au.eI
obtain rfl := sj c
exact ⟨_, ({ d with last := V.2 } : ae), h1, fy z, d3, b⟩
}
}
{
rintro _ B6 ⟨I1065, e9, c, ⟨B7, rfl⟩, g1, b⟩
dsimp only [kL] at c
replace b9 := b9.mono (ro_le g1)
replace c1 := c1.mono (ro_le g1)
replace Q := Q.trans g1
refine wp_seq (wrl (mf z underlying49 z sizeOf28 (mz (ay (cs := [U6 a2.ID.Session, U6 a2.ID.Seq]) z isAgg28 sizeOf28 (b.eF 1 z)) (mz (ay (cs := [I6 p, U6 a2.Epoch, U6 a1, Zs, Zs]) z isAgg33 sizeOf33 (b.pR 0 z)) (mk (.agg #[U1 4, U6 a2.ID.Session, U6 a2.ID.Seq, I6 p, U6 a2.Epoch, U6 a1, Zs, Zs]) ?_)))))
replace b := b.ag
obtain ⟨B8, t0, b⟩ := b.bx [U1 4, U6 a2.ID.Session, U6 a2.ID.Seq, I6 p, U6 a2.Epoch, U6 a1, Zs, Zs] sizeOf35 z (oJ 6 z (oC (oS (ah b9)) (oC (oS (ah c1)) oN))) (by kernel_rfl)
refine aE z z (aG t0) (ab (tn (wp_ret ?_)))
replace b := aO b.au
obtain rfl := sj c
exact aZ [.agg #[U1 4, U6 a2.ID.Session, U6 a2.ID.Seq, I6 p, U6 a2.Epoch, U6 a1, Zs, Zs]] results55 (bq (bJ (cs := [U1 4, U6 a2.ID.Session, U6 a2.ID.Seq, I6 p, U6 a2.Epoch, U6 a1, Zs, Zs]) z isAgg35 sizeOf35 (b.eK 0 z)) ai) ⟨_, Zs, Zs, z, Q, b9, c1, b.bu⟩
}
}
}
}
}
}
end Go.Proofs.YtgnkkopjkgdieaaGreat
