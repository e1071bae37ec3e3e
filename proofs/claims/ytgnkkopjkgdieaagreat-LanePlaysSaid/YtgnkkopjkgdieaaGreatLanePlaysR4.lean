/- A part of the proof. -/
import Derived.Test.YtgnkkopjkgdieaaGreatLanePlaysR3
set_option linter.unusedVariables false
set_option linter.unusedSimpArgs false
set_option maxRecDepth 100000
set_option maxHeartbeats 4000000
namespace Go.Proofs.YtgnkkopjkgdieaaGreat
open Go Go.V
open _root_.Go.Proofs.Tryz IntKind
variable {w0 w : World} {I : HL} {R : SP}
attribute [local irreducible] wpList Code.wp wpQuiet Calls bodyPost Oper.wp wpS Nx gI YieldsIn
theorem oH {a0 : (Option ae)} {p0 : Value} {a1 : Int} {a2 : aH} {l m n o p q s u : Value} (v : Ro bY I l a2.Hold.Gets) (x : Ro gB I m a2.Hold.Scans) (y : Ro bY I n a2.Hold.Puts) (A : Ro (cp .u8) I o a2.Hold.Data) (B : Ro cI I p a2.Writes) (C : Ro aD I q a2.R.Gots) (D : Ro (dJ az) I s a2.R.Scans) (F : Ro cM I u a2.Parts) (a : St w0 w I [cF aI p0 a0] R) {r : (bj × (Option ae))} (b : cv a0 a1 a2 = some r) :
  Calls prog 14 #[p0, U6 a1, .agg #[U1 a2.Kind, U6 a2.ID.Session, U6 a2.ID.Seq, U6 a2.Epoch, U6 a2.Index, I6 a2.E, U6 a2.Hold.ID.Session, U6 a2.Hold.ID.Seq, U6 a2.Hold.Epoch, l, m, n, o, p, I6 a2.R.E, U6 a2.R.Epoch, U6 a2.R.Index, q, s, U6 a2.Shards, u, U6 a2.Rule.ID, I6 a2.Rule.From, I6 a2.Rule.To, F6 a2.Rule.Lo, F6 a2.Rule.Hi, U6 a2.Rule.Authority, I6 a2.Rule.Quota, .bool a2.On]] w fun e w' => ∃ (I' : HL) (b7 : Value) (b8 : Value), e = .returned (.agg #[U1 r.1.Kind, U6 r.1.ID.Session, U6 r.1.ID.Seq, I6 r.1.R.E, U6 r.1.R.Epoch, U6 r.1.R.Index, b7, b8]) ∧ I.le I' ∧ Ro aD I' b7 r.1.R.Gots ∧ Ro (dJ az) I' b8 r.1.R.Scans ∧ St w0 w' I' [cF aI p0 r.2] R := by {
rcases a0 with _ | k
{
dsimp only [cv] at b
cases b
}
{
replace a := bH a
dsimp only [cv] at b
refine c0 func14 z ntmps14 ?_
have c := HL.le.refl I
refine wp_seq (wrl ?_)
obtain ⟨j1, j2, d4, d5, a⟩ := a.box [U1 a2.Kind, U6 a2.ID.Session, U6 a2.ID.Seq, U6 a2.Epoch, U6 a2.Index, I6 a2.E, U6 a2.Hold.ID.Session, U6 a2.Hold.ID.Seq, U6 a2.Hold.Epoch, l, m, n, o, p, I6 a2.R.E, U6 a2.R.Epoch, U6 a2.R.Index, q, s, U6 a2.Shards, u, U6 a2.Rule.ID, I6 a2.Rule.From, I6 a2.Rule.To, F6 a2.Rule.Lo, F6 a2.Rule.Hi, U6 a2.Rule.Authority, I6 a2.Rule.Quota, .bool a2.On] 49
refine wa d4 d5 ?_
obtain ⟨j3, j4, d6, d7, a⟩ := a.box [Zb, Zu, Zu, Zi, Zu, Zu, Zs, Zs] 35
refine wa d6 d7 (ab (tn (wp_seq (wp_seq (wrl (mv (p0) z ?_))))))
obtain ⟨j, j5, j6, j7, b9, j8, j9, k0, rfl, d8⟩ := bi a.aA
have a := d8
refine mk (.bool false) (ab (tn (ak z (wp_skip (tn (wp_seq (wp_seq (wrl (mf z underlying49 z sizeOf5 (ml z isAgg5 (a.bc9 z) (ab (tn (wp_block (wp_seq (wrl (mb z (mb z (ab (tn (bs b ?_ ?_))))))))))))))))))))
{
intro U b
refine ar (cvb U) (wp_seq (wrl (mp z (mz (ay (cs := [U1 a2.Kind, U6 a2.ID.Session, U6 a2.ID.Seq, U6 a2.Epoch, U6 a2.Index, I6 a2.E, U6 a2.Hold.ID.Session, U6 a2.Hold.ID.Seq, U6 a2.Hold.Epoch, l, m, n, o, p, I6 a2.R.E, U6 a2.R.Epoch, U6 a2.R.Index, q, s, U6 a2.Shards, u, U6 a2.Rule.ID, I6 a2.Rule.From, I6 a2.Rule.To, F6 a2.Rule.Lo, F6 a2.Rule.Hi, U6 a2.Rule.Authority, I6 a2.Rule.Quota, .bool a2.On]) z isAgg49 sizeOf49 (a.vX 0 z)) ?_))))
replace a := aO (av (Pt j 0) k a.aL.aL.aL.aL.aL.aL.aL.aL z)
obtain ⟨d, d9, b⟩ := bn b
refine wc call47 [Pt j 0, .agg #[U1 a2.Kind, U6 a2.ID.Session, U6 a2.ID.Seq, U6 a2.Epoch, U6 a2.Index, I6 a2.E, U6 a2.Hold.ID.Session, U6 a2.Hold.ID.Seq, U6 a2.Hold.Epoch, l, m, n, o, p, I6 a2.R.E, U6 a2.R.Epoch, U6 a2.R.Index, q, s, U6 a2.Shards, u, U6 a2.Rule.ID, I6 a2.Rule.From, I6 a2.Rule.To, F6 a2.Rule.Lo, F6 a2.Rule.Hi, U6 a2.Rule.Authority, I6 a2.Rule.Quota, .bool a2.On]] z z z ((sN (v.mono cD) (x.mono cD) (y.mono cD) (A.mono cD) (B.mono cD) (C.mono cD) (D.mono cD) (F.mono cD) a.to1 d9).mono ?_)
rintro _ k1 ⟨G, H, rfl, a⟩
refine ⟨_, z, ?_⟩
replace a := a.of3.aA
rcases c1 : d.2 with _ | k2
· rw [c1] at b; cases b
rw [c1] at b a; dsimp only at b; replace a := bH a
replace a := a.au
obtain ⟨k3, e0, a⟩ := a.bx [U1 d.1.Kind, U6 d.1.ID.Session, U6 d.1.ID.Seq, I6 d.1.R.E, U6 d.1.R.Epoch, U6 d.1.R.Index, G, H] sizeOf35 z (oJ 6 z (oC (oS a.sv2) (oC (oS a.sv3) oN))) (by kernel_rfl)
refine aE z z (aG e0) (ab (tn (wp_ret (dm (aN ?_)))))
replace a := a.aA
obtain ⟨I241, e2, V, a⟩ := a.cN
replace c := c.trans e2
replace a := a.aA
obtain ⟨I244, c2, e3, a⟩ := a.cN
replace V := V.mono (ro_le c2)
replace c := c.trans c2
replace a := aO a.ag
obtain rfl := sj b
exact aZ [.agg #[U1 d.1.Kind, U6 d.1.ID.Session, U6 d.1.ID.Seq, I6 d.1.R.E, U6 d.1.R.Epoch, U6 d.1.R.Index, G, H]] results14 (bq (bJ (cs := [U1 d.1.Kind, U6 d.1.ID.Session, U6 d.1.ID.Seq, I6 d.1.R.E, U6 d.1.R.Epoch, U6 d.1.R.Index, G, H]) z isAgg35 sizeOf35 (a.eK 0 z)) ai) ⟨_, G, H, z, c, V, e3, a.bu⟩
}
{
intro U b
refine ak (cvb U) (wp_seq (wrl (mb z (mb z (ab (tn (bs b ?_ ?_)))))))
{
intro W b
refine ar (cvb W) (wp_seq (wrl (mp z (mz (ay (cs := [U1 a2.Kind, U6 a2.ID.Session, U6 a2.ID.Seq, U6 a2.Epoch, U6 a2.Index, I6 a2.E, U6 a2.Hold.ID.Session, U6 a2.Hold.ID.Seq, U6 a2.Hold.Epoch, l, m, n, o, p, I6 a2.R.E, U6 a2.R.Epoch, U6 a2.R.Index, q, s, U6 a2.Shards, u, U6 a2.Rule.ID, I6 a2.Rule.From, I6 a2.Rule.To, F6 a2.Rule.Lo, F6 a2.Rule.Hi, U6 a2.Rule.Authority, I6 a2.Rule.Quota, .bool a2.On]) z isAgg49 sizeOf49 (a.vX 0 z)) ?_))))
replace a := aO (av (Pt j 0) k a.aL.aL.aL.aL.aL.aL.aL.aL z)
obtain ⟨f, e4, b⟩ := bn b
refine wc call48 [Pt j 0, .agg #[U1 a2.Kind, U6 a2.ID.Session, U6 a2.ID.Seq, U6 a2.Epoch, U6 a2.Index, I6 a2.E, U6 a2.Hold.ID.Session, U6 a2.Hold.ID.Seq, U6 a2.Hold.Epoch, l, m, n, o, p, I6 a2.R.E, U6 a2.R.Epoch, U6 a2.R.Index, q, s, U6 a2.Shards, u, U6 a2.Rule.ID, I6 a2.Rule.From, I6 a2.Rule.To, F6 a2.Rule.Lo, F6 a2.Rule.Hi, U6 a2.Rule.Authority, I6 a2.Rule.Quota, .bool a2.On]] z z z ((qV (v.mono cD) (x.mono cD) (y.mono cD) (A.mono cD) (B.mono cD) (C.mono cD) (D.mono cD) (F.mono cD) a.to1 e4).mono ?_)
rintro _ k4 ⟨I251, J, K, rfl, e5, a⟩
refine ⟨_, z, ?_⟩
replace a := a.of3
replace c := c.trans e5
replace a := a.aA
rcases c3 : f.2 with _ | k5
· rw [c3] at b; cases b
rw [c3] at b a; dsimp only at b; replace a := bH a
replace a := a.au
obtain ⟨k6, e6, a⟩ := a.bx [U1 f.1.Kind, U6 f.1.ID.Session, U6 f.1.ID.Seq, I6 f.1.R.E, U6 f.1.R.Epoch, U6 f.1.R.Index, J, K] sizeOf35 z (oJ 6 z (oC (oS a.sv2) (oC (oS a.sv3) oN))) (by kernel_rfl)
refine aE z z (aG e6) (ab (tn (wp_ret (dm (aN ?_)))))
replace a := a.aA
obtain ⟨I261, e7, X, a⟩ := a.cN
replace c := c.trans e7
replace a := a.aA
obtain ⟨I264, c4, e8, a⟩ := a.cN
replace X := X.mono (ro_le c4)
replace c := c.trans c4
replace a := aO a.ag
obtain rfl := sj b
exact aZ [.agg #[U1 f.1.Kind, U6 f.1.ID.Session, U6 f.1.ID.Seq, I6 f.1.R.E, U6 f.1.R.Epoch, U6 f.1.R.Index, J, K]] results14 (bq (bJ (cs := [U1 f.1.Kind, U6 f.1.ID.Session, U6 f.1.ID.Seq, I6 f.1.R.E, U6 f.1.R.Epoch, U6 f.1.R.Index, J, K]) z isAgg35 sizeOf35 (a.eK 0 z)) ai) ⟨_, J, K, z, c, X, e8, a.bu⟩
}
{
intro W b
refine ak (cvb W) (wp_seq (wrl (mb z (mb z (ab (tn (bs b ?_ ?_)))))))
{
intro Y b
refine ar (cvb Y) (wp_seq (wrl (mp z (mz (ay (cs := [U1 a2.Kind, U6 a2.ID.Session, U6 a2.ID.Seq, U6 a2.Epoch, U6 a2.Index, I6 a2.E, U6 a2.Hold.ID.Session, U6 a2.Hold.ID.Seq, U6 a2.Hold.Epoch, l, m, n, o, p, I6 a2.R.E, U6 a2.R.Epoch, U6 a2.R.Index, q, s, U6 a2.Shards, u, U6 a2.Rule.ID, I6 a2.Rule.From, I6 a2.Rule.To, F6 a2.Rule.Lo, F6 a2.Rule.Hi, U6 a2.Rule.Authority, I6 a2.Rule.Quota, .bool a2.On]) z isAgg49 sizeOf49 (a.vX 0 z)) ?_))))
replace a := aO (av (Pt j 0) k a.aL.aL.aL.aL.aL.aL.aL.aL z)
obtain ⟨g, e9, b⟩ := bn b
refine wc call49 [Pt j 0, .agg #[U1 a2.Kind, U6 a2.ID.Session, U6 a2.ID.Seq, U6 a2.Epoch, U6 a2.Index, I6 a2.E, U6 a2.Hold.ID.Session, U6 a2.Hold.ID.Seq, U6 a2.Hold.Epoch, l, m, n, o, p, I6 a2.R.E, U6 a2.R.Epoch, U6 a2.R.Index, q, s, U6 a2.Shards, u, U6 a2.Rule.ID, I6 a2.Rule.From, I6 a2.Rule.To, F6 a2.Rule.Lo, F6 a2.Rule.Hi, U6 a2.Rule.Authority, I6 a2.Rule.Quota, .bool a2.On]] z z z ((rz (v.mono cD) (x.mono cD) (y.mono cD) (A.mono cD) (B.mono cD) (C.mono cD) (D.mono cD) (F.mono cD) a.to1 e9).mono ?_)
rintro _ k7 ⟨I271, L, M, rfl, f0, a⟩
refine ⟨_, z, ?_⟩
replace a := a.of3
replace c := c.trans f0
replace a := a.aA
rcases c5 : g.2 with _ | k8
· rw [c5] at b; cases b
rw [c5] at b a; dsimp only at b; replace a := bH a
replace a := a.au
obtain ⟨k9, f1, a⟩ := a.bx [U1 g.1.Kind, U6 g.1.ID.Session, U6 g.1.ID.Seq, I6 g.1.R.E, U6 g.1.R.Epoch, U6 g.1.R.Index, L, M] sizeOf35 z (oJ 6 z (oC (oS a.sv2) (oC (oS a.sv3) oN))) (by kernel_rfl)
refine aE z z (aG f1) (ab (tn (wp_ret (dm (aN ?_)))))
replace a := a.aA
obtain ⟨I281, f2, Z, a⟩ := a.cN
replace c := c.trans f2
replace a := a.aA
obtain ⟨I284, c6, f3, a⟩ := a.cN
replace Z := Z.mono (ro_le c6)
replace c := c.trans c6
replace a := aO a.ag
obtain rfl := sj b
exact aZ [.agg #[U1 g.1.Kind, U6 g.1.ID.Session, U6 g.1.ID.Seq, I6 g.1.R.E, U6 g.1.R.Epoch, U6 g.1.R.Index, L, M]] results14 (bq (bJ (cs := [U1 g.1.Kind, U6 g.1.ID.Session, U6 g.1.ID.Seq, I6 g.1.R.E, U6 g.1.R.Epoch, U6 g.1.R.Index, L, M]) z isAgg35 sizeOf35 (a.eK 0 z)) ai) ⟨_, L, M, z, c, Z, f3, a.bu⟩
}
{
intro Y b
refine ak (cvb Y) (wp_seq (wrl (mb z (mb z (ab (tn (bs b ?_ ?_)))))))
{
intro b0 b
refine ar (cvb b0) (wp_seq (wrl (mp z (mi z (mz (ay (cs := [U1 a2.Kind, U6 a2.ID.Session, U6 a2.ID.Seq, U6 a2.Epoch, U6 a2.Index, I6 a2.E, U6 a2.Hold.ID.Session, U6 a2.Hold.ID.Seq, U6 a2.Hold.Epoch, l, m, n, o, p, I6 a2.R.E, U6 a2.R.Epoch, U6 a2.R.Index, q, s, U6 a2.Shards, u, U6 a2.Rule.ID, I6 a2.Rule.From, I6 a2.Rule.To, F6 a2.Rule.Lo, F6 a2.Rule.Hi, U6 a2.Rule.Authority, I6 a2.Rule.Quota, .bool a2.On]) z isAgg49 sizeOf49 (a.vX 0 z)) ?_)))))
replace a := aO (av (Pt j 0) k a.aL.aL.aL.aL.aL.aL.aL.aL z)
obtain ⟨h, f4, b⟩ := bn b
refine wc call50 [Pt j 0, U6 a1, .agg #[U1 a2.Kind, U6 a2.ID.Session, U6 a2.ID.Seq, U6 a2.Epoch, U6 a2.Index, I6 a2.E, U6 a2.Hold.ID.Session, U6 a2.Hold.ID.Seq, U6 a2.Hold.Epoch, l, m, n, o, p, I6 a2.R.E, U6 a2.R.Epoch, U6 a2.R.Index, q, s, U6 a2.Shards, u, U6 a2.Rule.ID, I6 a2.Rule.From, I6 a2.Rule.To, F6 a2.Rule.Lo, F6 a2.Rule.Hi, U6 a2.Rule.Authority, I6 a2.Rule.Quota, .bool a2.On]] z z z ((ry v x y A B C D F a.to1 f4).mono ?_)
rintro _ l0 ⟨I291, N, O, rfl, f5, c7, c8, a⟩
refine ⟨_, z, ?_⟩
replace a := a.of1
replace c := c.trans f5
rcases c9 : h.2 with _ | l1
· rw [c9] at b; cases b
rw [c9] at b a; dsimp only at b; replace a := bH a
replace a := a.ag
obtain ⟨l2, f6, a⟩ := a.bx [U1 h.1.Kind, U6 h.1.ID.Session, U6 h.1.ID.Seq, I6 h.1.R.E, U6 h.1.R.Epoch, U6 h.1.R.Index, N, O] sizeOf35 z (oJ 6 z (oC (oS (ah c7)) (oC (oS (ah c8)) oN))) (by kernel_rfl)
refine aE z z (aG f6) (ab (tn (wp_ret (dm (aN ?_)))))
replace a := aO a.ag
obtain rfl := sj b
exact aZ [.agg #[U1 h.1.Kind, U6 h.1.ID.Session, U6 h.1.ID.Seq, I6 h.1.R.E, U6 h.1.R.Epoch, U6 h.1.R.Index, N, O]] results14 (bq (bJ (cs := [U1 h.1.Kind, U6 h.1.ID.Session, U6 h.1.ID.Seq, I6 h.1.R.E, U6 h.1.R.Epoch, U6 h.1.R.Index, N, O]) z isAgg35 sizeOf35 (a.eK 0 z)) ai) ⟨_, N, O, z, c, c7, c8, a.bu⟩
}
{
intro b0 b
refine ak (cvb b0) (wp_seq (wrl (mb z (mb z (ab (tn (bs b ?_ ?_)))))))
{
intro b1 b
refine ar (cvb b1) (wp_seq (wrl (mp z (mf z underlying49 z sizeOf28 (mz (ay (cs := [U6 a2.ID.Session, U6 a2.ID.Seq]) z isAgg28 sizeOf28 (a.vX 1 z)) ?_)))))
replace a := aO (av (Pt j 0) k a.aL.aL.aL.aL.aL.aL.aL.aL z)
obtain ⟨Q, f7, b⟩ := bn b
refine wc call51 [Pt j 0, .agg #[U6 a2.ID.Session, U6 a2.ID.Seq]] z z z ((oW a.to1 f7).mono ?_)
rintro _ l3 ⟨rfl, a⟩
refine ⟨_, z, ?_⟩
replace a := bH a.of1
refine mv (.tuple #[I6 Q.1, .bool Q.2]) z (mi z (mb z (mi z (mb z (ab (tn (wp_seq (wrl (mb z (ab (tn (bs b ?_ ?_))))))))))))
{
intro b2 b
refine ar (cvb b2) (wrl (mp z (mp z ?_)))
obtain ⟨l4, f8, f9, g0, g1, g2, g3, g4, b3, g5⟩ := bi a
replace b3 := dI b3
subst b3
have a := g5
refine mp z (mf z underlying111 z sizeOf65 (ml z isAgg65 (a.bc0 z) (mi z (mi z (mi z ?_)))))
replace a := a.bc
obtain ⟨g6, g7, b⟩ := bn b
refine wc call52 [g2, I6 Q.1, I6 (i64.wrap (Q.1 + 1))] z z z ((kx a.to1 g7).mono ?_)
rintro _ l5 ⟨d0, rfl, a⟩
refine ⟨_, z, ?_⟩
replace a := a.of1
refine mp z (mf z underlying111 z sizeOf65 ?_)
replace a := a.ag
obtain ⟨l6, g8, a⟩ := a.cW (P := prog) (t := 65) (cs' := [I6 k.wide, U6 k.epoch, f8, f9, g0, g1, d0, g3, g4]) 6 d0 (oS a.sv1) sizeOf65 z z
refine aE z z (aG g8) (ab (bF (tn (wp_seq (wrl (mk (.agg #[Zb, Zu, Zu, Zi, Zu, Zu, Zs, Zs]) ?_))))))
replace a := a.bM
obtain ⟨l7, g9, a⟩ := a.bx [Zb, Zu, Zu, Zi, Zu, Zu, Zs, Zs] sizeOf35 z (oJ 8 z oN) (by kernel_rfl)
refine aE z z (aG g9) (ab (tn (wp_ret ?_)))
have h0 : Ro aD I (.slice none 0 0) [] := cy
have h1 : Ro (dJ az) I (.slice none 0 0) [] := cy
replace a := aO (av (Pt j 0) (({ k with open_ := g6 } : ae)) a.bM.bM.bf.bM.bM.bM.bM.bM z)
obtain rfl := sj b
exact aZ [.agg #[Zb, Zu, Zu, Zi, Zu, Zu, Zs, Zs]] results14 (bq (bJ (cs := [Zb, Zu, Zu, Zi, Zu, Zu, Zs, Zs]) z isAgg35 sizeOf35 (a.eK 0 z)) ai) ⟨_, Zs, Zs, z, c, h0, h1, a.bu⟩
}
{
intro b2 b
refine ak (cvb b2) (wp_skip (bF (tn (wp_seq (wrl (mk (.agg #[Zb, Zu, Zu, Zi, Zu, Zu, Zs, Zs]) ?_))))))
replace a := a.ag
obtain ⟨l8, h2, a⟩ := a.bx [Zb, Zu, Zu, Zi, Zu, Zu, Zs, Zs] sizeOf35 z (oJ 8 z oN) (by kernel_rfl)
refine aE z z (aG h2) (ab (tn (wp_ret ?_)))
have h3 : Ro aD I (.slice none 0 0) [] := cy
have h4 : Ro (dJ az) I (.slice none 0 0) [] := cy
replace a := aO a.ag
obtain rfl := sj b
exact aZ [.agg #[Zb, Zu, Zu, Zi, Zu, Zu, Zs, Zs]] results14 (bq (bJ (cs := [Zb, Zu, Zu, Zi, Zu, Zu, Zs, Zs]) z isAgg35 sizeOf35 (a.eK 0 z)) ai) ⟨_, Zs, Zs, z, c, h3, h4, a.bu⟩
}
}
{
intro b1 b
refine ak (cvb b1) (wp_seq (wrl (mb z (mb z (ab (tn (bs b ?_ ?_)))))))
{
intro b4 b
refine ar (cvb b4) (wp_seq (wrl (mf z underlying49 z sizeOf4 (ml z isAgg4 (a.bc9 z) (ab (tn (bs b ?_ ?_)))))))
{
intro b5 b
refine ar (cvb b5) (rg a 11 [0, 1, 3, 7, 0, 16, 0, 64, 192, 448, 1023] [] mixed (sp 0 z z (sp 1 z z (sf 2 z z underlying111 z sizeOf107 (sl 3 z z isAgg107 (fun w a => a.bc0 z) (sf 4 z z underlying49 z sizeOf39 (sh _ 5 z (fun w a => ay (cs := [U6 a2.Rule.ID, I6 a2.Rule.From, I6 a2.Rule.To, F6 a2.Rule.Lo, F6 a2.Rule.Hi, U6 a2.Rule.Authority, I6 a2.Rule.Quota]) z isAgg39 sizeOf39 (a.vX 21 z)) (sp 6 z z (sp 7 z z (sf 8 z z underlying111 z sizeOf26 (sl 9 z z isAgg26 (fun w a => a.bc0 z) (e1 10 z z fun w a => ?_))))))))))))
replace a := a.bf
obtain ⟨h5, h6, b⟩ := bn b
refine wec call53 [b9, .agg #[U6 a2.Rule.ID, I6 a2.Rule.From, I6 a2.Rule.To, F6 a2.Rule.Lo, F6 a2.Rule.Hi, U6 a2.Rule.Authority, I6 a2.Rule.Quota], U6 k.epoch] z z ((rp a.to1 h6).mono ?_)
rintro _ l9 ⟨rfl, a⟩
refine ⟨_, z, ?_⟩
replace a := a.of1
refine w0n a (bp ?_)
intro w a
refine bF (tn (wp_seq (wrl (mk (.agg #[Zb, Zu, Zu, Zi, Zu, Zu, Zs, Zs]) ?_))))
replace a := a.bM
obtain ⟨m0, h7, a⟩ := a.bx [Zb, Zu, Zu, Zi, Zu, Zu, Zs, Zs] sizeOf35 z (oJ 8 z oN) (by kernel_rfl)
refine aE z z (aG h7) (ab (tn (wp_ret ?_)))
have h8 : Ro aD I (.slice none 0 0) [] := cy
have h9 : Ro (dJ az) I (.slice none 0 0) [] := cy
replace a := aO (av (Pt j 0) (({ k with book := h5 } : ae)) a.bM.bM.bM.bf.bM.bM.bM.bM z)
obtain rfl := sj b
exact aZ [.agg #[Zb, Zu, Zu, Zi, Zu, Zu, Zs, Zs]] results14 (bq (bJ (cs := [Zb, Zu, Zu, Zi, Zu, Zu, Zs, Zs]) z isAgg35 sizeOf35 (a.eK 0 z)) ai) ⟨_, Zs, Zs, z, c, h8, h9, a.bu⟩
}
{
intro b5 b
refine ak (cvb b5) (rg a 12 [0, 1, 3, 7, 0, 16, 48, 0, 128, 384, 896, 2047] [] mixed (sp 0 z z (sp 1 z z (sf 2 z z underlying111 z sizeOf107 (sl 3 z z isAgg107 (fun w a => a.bc0 z) (sf 4 z z underlying49 z sizeOf39 (sf 5 z z underlying39 z sizeOf26 (sl 6 z z isAgg26 (fun w a => a.bc9 z) (sp 7 z z (sp 8 z z (sf 9 z z underlying111 z sizeOf26 (sl 10 z z isAgg26 (fun w a => a.bc0 z) (e1 11 z z fun w a => ?_)))))))))))))
replace a := a.bf
obtain ⟨i0, i1, b⟩ := bn b
refine wec call54 [b9, U6 a2.Rule.ID, U6 k.epoch] z z ((nC a.to1 i1).mono ?_)
rintro _ m1 ⟨rfl, a⟩
refine ⟨_, z, ?_⟩
replace a := a.of1
refine w0n a (bp ?_)
intro w a
refine bF (tn (wp_seq (wrl (mk (.agg #[Zb, Zu, Zu, Zi, Zu, Zu, Zs, Zs]) ?_))))
replace a := a.bM
obtain ⟨m2, i2, a⟩ := a.bx [Zb, Zu, Zu, Zi, Zu, Zu, Zs, Zs] sizeOf35 z (oJ 8 z oN) (by kernel_rfl)
refine aE z z (aG i2) (ab (tn (wp_ret ?_)))
have i3 : Ro aD I (.slice none 0 0) [] := cy
have i4 : Ro (dJ az) I (.slice none 0 0) [] := cy
replace a := aO (av (Pt j 0) (({ k with book := i0.2 } : ae)) a.bM.bM.bM.bf.bM.bM.bM.bM z)
obtain rfl := sj b
exact aZ [.agg #[Zb, Zu, Zu, Zi, Zu, Zu, Zs, Zs]] results14 (bq (bJ (cs := [Zb, Zu, Zu, Zi, Zu, Zu, Zs, Zs]) z isAgg35 sizeOf35 (a.eK 0 z)) ai) ⟨_, Zs, Zs, z, c, i3, i4, a.bu⟩
}
}
{
intro b4 b
refine ak (cvb b4) (wp_seq (wrl (mb z (mb z (ab (tn (bs b ?_ ?_)))))))
{
intro b6 b
refine ar (cvb b6) (wp_seq (wrl (mp z (mi z (mz (ay (cs := [U1 a2.Kind, U6 a2.ID.Session, U6 a2.ID.Seq, U6 a2.Epoch, U6 a2.Index, I6 a2.E, U6 a2.Hold.ID.Session, U6 a2.Hold.ID.Seq, U6 a2.Hold.Epoch, l, m, n, o, p, I6 a2.R.E, U6 a2.R.Epoch, U6 a2.R.Index, q, s, U6 a2.Shards, u, U6 a2.Rule.ID, I6 a2.Rule.From, I6 a2.Rule.To, F6 a2.Rule.Lo, F6 a2.Rule.Hi, U6 a2.Rule.Authority, I6 a2.Rule.Quota, .bool a2.On]) z isAgg49 sizeOf49 (a.vX 0 z)) ?_)))))
replace a := aO (av (Pt j 0) k a.aL.aL.aL.aL.aL.aL.aL.aL z)
obtain ⟨i, i5, b⟩ := bn b
refine wc call55 [Pt j 0, U6 a1, .agg #[U1 a2.Kind, U6 a2.ID.Session, U6 a2.ID.Seq, U6 a2.Epoch, U6 a2.Index, I6 a2.E, U6 a2.Hold.ID.Session, U6 a2.Hold.ID.Seq, U6 a2.Hold.Epoch, l, m, n, o, p, I6 a2.R.E, U6 a2.R.Epoch, U6 a2.R.Index, q, s, U6 a2.Shards, u, U6 a2.Rule.ID, I6 a2.Rule.From, I6 a2.Rule.To, F6 a2.Rule.Lo, F6 a2.Rule.Hi, U6 a2.Rule.Authority, I6 a2.Rule.Quota, .bool a2.On]] z z z ((td (v.mono cD) (x.mono cD) (y.mono cD) (A.mono cD) (B.mono cD) (C.mono cD) (D.mono cD) (F.mono cD) a.to1 i5).mono ?_)
rintro _ m3 ⟨I375, S, T, rfl, i6, d1, d2, a⟩
refine ⟨_, z, ?_⟩
replace a := a.of1
replace c := c.trans i6
rcases d3 : i.2 with _ | m4
· rw [d3] at b; cases b
rw [d3] at b a; dsimp only at b; replace a := bH a
replace a := a.ag
obtain ⟨m5, i7, a⟩ := a.bx [U1 i.1.Kind, U6 i.1.ID.Session, U6 i.1.ID.Seq, I6 i.1.R.E, U6 i.1.R.Epoch, U6 i.1.R.Index, S, T] sizeOf35 z (oJ 6 z (oC (oS (ah d1)) (oC (oS (ah d2)) oN))) (by kernel_rfl)
refine aE z z (aG i7) (ab (tn (wp_ret (dm (aN ?_)))))
replace a := aO a.ag
obtain rfl := sj b
exact aZ [.agg #[U1 i.1.Kind, U6 i.1.ID.Session, U6 i.1.ID.Seq, I6 i.1.R.E, U6 i.1.R.Epoch, U6 i.1.R.Index, S, T]] results14 (bq (bJ (cs := [U1 i.1.Kind, U6 i.1.ID.Session, U6 i.1.ID.Seq, I6 i.1.R.E, U6 i.1.R.Epoch, U6 i.1.R.Index, S, T]) z isAgg35 sizeOf35 (a.eK 0 z)) ai) ⟨_, S, T, z, c, d1, d2, a.bu⟩
}
{
intro b6 b
refine ak (cvb b6) (wp_skip (bF (tn (wp_seq (wrl (mk (.agg #[Zb, Zu, Zu, Zi, Zu, Zu, Zs, Zs]) ?_))))))
replace a := a.bM
obtain ⟨m6, i8, a⟩ := a.bx [Zb, Zu, Zu, Zi, Zu, Zu, Zs, Zs] sizeOf35 z (oJ 8 z oN) (by kernel_rfl)
refine aE z z (aG i8) (ab (tn (wp_ret ?_)))
have i9 : Ro aD I (.slice none 0 0) [] := cy
have j0 : Ro (dJ az) I (.slice none 0 0) [] := cy
replace a := aO (av (Pt j 0) k a.bM.bM.bM.bM.bM.bM.bM.bM z)
obtain rfl := sj b
exact aZ [.agg #[Zb, Zu, Zu, Zi, Zu, Zu, Zs, Zs]] results14 (bq (bJ (cs := [Zb, Zu, Zu, Zi, Zu, Zu, Zs, Zs]) z isAgg35 sizeOf35 (a.eK 0 z)) ai) ⟨_, Zs, Zs, z, c, i9, j0, a.bu⟩
}
}
}
}
}
}
}
}
}
theorem oz {a0 : (Option ae)} {p0 : Value} (a : St w0 w I [cF aI p0 a0] R) {r : (Int)} (b : iQ a0 = some r) :
  Calls prog 24 #[p0] w fun e w' => e = .returned (.int .u64 r) ∧ St w0 w' I [cF aI p0 a0] R := by {
rcases a0 with _ | c
{
dsimp only [iQ] at b
cases b
}
{
replace a := bH a
dsimp only [iQ] at b
refine c0 func24 z ntmps24 (wp_seq (wrl (mi z (ab (tn (wp_seq (wp_seq (wrl (mv (p0) z ?_)))))))))
obtain ⟨d, g, h, i, j, k, l, m, rfl, f⟩ := bi a
have a := f
refine mk (.bool false) (ab (tn (ak z (wp_skip (tn (wp_seq (wrl (mp z (mp z (mf z underlying111 z sizeOf26 (ml z isAgg26 (a.bc0 z) (mi z (ab (tn (wp_ret ?_)))))))))))))))
replace a := aO (av (Pt d 0) c a.aL.aL.aL.aL.aL.aL.aL.aL z)
obtain rfl := sj b
exact aZ [U6 c.epoch] results24 (rc z ai) ⟨z, a.bu⟩
}
}
theorem oO  (a : St w0 w I [] R) {r : (Bool)} (b : lV = some r) :
  Calls prog 12 #[] w fun e w' => ∃ (I' : HL), e = .returned (.bool r) ∧ I.le I' ∧ St w0 w' I' [] R := by {
unfold lV at b
refine c0 func12 z ntmps12 ?_
have g := HL.le.refl I
refine wp_seq (wrl (mb z (ab (tn (wp_seq (wrl ?_))))))
obtain ⟨G, j, b⟩ := bn b
refine wc call13 [I6 4] z z z ((tN a.to0 j).mono ?_)
rintro _ H ⟨d, rfl, a⟩
refine ⟨_, z, ?_⟩
replace a := a.of1
refine mv (d) z (ab (tn (wp_seq (wrl (mv (d) z (mk (.agg #[U1 1, Zu, Zu, U6 1, Zu, Zi, Zu, Zu, Zu, Zs, Zs, Zs, Zs, Zs, Zi, Zu, Zu, Zs, Zs, Zu, Zs, Zu, Zi, Zi, Zf, Zf, Zu, Zi, .bool false]) ?_))))))
replace a := aO a
have k : Ro bY I (.slice none 0 0) [] := cy
have l : Ro gB I (.slice none 0 0) [] := cy
have m : Ro bY I (.slice none 0 0) [] := cy
have n : Ro (cp .u8) I (.slice none 0 0) [] := cy
have o : Ro cI I (.slice none 0 0) [] := cy
have p : Ro aD I (.slice none 0 0) [] := cy
have q : Ro (dJ az) I (.slice none 0 0) [] := cy
have s : Ro cM I (.slice none 0 0) [] := cy
obtain ⟨c, t, b⟩ := bn b
refine wc call14 [d, U6 1, .agg #[U1 1, Zu, Zu, U6 1, Zu, Zi, Zu, Zu, Zu, Zs, Zs, Zs, Zs, Zs, Zi, Zu, Zu, Zs, Zs, Zu, Zs, Zu, Zi, Zi, Zf, Zf, Zu, Zi, .bool false]] z z z ((oH (a2 := ({ Kind := 1, ID := ({ Session := 0, Seq := 0 } : bO), Epoch := 1, Index := 0, E := 0, Hold := ef, Writes := [], R := bK, Shards := 0, Parts := [], Rule := eE, On := false } : aH)) k l m n o p q s a.to1 t).mono ?_)
rintro _ J ⟨I80, u, v, rfl, x, y, A, a⟩
refine ⟨_, z, ?_⟩
replace a := a.of1
replace g := g.trans x
rcases h : c.2 with _ | K
· rw [h] at b; cases b
rw [h] at b a; dsimp only at b; replace a := bH a
obtain ⟨L, M, B, C, a⟩ := a.box [Zb, Zu, Zu, Zi, Zu, Zu, Zs, Zs] 35
refine wa B C ?_
obtain ⟨N, D, a⟩ := a.bx [U1 c.1.Kind, U6 c.1.ID.Session, U6 c.1.ID.Seq, I6 c.1.R.E, U6 c.1.R.Epoch, U6 c.1.R.Index, u, v] sizeOf35 z (oJ 6 z (oC (oS (ah y)) (oC (oS (ah A)) oN))) (by kernel_rfl)
refine aE z z (aG D) (ab (tn (wp_seq (wrl (mf z underlying35 z sizeOf5 (ml z isAgg5 (a.bc0 z) (mb z (mb z (bs b ?_ ?_)))))))))
{
intro f b
refine gv (d) f z ?_
replace a := aO a.ag
obtain ⟨O, F, b⟩ := bn b
refine dj ((aw z z z (cvb f)).trans z) z (jv call24 z (vs := [d]) z) ((oz a.to1 F).mono ?_)
rintro _ P ⟨rfl, a⟩
refine ⟨_, z, ?_⟩
replace a := bH a.of1
refine gb f z (mb (aS f z z) (mb z (bs b ?_ ?_)))
{
intro i b
refine mb (aS i z z) (mb z (ab (tn (wp_ret ?_))))
obtain rfl := sj b
exact aZ [.bool true] results12 (rc z ai) ⟨_, z, g, a.bU⟩
}
{
intro i b
cases b
}
}
{
intro f b
cases b
}
}
theorem wG {a0 : Int} (a : St w0 w I [] R) {r : (aj)} (c : sv a0 = some r) :
  Calls prog 26 #[I6 a0] w fun e w' => ∃ (d : Value), e = .returned (d) ∧ St w0 w' I [aR d r] R := by {
unfold sv at c
refine c0 func26 z ntmps26 (wp_seq (wrl (mv (.pointer none) z (ab (tn (wp_seq (wrl (mi z (mk (.agg #[I6 a0, U6 1, Zs, Zs, Zs, Zs, Zs, Zs, Zs]) ?_)))))))))
obtain ⟨b, l, f, g, a⟩ := a.box [I6 a0, U6 1, Zs, Zs, Zs, Zs, Zs, Zs, Zs] 130
refine wa f g (mp z (ab (tn (wp_ret ?_))))
have h : Ro cX I (.slice none 0 0) [] := cy
have i : Ro bt I (.slice none 0 0) [] := cy
have j : Ro eC I (.slice none 0 0) [] := cy
have k : Ro dR I (.slice none 0 0) [] := cy
replace a := al (Pt b 0) (({ Wide := a0, Epoch := 1, V := [], H := [], A := [], B := [], Open := [], Out := [], Used := [] } : aj)) (((a.bd aM).bd cj).bd dA).ag.aA.au ⟨z, h, i, j, k⟩
obtain rfl := sj c
exact aZ [Pt b 0] results26 (rc z ai) ⟨Pt b 0, z, a.bu⟩
}
theorem aU {a0 : ao} {p0 : Value} {a1 : Int} (a : St w0 w I [bG p0 a0] R) {r : (Int × ao)} (b : aK a0 a1 = some r) :
  Calls prog 64 #[p0, I6 a1] w fun e w' => e = .returned (.int .i64 r.1) ∧ St w0 w' I [bG p0 r.2] R := by {
unfold aK at b
refine c0 func64 z ntmps64 (wp_seq (wrl (mi z (ab (tn (wp_seq (wp_seq ?_)))))))
obtain ⟨f, h, ⟨rfl, c⟩, i⟩ := pN a
have a := i
refine dO a mixed (by kernel_rfl) (qz (Pt _ _) z (qz (Pt _ _) z (qh _ (fun w a => aT z underlying74 z sizeOf3 z) (qh _ (fun w a => aq z isAgg3 (a.bc0 z)) (qz (Pt _ _) z (qz (Pt _ _) z (qh _ (fun w a => aT z underlying74 z sizeOf22 z) (qh _ (fun w a => aq z isAgg22 (a.bc0 z)) (qh _ (fun w a => bZ z underlying22 (ah c)) (qz (.bool _) z (fO ?_)))))))))))
intro w a
refine tn (bs b ?_ ?_)
{
intro d b
refine ar (cvb d) (wp_seq (wrl (mi z (ab (tn (wp_ret (aN ?_)))))))
replace a := mE (Pt f 0) a0 a ⟨z, c⟩
obtain rfl := sj b
exact aZ [Zi] results64 (rc z ai) ⟨z, a.bu⟩
}
{
intro d b
refine ak (cvb d) (wp_skip (tn (wp_seq (wrl (mp z (mp z (mf z underlying74 z sizeOf3 (ml z isAgg3 (a.bc0 z) (mi z (mp z (mf z underlying74 z sizeOf3 ?_)))))))))))
obtain ⟨p, j, a⟩ := a.by_ [h, I6 (i64.wrap (a0.I + 1))] 1 (.int .i64 (i64.wrap (a0.I + 1))) sizeOf3 z (oC z oN) (by kernel_rfl)
refine aE z z (aG j) (ab (tn (wp_seq (dO a mixed (by kernel_rfl) (qz (Pt _ _) z (qz (Pt _ _) z (qh _ (fun w a => aT z underlying74 z sizeOf22 z) (qh _ (fun w a => aq z isAgg22 (a.bc0 z)) (qz (Pt _ _) z (qz (Pt _ _) z (qh _ (fun w a => aT z underlying74 z sizeOf3 z) (qh _ (fun w a => aq z isAgg3 (a.bc0 z)) (qz (I6 _) z ?_)))))))))))))
obtain ⟨g, k, b⟩ := bn b
obtain ⟨l, m, n⟩ := aP k
refine qh _ (fun w a => aC z z underlying22 sizeOf5 (ah c) l m) (qh _ (fun w a => aq z isAgg5 (DT c a n (by rintro _ rfl; rfl))) (tz (v := .int .i64 (i64.wrap g)) z z (fun w a => by kernel_rfl) (qz (I6 _) z ?_)))
obtain ⟨o, b⟩ := cz b
refine qh (I6 _) (fun w a => yR (FG o) z z) (qz (I6 _) z (fO ?_))
intro w a
refine tn (wp_ret ?_)
replace a := mE (Pt f 0) (({ L := a0.L, I := (i64.wrap (a0.I + 1)) } : ao)) a ⟨z, c⟩
obtain rfl := sj b
exact aZ [I6 (Int.tmod (i64.wrap g) a1)] results64 (rc z ai) ⟨z, a.bu⟩
}
}
theorem jQ {a0 : ao} {p0 : Value} (a : St w0 w I [bG p0 a0] R) {r : (bO × ao)} (b : eG a0 = some r) :
  Calls prog 27 #[p0] w fun e w' => e = .returned (.agg #[U6 r.1.Session, U6 r.1.Seq]) ∧ St w0 w' I [bG p0 r.2] R := by {
unfold eG at b
refine c0 func27 z ntmps27 (wp_seq (wrl ?_))
obtain ⟨k, l, f, g, a⟩ := a.box [Zu, Zu] 28
refine wa f g (ab (tn (wp_seq (wrl (mv (p0) z ?_)))))
replace a := a.ag
obtain ⟨c, h, b⟩ := bn b
refine wc call64 [p0, I6 4] z z z ((aU a.to1 h).mono ?_)
rintro _ m ⟨rfl, a⟩
refine ⟨_, z, ?_⟩
replace a := a.of1
refine mk (.int .u64 (u64.wrap c.1)) (mv (p0) z ?_)
obtain ⟨d, i, b⟩ := bn b
refine wc call64 [p0, I6 4] z z z ((aU a.to1 i).mono ?_)
rintro _ n ⟨rfl, a⟩
refine ⟨_, z, ?_⟩
replace a := a.of1
refine mi z (mk (.int .u64 (u64.wrap (i64.wrap (1 + d.1)))) (mk (.agg #[U6 (u64.wrap c.1), U6 (u64.wrap (i64.wrap (1 + d.1)))]) ?_))
replace a := a.ag
obtain ⟨o, j, a⟩ := a.bx [U6 (u64.wrap c.1), U6 (u64.wrap (i64.wrap (1 + d.1)))] sizeOf28 z (oC z (oC z oN)) (by kernel_rfl)
refine aE z z (aG j) (ab (tn (wp_ret ?_)))
obtain rfl := sj b
refine aZ [.agg #[U6 (u64.wrap c.1), U6 (u64.wrap (i64.wrap (1 + d.1)))]] results27 (bq (bJ (cs := [U6 (u64.wrap c.1), U6 (u64.wrap (i64.wrap (1 + d.1)))]) z isAgg28 sizeOf28 (a.eF 0 z)) ai) ?_
replace a := a.ag
exact ⟨z, a.bu⟩
}
theorem uR {a0 : Int} (a : St w0 w I [] R) {r : (Nat)} (b : qb a0 = some r) :
  Calls prog 65 #[U1 a0] w fun e w' => e = .returned (.float .f64 r) ∧ St w0 w' I [] R := by {
unfold qb at b
refine c0 func65 z ntmps65 (wp_seq (wrl (mv (F6 _) z (ab (tn (wp_seq (wrl ?_)))))))
obtain ⟨c, d, f, g, a⟩ := a.ey (E := bY) (xs := [(0:Nat), (4607182418800017408:Nat), (13830554455654793216:Nat), (4612811918334230528:Nat), (9094988921128908188:Nat), (18318360957983683996:Nat), (4602678819172646912:Nat), (4613937818241073152:Nat)]) [[Zf], [F6 (4607182418800017408:Nat)], [F6 (13830554455654793216:Nat)], [F6 (4612811918334230528:Nat)], [F6 (9094988921128908188:Nat)], [F6 (18318360957983683996:Nat)], [F6 (4602678819172646912:Nat)], [F6 (4613937818241073152:Nat)]] 37 8 z (bE.cons z (bE.cons z (bE.cons z (bE.cons z (bE.cons z (bE.cons z (bE.cons z (bE.cons z bE.nil))))))))
refine cb (v := (.slice (some ⟨c, 0, none⟩) 8 8)) (w' := d) z z (dn (by kernel_rfl) f g) (mv ((.slice (some ⟨c, 0, none⟩) 8 8)) z (ab (tn (wp_seq (wrl (mv ((.slice (some ⟨c, 0, none⟩) 8 8)) z (mi z (mi (yR (by decide) z z) ?_))))))))
obtain ⟨h, i, b⟩ := bn b
obtain ⟨j, k, l⟩ := aP i
refine mz (aC z z underlying43 sizeOf37 a.sv0 j k) (ml z isAgg37 (a.ol0 l (by rintro _ rfl; rfl)) (mv (F6 _) z (ab (tn (wp_ret ?_)))))
obtain rfl := sj b
exact aZ [F6 h] results65 (rc z ai) ⟨z, a.bU⟩
}
theorem ei {a0 : ao} {p0 : Value} (a : St w0 w I [bG p0 a0] R) {r : (Nat × ao)} (b : cV a0 = some r) :
  Calls prog 28 #[p0] w fun e w' => e = .returned (.float .f64 r.1) ∧ St w0 w' I [bG p0 r.2] R := by {
unfold cV at b
refine c0 func28 z ntmps28 (wp_seq (wrl (mv (F6 _) z (ab (tn (wp_seq (wrl (mv (p0) z ?_))))))))
obtain ⟨c, d, b⟩ := bn b
refine wc call64 [p0, I6 8] z z z ((aU a.to1 d).mono ?_)
rintro _ h ⟨rfl, a⟩
refine ⟨_, z, ?_⟩
replace a := a.of1
refine mk (.int .u8 (u8.wrap c.1)) ?_
obtain ⟨f, g, b⟩ := bn b
refine wc call65 [U1 (u8.wrap c.1)] z z z ((uR a.to0 g).mono ?_)
rintro _ i ⟨rfl, a⟩
refine ⟨_, z, ?_⟩
replace a := a.of0
refine mv (F6 _) z (ab (tn (wp_ret ?_)))
obtain rfl := sj b
exact aZ [F6 f] results28 (rc z ai) ⟨z, a.bu⟩
}
theorem kM {a0 : ao} {p0 : Value} (b : St w0 w I [bG p0 a0] R) {r : ((List Int) × ao)} (c : eQ a0 = some r) :
  Calls prog 66 #[p0] w fun e w' => ∃ (m : Value), e = .returned (m) ∧ St w0 w' I [bg (cp .u8) m r.1, bG p0 r.2] R := by {
unfold eQ at c
refine c0 func66 z ntmps66 (wp_seq (wrl (mv ((.slice none 0 0)) z (ab (tn (wp_seq (wrl (mv ((.slice none 0 0)) z (ab (tn (wp_seq (wrl (mv (p0) z ?_)))))))))))))
obtain ⟨i, p, c⟩ := bn c
refine wc call64 [p0, I6 4] z z z ((aU b.to1 p).mono ?_)
rintro _ D ⟨rfl, b⟩
refine ⟨_, z, ?_⟩
replace b := b.of1
refine mi z (ab (tn (wp_seq (wp_seq (wrl (mi z (ab (tn (wp_block ?_)))))))))
replace b := b.bd (cp .u8)
obtain ⟨q, c⟩ := aX c
refine bm (fun n a w => ∃ (j : ao) (g : (List Int)) (h : Int) (d : Value), cT (fP i) n (j, g, h) = some r ∧ fz 21 [0, 3, 4, 5] [p0, d, I6 i.1, I6 h] a ∧ St w0 w I [bg (cp .u8) d g, bG p0 j] R) q ⟨i.2, [], 0, Zs, c, fy z, b⟩ ?_
rintro F _ G ⟨j, g, h, d, c, ⟨H, rfl⟩, b⟩
obtain ⟨J, K, rfl, c, o⟩ := ba c
dsimp only [fP] at c
refine wp_seq (wp_seq (wrl (mi z (mi z (mb z (ab (tn (bs c ?_ ?_))))))))
{
intro k c
refine ar (cvb k) (wp_skip (tn (wp_seq (wp_block (wrl (mv (d) z (mv (p0) z ?_)))))))
replace b := b.ag
obtain ⟨f, s, c⟩ := bn c
refine wc call64 [p0, I6 26] z z z ((aU b.to1 s).mono ?_)
rintro _ L ⟨rfl, b⟩
refine ⟨_, z, ?_⟩
replace b := b.of1
refine mi z (mk (.int .u8 (u8.wrap (i64.wrap (97 + f.1)))) ?_)
obtain ⟨t, u, x, y, b⟩ := b.ey (E := (cp .u8)) (xs := [(u8.wrap (i64.wrap (97 + f.1)))]) [[U1 (u8.wrap (i64.wrap (97 + f.1)))]] 5 1 z (bE.cons z bE.nil)
refine cb (v := (.slice (some ⟨t, 0, none⟩) 1 1)) (w' := u) z z (dn (by kernel_rfl) x y) ?_
obtain ⟨A, c⟩ := cz c
replace b := b.aA
obtain ⟨l, B, C, b⟩ := bI uV underlying22 b b.ju (cK A z) 22
refine cb (v := l) (w' := B) z z (bX z z C) (mv (l) z (ab (bF (tn (wrl (mi z (mi z (mi z (ab (tn ?_))))))))))
replace b := b.aA.ag.ck
obtain rfl := sj c
exact ⟨_, nls, f.2, (g ++ ([(u8.wrap (i64.wrap (97 + f.1)))])), (i64.wrap (h + 1)), l, o, fy z, b⟩
}
{
intro k c
refine ak (cvb k) (wp_exit (aV (aV ?_)))
replace c := bo c o
refine de (tn (wp_seq (wrl (mv (d) z (mv (d) z (ab (tn (wp_ret ?_))))))))
obtain rfl := sj c
refine aZ [d] results66 (rc z ai) ?_
replace b := b.ag.ag
exact ⟨d, z, b.ck⟩
}
}
theorem sS {a0 : ao} {p0 : Value} (b : St w0 w I [bG p0 a0] R) {r : (ap × ao)} (c : iA a0 = some r) :
  Calls prog 83 #[p0] w fun e w' => ∃ (b2 : Value) (b3 : Value) (b4 : Value) (b5 : Value), e = .returned (.agg #[U6 r.1.ID.Session, U6 r.1.ID.Seq, U6 r.1.Epoch, b2, b3, b4, b5]) ∧ St w0 w' I [bg bY b2 r.1.Gets, bg gB b3 r.1.Scans, bg bY b4 r.1.Puts, bg (cp .u8) b5 r.1.Data, bG p0 r.2] R := by {
unfold iA at c
refine c0 func83 z ntmps83 (wp_seq (wrl ?_))
obtain ⟨j, h3, b9, c1, b⟩ := b.box [Zu, Zu, Zu, Zs, Zs, Zs, Zs] 46
refine wa b9 c1 (ab (tn (wp_seq (wrl (mv (p0) z ?_)))))
replace b := b.ag
obtain ⟨d, c2, c⟩ := bn c
refine wc call27 [p0] z z z ((jQ b.to1 c2).mono ?_)
rintro _ h4 ⟨rfl, b⟩
refine ⟨_, z, ?_⟩
replace b := b.of1
refine mv (p0) z ?_
obtain ⟨f, c3, c⟩ := bn c
refine wc call64 [p0, I6 4] z z z ((aU b.to1 c3).mono ?_)
rintro _ h5 ⟨rfl, b⟩
refine ⟨_, z, ?_⟩
replace b := b.of1
refine mi z (mk (.int .u64 (u64.wrap (i64.wrap (1 + f.1)))) (mk (.agg #[U6 d.1.Session, U6 d.1.Seq, U6 (u64.wrap (i64.wrap (1 + f.1))), Zs, Zs, Zs, Zs]) ?_))
obtain ⟨k, h6, c4, c5, b⟩ := b.box [Zu, Zu, Zu, Zs, Zs, Zs, Zs] 46
refine wa c4 c5 ?_
obtain ⟨h7, c6, b⟩ := b.bx [U6 d.1.Session, U6 d.1.Seq, U6 (u64.wrap (i64.wrap (1 + f.1))), Zs, Zs, Zs, Zs] sizeOf46 z (oJ 7 z oN) (by kernel_rfl)
refine aE z z (aG c6) (ab (tn (wp_seq (wrl (mv (p0) z ?_)))))
replace b := b.ag
obtain ⟨Q, c7, c⟩ := bn c
refine wc call64 [p0, I6 3] z z z ((aU b.to1 c7).mono ?_)
rintro _ h8 ⟨rfl, b⟩
refine ⟨_, z, ?_⟩
replace b := b.of1
refine mi z (ab (tn ?_))
obtain ⟨c8, c, c9⟩ := bn c
refine cU (fun a w => ∃ (S : ao) (l : (List Nat)) (g : Value), (nf d f) (S, l) = some r ∧ fz 68 [0, 2, 3] [p0, Pt j 0, Pt k 0] a ∧ St w0 w I [bG p0 S, cells j [Zu, Zu, Zu, Zs, Zs, Zs, Zs], cells k [U6 d.1.Session, U6 d.1.Seq, U6 (u64.wrap (i64.wrap (1 + f.1))), g, Zs, Zs, Zs], bg bY g l] R) ?_ ?_
{
refine wp_seq (wrl (mi z (ab (tn (wp_block ?_)))))
replace b := b.bd bY
obtain ⟨d0, c⟩ := aX c
refine bm (fun n a w => ∃ (p : (List Nat)) (x : ao) (y : Int) (A : Value), cT (fG Q) n (p, x, y) = some c8 ∧ fz 68 [0, 2, 3, 4, 5] [p0, Pt j 0, Pt k 0, I6 Q.1, I6 y] a ∧ St w0 w I [bg bY A p, bG p0 x, cells k [U6 d.1.Session, U6 d.1.Seq, U6 (u64.wrap (i64.wrap (1 + f.1))), A, Zs, Zs, Zs], cells j [Zu, Zu, Zu, Zs, Zs, Zs, Zs]] R) d0 ⟨[], Q.2, 0, Zs, c, fy z, b⟩ ?_
rintro h9 _ i0 ⟨p, x, y, A, c, ⟨i1, rfl⟩, b⟩
obtain ⟨i2, i3, rfl, c, b6⟩ := ba c
dsimp only [fG] at c
refine wp_seq (wp_seq (wrl (mi z (mi z (mb z (ab (tn (bs c ?_ ?_))))))))
{
intro T c
refine ar (cvb T) (wp_skip (tn (wp_seq (wp_block (rg b 8 [0, 1, 0, 4, 12, 31, 63, 127] [] mixed (sf 0 z z underlying46 z sizeOf43 (sl 1 z z isAgg43 (fun w b => b.bc2 z) (sz (p0) 2 z z (e1 3 z z fun w b => ?_)))))))))
replace b := b.ag
obtain ⟨B, d1, c⟩ := bn c
refine wec call28 [p0] z z ((ei b.to1 d1).mono ?_)
rintro _ i4 ⟨rfl, b⟩
refine ⟨_, z, ?_⟩
replace b := b.of1
refine wn [1, 0] b (pkr z z (fun w b => aq z isAgg43 (b.bc2 z)) (pf z z underlying46 z sizeOf43 bD)) (e1 4 z z fun w b => ?_)
obtain ⟨d2, d3, d4, d5, b⟩ := b.ey (E := bY) (xs := [B.1]) [[F6 B.1]] 37 1 z (bE.cons z bE.nil)
refine bW (v := (.slice (some ⟨d2, 0, none⟩) 1 1)) (w' := d3) z (dn (by kernel_rfl) d4 d5) (wn [1, 0] b (pkr z z (fun w b => aq z isAgg43 (b.bc3 z)) (pf z z underlying46 z sizeOf43 bD)) (e1 5 z z fun w b => ?_))
obtain ⟨d6, c⟩ := cz c
replace b := b.aA
obtain ⟨C, d7, d8, b⟩ := bI oZ underlying43 b b.ju (cK d6 z) 43
refine bW (v := C) (w' := d7) z (bX z z d8) (w0n b (sf 6 z z underlying46 z sizeOf43 (e1 7 z z fun w b => ?_)))
replace b := b.au
obtain ⟨i5, d9, b⟩ := b.cW (P := prog) (t := 43) (cs' := [U6 d.1.Session, U6 d.1.Seq, U6 (u64.wrap (i64.wrap (1 + f.1))), C, Zs, Zs, Zs]) 3 C (oS b.sv1) sizeOf43 z z
refine dz z (aG d9) (w0n b (bp ?_))
intro w b
refine bF (tn (wrl (mi z (mi z (mi z (ab (tn ?_)))))))
replace b := b.bf.ag.bf.au.eI
obtain rfl := sj c
exact ⟨_, nls, (p ++ ([B.1])), B.2, (i64.wrap (y + 1)), C, b6, fy z, b⟩
}
{
intro T c
refine ak (cvb T) (wp_exit (aV (aV ?_)))
replace c := bo c b6
refine de (tn ?_)
replace b := b.aA.au.au.eI
obtain rfl := sj c
exact ⟨x, p, A, c9, fy z, b⟩
}
}
{
rintro _ i6 ⟨S, l, g, c, ⟨i7, rfl⟩, b⟩
dsimp only [nf] at c
refine wp_seq (wrl (mv (p0) z ?_))
obtain ⟨U, e0, c⟩ := bn c
refine wc call64 [p0, I6 3] z z z ((aU b.to1 e0).mono ?_)
rintro _ i8 ⟨rfl, b⟩
refine ⟨_, z, ?_⟩
replace b := b.of1
refine mi (Eo (by decide) z z) (mi z (ab (tn ?_)))
obtain ⟨e2, c, e3⟩ := bn c
refine cU (fun a w => ∃ (V : ao) (o : (List (Nat × Nat))) (h : Value), (ng d f l) (V, o) = some r ∧ fz 68 [0, 2, 3] [p0, Pt j 0, Pt k 0] a ∧ St w0 w I [bG p0 V, cells j [Zu, Zu, Zu, Zs, Zs, Zs, Zs], cells k [U6 d.1.Session, U6 d.1.Seq, U6 (u64.wrap (i64.wrap (1 + f.1))), g, h, Zs, Zs], bg bY g l, bg gB h o] R) ?_ ?_
{
refine wp_seq (wrl (mi z (ab (tn (wp_block ?_)))))
replace b := b.bd gB
obtain ⟨e4, c⟩ := aX c
refine bm (fun n a w => ∃ (q : (List (Nat × Nat))) (D : ao) (F : Int) (G : Value), cT (fC U) n (q, D, F) = some e2 ∧ fz 68 [0, 2, 3, 4, 6] [p0, Pt j 0, Pt k 0, I6 (i64.wrap (Int.tdiv U.1 2)), I6 F] a ∧ St w0 w I [bg gB G q, bG p0 D, cells j [Zu, Zu, Zu, Zs, Zs, Zs, Zs], cells k [U6 d.1.Session, U6 d.1.Seq, U6 (u64.wrap (i64.wrap (1 + f.1))), g, G, Zs, Zs], bg bY g l] R) e4 ⟨[], U.2, 0, Zs, c, fy z, b⟩ ?_
rintro i9 _ j0 ⟨q, D, F, G, c, ⟨j1, rfl⟩, b⟩
obtain ⟨j2, j3, rfl, c, b7⟩ := ba c
dsimp only [fC] at c
refine wp_seq (wp_seq (wrl (mi z (mi z (mb z (ab (tn (bs c ?_ ?_))))))))
{
intro W c
refine ar (cvb W) (wp_skip (tn (wp_seq (wp_block (rg b 11 [0, 1, 0, 4, 0, 28, 60, 124, 255, 511, 1023] [] mixed (sf 0 z z underlying46 z sizeOf44 (sl 1 z z isAgg44 (fun w b => b.bc3 z) (sz (p0) 2 z z (sz (p0) 4 z z (e1 3 z z fun w b => ?_))))))))))
replace b := b.ag
obtain ⟨H, e5, c⟩ := bn c
refine wec call28 [p0] z z ((ei b.to1 e5).mono ?_)
rintro _ j4 ⟨rfl, b⟩
refine ⟨_, z, ?_⟩
replace b := b.of1
refine wn [4, 1, 0] b (pz (pkr z z (fun w b => aq z isAgg44 (b.bc3 z)) (pf z z underlying46 z sizeOf44 bD))) (e1 5 z z fun w b => ?_)
obtain ⟨s, e6, c⟩ := bn c
refine wec call28 [p0] z z ((ei b.to1 e6).mono ?_)
rintro _ j5 ⟨rfl, b⟩
refine ⟨_, z, ?_⟩
replace b := b.of1
refine wn [1, 0] b (pkr z z (fun w b => aq z isAgg44 (b.bc3 z)) (pf z z underlying46 z sizeOf44 bD)) (sk (.agg #[F6 H.1, F6 s.1]) 6 z (e1 7 z z fun w b => ?_))
obtain ⟨e7, e8, e9, f0, b⟩ := b.ey (E := gB) (xs := [(H.1, s.1)]) [[F6 H.1, F6 s.1]] 80 1 z (bE.cons z bE.nil)
refine bW (v := (.slice (some ⟨e7, 0, none⟩) 1 1)) (w' := e8) z (dn (by kernel_rfl) e9 f0) (wn [1, 0] b (pkr z z (fun w b => aq z isAgg44 (b.bc4 z)) (pf z z underlying46 z sizeOf44 bD)) (e1 8 z z fun w b => ?_))
obtain ⟨f1, c⟩ := cz c
replace b := b.aA
obtain ⟨J, f2, f3, b⟩ := bI AB underlying44 b b.ju (cK f1 z) 44
refine bW (v := J) (w' := f2) z (bX z z f3) (w0n b (sf 9 z z underlying46 z sizeOf44 (e1 10 z z fun w b => ?_)))
replace b := b.bf
obtain ⟨j6, f4, b⟩ := b.cW (P := prog) (t := 44) (cs' := [U6 d.1.Session, U6 d.1.Seq, U6 (u64.wrap (i64.wrap (1 + f.1))), g, J, Zs, Zs]) 4 J (oS b.sv1) sizeOf44 z z
refine dz z (aG f4) (w0n b (bp ?_))
intro w b
refine bF (tn (wrl (mi z (mi z (mi z (ab (tn ?_)))))))
replace b := b.bc.ag.bc.bc.bf.oX
obtain rfl := sj c
exact ⟨_, nls, (q ++ ([(H.1, s.1)])), s.2, (i64.wrap (F + 1)), J, b7, fy z, b⟩
}
{
intro W c
refine ak (cvb W) (wp_exit (aV (aV ?_)))
replace c := bo c b7
refine de (tn ?_)
replace b := b.bf.bf.bf.bf.oX
obtain rfl := sj c
exact ⟨D, q, G, e3, fy z, b⟩
}
}
{
rintro _ j7 ⟨V, o, h, c, ⟨j8, rfl⟩, b⟩
dsimp only [ng] at c
refine wp_seq (wrl (mv (p0) z ?_))
obtain ⟨X, f5, c⟩ := bn c
refine wc call64 [p0, I6 3] z z z ((aU b.to1 f5).mono ?_)
rintro _ j9 ⟨rfl, b⟩
refine ⟨_, z, ?_⟩
replace b := b.of1
refine mi z (ab (tn ?_))
obtain ⟨f6, c, f7⟩ := bn c
refine cU (fun a w => ∃ (Y : ao) (Z : (List Nat)) (i : Value), (mY d f l o) (Y, Z) = some r ∧ fz 68 [0, 2, 3] [p0, Pt j 0, Pt k 0] a ∧ St w0 w I [bG p0 Y, cells j [Zu, Zu, Zu, Zs, Zs, Zs, Zs], cells k [U6 d.1.Session, U6 d.1.Seq, U6 (u64.wrap (i64.wrap (1 + f.1))), g, h, i, Zs], bg bY g l, bg gB h o, bg bY i Z] R) ?_ ?_
{
refine wp_seq (wrl (mi z (ab (tn (wp_block ?_)))))
replace b := b.bd bY
obtain ⟨f8, c⟩ := aX c
refine bm (fun n a w => ∃ (u : (List Nat)) (K : ao) (L : Int) (M : Value), cT (fF X) n (u, K, L) = some f6 ∧ fz 68 [0, 2, 3, 4, 7] [p0, Pt j 0, Pt k 0, I6 X.1, I6 L] a ∧ St w0 w I [bg bY M u, bG p0 K, cells j [Zu, Zu, Zu, Zs, Zs, Zs, Zs], cells k [U6 d.1.Session, U6 d.1.Seq, U6 (u64.wrap (i64.wrap (1 + f.1))), g, h, M, Zs], bg bY g l, bg gB h o] R) f8 ⟨[], X.2, 0, Zs, c, fy z, b⟩ ?_
rintro k0 _ k1 ⟨u, K, L, M, c, ⟨k2, rfl⟩, b⟩
obtain ⟨k3, k4, rfl, c, b8⟩ := ba c
dsimp only [fF] at c
refine wp_seq (wp_seq (wrl (mi z (mi z (mb z (ab (tn (bs c ?_ ?_))))))))
{
intro b0 c
refine ar (cvb b0) (wp_skip (tn (wp_seq (wp_block (rg b 8 [0, 1, 0, 4, 12, 31, 63, 127] [] mixed (sf 0 z z underlying46 z sizeOf43 (sl 1 z z isAgg43 (fun w b => b.bc3 z) (sz (p0) 2 z z (e1 3 z z fun w b => ?_)))))))))
replace b := b.ag
obtain ⟨N, f9, c⟩ := bn c
refine wec call28 [p0] z z ((ei b.to1 f9).mono ?_)
rintro _ k5 ⟨rfl, b⟩
refine ⟨_, z, ?_⟩
replace b := b.of1
refine wn [1, 0] b (pkr z z (fun w b => aq z isAgg43 (b.bc3 z)) (pf z z underlying46 z sizeOf43 bD)) (e1 4 z z fun w b => ?_)
obtain ⟨g0, g1, g2, g3, b⟩ := b.ey (E := bY) (xs := [N.1]) [[F6 N.1]] 37 1 z (bE.cons z bE.nil)
refine bW (v := (.slice (some ⟨g0, 0, none⟩) 1 1)) (w' := g1) z (dn (by kernel_rfl) g2 g3) (wn [1, 0] b (pkr z z (fun w b => aq z isAgg43 (b.bc4 z)) (pf z z underlying46 z sizeOf43 bD)) (e1 5 z z fun w b => ?_))
obtain ⟨g4, c⟩ := cz c
replace b := b.aA
obtain ⟨O, g5, g6, b⟩ := bI oZ underlying43 b b.ju (cK g4 z) 43
refine bW (v := O) (w' := g5) z (bX z z g6) (w0n b (sf 6 z z underlying46 z sizeOf43 (e1 7 z z fun w b => ?_)))
replace b := b.bf
obtain ⟨k6, g7, b⟩ := b.cW (P := prog) (t := 43) (cs' := [U6 d.1.Session, U6 d.1.Seq, U6 (u64.wrap (i64.wrap (1 + f.1))), g, h, O, Zs]) 5 O (oS b.sv1) sizeOf43 z z
refine dz z (aG g7) (w0n b (bp ?_))
intro w b
refine bF (tn (wrl (mi z (mi z (mi z (ab (tn ?_)))))))
replace b := b.da.da.aA.da.da.bc.kj
obtain rfl := sj c
exact ⟨_, nls, (u ++ ([N.1])), N.2, (i64.wrap (L + 1)), O, b8, fy z, b⟩
}
{
intro b0 c
refine ak (cvb b0) (wp_exit (aV (aV ?_)))
replace c := bo c b8
refine de (tn ?_)
replace b := b.bc.bc.bc.bc.bc.kj
obtain rfl := sj c
exact ⟨K, u, M, f7, fy z, b⟩
}
}
{
rintro _ k7 ⟨Y, Z, i, c, ⟨k8, rfl⟩, b⟩
dsimp only [mY] at c
refine wp_seq (wp_seq (wrl (mv (p0) z ?_)))
obtain ⟨k9, g8, c⟩ := bn c
refine wc call64 [p0, I6 4] z z z ((aU b.to1 g8).mono ?_)
rintro _ l0 ⟨rfl, b⟩
refine ⟨_, z, ?_⟩
replace b := b.of1
refine mb z (ab (tn (bs c ?_ ?_)))
{
intro b1 c
refine ar (cvb b1) (wrl (mv (p0) z ?_))
obtain ⟨l1, g9, c⟩ := bn c
refine wc call66 [p0] z z z ((kM b.to1 g9).mono ?_)
rintro _ l2 ⟨m, rfl, b⟩
refine ⟨_, z, ?_⟩
replace b := b.of2
refine mf z underlying46 z sizeOf22 ?_
replace b := b.au
obtain ⟨l3, h0, b⟩ := b.cW (P := prog) (t := 22) (cs' := [U6 d.1.Session, U6 d.1.Seq, U6 (u64.wrap (i64.wrap (1 + f.1))), g, h, i, m]) 6 m (oS b.sv1) sizeOf22 z z
refine aE z z (aG h0) (ab (tn (wp_seq (wrl (mz (ay (cs := [U6 d.1.Session, U6 d.1.Seq, U6 (u64.wrap (i64.wrap (1 + f.1))), g, h, i, m]) z isAgg46 sizeOf46 (b.eF 0 z)) ?_)))))
replace b := b.au
obtain ⟨l4, h1, b⟩ := b.bx [U6 d.1.Session, U6 d.1.Seq, U6 (u64.wrap (i64.wrap (1 + f.1))), g, h, i, m] sizeOf46 z (oJ 3 z (oC (oS b.sv4) (oC (oS b.sv5) (oC (oS b.sv6) (oC (oS b.sv2) oN))))) (by kernel_rfl)
refine aE z z (aG h1) (ab (tn (wp_ret ?_)))
obtain rfl := sj c
refine aZ [.agg #[U6 d.1.Session, U6 d.1.Seq, U6 (u64.wrap (i64.wrap (1 + f.1))), g, h, i, m]] results83 (bq (bJ (cs := [U6 d.1.Session, U6 d.1.Seq, U6 (u64.wrap (i64.wrap (1 + f.1))), g, h, i, m]) z isAgg46 sizeOf46 (b.eF 0 z)) ai) ?_
replace b := b.au.au.da.da.da
exact ⟨g, h, i, m, z, b.oX⟩
}
{
intro b1 c
refine ak (cvb b1) (wp_skip (tn (wp_seq (wrl (mz (ay (cs := [U6 d.1.Session, U6 d.1.Seq, U6 (u64.wrap (i64.wrap (1 + f.1))), g, h, i, Zs]) z isAgg46 sizeOf46 (b.pR 0 z)) ?_)))))
replace b := b.ag
obtain ⟨l5, h2, b⟩ := b.bx [U6 d.1.Session, U6 d.1.Seq, U6 (u64.wrap (i64.wrap (1 + f.1))), g, h, i, Zs] sizeOf46 z (oJ 3 z (oC (oS b.sv3) (oC (oS b.sv4) (oC (oS b.sv5) (oC z oN))))) (by kernel_rfl)
refine aE z z (aG h2) (ab (tn (wp_ret ?_)))
replace b := b.bd (cp .u8)
obtain rfl := sj c
refine aZ [.agg #[U6 d.1.Session, U6 d.1.Seq, U6 (u64.wrap (i64.wrap (1 + f.1))), g, h, i, Zs]] results83 (bq (bJ (cs := [U6 d.1.Session, U6 d.1.Seq, U6 (u64.wrap (i64.wrap (1 + f.1))), g, h, i, Zs]) z isAgg46 sizeOf46 (b.eK 0 z)) ai) ?_
replace b := b.aA.ag.da.da.da
exact ⟨g, h, i, Zs, z, b.oX⟩
}
}
}
}
}
theorem mW {a0 : ao} {p0 : Value} (b : St w0 w I [bG p0 a0] R) {r : ((List bR) × ao)} (c : fv a0 = some r) :
  Calls prog 29 #[p0] w fun e w' => ∃ (I' : HL) (A : Value), e = .returned (A) ∧ I.le I' ∧ St w0 w' I' [bg cI A r.1, bG p0 r.2] R := by {
unfold fv at c
refine c0 func29 z ntmps29 ?_
have p := HL.le.refl I
refine wp_seq (wrl (mv ((.slice none 0 0)) z (ab (tn (wp_seq (wrl (mv ((.slice none 0 0)) z (ab (tn (wp_seq (wrl (mv (p0) z ?_))))))))))))
obtain ⟨l, H, c⟩ := bn c
refine wc call64 [p0, I6 3] z z z ((aU b.to1 H).mono ?_)
rintro _ b2 ⟨rfl, b⟩
refine ⟨_, z, ?_⟩
replace b := b.of1
refine mi z (ab (tn (wp_seq (wp_seq (wrl (mi z (ab (tn (wp_block ?_)))))))))
replace b := b.bd cI
obtain ⟨J, c⟩ := aX c
refine bm (fun n a w => ∃ (I565 : HL) (q : ao) (h : (List bR)) (i : Int) (d : Value), cT (fQ l) n (q, h, i) = some r ∧ fz 31 [0, 3, 4, 5] [p0, d, I6 l.1, I6 i] a ∧ I.le I565 ∧ St w0 w I565 [bg cI d h, bG p0 q] R) J ⟨_, l.2, [], 0, Zs, c, fy z, lr, b⟩ ?_
rintro b3 _ b4 ⟨I565, q, h, i, d, c, ⟨b5, rfl⟩, m, b⟩
obtain ⟨b6, K, rfl, c, B⟩ := ba c
dsimp only [fQ] at c
replace p := p.trans m
refine wp_seq (wp_seq (wrl (mi z (mi z (mb z (ab (tn (bs c ?_ ?_))))))))
{
intro s c
refine ar (cvb s) (wp_skip (tn (wp_seq (wp_block (wp_seq (wrl (mv (p0) z ?_)))))))
replace b := b.ag
obtain ⟨g, L, c⟩ := bn c
refine wc call28 [p0] z z z ((ei b.to1 L).mono ?_)
rintro _ b7 ⟨rfl, b⟩
refine ⟨_, z, ?_⟩
replace b := b.of1
refine mv (p0) z ?_
obtain ⟨f, M, c⟩ := bn c
refine wc call64 [p0, I6 4] z z z ((aU b.to1 M).mono ?_)
rintro _ b8 ⟨rfl, b⟩
refine ⟨_, z, ?_⟩
replace b := b.of1
refine mb z (mk (.agg #[F6 g.1, .bool (f.1 == 0), Zs]) ?_)
obtain ⟨C, b9, N, O, b⟩ := b.box [Zf, .bool false, Zs] 41
refine wa N O ?_
obtain ⟨c1, Q, b⟩ := b.bx [F6 g.1, .bool (f.1 == 0), Zs] sizeOf41 z (oJ 3 z oN) (by kernel_rfl)
refine aE z z (aG Q) (ab (tn ?_))
obtain ⟨c2, c, D⟩ := bn c
refine cU (fun a w => ∃ (o : ao) (j : (List Int)) (k : Value), (nB h g f i) (o, j) = some K ∧ fz 31 [0, 3, 4, 5, 6] [p0, d, I6 l.1, I6 i, Pt C 0] a ∧ St w0 w I565 [bG p0 o, bg cI d h, cells C [F6 g.1, .bool (f.1 == 0), k], bg (cp .u8) k j] R) ?_ ?_
{
refine wp_seq (wrl (mf z underlying41 z sizeOf4 (ml z isAgg4 (b.bc0 z) (mb z (ab (tn (bs c ?_ ?_)))))))
{
intro u c
refine ar (cvb u) (wrl (mv (p0) z ?_))
replace b := b.ag
obtain ⟨F, S, c⟩ := bn c
refine wc call66 [p0] z z z ((kM b.to1 S).mono ?_)
rintro _ c3 ⟨x, rfl, b⟩
refine ⟨_, z, ?_⟩
replace b := b.of2
refine mf z underlying41 z sizeOf22 ?_
replace b := b.aA
obtain ⟨c4, T, b⟩ := b.cW (P := prog) (t := 22) (cs' := [F6 g.1, .bool (f.1 == 0), x]) 2 x (oS b.sv1) sizeOf22 z z
refine aE z z (aG T) (ab (tn ?_))
replace b := b.ag.ag.au.au.eI
obtain rfl := sj c
exact ⟨F.2, F.1, x, D, fy z, b⟩
}
{
intro u c
refine ak (cvb u) (wp_skip (tn ?_))
replace b := (b.bd (cp .u8)).ag.au.au.eI
obtain rfl := sj c
exact ⟨f.2, ([]), Zs, D, fy z, b⟩
}
}
{
rintro _ c5 ⟨o, j, k, c, ⟨c6, rfl⟩, b⟩
dsimp only [nB] at c
refine wrl (mv (d) z (mz (ay (cs := [F6 g.1, .bool (f.1 == 0), k]) z isAgg41 sizeOf41 (b.pR 0 z)) ?_))
replace b := b.au
obtain ⟨I614, U, G, b⟩ := b.cN
replace m := m.trans U
obtain ⟨V, W, X, Y, b⟩ := b.ey (E := cI) (xs := [({ At := g.1, Del := (f.1 == 0), Val := j } : bR)]) [[F6 g.1, .bool (f.1 == 0), k]] 41 1 z (bE.cons ⟨_, z, G, oS (ah G)⟩ bE.nil)
refine cb (v := (.slice (some ⟨V, 0, none⟩) 1 1)) (w' := W) z z (dn (by kernel_rfl) X Y) ?_
obtain ⟨Z, c⟩ := cz c
replace b := b.aA
obtain ⟨y, b0, b1, b⟩ := bI DK underlying42 b b.ju (cK Z z) 42
refine cb (v := y) (w' := b0) z z (bX z z b1) (mv (y) z (ab (bF (tn (wrl (mi z (mi z (mi z (ab (tn ?_))))))))))
replace b := b.aA.ag.ck
obtain rfl := sj c
exact ⟨_, nls, _, o, (h ++ ([({ At := g.1, Del := (f.1 == 0), Val := j } : bR)])), (i64.wrap (i + 1)), y, B, fy z, m, b⟩
}
}
{
intro s c
refine ak (cvb s) (wp_exit (aV (aV ?_)))
replace c := bo c B
refine de (tn (wp_seq (wrl (mv (d) z (mv (d) z (ab (tn (wp_ret ?_))))))))
obtain rfl := sj c
refine aZ [d] results29 (rc z ai) ?_
replace b := b.ag.ag
exact ⟨_, d, z, p, b.ck⟩
}
}
theorem pT {a0 : ao} {p0 : Value} (b : St w0 w I [bG p0 a0] R) {r : (bw × ao)} (c : hH a0 = some r) :
  Calls prog 35 #[p0] w fun e w' => ∃ (I' : HL) (d4 : Value) (d5 : Value), e = .returned (.agg #[I6 r.1.E, U6 r.1.Epoch, U6 r.1.Index, d4, d5]) ∧ I.le I' ∧ St w0 w' I' [bg aD d4 r.1.Gots, bg (dJ az) d5 r.1.Scans, bG p0 r.2] R := by {
unfold hH at c
refine c0 func35 z ntmps35 ?_
have A := HL.le.refl I
refine wp_seq (wrl ?_)
obtain ⟨j, m4, e8, e9, b⟩ := b.box [Zi, Zu, Zu, Zs, Zs] 33
refine wa e8 e9 (ab (tn (wp_seq (wrl ?_))))
obtain ⟨b4, f0, f1, f2, b⟩ := b.ey (E := (cp .i64)) (xs := [0, 0, 0, 8, 9, 3]) [[Zi], [Zi], [Zi], [I6 8], [I6 9], [I6 3]] 29 6 z (bE.cons z (bE.cons z (bE.cons z (bE.cons z (bE.cons z (bE.cons z bE.nil))))))
refine cb (v := (.slice (some ⟨b4, 0, none⟩) 6 6)) (w' := f0) z z (dn (by kernel_rfl) f1 f2) (mv ((.slice (some ⟨b4, 0, none⟩) 6 6)) z (ab (tn (wp_seq ?_))))
obtain ⟨m5, c, N⟩ := bn c
refine qT (fun a w => ∃ (b5 : ao) (d : Int) (f : Int) (g : Int) (i : Nat), (mh) (b5, d, f, g) = some r ∧ fz 72 [0, 2, 4] [p0, Pt j 0, Pt i 0] a ∧ St w0 w I [bG p0 b5, cells j [Zi, Zu, Zu, Zs, Zs], cells i [I6 d, U6 f, U6 g, Zs, Zs]] R) ?_ ?_
{
refine rg b 14 [0, 0, 2, 7, 15, 0, 38, 102, 0, 358, 870, 2047, 0, 8191] [] mixed (sz ((.slice (some ⟨b4, 0, none⟩) 6 6)) 0 z z (sz (p0) 1 z z (sz (p0) 5 z z (sz (p0) 8 z z (pK 2 12 (by kernel_rfl) ?_ ?_)))))
{
refine nx z z fun w b => ?_
replace b := b.aA
obtain ⟨m6, f3, c⟩ := bn c
refine wec call64 [p0, I6 6] z z ((aU b.to1 f3).mono ?_)
rintro _ m7 ⟨rfl, b⟩
refine ⟨_, z, ?_⟩
replace b := b.of1
refine wn [8, 5, 0] b (pz (pz (pz bD))) ?_
obtain ⟨l, f4, c⟩ := bn c
obtain ⟨m, o, p⟩ := aP f4
refine sh _ 3 z (fun w b => aC z z underlying150 sizeOf29 b.sv1 m o) (sl 4 z z isAgg29 (fun w b => b.ol1 p (by rintro _ rfl; rfl)) (pK 6 12 (by kernel_rfl) ?_ ?_))
{
refine nx z z fun w b => ?_
obtain ⟨q, f5, c⟩ := bn c
refine wec call64 [p0, I6 4] z z ((aU b.to1 f5).mono ?_)
rintro _ m8 ⟨rfl, b⟩
refine ⟨_, z, ?_⟩
replace b := b.of1
refine wn [4, 3, 8, 0] b (pkr z z (fun w b => aq z isAgg29 (b.ol1 p (by rintro _ rfl; rfl))) (pkr z z (fun w b => aC z z underlying150 sizeOf29 b.sv1 m o) (pz (pz bD)))) (sk (.int .u64 (u64.wrap q.1)) 7 z (pK 9 12 (by kernel_rfl) ?_ ?_))
{
refine nx z z fun w b => ?_
obtain ⟨B, f6, c⟩ := bn c
refine wec call64 [p0, I6 9] z z ((aU b.to1 f6).mono ?_)
rintro _ m9 ⟨rfl, b⟩
refine ⟨_, z, ?_⟩
replace b := b.of1
refine wn [7, 4, 3, 0] b (pkr z z (fun w b => by kernel_rfl) (pkr z z (fun w b => aq z isAgg29 (b.ol1 p (by rintro _ rfl; rfl))) (pkr z z (fun w b => aC z z underlying150 sizeOf29 b.sv1 m o) (pz bD)))) (sk (.int .u64 (u64.wrap B.1)) 10 z (sk (.agg #[I6 l, U6 (u64.wrap q.1), U6 (u64.wrap B.1), Zs, Zs]) 11 z (e1 12 z z fun w b => ?_)))
obtain ⟨d6, f7, f8, f9, b⟩ := b.box [Zi, Zu, Zu, Zs, Zs] 33
refine bW (v := Pt d6 0) (w' := f7) z (tQ (by kernel_rfl) f8 f9) (wn [11, 10, 7, 4, 3, 0] b (pkr z z (fun w b => by kernel_rfl) (pkr z z (fun w b => by kernel_rfl) (pkr z z (fun w b => by kernel_rfl) (pkr z z (fun w b => aq z isAgg29 (b.ol2 p (by rintro _ rfl; rfl))) (pkr z z (fun w b => aC z z underlying150 sizeOf29 b.sv2 m o) (pz bD)))))) (e1 13 z z fun w b => ?_))
obtain ⟨n0, g0, b⟩ := b.bx [I6 l, U6 (u64.wrap q.1), U6 (u64.wrap B.1), Zs, Zs] sizeOf33 z (oJ 5 z oN) (by kernel_rfl)
refine dz z (aG g0) (w0n b (bp ?_))
intro w b
refine ⟨z, ?_⟩
replace b := b.au.aA.dF
obtain rfl := sj c
exact ⟨B.2, l, (u64.wrap q.1), (u64.wrap B.1), d6, N, fy z, b⟩
}
{
refine nx z z fun w b => ?_
obtain ⟨d7, g1, g2, g3, b⟩ := b.box [Zi, Zu, Zu, Zs, Zs] 33
refine bW (v := Pt d7 0) (w' := g1) z (tQ (by kernel_rfl) g2 g3) (wn [7, 4, 3, 8, 0] b (pkr z z (fun w b => by kernel_rfl) (pkr z z (fun w b => aq z isAgg29 (b.ol2 p (by rintro _ rfl; rfl))) (pkr z z (fun w b => aC z z underlying150 sizeOf29 b.sv2 m o) (pz (pz bD))))) (e1 9 z z fun w b => ?_))
replace b := b.ag
obtain ⟨C, g4, c⟩ := bn c
refine wec call64 [p0, I6 9] z z ((aU b.to1 g4).mono ?_)
rintro _ n1 ⟨rfl, b⟩
refine ⟨_, z, ?_⟩
replace b := b.of1
refine wn [7, 4, 3, 0] b (pkr z z (fun w b => by kernel_rfl) (pkr z z (fun w b => aq z isAgg29 (b.ol2 p (by rintro _ rfl; rfl))) (pkr z z (fun w b => aC z z underlying150 sizeOf29 b.sv2 m o) (pz bD)))) (sk (.int .u64 (u64.wrap C.1)) 10 z (sk (.agg #[I6 l, U6 (u64.wrap q.1), U6 (u64.wrap C.1), Zs, Zs]) 11 z (e1 13 z z fun w b => ?_)))
replace b := b.ag
obtain ⟨n2, g5, b⟩ := b.bx [I6 l, U6 (u64.wrap q.1), U6 (u64.wrap C.1), Zs, Zs] sizeOf33 z (oJ 5 z oN) (by kernel_rfl)
refine dz z (aG g5) (w0n b (bp ?_))
intro w b
refine ⟨z, ?_⟩
replace b := b.au.aA.dF
obtain rfl := sj c
exact ⟨C.2, l, (u64.wrap q.1), (u64.wrap C.1), d7, N, fy z, b⟩
}
}
{
refine nx z z fun w b => ?_
obtain ⟨d8, g6, g7, g8, b⟩ := b.box [Zi, Zu, Zu, Zs, Zs] 33
refine bW (v := Pt d8 0) (w' := g6) z (tQ (by kernel_rfl) g7 g8) (wn [4, 3, 8, 5, 0] b (pkr z z (fun w b => aq z isAgg29 (b.ol2 p (by rintro _ rfl; rfl))) (pkr z z (fun w b => aC z z underlying150 sizeOf29 b.sv2 m o) (pz (pz (pz bD))))) (e1 6 z z fun w b => ?_))
replace b := b.ag
obtain ⟨O, g9, c⟩ := bn c
refine wec call64 [p0, I6 4] z z ((aU b.to1 g9).mono ?_)
rintro _ n3 ⟨rfl, b⟩
refine ⟨_, z, ?_⟩
replace b := b.of1
refine wn [4, 3, 8, 0] b (pkr z z (fun w b => aq z isAgg29 (b.ol2 p (by rintro _ rfl; rfl))) (pkr z z (fun w b => aC z z underlying150 sizeOf29 b.sv2 m o) (pz (pz bD)))) (sk (.int .u64 (u64.wrap O.1)) 7 z (e1 9 z z fun w b => ?_))
obtain ⟨D, h0, c⟩ := bn c
refine wec call64 [p0, I6 9] z z ((aU b.to1 h0).mono ?_)
rintro _ n4 ⟨rfl, b⟩
refine ⟨_, z, ?_⟩
replace b := b.of1
refine wn [7, 4, 3, 0] b (pkr z z (fun w b => by kernel_rfl) (pkr z z (fun w b => aq z isAgg29 (b.ol2 p (by rintro _ rfl; rfl))) (pkr z z (fun w b => aC z z underlying150 sizeOf29 b.sv2 m o) (pz bD)))) (sk (.int .u64 (u64.wrap D.1)) 10 z (sk (.agg #[I6 l, U6 (u64.wrap O.1), U6 (u64.wrap D.1), Zs, Zs]) 11 z (e1 13 z z fun w b => ?_)))
replace b := b.ag
obtain ⟨n5, h1, b⟩ := b.bx [I6 l, U6 (u64.wrap O.1), U6 (u64.wrap D.1), Zs, Zs] sizeOf33 z (oJ 5 z oN) (by kernel_rfl)
refine dz z (aG h1) (w0n b (bp ?_))
intro w b
refine ⟨z, ?_⟩
replace b := b.au.aA.dF
obtain rfl := sj c
exact ⟨D.2, l, (u64.wrap O.1), (u64.wrap D.1), d8, N, fy z, b⟩
}
}
{
refine nx z z fun w b => ?_
obtain ⟨d9, h2, h3, h4, b⟩ := b.box [Zi, Zu, Zu, Zs, Zs] 33
refine bW (v := Pt d9 0) (w' := h2) z (tQ (by kernel_rfl) h3 h4) (wn [8, 5, 1, 0] b (pz (pz (pz (pz bD)))) (e1 2 z z fun w b => ?_))
replace b := b.au
obtain ⟨n6, h5, c⟩ := bn c
refine wec call64 [p0, I6 6] z z ((aU b.to1 h5).mono ?_)
rintro _ n7 ⟨rfl, b⟩
refine ⟨_, z, ?_⟩
replace b := b.of1
refine wn [8, 5, 0] b (pz (pz (pz bD))) ?_
obtain ⟨b6, h6, c⟩ := bn c
obtain ⟨b7, b8, b9⟩ := aP h6
refine sh _ 3 z (fun w b => aC z z underlying150 sizeOf29 b.sv2 b7 b8) (sl 4 z z isAgg29 (fun w b => b.ol2 b9 (by rintro _ rfl; rfl)) (e1 6 z z fun w b => ?_))
obtain ⟨Q, h7, c⟩ := bn c
refine wec call64 [p0, I6 4] z z ((aU b.to1 h7).mono ?_)
rintro _ n8 ⟨rfl, b⟩
refine ⟨_, z, ?_⟩
replace b := b.of1
refine wn [4, 3, 8, 0] b (pkr z z (fun w b => aq z isAgg29 (b.ol2 b9 (by rintro _ rfl; rfl))) (pkr z z (fun w b => aC z z underlying150 sizeOf29 b.sv2 b7 b8) (pz (pz bD)))) (sk (.int .u64 (u64.wrap Q.1)) 7 z (e1 9 z z fun w b => ?_))
obtain ⟨F, h8, c⟩ := bn c
refine wec call64 [p0, I6 9] z z ((aU b.to1 h8).mono ?_)
rintro _ n9 ⟨rfl, b⟩
refine ⟨_, z, ?_⟩
replace b := b.of1
refine wn [7, 4, 3, 0] b (pkr z z (fun w b => by kernel_rfl) (pkr z z (fun w b => aq z isAgg29 (b.ol2 b9 (by rintro _ rfl; rfl))) (pkr z z (fun w b => aC z z underlying150 sizeOf29 b.sv2 b7 b8) (pz bD)))) (sk (.int .u64 (u64.wrap F.1)) 10 z (sk (.agg #[I6 b6, U6 (u64.wrap Q.1), U6 (u64.wrap F.1), Zs, Zs]) 11 z (e1 13 z z fun w b => ?_)))
replace b := b.ag
obtain ⟨o0, h9, b⟩ := b.bx [I6 b6, U6 (u64.wrap Q.1), U6 (u64.wrap F.1), Zs, Zs] sizeOf33 z (oJ 5 z oN) (by kernel_rfl)
refine dz z (aG h9) (w0n b (bp ?_))
intro w b
refine ⟨z, ?_⟩
replace b := b.au.aA.dF
obtain rfl := sj c
exact ⟨F.2, b6, (u64.wrap Q.1), (u64.wrap F.1), d9, N, fy z, b⟩
}
}
{
rintro _ o1 ⟨b5, d, f, g, i, c, ⟨o2, rfl⟩, b⟩
dsimp only [mh] at c
refine tn (wp_seq (wrl (mv (p0) z ?_)))
obtain ⟨c1, i0, c⟩ := bn c
refine wc call64 [p0, I6 3] z z z ((aU b.to1 i0).mono ?_)
rintro _ o3 ⟨rfl, b⟩
refine ⟨_, z, ?_⟩
replace b := b.of1
refine mi z (ab (tn ?_))
obtain ⟨i1, c, i2⟩ := bn c
refine cU (fun a w => ∃ (I1567 : HL) (c2 : ao) (s : (List ct)) (h : Value), (od d f g) (c2, s) = some r ∧ fz 72 [0, 2, 4] [p0, Pt j 0, Pt i 0] a ∧ I.le I1567 ∧ St w0 w I1567 [bG p0 c2, cells j [Zi, Zu, Zu, Zs, Zs], cells i [I6 d, U6 f, U6 g, h, Zs], bg aD h s] R) ?_ ?_
{
have c3 := HL.le.refl I
refine wp_seq (wrl (mi z (ab (tn (wp_block ?_)))))
replace b := b.bd aD
obtain ⟨i3, c⟩ := aX c
refine bm (fun n a w => ∃ (I1524 : HL) (G : (List ct)) (S : ao) (T : Int) (U : Value), cT (gR c1) n (G, S, T) = some i1 ∧ fz 72 [0, 2, 4, 5, 6] [p0, Pt j 0, Pt i 0, I6 c1.1, I6 T] a ∧ I.le I1524 ∧ St w0 w I1524 [bg aD U G, bG p0 S, cells j [Zi, Zu, Zu, Zs, Zs], cells i [I6 d, U6 f, U6 g, U, Zs]] R) i3 ⟨_, [], c1.2, 0, Zs, c, fy z, lr, b⟩ ?_
rintro o4 _ o5 ⟨I1524, G, S, T, U, c, ⟨o6, rfl⟩, V, b⟩
obtain ⟨o7, o8, rfl, c, e0⟩ := ba c
dsimp only [gR] at c
replace c3 := c3.trans V
refine wp_seq (wp_seq (wrl (mi z (mi z (mb z (ab (tn (bs c ?_ ?_))))))))
{
intro c4 c
refine ar (cvb c4) (wp_skip (tn (wp_seq (wp_block (rg b 12 [0, 1, 0, 4, 12, 0, 44, 124, 252, 511, 1023, 2047] [] mixed (sf 0 z z underlying33 z sizeOf30 (sl 1 z z isAgg30 (fun w b => b.bc3 z) (sz (p0) 2 z z (sz (p0) 5 z z (e1 3 z z fun w b => ?_))))))))))
replace b := b.ag
obtain ⟨W, i4, c⟩ := bn c
refine wec call64 [p0, I6 2] z z ((aU b.to1 i4).mono ?_)
rintro _ o9 ⟨rfl, b⟩
refine ⟨_, z, ?_⟩
replace b := b.of1
refine wn [5, 1, 0] b (pz (pkr z z (fun w b => aq z isAgg30 (b.bc3 z)) (pf z z underlying33 z sizeOf30 bD))) (sb 4 z z (e1 6 z z fun w b => ?_))
obtain ⟨c5, i5, c⟩ := bn c
refine wec call66 [p0] z z ((kM b.to1 i5).mono ?_)
rintro _ q0 ⟨e2, rfl, b⟩
refine ⟨_, z, ?_⟩
replace b := b.of2
refine wn [4, 1, 0] b (pz (pkr z z (fun w b => aq z isAgg30 (b.bc4 z)) (pf z z underlying33 z sizeOf30 bD))) (wsr (.agg #[.bool (W.1 == 0), e2]) 7 rfl rfl rfl (by kernel_rfl) (fun w b => by obtain ⟨_, _, hv_, _⟩ := b.sv0; rw [hv_]; kernel_rfl) (e1 8 z z fun w b => ?_))
obtain ⟨I1548, i6, e3, b⟩ := b.cN
replace V := V.trans i6
obtain ⟨i7, i8, i9, j0, b⟩ := b.ey (E := aD) (xs := [({ Has := (W.1 == 0), Val := c5.1 } : ct)]) [[.bool (W.1 == 0), e2]] 61 1 z (bE.cons ⟨_, z, e3, oS (ah e3)⟩ bE.nil)
refine bW (v := (.slice (some ⟨i7, 0, none⟩) 1 1)) (w' := i8) z (dn (by kernel_rfl) i9 j0) (wn [1, 0] b (pkr z z (fun w b => aq z isAgg30 (b.bc4 z)) (pf z z underlying33 z sizeOf30 bD)) (e1 9 z z fun w b => ?_))
obtain ⟨j1, c⟩ := cz c
replace b := b.aA
obtain ⟨X, j2, j3, b⟩ := bI xX underlying30 b b.ju (cK j1 z) 30
refine bW (v := X) (w' := j2) z (bX z z j3) (w0n b (sf 10 z z underlying33 z sizeOf30 (e1 11 z z fun w b => ?_)))
replace b := b.bf
obtain ⟨q1, j4, b⟩ := b.cW (P := prog) (t := 30) (cs' := [I6 d, U6 f, U6 g, X, Zs]) 3 X (oS b.sv1) sizeOf30 z z
refine dz z (aG j4) (w0n b (bp ?_))
intro w b
refine bF (tn (wrl (mi z (mi z (mi z (ab (tn ?_)))))))
replace b := b.bf.bf.au.eI
obtain rfl := sj c
exact ⟨_, nls, _, (G ++ ([({ Has := (W.1 == 0), Val := c5.1 } : ct)])), c5.2, (i64.wrap (T + 1)), X, e0, fy z, V, b⟩
}
{
intro c4 c
refine ak (cvb c4) (wp_exit (aV (aV ?_)))
replace c := bo c e0
refine de (tn ?_)
replace b := b.au.au.au.eI
obtain rfl := sj c
exact ⟨_, S, G, U, i2, fy z, c3, b⟩
}
}
{
rintro _ q2 ⟨I1567, c2, s, h, c, ⟨q3, rfl⟩, j5, b⟩
dsimp only [od] at c
replace A := A.trans j5
refine wp_seq (wrl (mv (p0) z ?_))
obtain ⟨H, j6, c⟩ := bn c
refine wc call64 [p0, I6 3] z z z ((aU b.to1 j6).mono ?_)
rintro _ q4 ⟨rfl, b⟩
refine ⟨_, z, ?_⟩
replace b := b.of1
refine mi (Eo (by decide) z z) (mi z (ab (tn (wp_seq (wp_seq (wrl (mi z (ab (tn (wp_block ?_))))))))))
replace b := b.bd (dJ az)
obtain ⟨j7, c⟩ := aX c
refine bm (fun n a w => ∃ (I2084 : HL) (u : (List (List bQ))) (c6 : ao) (x : Int) (k : Value), cT (gV H d f g s) n (u, c6, x) = some r ∧ fz 72 [0, 2, 4, 5, 7] [p0, Pt j 0, Pt i 0, I6 (i64.wrap (Int.tdiv H.1 2)), I6 x] a ∧ I1567.le I2084 ∧ St w0 w I2084 [bg (dJ az) k u, bG p0 c6, cells j [Zi, Zu, Zu, Zs, Zs], cells i [I6 d, U6 f, U6 g, h, k], bg aD h s] R) j7 ⟨_, [], H.2, 0, Zs, c, fy z, lr, b⟩ ?_
rintro q5 _ q6 ⟨I2084, u, c6, x, k, c, ⟨q7, rfl⟩, y, b⟩
obtain ⟨q8, j8, rfl, c, e4⟩ := ba c
dsimp only [gV] at c
replace A := A.trans y
refine wp_seq (wp_seq (wrl (mi z (mi z (mb z (ab (tn (bs c ?_ ?_))))))))
{
intro c7 c
refine ar (cvb c7) (wp_skip (tn (wp_seq (wp_block (wp_seq (wrl (mv ((.slice none 0 0)) z (ab (tn (wp_seq (wrl (mv (p0) z ?_))))))))))))
replace b := b.ag
obtain ⟨c8, j9, c⟩ := bn c
refine wc call64 [p0, I6 3] z z z ((aU b.to1 j9).mono ?_)
rintro _ q9 ⟨rfl, b⟩
refine ⟨_, z, ?_⟩
replace b := b.of1
refine mi z (ab (tn ?_))
obtain ⟨k0, c, k1⟩ := bn c
refine cU (fun a w => ∃ (I2235 : HL) (Y : ao) (J : (List bQ)) (K : Value), (om u x) (Y, J) = some j8 ∧ fz 72 [0, 2, 4, 5, 7, 8] [p0, Pt j 0, Pt i 0, I6 (i64.wrap (Int.tdiv H.1 2)), I6 x, K] a ∧ I2084.le I2235 ∧ St w0 w I2235 [bG p0 Y, cells j [Zi, Zu, Zu, Zs, Zs], cells i [I6 d, U6 f, U6 g, h, k], bg aD h s, bg (dJ az) k u, bg az K J] R) ?_ ?_
{
have c9 := HL.le.refl I2084
refine wp_seq (wrl (mi z (ab (tn (wp_block ?_)))))
replace b := b.bd az
obtain ⟨k2, c⟩ := aX c
refine bm (fun n a w => ∃ (I2194 : HL) (Z : ao) (b0 : Int) (L : (List bQ)) (M : Value), cT (gL c8) n (Z, b0, L) = some k0 ∧ fz 72 [0, 2, 4, 5, 7, 8, 9, 10] [p0, Pt j 0, Pt i 0, I6 (i64.wrap (Int.tdiv H.1 2)), I6 x, M, I6 c8.1, I6 b0] a ∧ I2084.le I2194 ∧ St w0 w I2194 [bg az M L, bG p0 Z, bg (dJ az) k u, cells j [Zi, Zu, Zu, Zs, Zs], cells i [I6 d, U6 f, U6 g, h, k], bg aD h s] R) k2 ⟨_, c8.2, 0, [], Zs, c, fy z, lr, b⟩ ?_
rintro s0 _ s1 ⟨I2194, Z, b0, L, M, c, ⟨s2, rfl⟩, b1, b⟩
obtain ⟨s3, s4, rfl, c, e5⟩ := ba c
dsimp only [gL] at c
replace c9 := c9.trans b1
refine wp_seq (wp_seq (wrl (mi z (mi z (mb z (ab (tn (bs c ?_ ?_))))))))
{
intro d0 c
refine ar (cvb d0) (wp_skip (tn (wp_seq (wp_block (wrl (mv (M) z (mv (p0) z ?_)))))))
replace b := b.ag
obtain ⟨b2, k3, c⟩ := bn c
refine wc call28 [p0] z z z ((ei b.to1 k3).mono ?_)
rintro _ s5 ⟨rfl, b⟩
refine ⟨_, z, ?_⟩
replace b := b.of1
refine mv (p0) z ?_
obtain ⟨d1, k4, c⟩ := bn c
refine wc call66 [p0] z z z ((kM b.to1 k4).mono ?_)
rintro _ s6 ⟨e6, rfl, b⟩
refine ⟨_, z, ?_⟩
replace b := b.of2
refine wv (.agg #[F6 b2.1, e6]) z z (by obtain ⟨_, _, hv_, _⟩ := b.sv0; rw [hv_]; kernel_rfl) ?_
obtain ⟨I2218, k5, e7, b⟩ := b.cN
replace b1 := b1.trans k5
obtain ⟨k6, k7, k8, k9, b⟩ := b.ey (E := az) (xs := [({ At := b2.1, Val := d1.1 } : bQ)]) [[F6 b2.1, e6]] 152 1 z (bE.cons ⟨_, z, e7, oS (ah e7)⟩ bE.nil)
refine cb (v := (.slice (some ⟨k6, 0, none⟩) 1 1)) (w' := k7) z z (dn (by kernel_rfl) k8 k9) ?_
obtain ⟨l0, c⟩ := cz c
replace b := b.aA
obtain ⟨d2, l1, l2, b⟩ := bI xv underlying81 b b.ju (cK l0 z) 81
refine cb (v := d2) (w' := l1) z z (bX z z l2) (mv (d2) z (ab (bF (tn (wrl (mi z (mi z (mi z (ab (tn ?_))))))))))
replace b := b.da.da.da.da.da.bc.kj
obtain rfl := sj c
exact ⟨_, nls, _, d1.2, (i64.wrap (b0 + 1)), (L ++ ([({ At := b2.1, Val := d1.1 } : bQ)])), d2, e5, fy z, b1, b⟩
}
{
intro d0 c
refine ak (cvb d0) (wp_exit (aV (aV ?_)))
replace c := bo c e5
refine de (tn ?_)
replace b := b.aA.bc.bc.bc.bc.kj
obtain rfl := sj c
exact ⟨_, Z, L, M, k1, fy z, c9, b⟩
}
}
{
rintro _ s7 ⟨I2235, Y, J, K, c, ⟨s8, rfl⟩, l3, b⟩
dsimp only [om] at c
replace y := y.trans l3
refine wrl (mf z underlying33 z sizeOf31 (ml z isAgg31 (b.bc2 z) (mv (K) z ?_)))
replace b := b.bc
obtain ⟨I2243, l4, d3, b⟩ := b.cN
replace y := y.trans l4
obtain ⟨l5, l6, l7, l8, b⟩ := b.ey (E := (dJ az)) (xs := [J]) [[K]] 81 1 z (bE.cons ⟨_, z, d3, oS (ah d3)⟩ bE.nil)
refine cb (v := (.slice (some ⟨l5, 0, none⟩) 1 1)) (w' := l6) z z (dn (by obtain ⟨_, _, hv_, _⟩ := (ah d3); rw [hv_]; kernel_rfl) l7 l8) ?_
obtain ⟨l9, c⟩ := cz c
replace b := b.bc
obtain ⟨b3, m0, m1, b⟩ := bI xI underlying31 b b.ju (cK l9 z) 31
refine cb (v := b3) (w' := m0) z z (bX z z m1) (mf z underlying33 z sizeOf31 ?_)
replace b := b.bf
obtain ⟨s9, m2, b⟩ := b.cW (P := prog) (t := 31) (cs' := [I6 d, U6 f, U6 g, h, b3]) 4 b3 (oS b.sv1) sizeOf31 z z
refine aE z z (aG m2) (ab (bF (tn (wrl (mi z (mi z (mi z (ab (tn ?_)))))))))
replace b := b.bc.ag.bc.bc.bf.oX
obtain rfl := sj c
exact ⟨_, nls, _, (u ++ ([J])), Y, (i64.wrap (x + 1)), b3, e4, fy z, y, b⟩
}
}
{
intro c7 c
refine ak (cvb c7) (wp_exit (aV (aV ?_)))
replace c := bo c e4
refine de (tn (wp_seq (wrl (mz (ay (cs := [I6 d, U6 f, U6 g, h, k]) z isAgg33 sizeOf33 (b.rI 0 z)) ?_))))
replace b := b.aA
obtain ⟨t0, m3, b⟩ := b.bx [I6 d, U6 f, U6 g, h, k] sizeOf33 z (oJ 3 z (oC (oS b.sv4) (oC (oS b.sv1) oN))) (by kernel_rfl)
refine aE z z (aG m3) (ab (tn (wp_ret ?_)))
obtain rfl := sj c
refine aZ [.agg #[I6 d, U6 f, U6 g, h, k]] results35 (bq (bJ (cs := [I6 d, U6 f, U6 g, h, k]) z isAgg33 sizeOf33 (b.eF 0 z)) ai) ?_
replace b := b.aA.aA.bf
exact ⟨_, h, k, z, A, b.dF⟩
}
}
}
}
theorem qG {a0 : ao} {p0 : Value} (a : St w0 w I [bG p0 a0] R) {r : (du × ao)} (b : kI a0 = some r) :
  Calls prog 84 #[p0] w fun e w' => e = .returned (.agg #[U6 r.1.ID, I6 r.1.From, I6 r.1.To, F6 r.1.Lo, F6 r.1.Hi, U6 r.1.Authority, I6 r.1.Quota]) ∧ St w0 w' I [bG p0 r.2] R := by {
unfold kI at b
refine c0 func84 z ntmps84 (wp_seq (wrl ?_))
obtain ⟨v, x, k, l, a⟩ := a.box [Zu, Zi, Zi, Zf, Zf, Zu, Zi] 39
refine wa k l (ab (tn (wp_seq (wrl (mv (p0) z ?_)))))
replace a := a.ag
obtain ⟨c, m, b⟩ := bn b
refine wc call64 [p0, I6 3] z z z ((aU a.to1 m).mono ?_)
rintro _ y ⟨rfl, a⟩
refine ⟨_, z, ?_⟩
replace a := a.of1
refine mk (.int .u64 (u64.wrap c.1)) (mv (p0) z ?_)
obtain ⟨f, n, b⟩ := bn b
refine wc call64 [p0, I6 4] z z z ((aU a.to1 n).mono ?_)
rintro _ A ⟨rfl, a⟩
refine ⟨_, z, ?_⟩
replace a := a.of1
refine mv (p0) z ?_
obtain ⟨g, o, b⟩ := bn b
refine wc call64 [p0, I6 4] z z z ((aU a.to1 o).mono ?_)
rintro _ B ⟨rfl, a⟩
refine ⟨_, z, ?_⟩
replace a := a.of1
refine mv (p0) z ?_
obtain ⟨h, p, b⟩ := bn b
refine wc call28 [p0] z z z ((ei a.to1 p).mono ?_)
rintro _ C ⟨rfl, a⟩
refine ⟨_, z, ?_⟩
replace a := a.of1
refine mv (p0) z ?_
obtain ⟨i, q, b⟩ := bn b
refine wc call28 [p0] z z z ((ei a.to1 q).mono ?_)
rintro _ D ⟨rfl, a⟩
refine ⟨_, z, ?_⟩
replace a := a.of1
refine mv (p0) z ?_
obtain ⟨d, s, b⟩ := bn b
refine wc call64 [p0, I6 2] z z z ((aU a.to1 s).mono ?_)
rintro _ E ⟨rfl, a⟩
refine ⟨_, z, ?_⟩
replace a := a.of1
refine mk (.int .u64 (u64.wrap d.1)) (mv (p0) z ?_)
obtain ⟨j, t, b⟩ := bn b
refine wc call64 [p0, I6 3] z z z ((aU a.to1 t).mono ?_)
rintro _ F ⟨rfl, a⟩
refine ⟨_, z, ?_⟩
replace a := a.of1
refine mk (.agg #[U6 (u64.wrap c.1), I6 f.1, I6 g.1, F6 h.1, F6 i.1, U6 (u64.wrap d.1), I6 j.1]) ?_
replace a := a.ag
obtain ⟨G, u, a⟩ := a.bx [U6 (u64.wrap c.1), I6 f.1, I6 g.1, F6 h.1, F6 i.1, U6 (u64.wrap d.1), I6 j.1] sizeOf39 z (oJ 7 z oN) (by kernel_rfl)
refine aE z z (aG u) (ab (tn (wp_ret ?_)))
obtain rfl := sj b
refine aZ [.agg #[U6 (u64.wrap c.1), I6 f.1, I6 g.1, F6 h.1, F6 i.1, U6 (u64.wrap d.1), I6 j.1]] results84 (bq (bJ (cs := [U6 (u64.wrap c.1), I6 f.1, I6 g.1, F6 h.1, F6 i.1, U6 (u64.wrap d.1), I6 j.1]) z isAgg39 sizeOf39 (a.eF 0 z)) ai) ?_
replace a := a.ag
exact ⟨z, a.bu⟩
}
end Go.Proofs.YtgnkkopjkgdieaaGreat
