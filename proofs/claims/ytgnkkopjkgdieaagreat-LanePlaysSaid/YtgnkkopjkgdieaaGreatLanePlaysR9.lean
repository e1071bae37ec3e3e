/- A part of the proof. -/
import Derived.Test.YtgnkkopjkgdieaaGreatLanePlaysR8
set_option linter.unusedVariables false
set_option linter.unusedSimpArgs false
set_option maxRecDepth 100000
set_option maxHeartbeats 4000000
namespace Go.Proofs.YtgnkkopjkgdieaaGreat
open Go Go.V
open _root_.Go.Proofs.Tryz IntKind
variable {w0 w : World} {I : HL} {R : SP}
attribute [local irreducible] wpList Code.wp wpQuiet Calls bodyPost Oper.wp wpS Nx gI YieldsIn
theorem qY {a0 : (Option ae)} {p0 : Value} (a : St w0 w I [cF aI p0 a0] R) {r : ((List bO))} (b : ja a0 = some r) :
  Calls prog 87 #[p0] w fun e w' => ∃ (d : Value), e = .returned (d) ∧ St w0 w' I [bg mg d r, cF aI p0 a0] R := by {
rcases a0 with _ | f
{
dsimp only [ja] at b
cases b
}
{
replace a := bH a
dsimp only [ja] at b
refine c0 func87 z ntmps87 (wp_seq (wrl (mv ((.slice none 0 0)) z (ab (tn (wp_seq (wp_seq (wrl (mv (p0) z ?_)))))))))
obtain ⟨g, k, h, l, m, n, o, p, rfl, i⟩ := bi a
have a := i
refine mk (.bool false) (ab (tn (ak z (wp_skip (tn (wp_seq (wrl (mp z (mp z (mf z underlying111 z sizeOf103 (ml z isAgg103 (a.bc0 z) ?_)))))))))))
replace a := a.aA
obtain ⟨q, j, b⟩ := bn b
refine wc call155 [h] z z z ((tc a.to1 j).mono ?_)
rintro _ s ⟨c, rfl, a⟩
refine ⟨_, z, ?_⟩
replace a := a.of2
refine mv (c) z (ab (tn (wp_ret ?_)))
replace a := aO (av (Pt g 0) f a.bM.bM.bM.bM.bM.da.bM.bM z)
obtain rfl := sj b
refine aZ [c] results87 (rc z ai) ?_
replace a := a.ag
exact ⟨c, z, a.ck⟩
}
}
theorem sW {a0 : (Option ae)} {p0 : Value} {a1 : bO} (a : St w0 w I [cF aI p0 a0] R) {r : (ap × Bool)} (c : kW a0 a1 = some r) :
  Calls prog 88 #[p0, .agg #[U6 a1.Session, U6 a1.Seq]] w fun e w' => ∃ (I' : HL) (j : Value) (k : Value) (l : Value) (m : Value), e = .returned (.tuple #[.agg #[U6 r.1.ID.Session, U6 r.1.ID.Seq, U6 r.1.Epoch, j, k, l, m], .bool r.2]) ∧ I.le I' ∧ Ro bY I' j r.1.Gets ∧ Ro gB I' k r.1.Scans ∧ Ro bY I' l r.1.Puts ∧ Ro (cp .u8) I' m r.1.Data ∧ St w0 w' I' [cF aI p0 a0] R := by {
rcases a0 with _ | s
{
dsimp only [kW] at c
cases c
}
{
replace a := bH a
dsimp only [kW] at c
refine c0 func88 z ntmps88 ?_
have i := HL.le.refl I
refine wp_seq (wrl ?_)
obtain ⟨F, G, t, u, a⟩ := a.box [U6 a1.Session, U6 a1.Seq] 28
refine wa t u ?_
obtain ⟨H, J, v, x, a⟩ := a.box [Zu, Zu, Zu, Zs, Zs, Zs, Zs] 46
refine wa v x (mb z (ab (tn (wp_seq (wp_seq (wrl (mv (p0) z ?_)))))))
obtain ⟨y, K, A, L, M, N, O, P, rfl, B⟩ := bi a.aA
have a := B
refine mk (.bool false) (ab (tn (ak z (wp_skip (tn (wp_seq (rg a 10 [0, 1, 3, 7, 0, 31, 63, 63, 255, 511] [] mixed (sp 0 z z (sp 1 z z (sf 2 z z underlying111 z sizeOf103 (sl 3 z z isAgg103 (fun w a => a.bc0 z) (sh _ 4 z (fun w a => ay (cs := [U6 a1.Session, U6 a1.Seq]) z isAgg28 sizeOf28 (a.vX 0 z)) (e1 5 z z fun w a => ?_)))))))))))))
replace a := a.aA
obtain ⟨b, C, c⟩ := bn c
refine wec call56 [A, .agg #[U6 a1.Session, U6 a1.Seq]] z z ((mx a.to1 C).mono ?_)
rintro _ Q ⟨I247, d, f, g, h, rfl, D, n, o, p, q, a⟩
refine ⟨_, z, ?_⟩
replace a := a.of1
replace i := i.trans D
refine w0n a (sz (.agg #[U6 b.1.ID.Session, U6 b.1.ID.Seq, U6 b.1.Epoch, d, f, g, h]) 6 z z (sb 7 z z (e1 8 z z fun w a => ?_)))
replace a := a.bM
obtain ⟨S, E, a⟩ := a.bx [U6 b.1.ID.Session, U6 b.1.ID.Seq, U6 b.1.Epoch, d, f, g, h] sizeOf46 z (oJ 3 z (oC (oS (ah n)) (oC (oS (ah o)) (oC (oS (ah p)) (oC (oS (ah q)) oN))))) (by kernel_rfl)
refine dz z (aG E) (w0n a (sb 9 z z (bp ?_)))
intro w a
refine tn (wp_ret ?_)
replace a := aO (av (Pt y 0) s a.bM.bM.bM.bM.bM.da.bM.bM z)
obtain rfl := sj c
exact aZ [.agg #[U6 b.1.ID.Session, U6 b.1.ID.Seq, U6 b.1.Epoch, d, f, g, h], .bool b.2] results88 (bq (bJ (cs := [U6 b.1.ID.Session, U6 b.1.ID.Seq, U6 b.1.Epoch, d, f, g, h]) z isAgg46 sizeOf46 (a.eK 0 z)) (rc z ai)) ⟨_, d, f, g, h, z, i, n, o, p, q, a.bu⟩
}
}
theorem lp {a0 : Int} (a : St w0 w I [] R) {r : (Nat)} (b : nk a0 = some r) :
  Calls prog 90 #[I6 a0] w fun e w' => e = .returned (.float .f64 r) ∧ St w0 w' I [] R := by {
unfold nk at b
refine c0 func90 z ntmps90 (wp_seq (wrl (mv (F6 _) z (ab (tn (wp_seq (wrl ?_)))))))
obtain ⟨c, d, f, g, a⟩ := a.ey (E := bY) (xs := [(0:Nat), (4607182418800017408:Nat), (13830554455654793216:Nat), (4612811918334230528:Nat), (9094988921128908188:Nat), (18318360957983683996:Nat), (4602678819172646912:Nat), (4613937818241073152:Nat)]) [[Zf], [F6 (4607182418800017408:Nat)], [F6 (13830554455654793216:Nat)], [F6 (4612811918334230528:Nat)], [F6 (9094988921128908188:Nat)], [F6 (18318360957983683996:Nat)], [F6 (4602678819172646912:Nat)], [F6 (4613937818241073152:Nat)]] 37 8 z (bE.cons z (bE.cons z (bE.cons z (bE.cons z (bE.cons z (bE.cons z (bE.cons z (bE.cons z bE.nil))))))))
refine cb (v := (.slice (some ⟨c, 0, none⟩) 8 8)) (w' := d) z z (dn (by kernel_rfl) f g) (mv ((.slice (some ⟨c, 0, none⟩) 8 8)) z (ab (tn (wp_seq (wrl (mv ((.slice (some ⟨c, 0, none⟩) 8 8)) z (mi z (mi (yR (by decide) z z) ?_))))))))
obtain ⟨h, i, b⟩ := bn b
obtain ⟨j, k, l⟩ := aP i
refine mz (aC z z underlying43 sizeOf37 a.sv0 j k) (ml z isAgg37 (a.ol0 l (by rintro _ rfl; rfl)) (mv (F6 _) z (ab (tn (wp_ret ?_)))))
obtain rfl := sj b
exact aZ [F6 h] results90 (rc z ai) ⟨z, a.bU⟩
}
theorem tD {a0 : (Option ae)} {p0 : Value} {a1 : Nat} (a : St w0 w I [cF aI p0 a0] R) {r : (ct)} (b : lU a0 a1 = some r) :
  Calls prog 21 #[p0, F6 a1] w fun e w' => ∃ (f : Value), e = .returned (.agg #[.bool r.Has, f]) ∧ St w0 w' I [bg (cp .u8) f r.Val, cF aI p0 a0] R := by {
rcases a0 with _ | g
{
dsimp only [lU] at b
cases b
}
{
replace a := bH a
dsimp only [lU] at b
refine c0 func21 z ntmps21 (wp_seq (wrl ?_))
obtain ⟨o, p, h, i, a⟩ := a.box [.bool false, Zs] 61
refine wa h i (ab (tn (wp_seq (wp_seq (wrl (mv (p0) z ?_))))))
obtain ⟨j, k, q, s, t, u, v, x, rfl, l⟩ := bi a.ag
have a := l
refine mk (.bool false) (ab (tn (ak z (wp_skip (tn (wp_seq (wrl (mp z (mp z (mf z underlying111 z sizeOf101 (ml z isAgg101 (a.bc0 z) (mv (F6 _) z ?_))))))))))))
replace a := a.ag
obtain ⟨d, m, b⟩ := bn b
refine wc call60 [k, F6 a1, U6 18446744073709551615] z z z ((mZ a.to1 m).mono ?_)
rintro _ y ⟨c, rfl, a⟩
refine ⟨_, z, ?_⟩
replace a := a.of2.bS
obtain ⟨A, n, a⟩ := a.bx [.bool d.Has, c] sizeOf61 z (oC z (oC (oS a.sv1) oN)) (by kernel_rfl)
refine aE z z (aG n) (ab (tn (wp_ret ?_)))
replace a := aO (av (Pt j 0) g a.bS.bS.bS.bS.bS.bS.bM.bS z)
obtain rfl := sj b
refine aZ [.agg #[.bool d.Has, c]] results21 (bq (bJ (cs := [.bool d.Has, c]) z isAgg61 sizeOf61 (a.eK 0 z)) ai) ?_
replace a := a.aA
exact ⟨c, z, a.ck⟩
}
}
theorem oU {a0 : (Option ae)} {p0 : Value} {a1 : Int} (a : St w0 w I [cF aI p0 a0] R) {r : (Int)} (b : fA a0 a1 = some r) :
  Calls prog 63 #[p0, U6 a1] w fun e w' => e = .returned (.int .i64 r) ∧ St w0 w' I [cF aI p0 a0] R := by {
rcases a0 with _ | d
{
dsimp only [fA] at b
cases b
}
{
replace a := bH a
dsimp only [fA] at b
refine c0 func63 z ntmps63 (wp_seq (wrl (mi z (ab (tn (wp_seq (wp_block (wp_seq (wrl (mv (p0) z ?_))))))))))
obtain ⟨c, i, j, k, l, m, n, o, rfl, h⟩ := bi a
have a := h
refine mk (.bool false) (mb z (wv (.int .u64 a1) ((aw z z z z).trans z) z z (wv (Pt c 0) ((aw z z z z).trans z) z z (wv (Pt c 0) ((aw z z z z).trans z) z z (wv (Pt c 1) ((aw z z z z).trans z) z (aT z underlying111 z sizeOf26 z) (wv (.int .u64 d.epoch) ((aw z z z z).trans z) z (aq z isAgg26 (a.bc0 z)) (wv (.bool (decide (a1 ≥ d.epoch))) ((aw z z z z).trans z) z z (mb (aJ z z z) (mb z (ab (tn (bs b ?_ ?_))))))))))))
{
intro f b
refine ar (cvb f) (wp_seq (wrl (mi z (ab (tn (wp_ret (dm (aN ?_))))))))
replace a := aO (av (Pt c 0) d a.aL.aL.aL.aL.aL.aL.aL.aL z)
obtain rfl := sj b
exact aZ [I6 2] results63 (rc z ai) ⟨z, a.bu⟩
}
{
intro f b
refine ak (cvb f) (wp_seq (wrl (mi z (mi z (mi z (mp z (mp z (mf z underlying111 z sizeOf26 (ml z isAgg26 (a.bc0 z) (mb z (mb z (ab (tn (bs b ?_ ?_))))))))))))))
{
intro g b
refine ar (cvb g) (wp_seq (wrl (mi z (ab (tn (wp_ret (dm (aN ?_))))))))
replace a := aO (av (Pt c 0) d a.aL.aL.aL.aL.aL.aL.aL.aL z)
obtain rfl := sj b
exact aZ [I6 9] results63 (rc z ai) ⟨z, a.bu⟩
}
{
intro g b
refine ak (cvb g) (wp_skip (bF (tn (wp_seq (wrl (mi z (ab (tn (wp_ret ?_)))))))))
replace a := aO (av (Pt c 0) d a.aL.aL.aL.aL.aL.aL.aL.aL z)
obtain rfl := sj b
exact aZ [Zi] results63 (rc z ai) ⟨z, a.bu⟩
}
}
}
}
theorem tL {a0 : (Option ae)} {p0 : Value} {a1 : Nat} {a2 : Int} (a : St w0 w I [cF aI p0 a0] R) {r : (ct × Int)} (b : lY a0 a1 a2 = some r) :
  Calls prog 25 #[p0, F6 a1, U6 a2] w fun e w' => ∃ (g : Value), e = .returned (.tuple #[.agg #[.bool r.1.Has, g], I6 r.2]) ∧ St w0 w' I [bg (cp .u8) g r.1.Val, cF aI p0 a0] R := by {
rcases a0 with _ | h
{
dsimp only [lY] at b
cases b
}
{
replace a := bH a
dsimp only [lY] at b
refine c0 func25 z ntmps25 (wp_seq (wrl ?_))
obtain ⟨t, u, i, j, a⟩ := a.box [.bool false, Zs] 61
refine wa i j (mi z (ab (tn (wp_seq (wp_seq (wrl (mv (p0) z (mi z ?_))))))))
replace a := aO a.ag
obtain ⟨k, l, b⟩ := bn b
refine wc call63 [p0, U6 a2] z z z ((oU a.to1 l).mono ?_)
rintro _ v ⟨rfl, a⟩
refine ⟨_, z, ?_⟩
replace a := bH a.of1
refine mi z (ab (tn (wp_seq (wrl (mi z (mb z (ab (tn (bs b ?_ ?_)))))))))
{
intro d b
refine ar (cvb d) (wp_seq (wrl (mk (.agg #[.bool false, Zs]) (mi z ?_))))
replace a := a.ag
obtain ⟨x, m, a⟩ := a.bx [.bool false, Zs] sizeOf61 z (oC z (oC z oN)) (by kernel_rfl)
refine aE z z (aG m) (mi z (ab (tn (wp_ret (aN ?_)))))
replace a := aO ((a.bd (cp .u8)).aA)
obtain rfl := sj b
refine aZ [.agg #[.bool false, Zs], I6 k] results25 (bq (bJ (cs := [.bool false, Zs]) z isAgg61 sizeOf61 (a.pR 0 z)) (rc z ai)) ?_
replace a := a.ag
exact ⟨(.slice none 0 0), z, a.ck⟩
}
{
intro d b
refine ak (cvb d) (wp_skip (tn (wp_seq (wrl (mv (p0) z ?_)))))
obtain ⟨n, o, y, A, B, C, D, E, rfl, p⟩ := bi a
have a := p
refine mp z (mf z underlying111 z sizeOf101 (ml z isAgg101 (a.bc0 z) (mv (F6 _) z (mi z ?_))))
replace a := a.ag
obtain ⟨f, q, b⟩ := bn b
refine wc call60 [o, F6 a1, U6 a2] z z z ((mZ a.to1 q).mono ?_)
rintro _ F ⟨c, rfl, a⟩
refine ⟨_, z, ?_⟩
replace a := a.of2.bS
obtain ⟨G, s, a⟩ := a.bx [.bool f.Has, c] sizeOf61 z (oC z (oC (oS a.sv1) oN)) (by kernel_rfl)
refine aE z z (aG s) (mi z (ab (tn (wp_ret ?_))))
replace a := aO (av (Pt n 0) h a.bS.bS.bS.bS.bS.bS.bM.bS z)
obtain rfl := sj b
refine aZ [.agg #[.bool f.Has, c], Zi] results25 (bq (bJ (cs := [.bool f.Has, c]) z isAgg61 sizeOf61 (a.eK 0 z)) (rc z ai)) ?_
replace a := a.aA
exact ⟨c, z, a.ck⟩
}
}
}
theorem tC {a0 : (Option ae)} {p0 : Value} {a1 : Int} (b : St w0 w I [cF aI p0 a0] R) {r : ((List cR))} (d : lK a0 a1 = some r) :
  Calls prog 15 #[p0, I6 a1] w fun e w' => ∃ (t : Value), e = .returned (t) ∧ St w0 w' I [bg cj t r, cF aI p0 a0] R := by {
rcases a0 with _ | f
{
dsimp only [lK] at d
cases d
}
{
replace b := bH b
dsimp only [lK] at d
refine c0 func15 z ntmps15 (wp_seq (wrl (mv ((.slice none 0 0)) z (ab (tn (wp_seq (wrl (mv ((.slice none 0 0)) z (ab (tn (wp_seq (wp_seq (wrl (mv (p0) z ?_))))))))))))))
obtain ⟨u, x, y, A, B, C, k, D, rfl, F⟩ := bi b
have b := F
refine mk (.bool false) (ab (tn (ak z (wp_skip (tn (wp_seq (wp_seq (wrl (mp z (mp z (mf z underlying111 z sizeOf50 (ml z isAgg50 (b.bc0 z) (mz (bZ z underlying50 b.sv6) (mi z (ab (tn (wp_block ?_)))))))))))))))))
replace b := b.bd cj
obtain ⟨G, d⟩ := aX d
refine bm (fun n a w => ∃ (h : Int) (i : (List cR)) (g : Value), cT (iv f a1) n (h, i) = some r ∧ fz 30 [1, 5, 14, 15, 16] [I6 a1, g, k, I6 ((f.out).length : Int), I6 h] a ∧ St w0 w I [bg cj g i, cells u [I6 f.wide, U6 f.epoch, x, y, A, B, C, k, D], cF cL x f.store, cF bT y f.locks, cF cd A f.last, cF cO B f.book, bg aM C f.open_, bg cj k f.out, bg cJ D f.used] R) G ⟨0, [], Zs, d, fy z, b⟩ ?_
rintro b1 _ b2 ⟨h, i, g, d, ⟨b3, rfl⟩, b⟩
obtain ⟨b4, b5, rfl, d, l⟩ := ba d
dsimp only [iv] at d
refine wp_seq (wrl (mb z (ab (tn (wp_seq (bs d ?_ ?_))))))
{
intro m d
refine ar (cvb m) (wp_skip (tn (wp_seq (wp_block (wp_seq (wrl ?_))))))
obtain ⟨c, H, d⟩ := bn d
obtain ⟨J, K, L⟩ := aP H
refine mz (aC z z underlying50 sizeOf53 b.sv7 J K) ?_
obtain ⟨b6, M, O⟩ := b.og7 L
obtain ⟨j, rfl, p, -⟩ := M
refine mz (ay (cs := [I6 c.To, U6 c.N, U6 c.Rule, U6 c.Epoch, F6 c.W.At, .bool c.W.Del, j]) z isAgg53 sizeOf53 (dS (o := 0) O z)) ?_
obtain ⟨b7, b8, P, Q, b⟩ := b.box [Zi, Zu, Zu, Zu, Zf, .bool false, Zs] 53
refine wa P Q ?_
obtain ⟨b9, S, b⟩ := b.bx [I6 c.To, U6 c.N, U6 c.Rule, U6 c.Epoch, F6 c.W.At, .bool c.W.Del, j] sizeOf53 z (oJ 6 z (oC (oS (ah p)) oN)) (by kernel_rfl)
refine aE z z (aG S) (ab (tn (wp_seq (wrl (mf z underlying53 z sizeOf3 (ml z isAgg3 (b.bc0 z) (mi z (mb z (ab (tn (bs d ?_ ?_)))))))))))
{
intro q d
refine ar (cvb q) (wrl (mv (g) z (mz (ay (cs := [I6 c.To, U6 c.N, U6 c.Rule, U6 c.Epoch, F6 c.W.At, .bool c.W.Del, j]) z isAgg53 sizeOf53 (b.eF 0 z)) ?_)))
obtain ⟨T, U, V, X, b⟩ := b.ey (E := cj) (xs := [c]) [[I6 c.To, U6 c.N, U6 c.Rule, U6 c.Epoch, F6 c.W.At, .bool c.W.Del, j]] 53 1 z (bE.cons ⟨_, z, p, oS (ah p)⟩ bE.nil)
refine cb (v := (.slice (some ⟨T, 0, none⟩) 1 1)) (w' := U) z z (dn (by kernel_rfl) V X) ?_
obtain ⟨Y, d⟩ := cz d
replace b := b.aA
obtain ⟨s, Z, b0, b⟩ := bI sH underlying50 b b.ju (cK Y z) 50
refine cb (v := s) (w' := Z) z z (bX z z b0) (mv (s) z (ab (bF (tn (wrl (mi z (mi z (ab (tn ?_)))))))))
replace b := b.bz.bz.bz.bz.bz.bz.bz.bz.bM.rj
obtain rfl := sj d
exact ⟨_, nls, (i64.wrap (h + 1)), (i ++ ([c])), s, l, fy z, b⟩
}
{
intro q d
refine ak (cvb q) (wp_skip (bF (tn (wrl (mi z (mi z (ab (tn ?_))))))))
replace b := b.bS.bS.bS.bS.bS.bS.bS.bS.bS.rj
obtain rfl := sj d
exact ⟨_, nls, (i64.wrap (h + 1)), i, g, l, fy z, b⟩
}
}
{
intro m d
refine ak (cvb m) (wp_exit (aV (aV ?_)))
replace d := bo d l
refine de (tn (wp_seq (wrl (mv (g) z (mv (g) z (ab (tn (wp_ret ?_))))))))
replace b := aO (av (Pt u 0) f b.bM.bM.bM.bM.bM.bM.bM.bM z)
obtain rfl := sj d
refine aZ [g] results15 (rc z ai) ?_
replace b := b.ag
exact ⟨g, z, b.ck⟩
}
}
}
theorem tx {a0 : aj} {p0 : Value} {a1 : Int} (b : St w0 w I [aR p0 a0] R) {r : ((List cR))} (c : nF a0 a1 = some r) :
  Calls prog 92 #[p0, I6 a1] w fun e w' => ∃ (u : Value), e = .returned (u) ∧ St w0 w' I [bg cj u r, aR p0 a0] R := by {
unfold nF at c
refine c0 func92 z ntmps92 (wp_seq (wrl (mv ((.slice none 0 0)) z (ab (tn (wp_seq (wrl (mv ((.slice none 0 0)) z (ab (tn (wp_seq (wp_seq (wrl (mi z (ab (tn (wp_block ?_)))))))))))))))))
replace b := b.bd cj
obtain ⟨D, c⟩ := aX c
refine bm (fun n a w => ∃ (g : (List cR)) (h : Int) (f : Value), cT (iq a0 a1) n (g, h) = some r ∧ fz 37 [0, 1, 5, 6] [p0, I6 a1, f, I6 h] a ∧ St w0 w I [bg cj f g, aR p0 a0] R) D ⟨[], 0, Zs, c, fy z, b⟩ ?_
rintro T _ U ⟨g, h, f, c, ⟨V, rfl⟩, b⟩
obtain ⟨X, Y, rfl, c, i⟩ := ba c
dsimp only [iq] at c
refine wp_seq (wp_seq (wrl (mi z (mv (p0) z ?_))))
obtain ⟨j, Z, b0, b1, b2, b3, b4, b5, ⟨rfl, k, l, m, p⟩, F⟩ := bl b.ag
have b := F
refine mp z (mf z underlying130 z sizeOf50 (ml z isAgg50 (b.bc0 z) (mz (bZ z underlying50 b.sv2) (mb z (ab (tn (bs c ?_ ?_)))))))
{
intro q c
refine ar (cvb q) (wp_skip (tn (wp_seq (wp_block (wp_seq (wrl (mp z (mp z (mf z underlying130 z sizeOf50 (ml z isAgg50 (b.bc0 z) (mi z ?_)))))))))))
obtain ⟨d, G, c⟩ := bn c
obtain ⟨x, y, H⟩ := aP G
refine mz (aC z z underlying50 sizeOf53 b.sv2 x y) (mz (aW z underlying53 z sizeOf3 z) ?_)
obtain ⟨b6, J, A⟩ := b.og2 H
obtain ⟨B, rfl, C, -⟩ := J
refine ml z isAgg3 (A 0 _ z) (mi z (mb z (ab (tn (bs c ?_ ?_)))))
{
intro s c
refine ar (cvb s) (wrl (mv (f) z (mp z (mp z (mf z underlying130 z sizeOf50 (ml z isAgg50 (b.bc0 z) (mi z (mz (aC z z underlying50 sizeOf53 b.sv2 x y) (mz (ay (cs := [I6 d.To, U6 d.N, U6 d.Rule, U6 d.Epoch, F6 d.W.At, .bool d.W.Del, B]) z isAgg53 sizeOf53 (dS (o := 0) A z)) ?_)))))))))
obtain ⟨K, L, M, O, b⟩ := b.ey (E := cj) (xs := [d]) [[I6 d.To, U6 d.N, U6 d.Rule, U6 d.Epoch, F6 d.W.At, .bool d.W.Del, B]] 53 1 z (bE.cons ⟨_, z, C, oS (ah C)⟩ bE.nil)
refine cb (v := (.slice (some ⟨K, 0, none⟩) 1 1)) (w' := L) z z (dn (by kernel_rfl) M O) ?_
obtain ⟨P, c⟩ := cz c
replace b := b.bc
obtain ⟨t, Q, S, b⟩ := bI sH underlying50 b b.ju (cK P z) 50
refine cb (v := t) (w' := Q) z z (bX z z S) (mv (t) z (ab (bF (tn (wrl (mi z (mi z (mi z (ab (tn ?_))))))))))
replace b := (al (Pt j 0) a0 b.bc.bc.bc.bc ⟨z, k, l, m, p⟩).ag.ck
obtain rfl := sj c
exact ⟨_, nls, (g ++ ([d])), (i64.wrap (h + 1)), t, i, fy z, b⟩
}
{
intro s c
refine ak (cvb s) (wp_skip (bF (tn (wrl (mi z (mi z (mi z (ab (tn ?_)))))))))
replace b := (al (Pt j 0) a0 b.au.au.au.au ⟨z, k, l, m, p⟩).ag.ck
obtain rfl := sj c
exact ⟨_, nls, g, (i64.wrap (h + 1)), f, i, fy z, b⟩
}
}
{
intro q c
refine ak (cvb q) (wp_exit (aV (aV ?_)))
replace c := bo c i
refine de (tn (wp_seq (wrl (mv (f) z (mv (f) z (ab (tn (wp_ret ?_))))))))
replace b := al (Pt j 0) a0 b.au.au.au.au ⟨z, k, l, m, p⟩
obtain rfl := sj c
refine aZ [f] results92 (rc z ai) ?_
replace b := b.ag
exact ⟨f, z, b.ck⟩
}
}
theorem sQ {a0 : (List cR)} {i : Value} {a1 : (List cR)} {j : Value} (m : Ro cj I i a0) (p : Ro cj I j a1) (b : St w0 w I [] R) {r : (Bool)} (c : kZ a0 a1 = some r) :
  Calls prog 91 #[i, j] w fun e w' => e = .returned (.bool r) ∧ St w0 w' I [] R := by {
unfold kZ at c
refine c0 func91 z ntmps91 (wp_seq (wrl (mb z (ab (tn (wp_seq (wp_seq (wrl (mv (i) z (mz (bZ z underlying50 (ah m)) (mv (j) z (mz (bZ z underlying50 (ah p)) (mb z (ab (tn (bs c ?_ ?_))))))))))))))))
{
intro J c
cases c
}
{
intro J c
refine ak (cvb J) (wp_skip (tn (wp_seq (wp_seq (wrl (mi z (ab (tn (wp_block ?_)))))))))
obtain ⟨X, c⟩ := aX c
refine bm (fun n a w => ∃ (q : Int), cT (jl a0 a1) n q = some r ∧ fz 83 [0, 1, 5] [i, j, I6 q] a ∧ St w0 w I [] R) X ⟨0, c, fy z, b⟩ ?_
rintro d2 _ d3 ⟨q, c, ⟨d4, rfl⟩, b⟩
obtain ⟨d5, Y, rfl, c, K⟩ := ba c
dsimp only [jl] at c
refine wp_seq (wp_seq (wrl (mi z (mv (i) z (mz (bZ z underlying50 (ah m)) (mb z (ab (tn (bs c ?_ ?_)))))))))
{
intro G c
refine ar (cvb G) (wp_skip (tn (wp_seq (wp_block (wp_seq ?_)))))
obtain ⟨d6, c, L⟩ := bn c
refine qT (fun a w => ∃ (H : Bool), (kF q) H = some Y ∧ fz 83 [0, 1, 5, 82] [i, j, I6 q, .bool H] a ∧ St w0 w I [] R) ?_ ?_
{
refine rg b 66 [0, 0, 3, 7, 15, 0, 0, 96, 224, 480, 1023, 2047, 4095, 4095, 16383, 32767, 65535, 4095, 4095, 397311, 921599, 1970175, 4194303, 8388607, 16777215, 33554431, 33554431, 134217727, 268435455, 536870911, 33554431, 33554431, 3254779903, 7549747199, 16139681791, 34359738367, 68719476735, 137438953471, 274877906943, 274877906943, 1099511627775, 2199023255551, 4398046511103, 274877906943, 274877906943, 26663156973567, 61847529062399, 132216273240063, 281474976710655, 562949953421311, 1125899906842623, 2251799813685247, 2251799813685247, 9007199254740991, 18014398509481983, 36028797018963967, 72057594037927935, 2251799813685247, 2251799813685247, 434597364041252863, 1011058116344676351, 2163979620951523327, 4469822630165217279, 9223372036854775807, 18446744073709551615, 36893488147419103231] [] mixed (sz (i) 0 z z (si 1 z z ?_))
obtain ⟨k, Z, c⟩ := bn c
obtain ⟨s, t, b0⟩ := aP Z
refine sh _ 2 z (fun w b => aC z z underlying50 sizeOf53 (ah m) s t) (sh _ 3 z (fun w b => aW z underlying53 z sizeOf3 z) ?_)
obtain ⟨d7, b1, u⟩ := Ro.jZ m b0
obtain ⟨B, rfl, C, -⟩ := b1
refine sl 4 z z isAgg3 (fun w b => (u lr b) 0 _ z) (sz (j) 5 z z (si 6 z z ?_))
obtain ⟨l, b2, c⟩ := bn c
obtain ⟨x, y, b3⟩ := aP b2
refine sh _ 7 z (fun w b => aC z z underlying50 sizeOf53 (ah p) x y) (sh _ 8 z (fun w b => aW z underlying53 z sizeOf3 z) ?_)
obtain ⟨d8, b4, A⟩ := Ro.jZ p b3
obtain ⟨D, rfl, F, -⟩ := b4
refine sl 9 z z isAgg3 (fun w b => (A lr b) 0 _ z) (sb 10 z z (sb 11 z z (bs c ?_ ?_)))
{
intro f c
cases c
}
{
intro f c
refine sgz i 12 z f z (sgz (I6 _) 13 z f z (sg _ 14 z f (fun w b => aC z z underlying50 sizeOf53 (ah m) s t) (sg _ 15 z f (fun w b => aW z underlying53 z sizeOf26 z) (sg _ 16 z f (fun w b => aq z isAgg26 ((u lr b) 1 _ z)) (sgz j 17 z f z (sgz (I6 _) 18 z f z (sg _ 19 z f (fun w b => aC z z underlying50 sizeOf53 (ah p) x y) (sg _ 20 z f (fun w b => aW z underlying53 z sizeOf26 z) (sg _ 21 z f (fun w b => aq z isAgg26 ((A lr b) 1 _ z)) (sgz (.bool _) 22 z f z (sh (.bool _) 23 z (fun w b => aJ f z z) (sb 24 z z (bs c ?_ ?_)))))))))))))
{
intro g c
cases c
}
{
intro g c
refine sgz i 25 z g z (sgz (I6 _) 26 z g z (sg _ 27 z g (fun w b => aC z z underlying50 sizeOf53 (ah m) s t) (sg _ 28 z g (fun w b => aW z underlying53 z sizeOf26 z) (sg _ 29 z g (fun w b => aq z isAgg26 ((u lr b) 2 _ z)) (sgz j 30 z g z (sgz (I6 _) 31 z g z (sg _ 32 z g (fun w b => aC z z underlying50 sizeOf53 (ah p) x y) (sg _ 33 z g (fun w b => aW z underlying53 z sizeOf26 z) (sg _ 34 z g (fun w b => aq z isAgg26 ((A lr b) 2 _ z)) (sgz (.bool _) 35 z g z (sh (.bool _) 36 z (fun w b => aJ g z z) (sb 37 z z (bs c ?_ ?_)))))))))))))
{
intro h c
cases c
}
{
intro h c
refine sgz i 38 z h z (sgz (I6 _) 39 z h z (sg _ 40 z h (fun w b => aC z z underlying50 sizeOf53 (ah m) s t) (sg _ 41 z h (fun w b => aW z underlying53 z sizeOf26 z) (sg _ 42 z h (fun w b => aq z isAgg26 ((u lr b) 3 _ z)) (sgz j 43 z h z (sgz (I6 _) 44 z h z (sg _ 45 z h (fun w b => aC z z underlying50 sizeOf53 (ah p) x y) (sg _ 46 z h (fun w b => aW z underlying53 z sizeOf26 z) (sg _ 47 z h (fun w b => aq z isAgg26 ((A lr b) 3 _ z)) (sgz (.bool _) 48 z h z (sh (.bool _) 49 z (fun w b => aJ h z z) (sb 50 z z (bs c ?_ ?_)))))))))))))
{
intro d c
cases c
}
{
intro d c
refine sgz i 51 z d z (sgz (I6 _) 52 z d z (sg _ 53 z d (fun w b => aC z z underlying50 sizeOf53 (ah m) s t) (sg _ 54 z d (fun w b => aW z underlying53 z sizeOf41 z) (sg _ 55 z d (fun w b => ay (cs := [F6 k.W.At, .bool k.W.Del, B]) z isAgg41 sizeOf41 (dS (o := 4) (u lr b) z)) (sgz j 57 z d z (sgz (I6 _) 58 z d z (sg _ 59 z d (fun w b => aC z z underlying50 sizeOf53 (ah p) x y) (sg _ 60 z d (fun w b => aW z underlying53 z sizeOf41 z) (sg _ 61 z d (fun w b => ay (cs := [F6 l.W.At, .bool l.W.Del, D]) z isAgg41 sizeOf41 (dS (o := 4) (A lr b) z)) (pK 56 62 (by kernel_rfl) ?_ ?_))))))))))
{
refine nxe [62, 63, 64, 65] (by kernel_rfl) z ((aw z z z (cvb d)).trans z) ?_
clear b
intro w b
obtain ⟨M, b5, b6, b7, b⟩ := b.ey (E := cI) (xs := [k.W]) [[F6 k.W.At, .bool k.W.Del, B]] 41 1 z (bE.cons ⟨_, z, C, oS (ah C)⟩ bE.nil)
refine bW (v := (.slice (some ⟨M, 0, none⟩) 1 1)) (w' := b5) z (dn (by kernel_rfl) b6 b7) (wn [61, 60, 59, 58, 57] b (db z (cY ((aw z z z (cvb d)).trans z) (fun w b => ay (cs := [F6 l.W.At, .bool l.W.Del, D]) z isAgg41 sizeOf41 (dS (o := 4) (A lr b) z))) (db z (cY ((aw z z z (cvb d)).trans z) (fun w b => aW z underlying53 z sizeOf41 z)) (db z (cY ((aw z z z (cvb d)).trans z) (fun w b => aC z z underlying50 sizeOf53 (ah p) x y)) (db z (cY ((aw z z z (cvb d)).trans z) (fun w b => z)) (db z (cY ((aw z z z (cvb d)).trans z) (fun w b => z)) bD))))) (hJ 62 (by kernel_rfl) (nxe [63, 64, 65] (by kernel_rfl) z ((aw z z z (cvb d)).trans z) ?_)))
clear b
intro w b
obtain ⟨N, b8, b9, c1, b⟩ := b.ey (E := cI) (xs := [l.W]) [[F6 l.W.At, .bool l.W.Del, D]] 41 1 z (bE.cons ⟨_, z, F, oS (ah F)⟩ bE.nil)
refine bW (v := (.slice (some ⟨N, 0, none⟩) 1 1)) (w' := b8) z (dn (by kernel_rfl) b9 c1) (w0n b (hJ 63 (by kernel_rfl) (nxe [64, 65] (by kernel_rfl) z ((aw z z z (cvb d)).trans z) ?_)))
clear b
intro w b
replace b := b.ag
obtain ⟨d9, O, b⟩ := b.cB
replace b := b.ag
obtain ⟨e0, P, b⟩ := b.cB
obtain ⟨c2, c3, c⟩ := bn c
refine wec call18 [(.slice (some ⟨M, 0, none⟩) 1 1), (.slice (some ⟨N, 0, none⟩) 1 1)] z z ((lI (b.px O) (b.nc P) b.to0 c3).mono ?_)
rintro _ e1 ⟨rfl, b⟩
refine ⟨_, z, ?_⟩
replace b := (b.of0.ag.bh O).ag.bh P
refine w0n b (sgz (.bool _) 64 z d z (sh (.bool _) 65 z (fun w b => aJ d z z) (bp ?_)))
intro w b
refine ⟨z, ?_⟩
replace b := b.bU
obtain rfl := sj c
exact ⟨(!c2), L, fy z, b⟩
}
{
refine nxe [56, 63, 64, 65] (by kernel_rfl) z ((aw z z z (cvb d)).trans z) ?_
clear b
intro w b
obtain ⟨Q, c4, c5, c6, b⟩ := b.ey (E := cI) (xs := [l.W]) [[F6 l.W.At, .bool l.W.Del, D]] 41 1 z (bE.cons ⟨_, z, F, oS (ah F)⟩ bE.nil)
refine bW (v := (.slice (some ⟨Q, 0, none⟩) 1 1)) (w' := c4) z (dn (by kernel_rfl) c5 c6) (wn [55, 54, 53, 52, 51] b (db z (cY ((aw z z z (cvb d)).trans z) (fun w b => ay (cs := [F6 k.W.At, .bool k.W.Del, B]) z isAgg41 sizeOf41 (dS (o := 4) (u lr b) z))) (db z (cY ((aw z z z (cvb d)).trans z) (fun w b => aW z underlying53 z sizeOf41 z)) (db z (cY ((aw z z z (cvb d)).trans z) (fun w b => aC z z underlying50 sizeOf53 (ah m) s t)) (db z (cY ((aw z z z (cvb d)).trans z) (fun w b => z)) (db z (cY ((aw z z z (cvb d)).trans z) (fun w b => z)) bD))))) (hJ 56 (by kernel_rfl) (nxe [63, 64, 65] (by kernel_rfl) z ((aw z z z (cvb d)).trans z) ?_)))
clear b
intro w b
obtain ⟨S, c7, c8, c9, b⟩ := b.ey (E := cI) (xs := [k.W]) [[F6 k.W.At, .bool k.W.Del, B]] 41 1 z (bE.cons ⟨_, z, C, oS (ah C)⟩ bE.nil)
refine bW (v := (.slice (some ⟨S, 0, none⟩) 1 1)) (w' := c7) z (dn (by kernel_rfl) c8 c9) (w0n b (hJ 63 (by kernel_rfl) (nxe [64, 65] (by kernel_rfl) z ((aw z z z (cvb d)).trans z) ?_)))
clear b
intro w b
obtain ⟨e2, T, b⟩ := b.cB
replace b := b.ag
obtain ⟨e3, U, b⟩ := b.cB
obtain ⟨d0, d1, c⟩ := bn c
refine wec call18 [(.slice (some ⟨S, 0, none⟩) 1 1), (.slice (some ⟨Q, 0, none⟩) 1 1)] z z ((lI (b.px T) (b.nc U) b.to0 d1).mono ?_)
rintro _ e4 ⟨rfl, b⟩
refine ⟨_, z, ?_⟩
replace b := (b.of0.ag.bh T).ag.bh U
refine w0n b (sgz (.bool _) 64 z d z (sh (.bool _) 65 z (fun w b => aJ d z z) (bp ?_)))
intro w b
refine ⟨z, ?_⟩
replace b := b.bU
obtain rfl := sj c
exact ⟨(!d0), L, fy z, b⟩
}
}
}
}
}
}
{
rintro _ e5 ⟨H, c, ⟨e6, rfl⟩, b⟩
dsimp only [kF] at c
refine tn (bs c ?_ ?_)
{
intro V c
cases c
}
{
intro V c
refine ak (cvb V) (wp_skip (bF (tn (wrl (mi z (mi z (mi z (ab (tn ?_)))))))))
replace b := b.bU
obtain rfl := sj c
exact ⟨_, nls, (i64.wrap (q + 1)), K, fy z, b⟩
}
}
}
{
intro G c
refine ak (cvb G) (wp_exit (aV (aV ?_)))
replace c := bo c K
refine de (tn (wp_seq (wrl (mb z (ab (tn (wp_ret ?_)))))))
obtain rfl := sj c
exact aZ [.bool true] results91 (rc z ai) ⟨z, b.bU⟩
}
}
}
theorem sP {a0 : (Option ae)} {p0 : Value} {a1 : Int} (a : St w0 w I [cF aI p0 a0] R) {r : (Int)} (b : kT a0 a1 = some r) :
  Calls prog 22 #[p0, U6 a1] w fun e w' => e = .returned (.int .u64 r) ∧ St w0 w' I [cF aI p0 a0] R := by {
rcases a0 with _ | c
{
dsimp only [kT] at b
cases b
}
{
replace a := bH a
dsimp only [kT] at b
refine c0 func22 z ntmps22 (wp_seq (wrl (mi z (ab (tn (wp_seq (wp_seq (wrl (mv (p0) z ?_)))))))))
obtain ⟨d, j, k, f, l, m, n, o, rfl, g⟩ := bi a
have a := g
refine mk (.bool false) (ab (tn (ak z (wp_skip (tn (wp_seq (wrl (mp z (mp z (mf z underlying111 z sizeOf105 (ml z isAgg105 (a.bc0 z) (mi z ?_))))))))))))
replace a := a.au
obtain ⟨h, i, b⟩ := bn b
refine wc call61 [f, U6 a1] z z z ((nK a.to1 i).mono ?_)
rintro _ p ⟨rfl, a⟩
refine ⟨_, z, ?_⟩
replace a := a.of1
refine mi z (ab (tn (wp_ret ?_)))
replace a := aO (av (Pt d 0) c a.aL.aL.aL.aL.bf.aL.aL.aL z)
obtain rfl := sj b
exact aZ [U6 h] results22 (rc z ai) ⟨z, a.bu⟩
}
}
theorem rq {a0 : (Option cm)} {p0 : Value} {a1 a2 : Int} (a : St w0 w I [cF cd p0 a0] R) {r : (bw × Int)} (c : fY a0 a1 a2 = some r) :
  Calls prog 82 #[p0, U6 a1, U6 a2] w fun e w' => ∃ (I' : HL) (q : Value) (s : Value), e = .returned (.tuple #[.agg #[I6 r.1.E, U6 r.1.Epoch, U6 r.1.Index, q, s], I6 r.2]) ∧ I.le I' ∧ Ro aD I' q r.1.Gots ∧ Ro (dJ az) I' s r.1.Scans ∧ St w0 w' I' [cF cd p0 a0] R := by {
rcases a0 with _ | i
{
dsimp only [fY] at c
cases c
}
{
replace a := bH a
dsimp only [fY] at c
refine c0 func82 z ntmps82 ?_
have h := HL.le.refl I
refine wp_seq (wrl ?_)
obtain ⟨S, T, x, y, a⟩ := a.box [Zi, Zu, Zu, Zs, Zs] 33
refine wa x y (mi z (ab (tn (wp_seq (wrl (mv (p0) z (mi z ?_)))))))
replace a := aO a.ag
obtain ⟨t, A, c⟩ := bn c
refine wc call148 [p0, U6 a1] z z z ((kJ a.to1 A).mono ?_)
rintro _ U ⟨rfl, a⟩
refine ⟨_, z, ?_⟩
replace a := bH a.of1
refine mv (.tuple #[I6 t.1, .bool t.2]) z (mi z (mb z (mi z (mb z (ab (tn (wp_seq (wp_block (wp_seq (wrl (mb z (mb z (mb z (bs c ?_ ?_))))))))))))))
{
intro b c
refine go b (go b (go b (go b (go b (go b (go b (go b (go b (go b (mb (aS b z z) (mb z (ab (tn (ar z (wp_seq (wrl (mk (.agg #[Zi, Zu, Zu, Zs, Zs]) ?_)))))))))))))))))
replace a := a.ag
obtain ⟨V, B, a⟩ := a.bx [Zi, Zu, Zu, Zs, Zs] sizeOf33 z (oJ 5 z oN) (by kernel_rfl)
refine aE z z (aG B) (mi z (ab (tn (wp_ret (dm (aN ?_))))))
have C : Ro aD I (.slice none 0 0) [] := cy
have D : Ro (dJ az) I (.slice none 0 0) [] := cy
replace a := aO a.ag
obtain rfl := sj c
exact aZ [.agg #[Zi, Zu, Zu, Zs, Zs], I6 2] results82 (bq (bJ (cs := [Zi, Zu, Zu, Zs, Zs]) z isAgg33 sizeOf33 (a.eK 0 z)) (rc z ai)) ⟨_, Zs, Zs, z, h, C, D, a.bu⟩
}
{
intro b c
refine gv (p0) b z ?_
obtain ⟨j, W, rfl, F⟩ := dK a
have a := F
refine gp b z (gg b (aT z underlying206 z sizeOf204 z) (gg b (aq z isAgg204 (a.bc0 z)) (gi b z ?_)))
obtain ⟨d, G, c⟩ := bn c
obtain ⟨k, l, H⟩ := aP G
refine gg b (aC z z underlying204 sizeOf242 a.sv1 k l) (gg b (aW z underlying242 z sizeOf26 z) ?_)
obtain ⟨X, J, m⟩ := a.og1 H
obtain ⟨f, g, rfl, u, v, -⟩ := J
refine gg b (aq z isAgg26 (m 1 _ z)) (gi b z (gb b z (mb (aJ b z z) (mb z (ab (tn (bs c ?_ ?_)))))))
{
intro n c
refine ar (cvb n) (wp_seq (wrl (mk (.agg #[Zi, Zu, Zu, Zs, Zs]) ?_)))
replace a := a.aA
obtain ⟨Y, K, a⟩ := a.bx [Zi, Zu, Zu, Zs, Zs] sizeOf33 z (oJ 5 z oN) (by kernel_rfl)
refine aE z z (aG K) (mi z (ab (tn (wp_ret (dm (aN ?_))))))
have L : Ro aD I (.slice none 0 0) [] := cy
have M : Ro (dJ az) I (.slice none 0 0) [] := cy
replace a := aO (cZ (Pt j 0) i a.aA.aA z)
obtain rfl := sj c
exact aZ [.agg #[Zi, Zu, Zu, Zs, Zs], I6 2] results82 (bq (bJ (cs := [Zi, Zu, Zu, Zs, Zs]) z isAgg33 sizeOf33 (a.eK 0 z)) (rc z ai)) ⟨_, Zs, Zs, z, h, L, M, a.bu⟩
}
{
intro n c
refine ak (cvb n) (wp_seq (wrl (mp z (mp z (mf z underlying206 z sizeOf204 (ml z isAgg204 (a.bc0 z) (mi z (mz (aC z z underlying204 sizeOf242 a.sv1 k l) (mz (aW z underlying242 z sizeOf26 z) (ml z isAgg26 (m 1 _ z) (mi z (mb z (mb z (ab (tn (bs c ?_ ?_))))))))))))))))
{
intro p c
refine ar (cvb p) (wp_seq (wrl (mk (.agg #[Zi, Zu, Zu, Zs, Zs]) ?_)))
replace a := a.aA
obtain ⟨Z, N, a⟩ := a.bx [Zi, Zu, Zu, Zs, Zs] sizeOf33 z (oJ 5 z oN) (by kernel_rfl)
refine aE z z (aG N) (mi z (ab (tn (wp_ret (dm (aN ?_))))))
have O : Ro aD I (.slice none 0 0) [] := cy
have P : Ro (dJ az) I (.slice none 0 0) [] := cy
replace a := aO (cZ (Pt j 0) i a.aA.aA z)
obtain rfl := sj c
exact aZ [.agg #[Zi, Zu, Zu, Zs, Zs], I6 10] results82 (bq (bJ (cs := [Zi, Zu, Zu, Zs, Zs]) z isAgg33 sizeOf33 (a.eK 0 z)) (rc z ai)) ⟨_, Zs, Zs, z, h, O, P, a.bu⟩
}
{
intro p c
refine ak (cvb p) (wp_skip (bF (tn (wp_seq (wrl (mp z (mp z (mf z underlying206 z sizeOf204 (ml z isAgg204 (a.bc0 z) (mi z (mz (aC z z underlying204 sizeOf242 a.sv1 k l) (mz (aW z underlying242 z sizeOf33 z) (mz (ay (cs := [I6 d.r.E, U6 d.r.Epoch, U6 d.r.Index, f, g]) z isAgg33 sizeOf33 (dS (o := 2) m z)) ?_)))))))))))))
replace a := a.aA
obtain ⟨b0, Q, a⟩ := a.bx [I6 d.r.E, U6 d.r.Epoch, U6 d.r.Index, f, g] sizeOf33 z (oJ 3 z (oC (oS (ah u)) (oC (oS (ah v)) oN))) (by kernel_rfl)
refine aE z z (aG Q) (mi z (ab (tn (wp_ret ?_))))
replace a := aO (cZ (Pt j 0) i a.aA.aA z)
obtain rfl := sj c
exact aZ [.agg #[I6 d.r.E, U6 d.r.Epoch, U6 d.r.Index, f, g], Zi] results82 (bq (bJ (cs := [I6 d.r.E, U6 d.r.Epoch, U6 d.r.Index, f, g]) z isAgg33 sizeOf33 (a.eK 0 z)) (rc z ai)) ⟨_, f, g, z, h, u, v, a.bu⟩
}
}
}
}
}
theorem rv {a0 : (Option ae)} {p0 : Value} {a1 : bO} (a : St w0 w I [cF aI p0 a0] R) {r : (bw × Int)} (c : jD a0 a1 = some r) :
  Calls prog 37 #[p0, .agg #[U6 a1.Session, U6 a1.Seq]] w fun e w' => ∃ (I' : HL) (h : Value) (i : Value), e = .returned (.tuple #[.agg #[I6 r.1.E, U6 r.1.Epoch, U6 r.1.Index, h, i], I6 r.2]) ∧ I.le I' ∧ Ro aD I' h r.1.Gots ∧ Ro (dJ az) I' i r.1.Scans ∧ St w0 w' I' [cF aI p0 a0] R := by {
rcases a0 with _ | l
{
dsimp only [jD] at c
cases c
}
{
replace a := bH a
dsimp only [jD] at c
refine c0 func37 z ntmps37 ?_
have g := HL.le.refl I
refine wp_seq (wrl ?_)
obtain ⟨y, A, m, n, a⟩ := a.box [U6 a1.Session, U6 a1.Seq] 28
refine wa m n ?_
obtain ⟨B, C, o, p, a⟩ := a.box [Zi, Zu, Zu, Zs, Zs] 33
refine wa o p (mi z (ab (tn (wp_seq (wp_seq (wrl (mv (p0) z ?_)))))))
obtain ⟨q, D, F, s, G, H, J, K, rfl, t⟩ := bi a.aA
have a := t
refine mk (.bool false) (ab (tn (ak z (wp_skip (tn (wp_seq (rg a 13 [0, 1, 3, 7, 0, 16, 0, 64, 255, 511, 511, 2047, 4095] [] mixed (sp 0 z z (sp 1 z z (sf 2 z z underlying111 z sizeOf105 (sl 3 z z isAgg105 (fun w a => a.bc0 z) (sf 4 z z underlying28 z sizeOf26 (sl 5 z z isAgg26 (fun w a => a.bc9 z) (sf 6 z z underlying28 z sizeOf26 (sl 7 z z isAgg26 (fun w a => a.bc9 z) (e1 8 z z fun w a => ?_))))))))))))))))
replace a := a.au
obtain ⟨b, u, c⟩ := bn c
refine wec call82 [s, U6 a1.Session, U6 a1.Seq] z z ((rq a.to1 u).mono ?_)
rintro _ L ⟨I3197, d, f, rfl, v, j, k, a⟩
refine ⟨_, z, ?_⟩
replace a := a.of1
replace g := g.trans v
refine w0n a (sz (.agg #[I6 b.1.E, U6 b.1.Epoch, U6 b.1.Index, d, f]) 9 z z (si 10 z z (e1 11 z z fun w a => ?_)))
replace a := a.bM
obtain ⟨M, x, a⟩ := a.bx [I6 b.1.E, U6 b.1.Epoch, U6 b.1.Index, d, f] sizeOf33 z (oJ 3 z (oC (oS (ah j)) (oC (oS (ah k)) oN))) (by kernel_rfl)
refine dz z (aG x) (w0n a (si 12 z z (bp ?_)))
intro w a
refine tn (wp_ret ?_)
replace a := aO (av (Pt q 0) l a.bM.bM.bM.bM.bc.bM.bM.bM z)
obtain rfl := sj c
exact aZ [.agg #[I6 b.1.E, U6 b.1.Epoch, U6 b.1.Index, d, f], I6 b.2] results37 (bq (bJ (cs := [I6 b.1.E, U6 b.1.Epoch, U6 b.1.Index, d, f]) z isAgg33 sizeOf33 (a.eK 0 z)) (rc z ai)) ⟨_, d, f, z, g, j, k, a.bu⟩
}
}
theorem tB {a0 : (Option cA)} {p0 : Value} {a1 a2 : Int} (c : St w0 w I [cF cO p0 a0] R) {r : (du × Bool)} (d : lQ a0 a1 a2 = some r) :
  Calls prog 156 #[p0, U6 a1, U6 a2] w fun e w' => e = .returned (.tuple #[.agg #[U6 r.1.ID, I6 r.1.From, I6 r.1.To, F6 r.1.Lo, F6 r.1.Hi, U6 r.1.Authority, I6 r.1.Quota], .bool r.2]) ∧ St w0 w' I [cF cO p0 a0] R := by {
rcases a0 with _ | i
{
dsimp only [lQ] at d
cases d
}
{
replace c := bH c
dsimp only [lQ] at d
refine c0 func156 z ntmps156 (wp_seq (wrl ?_))
obtain ⟨s, L, t, u, c⟩ := c.box [Zu, Zi, Zi, Zf, Zf, Zu, Zi] 39
refine wa t u (mb z (ab (tn (wp_seq (wp_seq (wrl (mv (p0) z ?_)))))))
obtain ⟨j, M, rfl, v⟩ := eH c.ag
have c := v
refine mk (.bool false) (ab (tn (ak z (wp_skip (tn (wp_seq (wp_seq (wrl (mp z (mp z (mf z underlying209 z sizeOf207 (ml z isAgg207 (c.bc0 z) (mz (bZ z underlying207 c.sv1) (mi z (mi z (ab (tn (wp_block ?_))))))))))))))))))
replace c := dc (Pt j 0) i c.ag.ag z
obtain ⟨x, d⟩ := aX d
refine bm (fun n a w => ∃ (k : Int), cT (gh i a1 a2) n k = some r ∧ fz 55 [0, 1, 2, 6, 8] [Pt j 0, U6 a1, U6 a2, Pt s 0, I6 k] a ∧ St w0 w I [cO (Pt j 0) i, cells s [Zu, Zi, Zi, Zf, Zf, Zu, Zi]] R) x ⟨(i64.wrap (((i.l).length : Int) - 1)), d, fy z, c⟩ ?_
rintro N _ O ⟨k, d, ⟨P, rfl⟩, c⟩
obtain ⟨Q, S, rfl, d, m⟩ := ba d
dsimp only [gh] at d
refine wp_seq (wp_seq (wrl (mi z (mb z (ab (tn (bs d ?_ ?_)))))))
{
intro o d
refine ar (cvb o) (wp_skip (tn (wp_seq (wp_block (wp_seq (wrl (mp z ?_)))))))
obtain ⟨T, U, p, y⟩ := eH c
replace p := dI p
subst p
have c := y
refine mp z (mf z underlying209 z sizeOf207 (ml z isAgg207 (c.bc0 z) (mi z ?_)))
obtain ⟨b, A, d⟩ := bn d
obtain ⟨B, C, D⟩ := aP A
refine mz (aC z z underlying207 sizeOf224 c.sv1 B C) (mz (ay (cs := [U6 b.r.ID, I6 b.r.From, I6 b.r.To, F6 b.r.Lo, F6 b.r.Hi, U6 b.r.Authority, I6 b.r.Quota, U6 b.from_, U6 b.to_]) z isAgg224 sizeOf224 (c.Fy D 0 (by rintro _ rfl; rfl))) ?_)
obtain ⟨V, W, E, F, c⟩ := c.box [Zu, Zi, Zi, Zf, Zf, Zu, Zi, Zu, Zu] 224
refine wa E F ?_
obtain ⟨X, G, c⟩ := c.bx [U6 b.r.ID, I6 b.r.From, I6 b.r.To, F6 b.r.Lo, F6 b.r.Hi, U6 b.r.Authority, I6 b.r.Quota, U6 b.from_, U6 b.to_] sizeOf224 z (oJ 9 z oN) (by kernel_rfl)
refine aE z z (aG G) (ab (tn (wp_seq (wrl (mf z underlying224 z sizeOf39 (mf z underlying39 z sizeOf26 (ml z isAgg26 (c.bc0 z) (mi z (mb z (mb z (bs d ?_ ?_)))))))))))
{
intro g d
refine gg g (aT z underlying224 z sizeOf26 z) (gg g (aq z isAgg26 (c.bc0 z)) (gi g z (gb g z (mb (aS g z z) (mb z (bs d ?_ ?_))))))
{
intro f d
refine gg f (aT z underlying224 z sizeOf26 z) (gg f (aq z isAgg26 (c.bc0 z)) (gb f z (gb f z (bs d ?_ ?_))))
{
intro h d
refine go h (go h (go h (go h (gb f (aS h z z) (mb (aS f z z) (ab (tn (ar z (wp_seq (wrl (mf z underlying224 z sizeOf39 (mz (ay (cs := [U6 b.r.ID, I6 b.r.From, I6 b.r.To, F6 b.r.Lo, F6 b.r.Hi, U6 b.r.Authority, I6 b.r.Quota]) z isAgg39 sizeOf39 (c.eF 0 z)) ?_))))))))))))
replace c := c.au
obtain ⟨Y, H, c⟩ := c.bx [U6 b.r.ID, I6 b.r.From, I6 b.r.To, F6 b.r.Lo, F6 b.r.Hi, U6 b.r.Authority, I6 b.r.Quota] sizeOf39 z (oJ 7 z oN) (by kernel_rfl)
refine aE z z (aG H) (mb z (ab (tn (wp_ret (dm (aN (aN ?_)))))))
replace d := bo d m
refine dm (aN ?_)
replace c := aO (dc (Pt j 0) i c.au.au z)
obtain rfl := sj d
exact aZ [.agg #[U6 b.r.ID, I6 b.r.From, I6 b.r.To, F6 b.r.Lo, F6 b.r.Hi, U6 b.r.Authority, I6 b.r.Quota], .bool true] results156 (bq (bJ (cs := [U6 b.r.ID, I6 b.r.From, I6 b.r.To, F6 b.r.Lo, F6 b.r.Hi, U6 b.r.Authority, I6 b.r.Quota]) z isAgg39 sizeOf39 (c.eK 0 z)) (rc z ai)) ⟨z, c.bu⟩
}
{
intro h d
refine gg h (aT z underlying224 z sizeOf26 z) (gg h (aq z isAgg26 (c.bc0 z)) (gi h z (gb h z (gb f (aJ h z z) (mb (aS f z z) (ab (tn (bs d ?_ ?_))))))))
{
intro q d
refine ar (cvb q) (wp_seq (wrl (mf z underlying224 z sizeOf39 (mz (ay (cs := [U6 b.r.ID, I6 b.r.From, I6 b.r.To, F6 b.r.Lo, F6 b.r.Hi, U6 b.r.Authority, I6 b.r.Quota]) z isAgg39 sizeOf39 (c.eF 0 z)) ?_))))
replace c := c.au
obtain ⟨Z, J, c⟩ := c.bx [U6 b.r.ID, I6 b.r.From, I6 b.r.To, F6 b.r.Lo, F6 b.r.Hi, U6 b.r.Authority, I6 b.r.Quota] sizeOf39 z (oJ 7 z oN) (by kernel_rfl)
refine aE z z (aG J) (mb z (ab (tn (wp_ret (dm (aN (aN ?_)))))))
replace d := bo d m
refine dm (aN ?_)
replace c := aO (dc (Pt j 0) i c.au.au z)
obtain rfl := sj d
exact aZ [.agg #[U6 b.r.ID, I6 b.r.From, I6 b.r.To, F6 b.r.Lo, F6 b.r.Hi, U6 b.r.Authority, I6 b.r.Quota], .bool true] results156 (bq (bJ (cs := [U6 b.r.ID, I6 b.r.From, I6 b.r.To, F6 b.r.Lo, F6 b.r.Hi, U6 b.r.Authority, I6 b.r.Quota]) z isAgg39 sizeOf39 (c.eK 0 z)) (rc z ai)) ⟨z, c.bu⟩
}
{
intro q d
refine ak (cvb q) (wp_skip (bF (tn (wrl (mi z (mi z (mi z (ab (tn ?_)))))))))
replace c := (dc (Pt j 0) i c.aA.aA z).aA.ag.ck
obtain rfl := sj d
exact ⟨_, nls, (i64.wrap (k - 1)), m, fy z, c⟩
}
}
}
{
intro f d
refine go f (go f (go f (go f (gu (gu (gu (gu (go f (mb (aJ f z z) (ab (tn (ak z (wp_skip (bF (tn (wrl (mi z (mi z (mi z (ab (tn ?_)))))))))))))))))))))
replace c := (dc (Pt j 0) i c.aA.aA z).aA.ag.ck
obtain rfl := sj d
exact ⟨_, nls, (i64.wrap (k - 1)), m, fy z, c⟩
}
}
{
intro g d
refine go g (go g (go g (go g (mb (aJ g z z) (mb z (gz (gz (gz (gz (gu (gu (gu (gu (gz (mb (aJ z z z) (ab (tn (ak z (wp_skip (bF (tn (wrl (mi z (mi z (mi z (ab (tn ?_)))))))))))))))))))))))))))
replace c := (dc (Pt j 0) i c.aA.aA z).aA.ag.ck
obtain rfl := sj d
exact ⟨_, nls, (i64.wrap (k - 1)), m, fy z, c⟩
}
}
{
intro o d
refine ak (cvb o) (wp_exit (aV (aV ?_)))
replace d := bo d m
refine de (tn (wp_seq (wrl (mk (.agg #[Zu, Zi, Zi, Zf, Zf, Zu, Zi]) ?_))))
replace c := c.ag
obtain ⟨b0, K, c⟩ := c.bx [Zu, Zi, Zi, Zf, Zf, Zu, Zi] sizeOf39 z (oJ 7 z oN) (by kernel_rfl)
refine aE z z (aG K) (mb z (ab (tn (wp_ret ?_))))
replace c := aO c.ag
obtain rfl := sj d
exact aZ [.agg #[Zu, Zi, Zi, Zf, Zf, Zu, Zi], .bool false] results156 (bq (bJ (cs := [Zu, Zi, Zi, Zf, Zf, Zu, Zi]) z isAgg39 sizeOf39 (c.eK 0 z)) (rc z ai)) ⟨z, c.bu⟩
}
}
}
theorem sZ {a0 : (Option ae)} {p0 : Value} {a1 a2 : Int} (b : St w0 w I [cF aI p0 a0] R) {r : (du × Int)} (d : kS a0 a1 a2 = some r) :
  Calls prog 94 #[p0, U6 a1, U6 a2] w fun e w' => e = .returned (.tuple #[.agg #[U6 r.1.ID, I6 r.1.From, I6 r.1.To, F6 r.1.Lo, F6 r.1.Hi, U6 r.1.Authority, I6 r.1.Quota], I6 r.2]) ∧ St w0 w' I [cF aI p0 a0] R := by {
rcases a0 with _ | g
{
dsimp only [kS] at d
cases d
}
{
replace b := bH b
dsimp only [kS] at d
refine c0 func94 z ntmps94 (wp_seq (wrl ?_))
obtain ⟨k, C, m, n, b⟩ := b.box [Zu, Zi, Zi, Zf, Zf, Zu, Zi] 39
refine wa m n (mi z (ab (tn ?_)))
obtain ⟨D, d, h⟩ := ec d
refine cU (fun a w =>(gW g a1 a2) () = some r ∧ fz 36 [0, 1, 2, 6] [p0, U6 a1, U6 a2, Pt k 0] a ∧ St w0 w I [aI p0 g, cells k [Zu, Zi, Zi, Zf, Zf, Zu, Zi]] R) ?_ ?_
{
refine wp_seq (wrl (mv (p0) z (mi z ?_)))
replace b := aO b.ag
obtain ⟨o, p, d⟩ := bn d
refine wc call63 [p0, U6 a2] z z z ((oU b.to1 p).mono ?_)
rintro _ E ⟨rfl, b⟩
refine ⟨_, z, ?_⟩
replace b := bH b.of1
refine mi z (ab (tn (wp_seq (wrl (mi z (mb z (mb z (bs d ?_ ?_))))))))
{
intro f d
refine gi f z (gb f z (mb (aS f z z) (ab (tn (bs d ?_ ?_)))))
{
intro i d
refine ar (cvb i) (wp_seq (wrl (mk (.agg #[Zu, Zi, Zi, Zf, Zf, Zu, Zi]) (mi z ?_))))
replace b := b.ag
obtain ⟨F, q, b⟩ := b.bx [Zu, Zi, Zi, Zf, Zf, Zu, Zi] sizeOf39 z (oJ 7 z oN) (by kernel_rfl)
refine aE z z (aG q) (mi z (ab (tn (wp_ret (aN ?_)))))
replace d := bo d h
replace b := aO b.ag
obtain rfl := sj d
exact aZ [.agg #[Zu, Zi, Zi, Zf, Zf, Zu, Zi], I6 o] results94 (bq (bJ (cs := [Zu, Zi, Zi, Zf, Zf, Zu, Zi]) z isAgg39 sizeOf39 (b.eK 0 z)) (rc z ai)) ⟨z, b.bu⟩
}
{
intro i d
refine ak (cvb i) (wp_skip (tn ?_))
replace b := b.ag.ag.ck
obtain rfl := sj d
exact ⟨h, fy z, b⟩
}
}
{
intro f d
refine go f (go f (mb (aJ f z z) (ab (tn (ak z (wp_skip (tn ?_)))))))
replace b := b.ag.ag.ck
obtain rfl := sj d
exact ⟨h, fy z, b⟩
}
}
{
rintro _ G ⟨d, ⟨H, rfl⟩, b⟩
dsimp only [gW] at d
refine wp_seq (wrl (mv (p0) z ?_))
obtain ⟨l, J, K, L, s, M, N, O, rfl, t⟩ := bi b
have b := t
refine mp z (mf z underlying111 z sizeOf107 (ml z isAgg107 (b.bc0 z) (mi z (mi z ?_))))
replace b := b.bf
obtain ⟨c, u, d⟩ := bn d
refine wc call156 [s, U6 a1, U6 a2] z z z ((tB b.to1 u).mono ?_)
rintro _ P ⟨rfl, b⟩
refine ⟨_, z, ?_⟩
replace b := b.of1
refine mv (.tuple #[.agg #[U6 c.1.ID, I6 c.1.From, I6 c.1.To, F6 c.1.Lo, F6 c.1.Hi, U6 c.1.Authority, I6 c.1.Quota], .bool c.2]) z (mv (.agg #[U6 c.1.ID, I6 c.1.From, I6 c.1.To, F6 c.1.Lo, F6 c.1.Hi, U6 c.1.Authority, I6 c.1.Quota]) z (mb z ?_))
obtain ⟨Q, S, v, x, b⟩ := b.box [Zu, Zi, Zi, Zf, Zf, Zu, Zi] 39
refine wa v x ?_
obtain ⟨T, y, b⟩ := b.bx [U6 c.1.ID, I6 c.1.From, I6 c.1.To, F6 c.1.Lo, F6 c.1.Hi, U6 c.1.Authority, I6 c.1.Quota] sizeOf39 z (oJ 7 z oN) (by kernel_rfl)
refine aE z z (aG y) (mb z (ab (tn (wp_seq (wp_seq (wrl (mb z (mb z (ab (tn (bs d ?_ ?_)))))))))))
{
intro j d
refine ar (cvb j) (wp_seq (wrl (mk (.agg #[Zu, Zi, Zi, Zf, Zf, Zu, Zi]) ?_)))
replace b := b.bS
obtain ⟨U, A, b⟩ := b.bx [Zu, Zi, Zi, Zf, Zf, Zu, Zi] sizeOf39 z (oJ 7 z oN) (by kernel_rfl)
refine aE z z (aG A) (mi z (ab (tn (wp_ret (aN ?_)))))
replace b := aO (av (Pt l 0) g b.bS.bS.bS.bc.bS.bS.bS.bS z)
obtain rfl := sj d
exact aZ [.agg #[Zu, Zi, Zi, Zf, Zf, Zu, Zi], I6 12] results94 (bq (bJ (cs := [Zu, Zi, Zi, Zf, Zf, Zu, Zi]) z isAgg39 sizeOf39 (b.eK 0 z)) (rc z ai)) ⟨z, b.bu⟩
}
{
intro j d
refine ak (cvb j) (wp_skip (tn (wp_seq (wrl (mz (ay (cs := [U6 c.1.ID, I6 c.1.From, I6 c.1.To, F6 c.1.Lo, F6 c.1.Hi, U6 c.1.Authority, I6 c.1.Quota]) z isAgg39 sizeOf39 (b.eF 0 z)) ?_)))))
replace b := b.bS
obtain ⟨V, B, b⟩ := b.bx [U6 c.1.ID, I6 c.1.From, I6 c.1.To, F6 c.1.Lo, F6 c.1.Hi, U6 c.1.Authority, I6 c.1.Quota] sizeOf39 z (oJ 7 z oN) (by kernel_rfl)
refine aE z z (aG B) (mi z (ab (tn (wp_ret ?_))))
replace b := aO (av (Pt l 0) g b.bS.bS.bS.bc.bS.bS.bS.bS z)
obtain rfl := sj d
exact aZ [.agg #[U6 c.1.ID, I6 c.1.From, I6 c.1.To, F6 c.1.Lo, F6 c.1.Hi, U6 c.1.Authority, I6 c.1.Quota], Zi] results94 (bq (bJ (cs := [U6 c.1.ID, I6 c.1.From, I6 c.1.To, F6 c.1.Lo, F6 c.1.Hi, U6 c.1.Authority, I6 c.1.Quota]) z isAgg39 sizeOf39 (b.eK 0 z)) (rc z ai)) ⟨z, b.bu⟩
}
}
}
}
theorem xC {a0 : (List cH)} {j : Value} {a1 a2 : Int} (i : Rd dR R I j a0) (b : St w0 w I [] R) {r : (du × Bool)} (d : rC a0 a1 a2 = some r) :
  Calls prog 95 #[j, U6 a1, U6 a2] w fun e w' => e = .returned (.tuple #[.agg #[U6 r.1.ID, I6 r.1.From, I6 r.1.To, F6 r.1.Lo, F6 r.1.Hi, U6 r.1.Authority, I6 r.1.Quota], .bool r.2]) ∧ St w0 w' I [] R := by {
unfold rC at d
refine c0 func95 z ntmps95 (wp_seq (wrl ?_))
obtain ⟨J, b1, O, P, b⟩ := b.box [Zu, Zi, Zi, Zf, Zf, Zu, Zi] 39
refine wa O P (mb z (ab (tn (wp_seq (wrl (mk (.agg #[Zu, Zi, Zi, Zf, Zf, Zu, Zi]) ?_))))))
obtain ⟨K, b2, Q, S, b⟩ := b.box [Zu, Zi, Zi, Zf, Zf, Zu, Zi] 39
refine wa Q S ?_
obtain ⟨b3, T, b⟩ := b.bx [Zu, Zi, Zi, Zf, Zf, Zu, Zi] sizeOf39 z (oJ 7 z oN) (by kernel_rfl)
refine aE z z (aG T) (ab (tn (wp_seq (wrl (mb z (ab (tn ?_)))))))
obtain ⟨U, d, V⟩ := bn d
refine cU (fun a w => ∃ (l : Int) (m : Int) (o : Int) (p : Nat) (q : Nat) (s : Int) (t : Int) (L : Bool), (rK) (l, m, o, p, q, s, t, L) = some r ∧ fz 59 [6, 8, 9] [Pt J 0, Pt K 0, .bool L] a ∧ St w0 w I [cells J [Zu, Zi, Zi, Zf, Zf, Zu, Zi], cells K [U6 l, I6 m, I6 o, F6 p, F6 q, U6 s, I6 t]] R) ?_ ?_
{
refine wp_seq (wrl (mi z (ab (tn (wp_block ?_)))))
obtain ⟨W, d⟩ := aX d
refine bm (fun n a w => ∃ (u : Int) (v : Int) (x : Int) (y : Nat) (A : Nat) (B : Int) (C : Int) (k : Int) (D : Bool), cT (lJ a0 a1 a2) n (u, v, x, y, A, B, C, k, D) = some U ∧ fz 59 [0, 1, 2, 6, 8, 9, 10] [j, U6 a1, U6 a2, Pt J 0, Pt K 0, .bool D, I6 k] a ∧ St w0 w I [cells K [U6 u, I6 v, I6 x, F6 y, F6 A, U6 B, I6 C], cells J [Zu, Zi, Zi, Zf, Zf, Zu, Zi]] R) W ⟨0, 0, 0, (0:Nat), (0:Nat), 0, 0, 0, false, d, fy z, b⟩ ?_
rintro b4 _ b5 ⟨u, v, x, y, A, B, C, k, D, d, ⟨b6, rfl⟩, b⟩
obtain ⟨b7, b8, rfl, d, E⟩ := ba d
dsimp only [lJ] at d
refine wp_seq (wp_seq (wrl (mi z (mv (j) z (mz (bZ z underlying127 (ax i)) (mb z (ab (tn (bs d ?_ ?_)))))))))
{
intro M d
refine ar (cvb M) (wp_skip (tn (wp_seq (wp_block (wp_seq (wrl (mv (j) z (mi z ?_))))))))
obtain ⟨c, X, d⟩ := bn d
obtain ⟨F, G, H⟩ := aP X
refine mz (aC z z underlying127 sizeOf144 (ax i) F G) (mz (aW z underlying144 z sizeOf39 z) (mz (aW z underlying39 z sizeOf26 z) (ml z isAgg26 (dU i lr b H (by rintro _ rfl; rfl)) (mi z (mb z (mb z (bs d ?_ ?_)))))))
{
intro g d
refine gv (j) g z (gi g z (gg g (aC z z underlying127 sizeOf144 (ax i) F G) (gg g (aW z underlying144 z sizeOf26 z) (gg g (aq z isAgg26 (dU i lr b H (by rintro _ rfl; rfl))) (gi g z (gb g z (mb (aS g z z) (mb z (bs d ?_ ?_)))))))))
{
intro f d
refine gv (j) f z (gi f z (gg f (aC z z underlying127 sizeOf144 (ax i) F G) (gg f (aW z underlying144 z sizeOf26 z) (gg f (aq z isAgg26 (dU i lr b H (by rintro _ rfl; rfl))) (gb f z (gb f z (bs d ?_ ?_)))))))
{
intro h d
refine go h (go h (go h (go h (go h (go h (go h (gb f (aS h z z) (mb (aS f z z) (ab (tn (ar z (wp_seq (wrl (mv (j) z (mi z (mz (aC z z underlying127 sizeOf144 (ax i) F G) (mz (aW z underlying144 z sizeOf39 z) (mz (ay (cs := [U6 c.R.ID, I6 c.R.From, I6 c.R.To, F6 c.R.Lo, F6 c.R.Hi, U6 c.R.Authority, I6 c.R.Quota]) z isAgg39 sizeOf39 (pD i lr b H 0 (by rintro _ rfl; rfl))) ?_))))))))))))))))))
obtain ⟨b9, Y, b⟩ := b.bx [U6 c.R.ID, I6 c.R.From, I6 c.R.To, F6 c.R.Lo, F6 c.R.Hi, U6 c.R.Authority, I6 c.R.Quota] sizeOf39 z (oJ 7 z oN) (by kernel_rfl)
refine aE z z (aG Y) (ab (tn (wrl (mb z (ab (bF (tn (wrl (mi z (mi z (mi z (ab (tn ?_)))))))))))))
replace b := b.ag.ag.ck
obtain rfl := sj d
exact ⟨_, nls, c.R.ID, c.R.From, c.R.To, c.R.Lo, c.R.Hi, c.R.Authority, c.R.Quota, (i64.wrap (k + 1)), true, E, fy z, b⟩
}
{
intro h d
refine gi h z (gv (j) h z (gi h z (gg h (aC z z underlying127 sizeOf144 (ax i) F G) (gg h (aW z underlying144 z sizeOf26 z) (gg h (aq z isAgg26 (dU i lr b H (by rintro _ rfl; rfl))) (gb h z (gb f (aJ h z z) (mb (aS f z z) (ab (tn (bs d ?_ ?_)))))))))))
{
intro N d
refine ar (cvb N) (wp_seq (wrl (mv (j) z (mi z (mz (aC z z underlying127 sizeOf144 (ax i) F G) (mz (aW z underlying144 z sizeOf39 z) (mz (ay (cs := [U6 c.R.ID, I6 c.R.From, I6 c.R.To, F6 c.R.Lo, F6 c.R.Hi, U6 c.R.Authority, I6 c.R.Quota]) z isAgg39 sizeOf39 (pD i lr b H 0 (by rintro _ rfl; rfl))) ?_)))))))
obtain ⟨c1, Z, b⟩ := b.bx [U6 c.R.ID, I6 c.R.From, I6 c.R.To, F6 c.R.Lo, F6 c.R.Hi, U6 c.R.Authority, I6 c.R.Quota] sizeOf39 z (oJ 7 z oN) (by kernel_rfl)
refine aE z z (aG Z) (ab (tn (wrl (mb z (ab (bF (tn (wrl (mi z (mi z (mi z (ab (tn ?_)))))))))))))
replace b := b.ag.ag.ck
obtain rfl := sj d
exact ⟨_, nls, c.R.ID, c.R.From, c.R.To, c.R.Lo, c.R.Hi, c.R.Authority, c.R.Quota, (i64.wrap (k + 1)), true, E, fy z, b⟩
}
{
intro N d
refine ak (cvb N) (wp_skip (bF (tn (wrl (mi z (mi z (mi z (ab (tn ?_)))))))))
replace b := b.ag.ag.ck
obtain rfl := sj d
exact ⟨_, nls, u, v, x, y, A, B, C, (i64.wrap (k + 1)), D, E, fy z, b⟩
}
}
}
{
intro f d
refine go f (go f (go f (go f (go f (go f (go f (gu (gu (gu (gu (gu (gu (gu (go f (mb (aJ f z z) (ab (tn (ak z (wp_skip (bF (tn (wrl (mi z (mi z (mi z (ab (tn ?_)))))))))))))))))))))))))))
replace b := b.ag.ag.ck
obtain rfl := sj d
exact ⟨_, nls, u, v, x, y, A, B, C, (i64.wrap (k + 1)), D, E, fy z, b⟩
}
}
{
intro g d
refine go g (go g (go g (go g (go g (go g (go g (mb (aJ g z z) (mb z (gz (gz (gz (gz (gz (gz (gz (gu (gu (gu (gu (gu (gu (gu (gz (mb (aJ z z z) (ab (tn (ak z (wp_skip (bF (tn (wrl (mi z (mi z (mi z (ab (tn ?_))))))))))))))))))))))))))))))))))))
replace b := b.ag.ag.ck
obtain rfl := sj d
exact ⟨_, nls, u, v, x, y, A, B, C, (i64.wrap (k + 1)), D, E, fy z, b⟩
}
}
{
intro M d
refine ak (cvb M) (wp_exit (aV (aV ?_)))
replace d := bo d E
refine de (tn ?_)
replace b := b.ag.ck
obtain rfl := sj d
exact ⟨u, v, x, y, A, B, C, D, V, fy z, b⟩
}
}
{
rintro _ c2 ⟨l, m, o, p, q, s, t, L, d, ⟨c3, rfl⟩, b⟩
dsimp only [rK] at d
refine wp_seq (wrl (mz (ay (cs := [U6 l, I6 m, I6 o, F6 p, F6 q, U6 s, I6 t]) z isAgg39 sizeOf39 (b.eK 0 z)) (mb z ?_)))
obtain ⟨c4, b0, b⟩ := b.bx [U6 l, I6 m, I6 o, F6 p, F6 q, U6 s, I6 t] sizeOf39 z (oJ 7 z oN) (by kernel_rfl)
refine aE z z (aG b0) (mb z (ab (tn (wp_ret ?_))))
obtain rfl := sj d
exact aZ [.agg #[U6 l, I6 m, I6 o, F6 p, F6 q, U6 s, I6 t], .bool L] results95 (bq (bJ (cs := [U6 l, I6 m, I6 o, F6 p, F6 q, U6 s, I6 t]) z isAgg39 sizeOf39 (b.eF 0 z)) (rc z ai)) ⟨z, b.bU⟩
}
}
theorem tJ {a0 a1 : du} (b : St w0 w I [] R) {r : (Bool)} (a : lS a0 a1 = some r) :
  Calls prog 96 #[.agg #[U6 a0.ID, I6 a0.From, I6 a0.To, F6 a0.Lo, F6 a0.Hi, U6 a0.Authority, I6 a0.Quota], .agg #[U6 a1.ID, I6 a1.From, I6 a1.To, F6 a1.Lo, F6 a1.Hi, U6 a1.Authority, I6 a1.Quota]] w fun e w' => e = .returned (.bool r) ∧ St w0 w' I [] R := by {
unfold lS at a
refine c0 func96 z ntmps96 (wp_seq (wrl ?_))
obtain ⟨p, q, j, k, b⟩ := b.box [U6 a0.ID, I6 a0.From, I6 a0.To, F6 a0.Lo, F6 a0.Hi, U6 a0.Authority, I6 a0.Quota] 39
refine wa j k ?_
obtain ⟨s, t, l, m, b⟩ := b.box [U6 a1.ID, I6 a1.From, I6 a1.To, F6 a1.Lo, F6 a1.Hi, U6 a1.Authority, I6 a1.Quota] 39
refine wa l m (mb z (ab (tn (wp_seq (wrl (mf z underlying39 z sizeOf26 (ml z isAgg26 (b.bc1 z) (mf z underlying39 z sizeOf26 (ml z isAgg26 (b.bc0 z) (mb z (mb z (bs a ?_ ?_))))))))))))
{
intro c a
refine gg c (aT z underlying39 z sizeOf3 z) (gg c (aq z isAgg3 (b.bc1 z)) (gg c (aT z underlying39 z sizeOf3 z) (gg c (aq z isAgg3 (b.bc0 z)) (gb c z (mb (aS c z z) (mb z (bs a ?_ ?_)))))))
{
intro d a
refine gg d (aT z underlying39 z sizeOf3 z) (gg d (aq z isAgg3 (b.bc1 z)) (gg d (aT z underlying39 z sizeOf3 z) (gg d (aq z isAgg3 (b.bc0 z)) (gb d z (mb (aS d z z) (mb z (bs a ?_ ?_)))))))
{
intro f a
refine gg f (aT z underlying39 z sizeOf37 z) (gg f (aq z isAgg37 (b.bc1 z)) (gg f (aT z underlying39 z sizeOf37 z) (gg f (aq z isAgg37 (b.bc0 z)) ?_)))
obtain ⟨u, n, a⟩ := bn a
refine dj ((aw z z z (cvb f)).trans z) z (jv call20 z (vs := [F6 a0.Lo, F6 a1.Lo]) z) ((ez b.to0 n).mono ?_)
rintro _ v ⟨rfl, b⟩
refine ⟨_, z, ?_⟩
replace b := b.of0
refine mb (aS f z z) (mb z (bs a ?_ ?_))
{
intro g a
refine gg g (aT z underlying39 z sizeOf37 z) (gg g (aq z isAgg37 (b.bc1 z)) (gg g (aT z underlying39 z sizeOf37 z) (gg g (aq z isAgg37 (b.bc0 z)) ?_)))
obtain ⟨x, o, a⟩ := bn a
refine dj ((aw z z z (cvb g)).trans z) z (jv call20 z (vs := [F6 a0.Hi, F6 a1.Hi]) z) ((ez b.to0 o).mono ?_)
rintro _ y ⟨rfl, b⟩
refine ⟨_, z, ?_⟩
replace b := b.of0
refine mb (aS g z z) (mb z (bs a ?_ ?_))
{
intro h a
refine gg h (aT z underlying39 z sizeOf26 z) (gg h (aq z isAgg26 (b.bc1 z)) (gg h (aT z underlying39 z sizeOf26 z) (gg h (aq z isAgg26 (b.bc0 z)) (gb h z (mb (aS h z z) (mb z (bs a ?_ ?_)))))))
{
intro i a
refine gg i (aT z underlying39 z sizeOf3 z) (gg i (aq z isAgg3 (b.bc1 z)) (gg i (aT z underlying39 z sizeOf3 z) (gg i (aq z isAgg3 (b.bc0 z)) (gb i z (mb (aS i z z) (mb z (ab (tn (wp_ret ?_)))))))))
obtain rfl := sj a
exact aZ [.bool (a0.Quota == a1.Quota)] results96 (rc z ai) ⟨z, b.bU⟩
}
{
intro i a
cases a
}
}
{
intro h a
cases a
}
}
{
intro g a
cases a
}
}
{
intro f a
cases a
}
}
{
intro d a
cases a
}
}
{
intro c a
cases a
}
}
end Go.Proofs.YtgnkkopjkgdieaaGreat
