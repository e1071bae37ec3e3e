/- A part of the proof. -/
import Derived.Test.YtgnkkopjkgdieaaGreatLanePlaysT
set_option linter.unusedVariables false
set_option linter.unusedSimpArgs false
set_option maxRecDepth 100000
set_option maxHeartbeats 4000000
namespace Go.Proofs.YtgnkkopjkgdieaaGreat
open Go Go.V
open _root_.Go.Proofs.Tryz IntKind
variable {w0 w : World} {I : HL} {R : SP}
attribute [local irreducible] wpList Code.wp wpQuiet Calls bodyPost Oper.wp wpS Nx gI YieldsIn
theorem xH  (a : St w0 w I [] R) {r : (cP)} (c : tS = some r) :
  Calls prog 43 #[] w fun e w' => ∃ (d : Value), e = .returned (d) ∧ St w0 w' I [cL d r] R := by {
unfold tS at c
refine c0 func43 z ntmps43 (wp_seq (wrl (mv (.pointer none) z (ab (tn (wp_seq (wrl (mk (.agg #[Zs]) ?_))))))))
obtain ⟨b, h, f, g, a⟩ := a.box [Zs] 201
refine wa f g (mp z (ab (tn (wp_ret ?_))))
replace a := cQ (Pt b 0) (({ rows := [] } : cP)) (a.Cu cq).ag z
obtain rfl := sj c
exact aZ [Pt b 0] results43 (rc z ai) ⟨Pt b 0, z, a.bu⟩
}
theorem wi  (a : St w0 w I [] R) {r : (cg)} (c : sx = some r) :
  Calls prog 44 #[] w fun e w' => ∃ (d : Value), e = .returned (d) ∧ St w0 w' I [bT d r] R := by {
unfold sx at c
refine c0 func44 z ntmps44 (wp_seq (wrl (mv (.pointer none) z (ab (tn (wp_seq (wrl (mk (.agg #[Zs]) ?_))))))))
obtain ⟨b, h, f, g, a⟩ := a.box [Zs] 203
refine wa f g (mp z (ab (tn (wp_ret ?_))))
replace a := dq (Pt b 0) (({ l := [] } : cg)) (a.bd bt).ag z
obtain rfl := sj c
exact aZ [Pt b 0] results44 (rc z ai) ⟨Pt b 0, z, a.bu⟩
}
theorem uS  (a : St w0 w I [] R) {r : (cm)} (c : qe = some r) :
  Calls prog 45 #[] w fun e w' => ∃ (d : Value), e = .returned (d) ∧ St w0 w' I [cd d r] R := by {
unfold qe at c
refine c0 func45 z ntmps45 (wp_seq (wrl (mv (.pointer none) z (ab (tn (wp_seq (wrl (mk (.agg #[Zs]) ?_))))))))
obtain ⟨b, h, f, g, a⟩ := a.box [Zs] 206
refine wa f g (mp z (ab (tn (wp_ret ?_))))
replace a := cZ (Pt b 0) (({ l := [] } : cm)) (a.bd cS).ag z
obtain rfl := sj c
exact aZ [Pt b 0] results45 (rc z ai) ⟨Pt b 0, z, a.bu⟩
}
theorem vU  (a : St w0 w I [] R) {r : (cA)} (c : qW = some r) :
  Calls prog 46 #[] w fun e w' => ∃ (d : Value), e = .returned (d) ∧ St w0 w' I [cO d r] R := by {
unfold qW at c
refine c0 func46 z ntmps46 (wp_seq (wrl (mv (.pointer none) z (ab (tn (wp_seq (wrl (mk (.agg #[Zs]) ?_))))))))
obtain ⟨b, h, f, g, a⟩ := a.box [Zs] 209
refine wa f g (mp z (ab (tn (wp_ret ?_))))
replace a := dc (Pt b 0) (({ l := [] } : cA)) (a.bd jk).ag z
obtain rfl := sj c
exact aZ [Pt b 0] results46 (rc z ai) ⟨Pt b 0, z, a.bu⟩
}
theorem tN {a0 : Int} (a : St w0 w I [] R) {r : (ae)} (b : qE a0 = some r) :
  Calls prog 13 #[I6 a0] w fun e w' => ∃ (i : Value), e = .returned (i) ∧ St w0 w' I [aI i r] R := by {
unfold qE at b
refine c0 func13 z ntmps13 (wp_seq (wrl (mv (.pointer none) z (ab (tn (wp_seq (wrl (mi z ?_))))))))
obtain ⟨j, n, b⟩ := bn b
refine wc call43 [] z z z ((xH a.to0 n).mono ?_)
rintro _ A ⟨B, rfl, a⟩
refine ⟨_, z, ?_⟩
replace a := a.of1
obtain ⟨k, o, b⟩ := bn b
refine wc call44 [] z z z ((wi a.to0 o).mono ?_)
rintro _ C ⟨D, rfl, a⟩
refine ⟨_, z, ?_⟩
replace a := a.of1
obtain ⟨l, p, b⟩ := bn b
refine wc call45 [] z z z ((uS a.to0 p).mono ?_)
rintro _ E ⟨F, rfl, a⟩
refine ⟨_, z, ?_⟩
replace a := a.of1
obtain ⟨m, q, b⟩ := bn b
refine wc call46 [] z z z ((vU a.to0 q).mono ?_)
rintro _ G ⟨H, rfl, a⟩
refine ⟨_, z, ?_⟩
obtain ⟨c, J, rfl, s⟩ := er a.of1.au
have a := s
obtain ⟨d, K, rfl, t⟩ := dE a.bf
have a := t
obtain ⟨f, L, rfl, u⟩ := dK a.bc
have a := u
obtain ⟨g, M, rfl, v⟩ := eH a.da
have a := v
refine mk (.agg #[I6 a0, U6 1, Pt c 0, Pt d 0, Pt f 0, Pt g 0, Zs, Zs, Zs]) ?_
obtain ⟨h, N, x, y, a⟩ := a.box [I6 a0, U6 1, Pt c 0, Pt d 0, Pt f 0, Pt g 0, Zs, Zs, Zs] 111
refine wa x y (mp z (ab (tn (wp_ret ?_))))
replace a := av (Pt h 0) (({ wide := a0, epoch := 1, store := (some j), locks := (some k), last := (some l), book := (some m), open_ := [], out := [], used := [] } : ae)) ((((aO (dc (Pt g 0) m (aO (cZ (Pt f 0) l (aO (dq (Pt d 0) k (aO (cQ (Pt c 0) j a.bM.bM z)).aL.aL z)).da.da z)).bc.bc z)).bd aM).bd cj).bd cJ).ag.aA.au.bf.bc.da.aL z
obtain rfl := sj b
exact aZ [Pt h 0] results13 (rc z ai) ⟨Pt h 0, z, a.bu⟩
}
theorem rA {a0 : (Option cg)} {p0 : Value} {a1 : Int} (c : St w0 w I [cF bT p0 a0] R) {r : (Bool)} (b : eM a0 a1 = some r) :
  Calls prog 154 #[p0, U6 a1] w fun e w' => e = .returned (.bool r) ∧ St w0 w' I [cF bT p0 a0] R := by {
rcases a0 with _ | i
{
dsimp only [eM] at b
cases b
}
{
replace c := bH c
dsimp only [eM] at b
refine c0 func154 z ntmps154 (wp_seq (wrl ?_))
obtain ⟨f, T, A, B, c⟩ := c.box [U6 a1] 26
refine wa A B (mb z (ab (tn (wp_seq (wrl (mv (p0) z ?_))))))
obtain ⟨h, d, rfl, C⟩ := dE c.ag
have c := C
refine mk (.bool true) (mb z (wv (Pt h 0) ((aw z z z z).trans z) z z (wv (Pt h 0) ((aw z z z z).trans z) z z (wv (Pt h 0) ((aw z z z z).trans z) z (aT z underlying203 z sizeOf125 z) (wv (d) ((aw z z z z).trans z) z (aq z isAgg125 (c.bc0 z)) (wv (.func (.func 204) #[] #[Pt f 0]) ((aw z z z z).trans z) z (by kernel_rfl) ?_))))))
obtain ⟨D, E, b⟩ := bn b
refine dj ((aw z z z z).trans z) z (dH call203 (caps := []) z (vs := [d, .func (.func 204) #[] #[Pt f 0]]) z) (Calls.mono (show Calls prog 203 #[d, .func (.func 204) #[] #[Pt f 0]] _ (fun e w' => ∃ (m : Bool), m = D ∧ e = .returned (.bool m) ∧ St w0 w' I [cells h [d], bg bt d i.l, cells f [U6 a1]] R) from ?_) ?_)
{
clear b; have b := E
refine c0 func203 z ntmps203 (wp_seq (wrl (mb z (ab (tn (wp_seq (wrl (mv (d) z (mv (.func (.func 204) #[] #[Pt f 0]) z ?_)))))))))
obtain ⟨y, F, b⟩ := bn b
refine dj z z (dH call222 (caps := []) z (vs := [d, .func (.func 204) #[] #[Pt f 0]]) z) (Calls.mono (show Calls prog 222 #[d, .func (.func 204) #[] #[Pt f 0]] _ (fun e w' => ∃ (k : Int), k = y ∧ e = .returned (.int .i64 k) ∧ St w0 w' I [cells h [d], bg bt d i.l, cells f [U6 a1]] R) from ?_) ?_)
{
clear b; have b := F
refine c0 func222 z ntmps222 (wp_seq (wrl (mi z (ab (tn (wp_seq (wp_seq (wrl (mv (d) z (mz (bZ z underlying125 c.sv1) (mi z (ab (tn (wp_block ?_))))))))))))))
obtain ⟨G, b⟩ := aX b
refine bm (fun n a w => ∃ (j : Int), cT (eW i a1) n j = some y ∧ fz 19 [0, 1, 7, 8] [d, .func (.func 204) #[] #[Pt f 0], I6 ((i.l).length : Int), I6 j] a ∧ St w0 w I [cells h [d], bg bt d i.l, cells f [U6 a1]] R) G ⟨0, b, fy z, c⟩ ?_
rintro U _ V ⟨j, b, ⟨W, rfl⟩, c⟩
obtain ⟨X, Y, rfl, b, u⟩ := ba b
dsimp only [eW] at b
refine wp_seq (wrl (mb z (ab (tn (wp_seq (bs b ?_ ?_))))))
{
intro v b
refine ar (cvb v) (wp_skip (tn (wp_seq (wp_block (wp_seq (wrl (mi z (mi z (ab (tn (wp_seq (wrl (mv (.func (.func 204) #[] #[Pt f 0]) z (mv (d) z (mi z ?_)))))))))))))))
obtain ⟨g, H, b⟩ := bn b
obtain ⟨J, K, L⟩ := aP H
refine mz (aC z z underlying125 sizeOf46 c.sv1 J K) ?_
obtain ⟨Z, M, N⟩ := c.og1 L
obtain ⟨p, q, s, t, rfl, b0, b1, b2, b3, -⟩ := M
refine mz (ay (cs := [U6 g.ID.Session, U6 g.ID.Seq, U6 g.Epoch, p, q, s, t]) z isAgg46 sizeOf46 (dS (o := 0) N z)) ?_
obtain ⟨O, P, b⟩ := bn b
refine dj z z (dH call204 (caps := [Pt f 0]) z (vs := [.agg #[U6 g.ID.Session, U6 g.ID.Seq, U6 g.Epoch, p, q, s, t]]) z) (Calls.mono (show Calls prog 204 #[.agg #[U6 g.ID.Session, U6 g.ID.Seq, U6 g.Epoch, p, q, s, t], Pt f 0] _ (fun e w' => () = O ∧ e = .returned (.bool (decide (g.Epoch ≤ a1))) ∧ St w0 w' I [cells h [d], bg bt d i.l, cells f [U6 a1]] R) from ?_) ?_)
{
clear b; have b := P
refine c0 func204 z ntmps204 (wp_seq (wrl ?_))
obtain ⟨b4, b5, Q, S, c⟩ := c.box [U6 g.ID.Session, U6 g.ID.Seq, U6 g.Epoch, p, q, s, t] 46
refine wa Q S (mb z (ab (tn (wp_seq (wrl (mf z underlying46 z sizeOf26 (ml z isAgg26 (c.bc0 z) (ml z isAgg26 (c.bc3 z) (mb z (mb z (ab (tn (wp_ret (aZ [.bool (decide (g.Epoch ≤ a1))] results204 (rc z ai) ?_))))))))))))))
replace c := c.au.au.au.dF
obtain rfl := sj b
exact ⟨z, z, c⟩
}
rintro _ b6 ⟨rfl, rfl, c⟩
refine ⟨_, z, ?_⟩
try dsimp only at b
refine ab (tn (bs b ?_ ?_))
{
intro x b
refine ar (cvb x) (wp_seq (wrl (mi z (mi z (ab (tn (wp_ret (dm (aN (aN ?_))))))))))
replace b := bo b u
refine dm (aN (aZ [I6 j] results222 (rc z ai) ?_))
replace c := c.aA.aA.aA.dF
obtain rfl := sj b
exact ⟨j, z, z, c⟩
}
{
intro x b
refine ak (cvb x) (wp_skip (bF (tn (wrl (mi z (mi z (ab (tn ?_))))))))
replace c := c.aA.aA.aA.dF
obtain rfl := sj b
exact ⟨_, nls, (i64.wrap (j + 1)), u, fy z, c⟩
}
}
{
intro v b
refine ak (cvb v) (wp_exit (aV (aV ?_)))
replace b := bo b u
refine de (tn (wp_seq (wrl (mi z (ab (tn (wp_ret (aZ [I6 ((-1):Int)] results222 (rc z ai) ?_))))))))
replace c := c.aA.aA.aA.dF
obtain rfl := sj b
exact ⟨((-1):Int), z, z, c⟩
}
}
rintro _ b7 ⟨k, rfl, rfl, c⟩
refine ⟨_, z, ?_⟩
try dsimp only at b
refine mb z (mb z (ab (tn (wp_ret (aZ [.bool (decide (k ≥ 0))] results203 (rc z ai) ?_)))))
replace c := c.aA.aA.aA.dF
obtain rfl := sj b
exact ⟨(decide (k ≥ 0)), z, z, c⟩
}
rintro _ b8 ⟨m, rfl, rfl, c⟩
refine ⟨_, z, ?_⟩
try dsimp only at b
refine mb (aS z z z) (mb z (ab (tn (wp_ret ?_))))
replace c := aO (dq (Pt h 0) i c.ag.ag z)
obtain rfl := sj b
exact aZ [.bool m] results154 (rc z ai) ⟨z, c.bu⟩
}
}
theorem pI {a0 : (Option ae)} {p0 : Value} (a : St w0 w I [cF aI p0 a0] R) {r : (Bool)} (c : jh a0 = some r) :
  Calls prog 85 #[p0] w fun e w' => e = .returned (.bool r) ∧ St w0 w' I [cF aI p0 a0] R := by {
rcases a0 with _ | d
{
dsimp only [jh] at c
cases c
}
{
replace a := bH a
dsimp only [jh] at c
refine c0 func85 z ntmps85 (wp_seq (wrl (mb z (ab (tn (wp_seq ?_))))))
obtain ⟨b, j, f, k, l, m, n, o, rfl, h⟩ := bi a
have a := h
refine rg a 15 [0, 1, 3, 7, 15, 31, 63, 7, 135, 391, 903, 2047, 4095, 8191, 16383] [] mixed (sp 0 z z (sk (.bool true) 1 z (sb 2 z z (sy (Pt b 0) 3 z z (cY ((aw z z z z).trans z) (fun w a => z)) (sy (Pt b 0) 4 z z (cY ((aw z z z z).trans z) (fun w a => z)) (sy (Pt b 3) 5 z z (cY ((aw z z z z).trans z) (fun w a => aT z underlying111 z sizeOf103 z)) (sy (f) 6 z z (cY ((aw z z z z).trans z) (fun w a => aq z isAgg103 (a.bc0 z))) (sy (Pt b 0) 7 z z (cY ((aw z z z z).trans z) (fun w a => z)) (sy (Pt b 0) 8 z z (cY ((aw z z z z).trans z) (fun w a => z)) (sy (Pt b 1) 9 z z (cY ((aw z z z z).trans z) (fun w a => aT z underlying111 z sizeOf26 z)) (sy (.int .u64 d.epoch) 10 z z (cY ((aw z z z z).trans z) (fun w a => aq z isAgg26 (a.bc0 z))) (hJ 11 (by kernel_rfl) (nxe [12, 13, 14] (by kernel_rfl) z ((aw z z z z).trans z) ?_)))))))))))))
clear a
intro w a
replace a := a.aA
obtain ⟨g, i, c⟩ := bn c
refine wec call154 [f, U6 d.epoch] z z ((rA a.to1 i).mono ?_)
rintro _ p ⟨rfl, a⟩
refine ⟨_, z, ?_⟩
replace a := a.of1
refine w0n a (sy (.bool (!g)) 12 z z (cY ((aw z z z z).trans z) (fun w a => z)) (sh (.bool _) 13 z (fun w a => aS z z z) (sb 14 z z (bp ?_))))
intro w a
refine tn (wp_ret ?_)
replace a := aO (av (Pt b 0) d a.aL.aL.aL.aL.aL.bc.aL.aL z)
obtain rfl := sj c
exact aZ [.bool (!g)] results85 (rc z ai) ⟨z, a.bu⟩
}
}
theorem sN {a0 : (Option ae)} {p0 : Value} {a1 : aH} {g h i j k l m n : Value} (Q : Rd bY R I g a1.Hold.Gets) (S : Rd gB R I h a1.Hold.Scans) (T : Rd bY R I i a1.Hold.Puts) (U : Rd (cp .u8) R I j a1.Hold.Data) (V : Rd cI R I k a1.Writes) (W : Rd aD R I l a1.R.Gots) (X : Rd (dJ az) R I m a1.R.Scans) (Y : Rd cM R I n a1.Parts) (a : St w0 w I [cF aI p0 a0] R) {r : (bj × (Option ae))} (b : iy a0 a1 = some r) :
  Calls prog 47 #[p0, .agg #[U1 a1.Kind, U6 a1.ID.Session, U6 a1.ID.Seq, U6 a1.Epoch, U6 a1.Index, I6 a1.E, U6 a1.Hold.ID.Session, U6 a1.Hold.ID.Seq, U6 a1.Hold.Epoch, g, h, i, j, k, I6 a1.R.E, U6 a1.R.Epoch, U6 a1.R.Index, l, m, U6 a1.Shards, n, U6 a1.Rule.ID, I6 a1.Rule.From, I6 a1.Rule.To, F6 a1.Rule.Lo, F6 a1.Rule.Hi, U6 a1.Rule.Authority, I6 a1.Rule.Quota, .bool a1.On]] w fun e w' => ∃ (q : Value) (s : Value), e = .returned (.agg #[U1 r.1.Kind, U6 r.1.ID.Session, U6 r.1.ID.Seq, I6 r.1.R.E, U6 r.1.R.Epoch, U6 r.1.R.Index, q, s]) ∧ St w0 w' I [bg aD q r.1.R.Gots, bg (dJ az) s r.1.R.Scans, cF aI p0 r.2] R := by {
rcases a0 with _ | d
{
dsimp only [iy] at b
cases b
}
{
replace a := bH a
dsimp only [iy] at b
refine c0 func47 z ntmps47 (wp_seq (wrl ?_))
obtain ⟨Z, b0, u, v, a⟩ := a.box [U1 a1.Kind, U6 a1.ID.Session, U6 a1.ID.Seq, U6 a1.Epoch, U6 a1.Index, I6 a1.E, U6 a1.Hold.ID.Session, U6 a1.Hold.ID.Seq, U6 a1.Hold.Epoch, g, h, i, j, k, I6 a1.R.E, U6 a1.R.Epoch, U6 a1.R.Index, l, m, U6 a1.Shards, n, U6 a1.Rule.ID, I6 a1.Rule.From, I6 a1.Rule.To, F6 a1.Rule.Lo, F6 a1.Rule.Hi, U6 a1.Rule.Authority, I6 a1.Rule.Quota, .bool a1.On] 49
refine wa u v ?_
obtain ⟨b1, b2, x, y, a⟩ := a.box [Zb, Zu, Zu, Zi, Zu, Zu, Zs, Zs] 35
refine wa x y (ab (tn (wp_seq (wp_seq ?_))))
obtain ⟨f, b3, b4, b5, b6, b7, b8, b9, rfl, A⟩ := bi a.aA
have a := A
refine rg a 12 [0, 1, 0, 4, 12, 28, 63, 127, 255, 511, 1023, 2047] [] mixed (sf 0 z z underlying49 z sizeOf26 (sl 1 z z isAgg26 (fun w a => a.bc9 z) (sp 2 z z (sp 3 z z (sf 4 z z underlying111 z sizeOf26 (sl 5 z z isAgg26 (fun w a => a.bc0 z) (sb 6 z z (sb 7 z z (bs b ?_ ?_)))))))))
{
intro c b
refine so 8 z c (so 9 z c (so 10 z c (sh (.bool _) 11 z (fun w a => aS c z z) (bp ?_))))
intro w a
refine tn (ar z (wp_seq (wrl (mk (.agg #[Zb, Zu, Zu, Zi, Zu, Zu, Zs, Zs]) ?_))))
replace a := a.bM
obtain ⟨c1, B, a⟩ := a.bx [Zb, Zu, Zu, Zi, Zu, Zu, Zs, Zs] sizeOf35 z (oJ 8 z oN) (by kernel_rfl)
refine aE z z (aG B) (ab (tn (wp_ret (aN ?_))))
replace a := aO (av (Pt f 0) d ((a.bd aD).bd (dJ az)).bz.bz.bz.bz.bz.bz.bz.bz z)
obtain rfl := sj b
refine aZ [.agg #[Zb, Zu, Zu, Zi, Zu, Zu, Zs, Zs]] results47 (bq (bJ (cs := [Zb, Zu, Zu, Zi, Zu, Zu, Zs, Zs]) z isAgg35 sizeOf35 (a.rI 0 z)) ai) ?_
replace a := a.ag.aA
exact ⟨(.slice none 0 0), Zs, z, a.dF⟩
}
{
intro c b
refine sgz (Pt _ _) 8 z c z (hJ 9 (by kernel_rfl) (nxe [10, 11] (by kernel_rfl) z ((aw z z z (cvb c)).trans z) ?_))
clear a
intro w a
replace a := aO (av (Pt f 0) d a.aL.aL.aL.aL.aL.aL.aL.aL z)
obtain ⟨c2, C, b⟩ := bn b
refine wec call85 [Pt f 0] z z ((pI a.to1 C).mono ?_)
rintro _ c3 ⟨rfl, a⟩
refine ⟨_, z, ?_⟩
replace a := bH a.of1
refine w0n a (sgz (.bool _) 10 z c z (sh (.bool _) 11 z (fun w a => aJ c z z) (bp ?_)))
intro w a
refine tn (bs b ?_ ?_)
{
intro o b
refine ar (cvb o) (wp_seq (wrl (mk (.agg #[Zb, Zu, Zu, Zi, Zu, Zu, Zs, Zs]) ?_)))
replace a := a.ag
obtain ⟨c4, D, a⟩ := a.bx [Zb, Zu, Zu, Zi, Zu, Zu, Zs, Zs] sizeOf35 z (oJ 8 z oN) (by kernel_rfl)
refine aE z z (aG D) (ab (tn (wp_ret (aN ?_))))
replace a := aO (((a.bd aD).bd (dJ az)).au)
obtain rfl := sj b
refine aZ [.agg #[Zb, Zu, Zu, Zi, Zu, Zu, Zs, Zs]] results47 (bq (bJ (cs := [Zb, Zu, Zu, Zi, Zu, Zu, Zs, Zs]) z isAgg35 sizeOf35 (a.rI 0 z)) ai) ?_
replace a := a.ag.aA
exact ⟨(.slice none 0 0), Zs, z, a.dF⟩
}
{
intro o b
refine ak (cvb o) (wp_skip (tn (wp_seq (wrl (mp z ?_)))))
obtain ⟨c5, F, G, H, J, K, L, M, p, N⟩ := bi a
replace p := dI p
subst p
have a := N
refine mp z (mf z underlying111 z sizeOf26 (ml z isAgg26 (a.bc0 z) (mi z (mp z (mf z underlying111 z sizeOf26 ?_)))))
obtain ⟨c6, O, a⟩ := a.by_ [I6 d.wide, U6 (u64.wrap (d.epoch + 1)), F, G, H, J, K, L, M] 1 (.int .u64 (u64.wrap (d.epoch + 1))) sizeOf26 z (oC z oN) (by kernel_rfl)
refine aE z z (aG O) (ab (tn (wp_seq (wp_seq (wrl (mp z (mp z (mf z underlying111 z sizeOf26 (ml z isAgg26 (a.bc0 z) (mb z (ab (tn (bs b ?_ ?_)))))))))))))
{
intro t b
cases b
}
{
intro t b
refine ak (cvb t) (wp_skip (tn (wp_seq (wrl (mk (.agg #[U1 1, Zu, Zu, Zi, Zu, Zu, Zs, Zs]) ?_)))))
replace a := a.bM
obtain ⟨c7, P, a⟩ := a.bx [U1 1, Zu, Zu, Zi, Zu, Zu, Zs, Zs] sizeOf35 z (oJ 8 z oN) (by kernel_rfl)
refine aE z z (aG P) (ab (tn (wp_ret ?_)))
replace a := aO (av (Pt f 0) (({ d with epoch := (u64.wrap (d.epoch + 1)) } : ae)) ((a.bd aD).bd (dJ az)).bz.bz.bz.bz.bz.bz.bz.bz z)
obtain rfl := sj b
refine aZ [.agg #[U1 1, Zu, Zu, Zi, Zu, Zu, Zs, Zs]] results47 (bq (bJ (cs := [U1 1, Zu, Zu, Zi, Zu, Zu, Zs, Zs]) z isAgg35 sizeOf35 (a.rI 0 z)) ai) ?_
replace a := a.ag.aA
exact ⟨(.slice none 0 0), Zs, z, a.dF⟩
}
}
}
}
}
theorem oB {a0 : Int} (b : St w0 w I [] R) {r : (Bool)} (a : iX a0 = some r) :
  Calls prog 190 #[U6 a0] w fun e w' => e = .returned (.bool r) ∧ St w0 w' I [] R := by {
unfold iX at a
refine c0 func190 z ntmps190 (wp_seq (wrl (mb z (ab (tn (wp_seq (wrl (mi z (mi z (mb z (mb z (ab (tn (wp_ret ?_))))))))))))))
obtain rfl := sj a
exact aZ [.bool (a0 != a0)] results190 (rc z ai) ⟨z, b.bU⟩
}
theorem eZ {a0 a1 : Int} (b : St w0 w I [] R) {r : (Int)} (a : dB a0 a1 = some r) :
  Calls prog 131 #[U6 a0, U6 a1] w fun e w' => e = .returned (.int .i64 r) ∧ St w0 w' I [] R := by {
unfold dB at a
refine c0 func131 z ntmps131 (wp_seq (wrl (mi z (ab (tn (wp_seq (wrl (mi z ?_))))))))
obtain ⟨k, i, a⟩ := bn a
refine wc call190 [U6 a0] z z z ((oB b.to0 i).mono ?_)
rintro _ l ⟨rfl, b⟩
refine ⟨_, z, ?_⟩
replace b := b.of0
refine mb z (ab (tn (wp_seq (wrl (mi z ?_)))))
obtain ⟨m, j, a⟩ := bn a
refine wc call190 [U6 a1] z z z ((oB b.to0 j).mono ?_)
rintro _ n ⟨rfl, b⟩
refine ⟨_, z, ?_⟩
replace b := b.of0
refine mb z (ab (tn (wp_seq (wp_seq (wrl (mb z (ab (tn (bs a ?_ ?_)))))))))
{
intro c a
refine ar (cvb c) (wp_seq (wp_seq (wrl (mb z (ab (tn (bs a ?_ ?_)))))))
{
intro d a
refine ar (cvb d) (wp_seq (wrl (mi z (ab (tn (wp_ret (aN (aN ?_))))))))
obtain rfl := sj a
exact aZ [Zi] results131 (rc z ai) ⟨z, b.bU⟩
}
{
intro d a
refine ak (cvb d) (wp_skip (tn (wp_seq (wrl (mi z (ab (tn (wp_ret (aN ?_)))))))))
obtain rfl := sj a
exact aZ [I6 ((-1):Int)] results131 (rc z ai) ⟨z, b.bU⟩
}
}
{
intro c a
refine ak (cvb c) (wp_skip (tn (wp_seq (wp_seq (wrl (mb z (ab (tn (bs a ?_ ?_)))))))))
{
intro f a
refine ar (cvb f) (wp_seq (wrl (mi z (ab (tn (wp_ret (aN ?_)))))))
obtain rfl := sj a
exact aZ [I6 1] results131 (rc z ai) ⟨z, b.bU⟩
}
{
intro f a
refine ak (cvb f) (wp_skip (tn (wp_seq (wp_seq (wrl (mi z (mi z (mb z (ab (tn (bs a ?_ ?_)))))))))))
{
intro g a
refine ar (cvb g) (wp_seq (wrl (mi z (ab (tn (wp_ret (aN ?_)))))))
obtain rfl := sj a
exact aZ [I6 ((-1):Int)] results131 (rc z ai) ⟨z, b.bU⟩
}
{
intro g a
refine ak (cvb g) (wp_skip (tn (wp_seq (wp_seq (wrl (mi z (mi z (mb z (ab (tn (bs a ?_ ?_)))))))))))
{
intro h a
refine ar (cvb h) (wp_seq (wrl (mi z (ab (tn (wp_ret (aN ?_)))))))
obtain rfl := sj a
exact aZ [I6 1] results131 (rc z ai) ⟨z, b.bU⟩
}
{
intro h a
refine ak (cvb h) (wp_skip (tn (wp_seq (wrl (mi z (ab (tn (wp_ret ?_))))))))
obtain rfl := sj a
exact aZ [Zi] results131 (rc z ai) ⟨z, b.bU⟩
}
}
}
}
}
theorem sd {a0 : (List Int)} {d : Value} (g : Rd (cp .i64) R I d a0) (c : St w0 w I [] R) {r : (Int)} (b : nY a0 = some r) :
  Calls prog 130 #[d] w fun e w' => e = .returned (.int .i64 r) ∧ St w0 w' I [] R := by {
unfold nY at b
refine c0 func130 z ntmps130 (wp_seq (wrl (mi z (ab (tn (wp_seq (wrl (mi z (ab (tn (wp_seq (wp_seq (wrl (mv (d) z (mz (bZ z underlying276 (ax g)) (mi z (ab (tn (wp_block ?_)))))))))))))))))))
obtain ⟨k, b⟩ := aX b
refine bm (fun n a w => ∃ (f : Int), cT (lh a0) n f = some r ∧ fz 18 [3, 6, 7, 8] [I6 0, d, I6 ((a0).length : Int), I6 f] a ∧ St w0 w I [] R) k ⟨0, b, fy z, c⟩ ?_
rintro s _ t ⟨f, b, ⟨u, rfl⟩, c⟩
obtain ⟨v, x, rfl, b, h⟩ := ba b
dsimp only [lh] at b
refine wp_seq (wrl (mb z (ab (tn (wp_seq (bs b ?_ ?_))))))
{
intro i b
refine ar (cvb i) (wp_skip (tn (wp_seq (wp_block (wp_seq (wrl ?_))))))
obtain ⟨l, m, b⟩ := bn b
obtain ⟨o, p, q⟩ := aP m
refine mz (aC z z underlying276 sizeOf3 (ax g) o p) (ml z isAgg3 (dU g lr c q (by rintro _ rfl; rfl)) (mi z (ab (tn (wp_seq (wrl (mi z (mi z (mb z (ab (tn (bs b ?_ ?_))))))))))))
{
intro j b
refine ar (cvb j) (wp_seq (wrl (mi z (mi z (ab (tn (wp_ret (dm (aN (aN ?_))))))))))
replace b := bo b h
refine dm (aN ?_)
obtain rfl := sj b
exact aZ [I6 l] results130 (rc z ai) ⟨z, c.bU⟩
}
{
intro j b
refine ak (cvb j) (wp_skip (bF (tn (wrl (mi z (mi z (ab (tn ?_))))))))
replace c := c.bU
obtain rfl := sj b
exact ⟨_, nls, (i64.wrap (f + 1)), h, fy z, c⟩
}
}
{
intro i b
refine ak (cvb i) (wp_exit (aV (aV ?_)))
replace b := bo b h
refine de (tn (wp_seq (wrl (mi z (mi z (ab (tn (wp_ret ?_))))))))
obtain rfl := sj b
exact aZ [Zi] results130 (rc z ai) ⟨z, c.bU⟩
}
}
theorem pU {a0 : ap} {c d f g : Value} {a1 : bO} (A : Rd bY R I c a0.Gets) (B : Rd gB R I d a0.Scans) (C : Rd bY R I f a0.Puts) (D : Rd (cp .u8) R I g a0.Data) (a : St w0 w I [] R) {r : (Int)} (b : lC a0 a1 = some r) :
  Calls prog 160 #[.agg #[U6 a0.ID.Session, U6 a0.ID.Seq, U6 a0.Epoch, c, d, f, g], .agg #[U6 a1.Session, U6 a1.Seq]] w fun e w' => e = .returned (.int .i64 r) ∧ St w0 w' I [] R := by {
unfold lC at b
refine c0 func160 z ntmps160 (wp_seq (wrl ?_))
obtain ⟨F, G, l, m, a⟩ := a.box [U6 a0.ID.Session, U6 a0.ID.Seq, U6 a0.Epoch, c, d, f, g] 46
refine wa l m ?_
obtain ⟨H, J, n, o, a⟩ := a.box [U6 a1.Session, U6 a1.Seq] 28
refine wa n o (mi z (ab (tn (wp_seq (rg a 15 [0, 1, 3, 0, 8, 31, 0, 64, 192, 0, 512, 2047, 4095, 8191, 16383] [] mixed (sf 0 z z underlying46 z sizeOf28 (sf 1 z z underlying28 z sizeOf26 (sl 2 z z isAgg26 (fun w a => a.bc1 z) (sf 3 z z underlying28 z sizeOf26 (sl 4 z z isAgg26 (fun w a => a.bc0 z) (sf 6 z z underlying46 z sizeOf28 (sf 7 z z underlying28 z sizeOf26 (sl 8 z z isAgg26 (fun w a => a.bc1 z) (sf 9 z z underlying28 z sizeOf26 (sl 10 z z isAgg26 (fun w a => a.bc0 z) (e1 5 z z fun w a => ?_))))))))))))))))
obtain ⟨h, p, b⟩ := bn b
refine wec call131 [U6 a0.ID.Session, U6 a1.Session] z z ((eZ a.to0 p).mono ?_)
rintro _ K ⟨rfl, a⟩
refine ⟨_, z, ?_⟩
replace a := a.of0
refine wn [10, 9, 8, 7, 6] a (pkr z z (fun w a => aq z isAgg26 (a.bc0 z)) (pf z z underlying28 z sizeOf26 (pkr z z (fun w a => aq z isAgg26 (a.bc1 z)) (pf z z underlying28 z sizeOf26 (pf z z underlying46 z sizeOf28 bD))))) (e1 11 z z fun w a => ?_)
obtain ⟨i, q, b⟩ := bn b
refine wec call131 [U6 a0.ID.Seq, U6 a1.Seq] z z ((eZ a.to0 q).mono ?_)
rintro _ L ⟨rfl, a⟩
refine ⟨_, z, ?_⟩
replace a := a.of0
refine w0n a (e1 12 z z fun w a => ?_)
obtain ⟨j, s, t, u, a⟩ := a.ey (E := (cp .i64)) (xs := [h, i]) [[I6 h], [I6 i]] 3 2 z (bE.cons z (bE.cons z bE.nil))
refine bW (v := (.slice (some ⟨j, 0, none⟩) 2 2)) (w' := s) z (dn (by kernel_rfl) t u) (w0n a (e1 13 z z fun w a => ?_))
obtain ⟨M, k, a⟩ := a.cB
obtain ⟨x, y, b⟩ := bn b
refine wec call130 [(.slice (some ⟨j, 0, none⟩) 2 2)] z z ((sd (a.nc k) a.to0 y).mono ?_)
rintro _ N ⟨rfl, a⟩
refine ⟨_, z, ?_⟩
replace a := a.of0.bh k
refine w0n a (si 14 z z (bp ?_))
intro w a
refine tn (wp_ret ?_)
obtain rfl := sj b
exact aZ [I6 x] results160 (rc z ai) ⟨z, a.bU⟩
}
theorem lT {a0 : (Option cg)} {p0 : Value} {a1 : bO} (b : St w0 w I [cF bT p0 a0] R) {r : (Int × Bool)} (c : fK a0 a1 = some r) :
  Calls prog 135 #[p0, .agg #[U6 a1.Session, U6 a1.Seq]] w fun e w' => e = .returned (.tuple #[I6 r.1, .bool r.2]) ∧ St w0 w' I [cF bT p0 a0] R := by {
rcases a0 with _ | g
{
dsimp only [fK] at c
cases c
}
{
replace b := bH b
dsimp only [fK] at c
refine c0 func135 z ntmps135 (wp_seq (wrl ?_))
obtain ⟨v, d0, N, O, b⟩ := b.box [U6 a1.Session, U6 a1.Seq] 28
refine wa N O (mi z (mb z (ab (tn (wp_seq (wp_seq (wrl (mv (p0) z ?_))))))))
obtain ⟨p, f, rfl, P⟩ := dE b.ag
have b := P
refine mk (.bool false) (ab (tn (ak z (wp_skip (tn (wp_seq (rg b 10 [0, 1, 3, 7, 0, 31, 63, 63, 255, 511] [] mixed (sp 0 z z (sp 1 z z (sf 2 z z underlying203 z sizeOf125 (sl 3 z z isAgg125 (fun w b => b.bc0 z) (sh _ 4 z (fun w b => ay (cs := [U6 a1.Session, U6 a1.Seq]) z isAgg28 sizeOf28 (b.pR 0 z)) (e1 5 z z fun w b => ?_)))))))))))))
obtain ⟨C, Q, c⟩ := bn c
refine oy z (dH call193 (caps := []) z (vs := [f, .agg #[U6 a1.Session, U6 a1.Seq], .func (.func 160) #[] #[]]) z) (Calls.mono (show Calls prog 193 #[f, .agg #[U6 a1.Session, U6 a1.Seq], .func (.func 160) #[] #[]] _ (fun e w' => ∃ (q : Int) (s : Bool), (q, s) = C ∧ e = .returned (.tuple #[I6 q, .bool s]) ∧ St w0 w' I [cells p [f], bg bt f g.l, cells v [U6 a1.Session, U6 a1.Seq]] R) from ?_) ?_)
{
clear c; have c := Q
refine c0 func193 z ntmps193 (wp_seq (wrl ?_))
obtain ⟨t, d1, S, T, b⟩ := b.box [U6 a1.Session, U6 a1.Seq] 28
refine wa S T (mi z (mb z (ab (tn (wp_seq (wrl (mv (f) z (mz (bZ z underlying125 b.sv2) (mi z (ab (tn (wp_seq (wrl (mi z (mi z (mi z (ab (tn ?_))))))))))))))))))
obtain ⟨U, c, V⟩ := bn c
refine cU (fun a w => ∃ (j : Int), (ke g a1) j = some C ∧ fz 49 [0, 2, 4, 8, 9] [f, .func (.func 160) #[] #[], Pt t 0, I6 ((g.l).length : Int), I6 j] a ∧ St w0 w I [bg bt f g.l, cells t [U6 a1.Session, U6 a1.Seq], cells p [f], cells v [U6 a1.Session, U6 a1.Seq]] R) ?_ ?_
{
refine wp_block ?_
obtain ⟨W, c⟩ := aX c
refine bm (fun n a w => ∃ (i : Int) (h : Int), cT (gn g a1) n (i, h) = some U ∧ fz 49 [0, 2, 4, 8, 9, 10] [f, .func (.func 160) #[] #[], Pt t 0, I6 ((g.l).length : Int), I6 h, I6 i] a ∧ St w0 w I [cells t [U6 a1.Session, U6 a1.Seq], cells p [f], bg bt f g.l, cells v [U6 a1.Session, U6 a1.Seq]] R) W ⟨((g.l).length : Int), 0, c, fy z, b⟩ ?_
rintro d2 _ d3 ⟨i, h, c, ⟨d4, rfl⟩, b⟩
obtain ⟨d5, d6, rfl, c, x⟩ := ba c
dsimp only [gn] at c
refine wp_seq (wp_seq (wrl (mi z (mi z (mb z (ab (tn (bs c ?_ ?_))))))))
{
intro y c
refine ar (cvb y) (wp_skip (tn (wp_block (wp_seq (wrl (mi z (mi z (mi z (mk (.int .u64 (u64.wrap (i64.wrap (h + i)))) (mi (tY (by decide) z z) (mk (.int .i64 (i64.wrap (fw .u64 (u64.wrap (i64.wrap (h + i))) 1))) (mi z (ab (tn (wp_seq ?_)))))))))))))))
replace b := b.aA
obtain ⟨d7, A, b⟩ := b.cB
refine rg b 8 [0, 0, 0, 6, 14, 0, 63, 127] [] mixed (sz (.func (.func 160) #[] #[]) 0 z z (sz (f) 1 z z (si 2 z z ?_)))
obtain ⟨k, X, c⟩ := bn c
obtain ⟨Y, Z, b0⟩ := aP X
refine sh _ 3 z (fun w b => aC z z underlying125 sizeOf46 (b.rsv 0 z A) Y Z) ?_
obtain ⟨d8, b1, b2⟩ := bE.get A b0
obtain ⟨D, E, F, G, rfl, b3, b4, b5, b6, -⟩ := b2
refine sh _ 4 z (fun w b => ay (cs := [U6 k.ID.Session, U6 k.ID.Seq, U6 k.Epoch, D, E, F, G]) z isAgg46 sizeOf46 (dS (o := 0) (b.uG 0 z b1) z)) (sh _ 5 z (fun w b => ay (cs := [U6 a1.Session, U6 a1.Seq]) z isAgg28 sizeOf28 (b.eK 0 z)) (e1 6 z z fun w b => ?_))
obtain ⟨d9, b7, c⟩ := bn c
refine oy z (dH call160 (caps := []) z (vs := [.agg #[U6 k.ID.Session, U6 k.ID.Seq, U6 k.Epoch, D, E, F, G], .agg #[U6 a1.Session, U6 a1.Seq]]) z) ((pU (b3.mono cD) (b4.mono cD) (b5.mono cD) (b6.mono cD) b.to0 b7).mono ?_)
rintro _ e0 ⟨rfl, b⟩
refine ⟨_, z, ?_⟩
replace b := b.of0
refine w0n b (sb 7 z z (bp ?_))
intro w b
replace b := b.bh A
refine tn (bs c ?_ ?_)
{
intro B c
refine ar (cvb B) (wrl (mi z (mi z (mi z (ab (bF (tn ?_)))))))
replace b := b.au.ag.au.au.eI
obtain rfl := sj c
exact ⟨_, nls, i, (i64.wrap ((i64.wrap (fw .u64 (u64.wrap (i64.wrap (h + i))) 1)) + 1)), x, fy z, b⟩
}
{
intro B c
refine ak (cvb B) (wrl (mi z (mi z (ab (bF (tn ?_))))))
replace b := b.au.ag.au.au.eI
obtain rfl := sj c
exact ⟨_, nls, (i64.wrap (fw .u64 (u64.wrap (i64.wrap (h + i))) 1)), h, x, fy z, b⟩
}
}
{
intro y c
refine ak (cvb y) (wp_exit (aV (aV ?_)))
replace c := bo c x
refine de (tn ?_)
replace b := b.au.aA.aA.au.eI
obtain rfl := sj c
exact ⟨h, V, fy z, b⟩
}
}
{
rintro _ e2 ⟨j, c, ⟨e3, rfl⟩, b⟩
dsimp only [ke] at c
refine wp_seq ?_
obtain ⟨e4, u, b⟩ := b.cB
refine rg b 16 [0, 0, 0, 6, 14, 30, 30, 30, 222, 478, 30, 2046, 4094, 8190, 4095, 32767] [] mixed (si 0 z z (si 1 z z (si 2 z z (sb 3 z z (sb 4 z z (bs c ?_ ?_))))))
{
intro d c
refine sgz (.func (.func 160) #[] #[]) 5 z d z (sgz f 6 z d z (sgz (I6 _) 7 z d z ?_))
obtain ⟨m, b8, c⟩ := bn c
obtain ⟨b9, c1, c2⟩ := aP b8
refine sg _ 8 z d (fun w b => aC z z underlying125 sizeOf46 (b.rsv 0 z u) b9 c1) ?_
obtain ⟨e5, c3, c4⟩ := bE.get u c2
obtain ⟨H, J, K, L, rfl, c5, c6, c7, c8, -⟩ := c4
refine sg _ 9 z d (fun w b => ay (cs := [U6 m.ID.Session, U6 m.ID.Seq, U6 m.Epoch, H, J, K, L]) z isAgg46 sizeOf46 (dS (o := 0) (b.uG 0 z c3) z)) (sg _ 10 z d (fun w b => ay (cs := [U6 a1.Session, U6 a1.Seq]) z isAgg28 sizeOf28 (b.eK 0 z)) (hJ 11 (by kernel_rfl) (nxe [12, 13, 14, 15] (by kernel_rfl) z ((aw z z z (cvb d)).trans z) ?_)))
clear b
intro w b
obtain ⟨M, c9, c⟩ := bn c
refine oy z (dH call160 (caps := []) z (vs := [.agg #[U6 m.ID.Session, U6 m.ID.Seq, U6 m.Epoch, H, J, K, L], .agg #[U6 a1.Session, U6 a1.Seq]]) z) ((pU (c5.mono cD) (c6.mono cD) (c7.mono cD) (c8.mono cD) b.to0 c9).mono ?_)
rintro _ e6 ⟨rfl, b⟩
refine ⟨_, z, ?_⟩
replace b := b.of0
refine wn [0] b (pz bD) (sgz (.bool _) 12 z d z (sh (.bool _) 13 z (fun w b => aS d z z) (si 14 z z (sb 15 z z (bp ?_)))))
intro w b
replace b := b.bh u
refine tn (wp_ret (aZ [I6 j, .bool (M == 0)] results193 (rc z (rc z ai)) ?_))
replace b := b.au.ag.au.dF
obtain rfl := sj c
exact ⟨j, (M == 0), z, z, b⟩
}
{
intro d c
refine so 5 z d (so 6 z d (so 7 z d (so 8 z d (so 9 z d (so 10 z d (so 11 z d (so 12 z d (sh (.bool _) 13 z (fun w b => aJ d z z) (si 14 z z (sb 15 z z (bp ?_)))))))))))
intro w b
replace b := b.bh u
refine tn (wp_ret (aZ [I6 j, .bool false] results193 (rc z (rc z ai)) ?_))
replace b := b.au.ag.au.dF
obtain rfl := sj c
exact ⟨j, false, z, z, b⟩
}
}
}
rintro _ e7 ⟨q, s, rfl, rfl, b⟩
refine ⟨_, z, ?_⟩
try dsimp only at c
refine w0n b (si 6 z z (sb 7 z z (si 8 z z (sb 9 z z (bp ?_)))))
intro w b
refine tn (wp_ret ?_)
replace b := aO (dq (Pt p 0) g b.ag.ag z)
obtain rfl := sj c
exact aZ [I6 q, .bool s] results135 (rc z (rc z ai)) ⟨z, b.bu⟩
}
}
theorem mx {a0 : (Option cg)} {p0 : Value} {a1 : bO} (a : St w0 w I [cF bT p0 a0] R) {r : (ap × Bool)} (b : gC a0 a1 = some r) :
  Calls prog 56 #[p0, .agg #[U6 a1.Session, U6 a1.Seq]] w fun e w' => ∃ (I' : HL) (j : Value) (k : Value) (l : Value) (m : Value), e = .returned (.tuple #[.agg #[U6 r.1.ID.Session, U6 r.1.ID.Seq, U6 r.1.Epoch, j, k, l, m], .bool r.2]) ∧ I.le I' ∧ Ro bY I' j r.1.Gets ∧ Ro gB I' k r.1.Scans ∧ Ro bY I' l r.1.Puts ∧ Ro (cp .u8) I' m r.1.Data ∧ St w0 w' I' [cF bT p0 a0] R := by {
rcases a0 with _ | v
{
dsimp only [gC] at b
cases b
}
{
replace a := bH a
dsimp only [gC] at b
refine c0 func56 z ntmps56 ?_
have n := HL.le.refl I
refine wp_seq (wrl ?_)
obtain ⟨T, U, x, y, a⟩ := a.box [U6 a1.Session, U6 a1.Seq] 28
refine wa x y ?_
obtain ⟨V, W, A, B, a⟩ := a.box [Zu, Zu, Zu, Zs, Zs, Zs, Zs] 46
refine wa A B (mb z (ab (tn (wp_seq (wrl (mv (p0) z (mz (ay (cs := [U6 a1.Session, U6 a1.Seq]) z isAgg28 sizeOf28 (a.eK 0 z)) ?_)))))))
replace a := aO a.aA
obtain ⟨p, C, b⟩ := bn b
refine wc call135 [p0, .agg #[U6 a1.Session, U6 a1.Seq]] z z z ((lT a.to1 C).mono ?_)
rintro _ X ⟨rfl, a⟩
refine ⟨_, z, ?_⟩
replace a := bH a.of1
refine mv (.tuple #[I6 p.1, .bool p.2]) z (mi z (mb z (mi z (mb z (ab (tn (wp_seq (wp_seq (wrl (mb z (mb z (ab (tn (bs b ?_ ?_))))))))))))))
{
intro i b
refine ar (cvb i) (wp_seq (wrl (mk (.agg #[Zu, Zu, Zu, Zs, Zs, Zs, Zs]) ?_)))
replace a := a.ag
obtain ⟨Y, D, a⟩ := a.bx [Zu, Zu, Zu, Zs, Zs, Zs, Zs] sizeOf46 z (oJ 7 z oN) (by kernel_rfl)
refine aE z z (aG D) (mb z (ab (tn (wp_ret (aN ?_)))))
have E : Ro bY I (.slice none 0 0) [] := cy
have F : Ro gB I (.slice none 0 0) [] := cy
have G : Ro bY I (.slice none 0 0) [] := cy
have H : Ro (cp .u8) I (.slice none 0 0) [] := cy
replace a := aO a.ag
obtain rfl := sj b
exact aZ [.agg #[Zu, Zu, Zu, Zs, Zs, Zs, Zs], .bool false] results56 (bq (bJ (cs := [Zu, Zu, Zu, Zs, Zs, Zs, Zs]) z isAgg46 sizeOf46 (a.eK 0 z)) (rc z ai)) ⟨_, Zs, Zs, Zs, Zs, z, n, E, F, G, H, a.bu⟩
}
{
intro i b
refine ak (cvb i) (wp_skip (tn (wp_seq (wrl (mv (p0) z ?_)))))
obtain ⟨J, Z, rfl, K⟩ := dE a
have a := K
refine mp z (mf z underlying203 z sizeOf125 (ml z isAgg125 (a.bc0 z) (mi z ?_)))
obtain ⟨c, L, b⟩ := bn b
obtain ⟨M, N, O⟩ := aP L
refine mz (aC z z underlying125 sizeOf46 a.sv1 M N) ?_
obtain ⟨b0, P, Q⟩ := a.og1 O
obtain ⟨d, f, g, h, rfl, q, s, t, u, -⟩ := P
refine mz (ay (cs := [U6 c.ID.Session, U6 c.ID.Seq, U6 c.Epoch, d, f, g, h]) z isAgg46 sizeOf46 (dS (o := 0) Q z)) ?_
replace a := a.aA
obtain ⟨b1, S, a⟩ := a.bx [U6 c.ID.Session, U6 c.ID.Seq, U6 c.Epoch, d, f, g, h] sizeOf46 z (oJ 3 z (oC (oS (ah q)) (oC (oS (ah s)) (oC (oS (ah t)) (oC (oS (ah u)) oN))))) (by kernel_rfl)
refine aE z z (aG S) (mb z (ab (tn (wp_ret ?_))))
replace a := aO (dq (Pt J 0) v a.aA.aA z)
obtain rfl := sj b
exact aZ [.agg #[U6 c.ID.Session, U6 c.ID.Seq, U6 c.Epoch, d, f, g, h], .bool true] results56 (bq (bJ (cs := [U6 c.ID.Session, U6 c.ID.Seq, U6 c.Epoch, d, f, g, h]) z isAgg46 sizeOf46 (a.eK 0 z)) (rc z ai)) ⟨_, d, f, g, h, z, n, q, s, t, u, a.bu⟩
}
}
}
theorem vR {a0 : Nat} (b : St w0 w I [] R) {r : (Bool)} (a : pL a0 = some r) :
  Calls prog 177 #[F6 a0] w fun e w' => e = .returned (.bool r) ∧ St w0 w' I [] R := by {
unfold pL at a
refine c0 func177 z ntmps177 (wp_seq (wrl (mb z (ab (tn (wp_seq (wrl (mv (F6 _) z (mv (F6 _) z (mb z (mb z (ab (tn (wp_ret ?_))))))))))))))
obtain rfl := sj a
exact aZ [.bool (fNe a0 a0)] results177 (rc z ai) ⟨z, b.bU⟩
}
theorem eA {a0 : Nat} (b : St w0 w I [] R) {r : (Int)} (a : eT a0 = some r) :
  Calls prog 118 #[F6 a0] w fun e w' => e = .returned (.int .u64 r) ∧ St w0 w' I [] R := by {
unfold eT at a
refine c0 func118 z ntmps118 (wp_seq (wrl (mi z (ab (tn (wp_seq (wp_seq (wrl (mv (F6 _) z ?_)))))))))
obtain ⟨g, f, a⟩ := bn a
refine wc call177 [F6 a0] z z z ((vR b.to0 f).mono ?_)
rintro _ h ⟨rfl, b⟩
refine ⟨_, z, ?_⟩
replace b := b.of0
refine ab (tn (bs a ?_ ?_))
{
intro c a
refine ar (cvb c) (wp_seq (wrl (mi z (ab (tn (wp_ret (aN ?_)))))))
obtain rfl := sj a
exact aZ [U6 18446744073709551615] results118 (rc z ai) ⟨z, b.bU⟩
}
{
intro c a
refine ak (cvb c) (wp_skip (tn (wp_seq (wrl (mv (F6 _) z (mk (.int .u64 (Int.ofNat a0)) (mi z (ab (tn (wp_seq (wp_seq (wrl (mi z (mi (tY (by decide) z z) (mb z (ab (tn (bs a ?_ ?_))))))))))))))))))
{
intro d a
refine ar (cvb d) (wp_seq (wrl (mi z (mk (.int .u64 (xp .u64 ((18446744073709551615):Int) (Int.ofNat a0))) (mi z (ab (tn (wp_ret (aN ?_)))))))))
obtain rfl := sj a
exact aZ [U6 (xp .u64 ((18446744073709551615):Int) (Int.ofNat a0))] results118 (rc z ai) ⟨z, b.bU⟩
}
{
intro d a
refine ak (cvb d) (wp_skip (tn (wp_seq (wrl (mi z (mi z (mi z (ab (tn (wp_ret ?_))))))))))
obtain rfl := sj a
exact aZ [U6 (bOr .u64 (Int.ofNat a0) 9223372036854775808)] results118 (rc z ai) ⟨z, b.bU⟩
}
}
}
theorem kY {a0 a1 : Nat} (a : St w0 w I [] R) {r : (Bool)} (b : iM a0 a1 = some r) :
  Calls prog 137 #[F6 a0, F6 a1] w fun e w' => e = .returned (.bool r) ∧ St w0 w' I [] R := by {
unfold iM at b
refine c0 func137 z ntmps137 (wp_seq (wrl (mb z (ab (tn (wp_seq (wrl (mv (F6 _) z ?_))))))))
obtain ⟨c, d, b⟩ := bn b
refine wc call118 [F6 a0] z z z ((eA a.to0 d).mono ?_)
rintro _ h ⟨rfl, a⟩
refine ⟨_, z, ?_⟩
replace a := a.of0
refine mv (F6 _) z ?_
obtain ⟨f, g, b⟩ := bn b
refine wc call118 [F6 a1] z z z ((eA a.to0 g).mono ?_)
rintro _ i ⟨rfl, a⟩
refine ⟨_, z, ?_⟩
replace a := a.of0
refine mb z (mb z (ab (tn (wp_ret ?_))))
obtain rfl := sj b
exact aZ [.bool (c == f)] results137 (rc z ai) ⟨z, a.bU⟩
}
theorem uh {a0 a1 : (Nat × Nat)} (a : St w0 w I [] R) {r : (Bool)} (c : nD a0 a1 = some r) :
  Calls prog 136 #[.agg #[F6 a0.1, F6 a0.2], .agg #[F6 a1.1, F6 a1.2]] w fun e w' => e = .returned (.bool r) ∧ St w0 w' I [] R := by {
unfold nD at c
refine c0 func136 z ntmps136 (wp_seq (wrl ?_))
obtain ⟨m, n, d, f, a⟩ := a.box [F6 a0.1, F6 a0.2] 80
refine wa d f ?_
obtain ⟨o, p, g, h, a⟩ := a.box [F6 a1.1, F6 a1.2] 80
refine wa g h (mb z (ab (tn (wp_seq (wrl (mp (kB (i := 0) z z underlying80 sizeOf37 (by decide) (by decide)) (ml z isAgg37 (a.bc1 z) (mp (kB (i := 0) z z underlying80 sizeOf37 (by decide) (by decide)) (ml z isAgg37 (a.bc0 z) ?_)))))))))
obtain ⟨q, j, c⟩ := bn c
refine wc call137 [F6 a0.1, F6 a1.1] z z z ((kY a.to0 j).mono ?_)
rintro _ s ⟨rfl, a⟩
refine ⟨_, z, ?_⟩
replace a := a.of0
refine mb z (bs c ?_ ?_)
{
intro b c
refine gp b (kB (i := 1) z z underlying80 sizeOf37 (by decide) (by decide)) (gg b (aq z isAgg37 (a.bc1 z)) (gp b (kB (i := 1) z z underlying80 sizeOf37 (by decide) (by decide)) (gg b (aq z isAgg37 (a.bc0 z)) ?_)))
obtain ⟨k, l, c⟩ := bn c
refine dj ((aw z z z (cvb b)).trans z) z (jv call137 z (vs := [F6 a0.2, F6 a1.2]) z) ((kY a.to0 l).mono ?_)
rintro _ t ⟨rfl, a⟩
refine ⟨_, z, ?_⟩
replace a := a.of0
refine mb (aS b z z) (mb z (ab (tn (wp_ret ?_))))
obtain rfl := sj c
exact aZ [.bool k] results136 (rc z ai) ⟨z, a.bU⟩
}
{
intro b c
refine go b (go b (go b (go b (go b (mb (aJ b z z) (mb z (ab (tn (wp_ret ?_)))))))))
obtain rfl := sj c
exact aZ [.bool false] results136 (rc z ai) ⟨z, a.bU⟩
}
}
theorem pB {a0 : (List Int)} {d : Value} {a1 : (List Int)} {f : Value} (g : Rd (cp .u8) R I d a0) (i : Rd (cp .u8) R I f a1) (c : St w0 w I [] R) {r : (Bool)} (b : fa a0 a1 = some r) :
  Calls prog 110 #[d, f] w fun e w' => e = .returned (.bool r) ∧ St w0 w' I [] R := by {
unfold fa at b
refine c0 func110 z ntmps110 (wp_seq (wrl (mb z (ab (tn (wp_seq (wp_seq (wrl (mv (d) z (mz (bZ z underlying22 (ax g)) (mv (f) z (mz (bZ z underlying22 (ax i)) (mb z (ab (tn (bs b ?_ ?_))))))))))))))))
{
intro j b
refine ar (cvb j) (wp_seq (wrl (mb z (ab (tn (wp_ret (aN ?_)))))))
obtain rfl := sj b
exact aZ [.bool false] results110 (rc z ai) ⟨z, c.bU⟩
}
{
intro j b
refine ak (cvb j) (wp_skip (tn (wp_seq (wp_seq (wrl (mv (d) z (mz (bZ z underlying22 (ax g)) (mi z (ab (tn (wp_block ?_)))))))))))
obtain ⟨o, b⟩ := aX b
refine bm (fun n a w => ∃ (h : Int), cT (fc a0 a1) n h = some r ∧ fz 26 [0, 1, 12, 13] [d, f, I6 ((a0).length : Int), I6 h] a ∧ St w0 w I [] R) o ⟨0, b, fy z, c⟩ ?_
rintro A _ B ⟨h, b, ⟨C, rfl⟩, c⟩
obtain ⟨D, E, rfl, b, k⟩ := ba b
dsimp only [fc] at b
refine wp_seq (wrl (mb z (ab (tn (wp_seq (bs b ?_ ?_))))))
{
intro l b
refine ar (cvb l) (wp_skip (tn (wp_seq (wp_block (wp_seq (wrl (mi z (mi z (ab (tn (wp_seq (dO c mixed (by kernel_rfl) (qz d z (qz (I6 _) z ?_))))))))))))))
obtain ⟨F, p, b⟩ := bn b
obtain ⟨q, s, t⟩ := aP p
refine qh _ (fun w c => aC z z underlying22 sizeOf5 (ax g) q s) (qh _ (fun w c => aq z isAgg5 (dU g lr c t (by rintro _ rfl; rfl))) (qz f z (qz (I6 _) z ?_)))
obtain ⟨G, u, b⟩ := bn b
obtain ⟨v, x, y⟩ := aP u
refine qh _ (fun w c => aC z z underlying22 sizeOf5 (ax i) v x) (qh _ (fun w c => aq z isAgg5 (dU i lr c y (by rintro _ rfl; rfl))) (qz (.bool _) z (fO ?_)))
intro w c
refine tn (bs b ?_ ?_)
{
intro m b
refine ar (cvb m) (wp_seq (wrl (mb z (ab (tn (wp_ret (dm (aN (aN ?_)))))))))
replace b := bo b k
refine dm (aN ?_)
obtain rfl := sj b
exact aZ [.bool false] results110 (rc z ai) ⟨z, c.bU⟩
}
{
intro m b
refine ak (cvb m) (wp_skip (bF (tn (wrl (mi z (mi z (ab (tn ?_))))))))
replace c := c.bU
obtain rfl := sj b
exact ⟨_, nls, (i64.wrap (h + 1)), k, fy z, c⟩
}
}
{
intro l b
refine ak (cvb l) (wp_exit (aV (aV ?_)))
replace b := bo b k
refine de (tn (wp_seq (wrl (mb z (ab (tn (wp_ret ?_)))))))
obtain rfl := sj b
exact aZ [.bool true] results110 (rc z ai) ⟨z, c.bU⟩
}
}
}
theorem we {a0 : ap} {f g h q : Value} {a1 : ap} {i j k s : Value} (y : Rd bY R I f a0.Gets) (A : Rd gB R I g a0.Scans) (B : Rd bY R I h a0.Puts) (b2 : Rd (cp .u8) R I q a0.Data) (F : Rd bY R I i a1.Gets) (G : Rd gB R I j a1.Scans) (H : Rd bY R I k a1.Puts) (b3 : Rd (cp .u8) R I s a1.Data) (c : St w0 w I [] R) {r : (Bool)} (b : oe a0 a1 = some r) :
  Calls prog 57 #[.agg #[U6 a0.ID.Session, U6 a0.ID.Seq, U6 a0.Epoch, f, g, h, q], .agg #[U6 a1.ID.Session, U6 a1.ID.Seq, U6 a1.Epoch, i, j, k, s]] w fun e w' => e = .returned (.bool r) ∧ St w0 w' I [] R := by {
unfold oe at b
refine c0 func57 z ntmps57 (wp_seq (wrl ?_))
obtain ⟨v, g4, b4, b5, c⟩ := c.box [U6 a0.ID.Session, U6 a0.ID.Seq, U6 a0.Epoch, f, g, h, q] 46
refine wa b4 b5 ?_
obtain ⟨x, g5, b6, b7, c⟩ := c.box [U6 a1.ID.Session, U6 a1.ID.Seq, U6 a1.Epoch, i, j, k, s] 46
refine wa b6 b7 (mb z (ab (tn (wp_seq (wrl (mv (.func (.func 136) #[] #[]) z (ab (tn (wp_seq (wrl (mf z underlying46 z sizeOf28 (mz (ay (cs := [U6 a0.ID.Session, U6 a0.ID.Seq]) z isAgg28 sizeOf28 (c.eK 0 z)) (mf z underlying46 z sizeOf28 (mz (ay (cs := [U6 a1.ID.Session, U6 a1.ID.Seq]) z isAgg28 sizeOf28 (c.eF 0 z)) (mb (ua z z (by kernel_rfl) underlying28 (by kernel_rfl) (by kernel_rfl) (by kernel_rfl) underlying26 underlying26 (fun _ _ _ => by kernel_rfl) (fun _ _ _ => by kernel_rfl)) (mb z (bs b ?_ ?_)))))))))))))))))
{
intro l b
refine gg l (aT z underlying46 z sizeOf26 z) (gg l (aq z isAgg26 (c.bc1 z)) (gg l (aT z underlying46 z sizeOf26 z) (gg l (aq z isAgg26 (c.bc0 z)) (gb l z (mb (aS l z z) (mb z (bs b ?_ ?_)))))))
{
intro m b
refine gg m (aT z underlying46 z sizeOf43 z) (gg m (aq z isAgg43 (c.bc1 z)) (gg m (aT z underlying46 z sizeOf43 z) (gg m (aq z isAgg43 (c.bc0 z)) ?_)))
obtain ⟨Z, b8, b⟩ := bn b
refine dj ((aw z z z (cvb m)).trans z) z (dH call138 (caps := []) z (vs := [f, i, .func (.func 137) #[] #[]]) z) (Calls.mono (show Calls prog 138 #[f, i, .func (.func 137) #[] #[]] _ (fun e w' => ∃ (J : Bool), J = Z ∧ e = .returned (.bool J) ∧ St w0 w' I [cells v [U6 a0.ID.Session, U6 a0.ID.Seq, U6 a0.Epoch, f, g, h, q], cells x [U6 a1.ID.Session, U6 a1.ID.Seq, U6 a1.Epoch, i, j, k, s]] R) from ?_) ?_)
{
clear b; have b := b8
refine c0 func138 z ntmps138 (wp_seq (wrl (mb z (ab (tn (wp_seq (wp_seq (wrl (mv (f) z (mz (bZ z underlying43 (ax y)) (mv (i) z (mz (bZ z underlying43 (ax F)) (mb z (ab (tn (bs b ?_ ?_))))))))))))))))
{
intro K b
refine ar (cvb K) (wp_seq (wrl (mb z (ab (tn (wp_ret (aN (aZ [.bool false] results138 (rc z ai) ?_))))))))
replace c := c.ag.ck
obtain rfl := sj b
exact ⟨false, z, z, c⟩
}
{
intro K b
refine ak (cvb K) (wp_skip (tn (wp_seq (wp_seq (wrl (mv (f) z (mz (bZ z underlying43 (ax y)) (mi z (ab (tn (wp_block ?_)))))))))))
obtain ⟨b9, b⟩ := aX b
refine bm (fun n a w => ∃ (C : Int), cT (jU a0 a1) n C = some Z ∧ fz 32 [1, 2, 15, 16, 17] [i, .func (.func 137) #[] #[], f, I6 ((a0.Gets).length : Int), I6 C] a ∧ St w0 w I [cells x [U6 a1.ID.Session, U6 a1.ID.Seq, U6 a1.Epoch, i, j, k, s], cells v [U6 a0.ID.Session, U6 a0.ID.Seq, U6 a0.Epoch, f, g, h, q]] R) b9 ⟨0, b, fy z, c⟩ ?_
rintro g6 _ g7 ⟨C, b, ⟨g8, rfl⟩, c⟩
obtain ⟨g9, h0, rfl, b, L⟩ := ba b
dsimp only [jU] at b
refine wp_seq (wrl (mb z (ab (tn (wp_seq (bs b ?_ ?_))))))
{
intro M b
refine ar (cvb M) (wp_skip (tn (wp_seq (wp_block (wp_seq (wrl (mi z ?_)))))))
obtain ⟨c1, c2, b⟩ := bn b
obtain ⟨c3, c4, c5⟩ := aP c2
refine mz (aC z z underlying43 sizeOf37 (ax y) c3 c4) (ml z isAgg37 (dU y lr c c5 (by rintro _ rfl; rfl)) (mi z (mv (F6 _) z (ab (tn (wp_seq (wrl (mv (i) z (mi z ?_)))))))))
obtain ⟨c6, c7, b⟩ := bn b
obtain ⟨c8, c9, d0⟩ := aP c7
refine mz (aC z z underlying43 sizeOf37 (ax F) c8 c9) (ml z isAgg37 (dU F lr c d0 (by rintro _ rfl; rfl)) (mv (F6 _) z (ab (tn (wp_seq (wrl (mv (.func (.func 137) #[] #[]) z (mv (F6 _) z (mv (F6 _) z ?_)))))))))
obtain ⟨h1, d1, b⟩ := bn b
refine dj z z (dH call137 (caps := []) z (vs := [F6 c1, F6 c6]) z) ((kY c.to0 d1).mono ?_)
rintro _ h2 ⟨rfl, c⟩
refine ⟨_, z, ?_⟩
replace c := c.of0
refine mb z (ab (tn (bs b ?_ ?_)))
{
intro N b
refine ar (cvb N) (wp_seq (wrl (mb z (ab (tn (wp_ret (dm (aN (aN ?_)))))))))
replace b := bo b L
refine dm (aN (aZ [.bool false] results138 (rc z ai) ?_))
replace c := c.ag.ck
obtain rfl := sj b
exact ⟨false, z, z, c⟩
}
{
intro N b
refine ak (cvb N) (wp_skip (bF (tn (wrl (mi z (mi z (ab (tn ?_))))))))
replace c := c.ag.ag.ck
obtain rfl := sj b
exact ⟨_, nls, (i64.wrap (C + 1)), L, fy z, c⟩
}
}
{
intro M b
refine ak (cvb M) (wp_exit (aV (aV ?_)))
replace b := bo b L
refine de (tn (wp_seq (wrl (mb z (ab (tn (wp_ret (aZ [.bool true] results138 (rc z ai) ?_))))))))
replace c := c.ag.ck
obtain rfl := sj b
exact ⟨true, z, z, c⟩
}
}
}
rintro _ h3 ⟨J, rfl, rfl, c⟩
refine ⟨_, z, ?_⟩
try dsimp only at b
refine mb (aS m z z) (mb z (bs b ?_ ?_))
{
intro d b
refine gg d (aT z underlying46 z sizeOf44 z) (gg d (aq z isAgg44 (c.bc0 z)) (gg d (aT z underlying46 z sizeOf44 z) (gg d (aq z isAgg44 (c.bc1 z)) (gv (.func (.func 136) #[] #[]) d z ?_))))
obtain ⟨b0, d2, b⟩ := bn b
refine dj ((aw z z z (cvb d)).trans z) z (dH call139 (caps := []) z (vs := [g, j, .func (.func 136) #[] #[]]) z) (Calls.mono (show Calls prog 139 #[g, j, .func (.func 136) #[] #[]] _ (fun e w' => ∃ (O : Bool), O = b0 ∧ e = .returned (.bool O) ∧ St w0 w' I [cells v [U6 a0.ID.Session, U6 a0.ID.Seq, U6 a0.Epoch, f, g, h, q], cells x [U6 a1.ID.Session, U6 a1.ID.Seq, U6 a1.Epoch, i, j, k, s]] R) from ?_) ?_)
{
clear b; have b := d2
refine c0 func139 z ntmps139 (wp_seq (wrl (mb z (ab (tn (wp_seq (wp_seq (wrl (mv (g) z (mz (bZ z underlying44 (ax A)) (mv (j) z (mz (bZ z underlying44 (ax G)) (mb z (ab (tn (bs b ?_ ?_))))))))))))))))
{
intro P b
refine ar (cvb P) (wp_seq (wrl (mb z (ab (tn (wp_ret (aN (aZ [.bool false] results139 (rc z ai) ?_))))))))
replace c := c.ag.ag.ck
obtain rfl := sj b
exact ⟨false, z, z, c⟩
}
{
intro P b
refine ak (cvb P) (wp_skip (tn (wp_seq (wp_seq (wrl (mv (g) z (mz (bZ z underlying44 (ax A)) (mi z (ab (tn (wp_block ?_)))))))))))
obtain ⟨d3, b⟩ := aX b
refine bm (fun n a w => ∃ (D : Int), cT (jY a0 a1) n D = some b0 ∧ fz 32 [1, 2, 15, 16, 17] [j, .func (.func 136) #[] #[], g, I6 ((a0.Scans).length : Int), I6 D] a ∧ St w0 w I [cells v [U6 a0.ID.Session, U6 a0.ID.Seq, U6 a0.Epoch, f, g, h, q], cells x [U6 a1.ID.Session, U6 a1.ID.Seq, U6 a1.Epoch, i, j, k, s]] R) d3 ⟨0, b, fy z, c⟩ ?_
rintro h4 _ h5 ⟨D, b, ⟨h6, rfl⟩, c⟩
obtain ⟨h7, h8, rfl, b, Q⟩ := ba b
dsimp only [jY] at b
refine wp_seq (wrl (mb z (ab (tn (wp_seq (bs b ?_ ?_))))))
{
intro S b
refine ar (cvb S) (wp_skip (tn (wp_seq (wp_block (wp_seq (wrl (mi z ?_)))))))
obtain ⟨t, d4, b⟩ := bn b
obtain ⟨d5, d6, d7⟩ := aP d4
refine mz (aC z z underlying44 sizeOf80 (ax A) d5 d6) (mz (ay (cs := [F6 t.1, F6 t.2]) z isAgg80 sizeOf80 (pD A lr c d7 0 (by rintro _ rfl; rfl))) ?_)
obtain ⟨h9, i0, d8, d9, c⟩ := c.box [Zf, Zf] 80
refine wa d8 d9 (mi z ?_)
obtain ⟨i1, e0, c⟩ := c.bx [F6 t.1, F6 t.2] sizeOf80 z (oC z (oC z oN)) (by kernel_rfl)
refine aE z z (aG e0) (ab (tn (wp_seq (wrl (mv (j) z (mi z ?_))))))
obtain ⟨u, e1, b⟩ := bn b
obtain ⟨e2, e3, e4⟩ := aP e1
refine mz (aC z z underlying44 sizeOf80 (ax G) e2 e3) (mz (ay (cs := [F6 u.1, F6 u.2]) z isAgg80 sizeOf80 (pD G lr c e4 0 (by rintro _ rfl; rfl))) ?_)
obtain ⟨i2, i3, e5, e6, c⟩ := c.box [Zf, Zf] 80
refine wa e5 e6 ?_
obtain ⟨i4, e7, c⟩ := c.bx [F6 u.1, F6 u.2] sizeOf80 z (oC z (oC z oN)) (by kernel_rfl)
refine aE z z (aG e7) (ab (tn (wp_seq (wrl (mv (.func (.func 136) #[] #[]) z (mz (ay (cs := [F6 t.1, F6 t.2]) z isAgg80 sizeOf80 (c.eK 0 z)) (mz (ay (cs := [F6 u.1, F6 u.2]) z isAgg80 sizeOf80 (c.eF 0 z)) ?_)))))))
obtain ⟨i5, e8, b⟩ := bn b
refine dj z z (dH call136 (caps := []) z (vs := [.agg #[F6 t.1, F6 t.2], .agg #[F6 u.1, F6 u.2]]) z) ((uh c.to0 e8).mono ?_)
rintro _ i6 ⟨rfl, c⟩
refine ⟨_, z, ?_⟩
replace c := c.of0
refine mb z (ab (tn (bs b ?_ ?_)))
{
intro T b
refine ar (cvb T) (wp_seq (wrl (mb z (ab (tn (wp_ret (dm (aN (aN ?_)))))))))
replace b := bo b Q
refine dm (aN (aZ [.bool false] results139 (rc z ai) ?_))
replace c := c.au.au.ck
obtain rfl := sj b
exact ⟨false, z, z, c⟩
}
{
intro T b
refine ak (cvb T) (wp_skip (bF (tn (wrl (mi z (mi z (ab (tn ?_))))))))
replace c := c.au.au.ck
obtain rfl := sj b
exact ⟨_, nls, (i64.wrap (D + 1)), Q, fy z, c⟩
}
}
{
intro S b
refine ak (cvb S) (wp_exit (aV (aV ?_)))
replace b := bo b Q
refine de (tn (wp_seq (wrl (mb z (ab (tn (wp_ret (aZ [.bool true] results139 (rc z ai) ?_))))))))
replace c := c.ag.ag.ck
obtain rfl := sj b
exact ⟨true, z, z, c⟩
}
}
}
rintro _ i7 ⟨O, rfl, rfl, c⟩
refine ⟨_, z, ?_⟩
try dsimp only at b
refine mb (aS d z z) (mb z (bs b ?_ ?_))
{
intro o b
refine gg o (aT z underlying46 z sizeOf43 z) (gg o (aq z isAgg43 (c.bc0 z)) (gg o (aT z underlying46 z sizeOf43 z) (gg o (aq z isAgg43 (c.bc1 z)) ?_)))
obtain ⟨b1, e9, b⟩ := bn b
refine dj ((aw z z z (cvb o)).trans z) z (dH call138 (caps := []) z (vs := [h, k, .func (.func 137) #[] #[]]) z) (Calls.mono (show Calls prog 138 #[h, k, .func (.func 137) #[] #[]] _ (fun e w' => ∃ (U : Bool), U = b1 ∧ e = .returned (.bool U) ∧ St w0 w' I [cells v [U6 a0.ID.Session, U6 a0.ID.Seq, U6 a0.Epoch, f, g, h, q], cells x [U6 a1.ID.Session, U6 a1.ID.Seq, U6 a1.Epoch, i, j, k, s]] R) from ?_) ?_)
{
clear b; have b := e9
refine c0 func138 z ntmps138 (wp_seq (wrl (mb z (ab (tn (wp_seq (wp_seq (wrl (mv (h) z (mz (bZ z underlying43 (ax B)) (mv (k) z (mz (bZ z underlying43 (ax H)) (mb z (ab (tn (bs b ?_ ?_))))))))))))))))
{
intro V b
refine ar (cvb V) (wp_seq (wrl (mb z (ab (tn (wp_ret (aN (aZ [.bool false] results138 (rc z ai) ?_))))))))
replace c := c.ag.ag.ck
obtain rfl := sj b
exact ⟨false, z, z, c⟩
}
{
intro V b
refine ak (cvb V) (wp_skip (tn (wp_seq (wp_seq (wrl (mv (h) z (mz (bZ z underlying43 (ax B)) (mi z (ab (tn (wp_block ?_)))))))))))
obtain ⟨f0, b⟩ := aX b
refine bm (fun n a w => ∃ (E : Int), cT (jX a0 a1) n E = some b1 ∧ fz 32 [1, 2, 15, 16, 17] [k, .func (.func 137) #[] #[], h, I6 ((a0.Puts).length : Int), I6 E] a ∧ St w0 w I [cells v [U6 a0.ID.Session, U6 a0.ID.Seq, U6 a0.Epoch, f, g, h, q], cells x [U6 a1.ID.Session, U6 a1.ID.Seq, U6 a1.Epoch, i, j, k, s]] R) f0 ⟨0, b, fy z, c⟩ ?_
rintro i8 _ i9 ⟨E, b, ⟨j0, rfl⟩, c⟩
obtain ⟨j1, j2, rfl, b, W⟩ := ba b
dsimp only [jX] at b
refine wp_seq (wrl (mb z (ab (tn (wp_seq (bs b ?_ ?_))))))
{
intro X b
refine ar (cvb X) (wp_skip (tn (wp_seq (wp_block (wp_seq (wrl (mi z ?_)))))))
obtain ⟨f1, f2, b⟩ := bn b
obtain ⟨f3, f4, f5⟩ := aP f2
refine mz (aC z z underlying43 sizeOf37 (ax B) f3 f4) (ml z isAgg37 (dU B lr c f5 (by rintro _ rfl; rfl)) (mi z (mv (F6 _) z (ab (tn (wp_seq (wrl (mv (k) z (mi z ?_)))))))))
obtain ⟨f6, f7, b⟩ := bn b
obtain ⟨f8, f9, g0⟩ := aP f7
refine mz (aC z z underlying43 sizeOf37 (ax H) f8 f9) (ml z isAgg37 (dU H lr c g0 (by rintro _ rfl; rfl)) (mv (F6 _) z (ab (tn (wp_seq (wrl (mv (.func (.func 137) #[] #[]) z (mv (F6 _) z (mv (F6 _) z ?_)))))))))
obtain ⟨j3, g1, b⟩ := bn b
refine dj z z (dH call137 (caps := []) z (vs := [F6 f1, F6 f6]) z) ((kY c.to0 g1).mono ?_)
rintro _ j4 ⟨rfl, c⟩
refine ⟨_, z, ?_⟩
replace c := c.of0
refine mb z (ab (tn (bs b ?_ ?_)))
{
intro Y b
refine ar (cvb Y) (wp_seq (wrl (mb z (ab (tn (wp_ret (dm (aN (aN ?_)))))))))
replace b := bo b W
refine dm (aN (aZ [.bool false] results138 (rc z ai) ?_))
replace c := c.ag.ag.ck
obtain rfl := sj b
exact ⟨false, z, z, c⟩
}
{
intro Y b
refine ak (cvb Y) (wp_skip (bF (tn (wrl (mi z (mi z (ab (tn ?_))))))))
replace c := c.ag.ag.ck
obtain rfl := sj b
exact ⟨_, nls, (i64.wrap (E + 1)), W, fy z, c⟩
}
}
{
intro X b
refine ak (cvb X) (wp_exit (aV (aV ?_)))
replace b := bo b W
refine de (tn (wp_seq (wrl (mb z (ab (tn (wp_ret (aZ [.bool true] results138 (rc z ai) ?_))))))))
replace c := c.ag.ag.ck
obtain rfl := sj b
exact ⟨true, z, z, c⟩
}
}
}
rintro _ j5 ⟨U, rfl, rfl, c⟩
refine ⟨_, z, ?_⟩
try dsimp only at b
refine mb (aS o z z) (mb z (bs b ?_ ?_))
{
intro p b
refine gg p (aT z underlying46 z sizeOf22 z) (gg p (aq z isAgg22 (c.bc0 z)) (gg p (aT z underlying46 z sizeOf22 z) (gg p (aq z isAgg22 (c.bc1 z)) ?_)))
obtain ⟨g2, g3, b⟩ := bn b
refine dj ((aw z z z (cvb p)).trans z) z (jv call110 z (vs := [q, s]) z) ((pB (b2.mono (cC _)) (b3.mono (cC _)) c.to0 g3).mono ?_)
rintro _ j6 ⟨rfl, c⟩
refine ⟨_, z, ?_⟩
replace c := c.of0
refine mb (aS p z z) (mb z (ab (tn (wp_ret ?_))))
obtain rfl := sj b
exact aZ [.bool g2] results57 (rc z ai) ⟨z, c.bU⟩
}
{
intro p b
refine go p (go p (go p (go p (go p (mb (aJ p z z) (mb z (ab (tn (wp_ret ?_)))))))))
obtain rfl := sj b
exact aZ [.bool false] results57 (rc z ai) ⟨z, c.bU⟩
}
}
{
intro o b
refine go o (go o (go o (go o (go o (mb (aJ o z z) (mb z (gz (gz (gz (gz (gz (mb (aJ z z z) (mb z (ab (tn (wp_ret ?_))))))))))))))))
obtain rfl := sj b
exact aZ [.bool false] results57 (rc z ai) ⟨z, c.bU⟩
}
}
{
intro d b
refine go d (go d (go d (go d (go d (go d (mb (aJ d z z) (mb z (gz (gz (gz (gz (gz (mb (aJ z z z) (mb z (gz (gz (gz (gz (gz (mb (aJ z z z) (mb z (ab (tn (wp_ret ?_))))))))))))))))))))))))
obtain rfl := sj b
exact aZ [.bool false] results57 (rc z ai) ⟨z, c.bU⟩
}
}
{
intro m b
refine go m (go m (go m (go m (go m (mb (aJ m z z) (mb z (gz (gz (gz (gz (gz (gz (mb (aJ z z z) (mb z (gz (gz (gz (gz (gz (mb (aJ z z z) (mb z (gz (gz (gz (gz (gz (mb (aJ z z z) (mb z (ab (tn (wp_ret ?_)))))))))))))))))))))))))))))))
obtain rfl := sj b
exact aZ [.bool false] results57 (rc z ai) ⟨z, c.bU⟩
}
}
{
intro l b
refine go l (go l (go l (go l (go l (mb (aJ l z z) (mb z (gz (gz (gz (gz (gz (mb (aJ z z z) (mb z (gz (gz (gz (gz (gz (gz (mb (aJ z z z) (mb z (gz (gz (gz (gz (gz (mb (aJ z z z) (mb z (gz (gz (gz (gz (gz (mb (aJ z z z) (mb z (ab (tn (wp_ret ?_))))))))))))))))))))))))))))))))))))))
obtain rfl := sj b
exact aZ [.bool false] results57 (rc z ai) ⟨z, c.bU⟩
}
}
theorem pS {a0 a1 a2 : Nat} (a : St w0 w I [] R) {r : (Bool)} (b : lj a0 a1 a2 = some r) :
  Calls prog 215 #[F6 a0, F6 a1, F6 a2] w fun e w' => e = .returned (.bool r) ∧ St w0 w' I [] R := by {
unfold lj at b
refine c0 func215 z ntmps215 (wp_seq (wrl (mb z (ab (tn (wp_seq (wrl (mv (F6 _) z ?_))))))))
obtain ⟨k, d, b⟩ := bn b
refine wc call118 [F6 a1] z z z ((eA a.to0 d).mono ?_)
rintro _ l ⟨rfl, a⟩
refine ⟨_, z, ?_⟩
replace a := a.of0
refine mv (F6 _) z ?_
obtain ⟨m, f, b⟩ := bn b
refine wc call118 [F6 a0] z z z ((eA a.to0 f).mono ?_)
rintro _ n ⟨rfl, a⟩
refine ⟨_, z, ?_⟩
replace a := a.of0
refine mb z (mb z (bs b ?_ ?_))
{
intro c b
refine gv (F6 _) c z ?_
obtain ⟨g, h, b⟩ := bn b
refine dj ((aw z z z (cvb c)).trans z) z (jv call118 z (vs := [F6 a0]) z) ((eA a.to0 h).mono ?_)
rintro _ o ⟨rfl, a⟩
refine ⟨_, z, ?_⟩
replace a := a.of0
refine gv (F6 _) c z ?_
obtain ⟨i, j, b⟩ := bn b
refine dj ((aw z z z (cvb c)).trans z) z (jv call118 z (vs := [F6 a2]) z) ((eA a.to0 j).mono ?_)
rintro _ p ⟨rfl, a⟩
refine ⟨_, z, ?_⟩
replace a := a.of0
refine gb c z (mb (aS c z z) (mb z (ab (tn (wp_ret ?_)))))
obtain rfl := sj b
exact aZ [.bool (decide (g ≤ i))] results215 (rc z ai) ⟨z, a.bU⟩
}
{
intro c b
refine go c (go c (go c (go c (go c (mb (aJ c z z) (mb z (ab (tn (wp_ret ?_)))))))))
obtain rfl := sj b
exact aZ [.bool false] results215 (rc z ai) ⟨z, a.bU⟩
}
}
theorem uy {a0 : ap} {h i d j : Value} {a1 a2 : Nat} (T : Rd bY R I h a0.Gets) (U : Rd gB R I i a0.Scans) (p : Rd bY R I d a0.Puts) (V : Rd (cp .u8) R I j a0.Data) (c : St w0 w I [] R) {r : (Bool)} (b : nE a0 a1 a2 = some r) :
  Calls prog 194 #[.agg #[U6 a0.ID.Session, U6 a0.ID.Seq, U6 a0.Epoch, h, i, d, j], F6 a1, F6 a2] w fun e w' => e = .returned (.bool r) ∧ St w0 w' I [] R := by {
unfold nE at b
refine c0 func194 z ntmps194 (wp_seq (wrl ?_))
obtain ⟨m, W, A, B, c⟩ := c.box [U6 a0.ID.Session, U6 a0.ID.Seq, U6 a0.Epoch, h, i, d, j] 46
refine wa A B ?_
obtain ⟨f, X, C, D, c⟩ := c.box [F6 a1] 37
refine wa C D ?_
obtain ⟨g, Y, E, F, c⟩ := c.box [F6 a2] 37
refine wa E F (mb z (ab (tn (wp_seq (wrl (mf z underlying46 z sizeOf43 (ml z isAgg43 (c.bc2 z) (mk (.func (.func 214) #[] #[Pt f 0, Pt g 0]) ?_))))))))
obtain ⟨G, H, b⟩ := bn b
refine dj z z (dH call213 (caps := []) z (vs := [d, .func (.func 214) #[] #[Pt f 0, Pt g 0]]) z) (Calls.mono (show Calls prog 213 #[d, .func (.func 214) #[] #[Pt f 0, Pt g 0]] _ (fun e w' => ∃ (o : Bool), o = G ∧ e = .returned (.bool o) ∧ St w0 w' I [cells m [U6 a0.ID.Session, U6 a0.ID.Seq, U6 a0.Epoch, h, i, d, j], cells f [F6 a1], cells g [F6 a2]] R) from ?_) ?_)
{
clear b; have b := H
refine c0 func213 z ntmps213 (wp_seq (wrl (mb z (ab (tn (wp_seq (wrl (mv (d) z (mv (.func (.func 214) #[] #[Pt f 0, Pt g 0]) z ?_)))))))))
obtain ⟨x, J, b⟩ := bn b
refine dj z z (dH call228 (caps := []) z (vs := [d, .func (.func 214) #[] #[Pt f 0, Pt g 0]]) z) (Calls.mono (show Calls prog 228 #[d, .func (.func 214) #[] #[Pt f 0, Pt g 0]] _ (fun e w' => ∃ (l : Int), l = x ∧ e = .returned (.int .i64 l) ∧ St w0 w' I [cells m [U6 a0.ID.Session, U6 a0.ID.Seq, U6 a0.Epoch, h, i, d, j], cells f [F6 a1], cells g [F6 a2]] R) from ?_) ?_)
{
clear b; have b := J
refine c0 func228 z ntmps228 (wp_seq (wrl (mi z (ab (tn (wp_seq (wp_seq (wrl (mv (d) z (mz (bZ z underlying43 (ax p)) (mi z (ab (tn (wp_block ?_))))))))))))))
obtain ⟨K, b⟩ := aX b
refine bm (fun n a w => ∃ (k : Int), cT (jx a0 a1 a2) n k = some x ∧ fz 19 [0, 1, 7, 8] [d, .func (.func 214) #[] #[Pt f 0, Pt g 0], I6 ((a0.Puts).length : Int), I6 k] a ∧ St w0 w I [cells g [F6 a2], cells f [F6 a1], cells m [U6 a0.ID.Session, U6 a0.ID.Seq, U6 a0.Epoch, h, i, d, j]] R) K ⟨0, b, fy z, c⟩ ?_
rintro Z _ b0 ⟨k, b, ⟨b1, rfl⟩, c⟩
obtain ⟨b2, b3, rfl, b, q⟩ := ba b
dsimp only [jx] at b
refine wp_seq (wrl (mb z (ab (tn (wp_seq (bs b ?_ ?_))))))
{
intro s b
refine ar (cvb s) (wp_skip (tn (wp_seq (wp_block (wp_seq (wrl (mi z (mi z (ab (tn (wp_seq (wrl (mv (.func (.func 214) #[] #[Pt f 0, Pt g 0]) z (mv (d) z (mi z ?_)))))))))))))))
obtain ⟨t, L, b⟩ := bn b
obtain ⟨M, N, O⟩ := aP L
refine mz (aC z z underlying43 sizeOf37 (ax p) M N) (ml z isAgg37 (dU p lr c O (by rintro _ rfl; rfl)) ?_)
obtain ⟨P, Q, b⟩ := bn b
refine dj z z (dH call214 (caps := [Pt f 0, Pt g 0]) z (vs := [F6 t]) z) (Calls.mono (show Calls prog 214 #[F6 t, Pt f 0, Pt g 0] _ (fun e w' => ∃ (u : Bool), u = P ∧ e = .returned (.bool u) ∧ St w0 w' I [cells m [U6 a0.ID.Session, U6 a0.ID.Seq, U6 a0.Epoch, h, i, d, j], cells f [F6 a1], cells g [F6 a2]] R) from ?_) ?_)
{
clear b; have b := Q
refine c0 func214 z ntmps214 (wp_seq (wrl (mb z (ab (tn (wp_seq (wrl (mv (F6 _) z (ml z isAgg37 (c.bc1 z) (ml z isAgg37 (c.bc0 z) ?_))))))))))
obtain ⟨y, S, b⟩ := bn b
refine wc call215 [F6 t, F6 a1, F6 a2] z z z ((pS c.to0 S).mono ?_)
rintro _ b4 ⟨rfl, c⟩
refine ⟨_, z, ?_⟩
replace c := c.of0
refine mb z (ab (tn (wp_ret (aZ [.bool y] results214 (rc z ai) ?_))))
replace c := c.ag.aA.dF
obtain rfl := sj b
exact ⟨y, z, z, c⟩
}
rintro _ b5 ⟨u, rfl, rfl, c⟩
refine ⟨_, z, ?_⟩
try dsimp only at b
refine ab (tn (bs b ?_ ?_))
{
intro v b
refine ar (cvb v) (wp_seq (wrl (mi z (mi z (ab (tn (wp_ret (dm (aN (aN ?_))))))))))
replace b := bo b q
refine dm (aN (aZ [I6 k] results228 (rc z ai) ?_))
replace c := c.aA.aA.aA.dF
obtain rfl := sj b
exact ⟨k, z, z, c⟩
}
{
intro v b
refine ak (cvb v) (wp_skip (bF (tn (wrl (mi z (mi z (ab (tn ?_))))))))
replace c := c.ag.aA.dF
obtain rfl := sj b
exact ⟨_, nls, (i64.wrap (k + 1)), q, fy z, c⟩
}
}
{
intro s b
refine ak (cvb s) (wp_exit (aV (aV ?_)))
replace b := bo b q
refine de (tn (wp_seq (wrl (mi z (ab (tn (wp_ret (aZ [I6 ((-1):Int)] results228 (rc z ai) ?_))))))))
replace c := c.ag.aA.dF
obtain rfl := sj b
exact ⟨((-1):Int), z, z, c⟩
}
}
rintro _ b6 ⟨l, rfl, rfl, c⟩
refine ⟨_, z, ?_⟩
try dsimp only at b
refine mb z (mb z (ab (tn (wp_ret (aZ [.bool (decide (l ≥ 0))] results213 (rc z ai) ?_)))))
replace c := c.aA.aA.aA.dF
obtain rfl := sj b
exact ⟨(decide (l ≥ 0)), z, z, c⟩
}
rintro _ b7 ⟨o, rfl, rfl, c⟩
refine ⟨_, z, ?_⟩
try dsimp only at b
refine mb z (ab (tn (wp_ret ?_)))
obtain rfl := sj b
exact aZ [.bool o] results194 (rc z ai) ⟨z, c.bU⟩
}
theorem ri {a0 : ap} {f g h j : Value} {a1 : Nat} (u : Rd bY R I f a0.Gets) (v : Rd gB R I g a0.Scans) (c7 : Rd bY R I h a0.Puts) (c8 : Rd (cp .u8) R I j a0.Data) (c : St w0 w I [] R) {r : (Bool)} (b : np a0 a1 = some r) :
  Calls prog 195 #[.agg #[U6 a0.ID.Session, U6 a0.ID.Seq, U6 a0.Epoch, f, g, h, j], F6 a1] w fun e w' => e = .returned (.bool r) ∧ St w0 w' I [] R := by {
unfold np at b
refine c0 func195 z ntmps195 (wp_seq (wrl ?_))
obtain ⟨m, c9, N, O, c⟩ := c.box [U6 a0.ID.Session, U6 a0.ID.Seq, U6 a0.Epoch, f, g, h, j] 46
refine wa N O ?_
obtain ⟨d, d0, P, Q, c⟩ := c.box [F6 a1] 37
refine wa P Q (mb z (ab (tn (wp_seq (wrl (mf z underlying46 z sizeOf43 (ml z isAgg43 (c.bc1 z) (mk (.func (.func 216) #[] #[Pt d 0]) ?_))))))))
obtain ⟨S, T, b⟩ := bn b
refine dj z z (dH call213 (caps := []) z (vs := [f, .func (.func 216) #[] #[Pt d 0]]) z) (Calls.mono (show Calls prog 213 #[f, .func (.func 216) #[] #[Pt d 0]] _ (fun e w' => ∃ (x : Bool), x = S ∧ e = .returned (.bool x) ∧ St w0 w' I [cells m [U6 a0.ID.Session, U6 a0.ID.Seq, U6 a0.Epoch, f, g, h, j], cells d [F6 a1]] R) from ?_) ?_)
{
clear b; have b := T
refine c0 func213 z ntmps213 (wp_seq (wrl (mb z (ab (tn (wp_seq (wrl (mv (f) z (mv (.func (.func 216) #[] #[Pt d 0]) z ?_)))))))))
obtain ⟨J, U, b⟩ := bn b
refine dj z z (dH call228 (caps := []) z (vs := [f, .func (.func 216) #[] #[Pt d 0]]) z) (Calls.mono (show Calls prog 228 #[f, .func (.func 216) #[] #[Pt d 0]] _ (fun e w' => ∃ (q : Int), q = J ∧ e = .returned (.int .i64 q) ∧ St w0 w' I [cells m [U6 a0.ID.Session, U6 a0.ID.Seq, U6 a0.Epoch, f, g, h, j], cells d [F6 a1]] R) from ?_) ?_)
{
clear b; have b := U
refine c0 func228 z ntmps228 (wp_seq (wrl (mi z (ab (tn (wp_seq (wp_seq (wrl (mv (f) z (mz (bZ z underlying43 (ax u)) (mi z (ab (tn (wp_block ?_))))))))))))))
obtain ⟨V, b⟩ := aX b
refine bm (fun n a w => ∃ (o : Int), cT (ki a0 a1) n o = some J ∧ fz 19 [0, 1, 7, 8] [f, .func (.func 216) #[] #[Pt d 0], I6 ((a0.Gets).length : Int), I6 o] a ∧ St w0 w I [cells d [F6 a1], cells m [U6 a0.ID.Session, U6 a0.ID.Seq, U6 a0.Epoch, f, g, h, j]] R) V ⟨0, b, fy z, c⟩ ?_
rintro d1 _ d2 ⟨o, b, ⟨d3, rfl⟩, c⟩
obtain ⟨d4, d5, rfl, b, y⟩ := ba b
dsimp only [ki] at b
refine wp_seq (wrl (mb z (ab (tn (wp_seq (bs b ?_ ?_))))))
{
intro A b
refine ar (cvb A) (wp_skip (tn (wp_seq (wp_block (wp_seq (wrl (mi z (mi z (ab (tn (wp_seq (wrl (mv (.func (.func 216) #[] #[Pt d 0]) z (mv (f) z (mi z ?_)))))))))))))))
obtain ⟨B, W, b⟩ := bn b
obtain ⟨X, Y, Z⟩ := aP W
refine mz (aC z z underlying43 sizeOf37 (ax u) X Y) (ml z isAgg37 (dU u lr c Z (by rintro _ rfl; rfl)) ?_)
obtain ⟨b0, b1, b⟩ := bn b
refine dj z z (dH call216 (caps := [Pt d 0]) z (vs := [F6 B]) z) (Calls.mono (show Calls prog 216 #[F6 B, Pt d 0] _ (fun e w' => ∃ (C : Bool), C = b0 ∧ e = .returned (.bool C) ∧ St w0 w' I [cells m [U6 a0.ID.Session, U6 a0.ID.Seq, U6 a0.Epoch, f, g, h, j], cells d [F6 a1]] R) from ?_) ?_)
{
clear b; have b := b1
refine c0 func216 z ntmps216 (wp_seq (wrl (mb z (ab (tn (wp_seq (wrl (ml z isAgg37 (c.bc0 z) (mv (F6 _) z ?_)))))))))
obtain ⟨K, b2, b⟩ := bn b
refine wc call137 [F6 a1, F6 B] z z z ((kY c.to0 b2).mono ?_)
rintro _ d6 ⟨rfl, c⟩
refine ⟨_, z, ?_⟩
replace c := c.of0
refine mb z (ab (tn (wp_ret (aZ [.bool K] results216 (rc z ai) ?_))))
replace c := c.ag.ck
obtain rfl := sj b
exact ⟨K, z, z, c⟩
}
rintro _ d7 ⟨C, rfl, rfl, c⟩
refine ⟨_, z, ?_⟩
try dsimp only at b
refine ab (tn (bs b ?_ ?_))
{
intro D b
refine ar (cvb D) (wp_seq (wrl (mi z (mi z (ab (tn (wp_ret (dm (aN (aN ?_))))))))))
replace b := bo b y
refine dm (aN (aZ [I6 o] results228 (rc z ai) ?_))
replace c := c.ag.ag.ck
obtain rfl := sj b
exact ⟨o, z, z, c⟩
}
{
intro D b
refine ak (cvb D) (wp_skip (bF (tn (wrl (mi z (mi z (ab (tn ?_))))))))
replace c := c.ag.ck
obtain rfl := sj b
exact ⟨_, nls, (i64.wrap (o + 1)), y, fy z, c⟩
}
}
{
intro A b
refine ak (cvb A) (wp_exit (aV (aV ?_)))
replace b := bo b y
refine de (tn (wp_seq (wrl (mi z (ab (tn (wp_ret (aZ [I6 ((-1):Int)] results228 (rc z ai) ?_))))))))
replace c := c.ag.ck
obtain rfl := sj b
exact ⟨((-1):Int), z, z, c⟩
}
}
rintro _ d8 ⟨q, rfl, rfl, c⟩
refine ⟨_, z, ?_⟩
try dsimp only at b
refine mb z (mb z (ab (tn (wp_ret (aZ [.bool (decide (q ≥ 0))] results213 (rc z ai) ?_)))))
replace c := c.ag.ag.ck
obtain rfl := sj b
exact ⟨(decide (q ≥ 0)), z, z, c⟩
}
rintro _ d9 ⟨x, rfl, rfl, c⟩
refine ⟨_, z, ?_⟩
try dsimp only at b
refine mb z (bs b ?_ ?_)
{
intro k b
refine go k (go k (go k (go k (mb (aS k z z) (mb z (ab (tn (wp_ret ?_))))))))
obtain rfl := sj b
exact aZ [.bool true] results195 (rc z ai) ⟨z, c.bU⟩
}
{
intro k b
refine gg k (aT z underlying46 z sizeOf44 z) (gg k (aq z isAgg44 (c.bc0 z)) (gk (.func (.func 218) #[] #[Pt d 0]) k ?_))
obtain ⟨b3, b4, b⟩ := bn b
refine dj ((aw z z z (cvb k)).trans z) z (dH call217 (caps := []) z (vs := [g, .func (.func 218) #[] #[Pt d 0]]) z) (Calls.mono (show Calls prog 217 #[g, .func (.func 218) #[] #[Pt d 0]] _ (fun e w' => ∃ (t : Bool), t = b3 ∧ e = .returned (.bool t) ∧ St w0 w' I [cells m [U6 a0.ID.Session, U6 a0.ID.Seq, U6 a0.Epoch, f, g, h, j], cells d [F6 a1]] R) from ?_) ?_)
{
clear b; have b := b4
refine c0 func217 z ntmps217 (wp_seq (wrl (mb z (ab (tn (wp_seq (wrl (mv (g) z (mv (.func (.func 218) #[] #[Pt d 0]) z ?_)))))))))
obtain ⟨L, b5, b⟩ := bn b
refine dj z z (dH call229 (caps := []) z (vs := [g, .func (.func 218) #[] #[Pt d 0]]) z) (Calls.mono (show Calls prog 229 #[g, .func (.func 218) #[] #[Pt d 0]] _ (fun e w' => ∃ (s : Int), s = L ∧ e = .returned (.int .i64 s) ∧ St w0 w' I [cells m [U6 a0.ID.Session, U6 a0.ID.Seq, U6 a0.Epoch, f, g, h, j], cells d [F6 a1]] R) from ?_) ?_)
{
clear b; have b := b5
refine c0 func229 z ntmps229 (wp_seq (wrl (mi z (ab (tn (wp_seq (wp_seq (wrl (mv (g) z (mz (bZ z underlying44 (ax v)) (mi z (ab (tn (wp_block ?_))))))))))))))
obtain ⟨b6, b⟩ := aX b
refine bm (fun n a w => ∃ (p : Int), cT (kr a0 a1) n p = some L ∧ fz 19 [0, 1, 7, 8] [g, .func (.func 218) #[] #[Pt d 0], I6 ((a0.Scans).length : Int), I6 p] a ∧ St w0 w I [cells m [U6 a0.ID.Session, U6 a0.ID.Seq, U6 a0.Epoch, f, g, h, j], cells d [F6 a1]] R) b6 ⟨0, b, fy z, c⟩ ?_
rintro e0 _ e1 ⟨p, b, ⟨e2, rfl⟩, c⟩
obtain ⟨e3, e4, rfl, b, E⟩ := ba b
dsimp only [kr] at b
refine wp_seq (wrl (mb z (ab (tn (wp_seq (bs b ?_ ?_))))))
{
intro F b
refine ar (cvb F) (wp_skip (tn (wp_seq (wp_block (wp_seq (wrl (mi z (mi z (ab (tn (wp_seq (wrl (mv (.func (.func 218) #[] #[Pt d 0]) z (mv (g) z (mi z ?_)))))))))))))))
obtain ⟨l, b7, b⟩ := bn b
obtain ⟨b8, b9, c1⟩ := aP b7
refine mz (aC z z underlying44 sizeOf80 (ax v) b8 b9) (mz (ay (cs := [F6 l.1, F6 l.2]) z isAgg80 sizeOf80 (pD v lr c c1 0 (by rintro _ rfl; rfl))) ?_)
obtain ⟨c2, c3, b⟩ := bn b
refine dj z z (dH call218 (caps := [Pt d 0]) z (vs := [.agg #[F6 l.1, F6 l.2]]) z) (Calls.mono (show Calls prog 218 #[.agg #[F6 l.1, F6 l.2], Pt d 0] _ (fun e w' => ∃ (G : Bool), G = c2 ∧ e = .returned (.bool G) ∧ St w0 w' I [cells m [U6 a0.ID.Session, U6 a0.ID.Seq, U6 a0.Epoch, f, g, h, j], cells d [F6 a1]] R) from ?_) ?_)
{
clear b; have b := c3
refine c0 func218 z ntmps218 (wp_seq (wrl ?_))
obtain ⟨e5, e6, c4, c5, c⟩ := c.box [F6 l.1, F6 l.2] 80
refine wa c4 c5 (mb z (ab (tn (wp_seq (wrl (ml z isAgg37 (c.bc2 z) (mp (kB (i := 0) z z underlying80 sizeOf37 (by decide) (by decide)) (ml z isAgg37 (c.bc0 z) (mp (kB (i := 1) z z underlying80 sizeOf37 (by decide) (by decide)) (ml z isAgg37 (c.bc0 z) ?_))))))))))
obtain ⟨M, c6, b⟩ := bn b
refine wc call215 [F6 a1, F6 l.1, F6 l.2] z z z ((pS c.to0 c6).mono ?_)
rintro _ e7 ⟨rfl, c⟩
refine ⟨_, z, ?_⟩
replace c := c.of0
refine mb z (ab (tn (wp_ret (aZ [.bool M] results218 (rc z ai) ?_))))
replace c := c.aA.aA.ck
obtain rfl := sj b
exact ⟨M, z, z, c⟩
}
rintro _ e8 ⟨G, rfl, rfl, c⟩
refine ⟨_, z, ?_⟩
try dsimp only at b
refine ab (tn (bs b ?_ ?_))
{
intro H b
refine ar (cvb H) (wp_seq (wrl (mi z (mi z (ab (tn (wp_ret (dm (aN (aN ?_))))))))))
replace b := bo b E
refine dm (aN (aZ [I6 p] results229 (rc z ai) ?_))
replace c := c.ag.ag.ck
obtain rfl := sj b
exact ⟨p, z, z, c⟩
}
{
intro H b
refine ak (cvb H) (wp_skip (bF (tn (wrl (mi z (mi z (ab (tn ?_))))))))
replace c := c.ag.ag.ck
obtain rfl := sj b
exact ⟨_, nls, (i64.wrap (p + 1)), E, fy z, c⟩
}
}
{
intro F b
refine ak (cvb F) (wp_exit (aV (aV ?_)))
replace b := bo b E
refine de (tn (wp_seq (wrl (mi z (ab (tn (wp_ret (aZ [I6 ((-1):Int)] results229 (rc z ai) ?_))))))))
replace c := c.ag.ag.ck
obtain rfl := sj b
exact ⟨((-1):Int), z, z, c⟩
}
}
rintro _ e9 ⟨s, rfl, rfl, c⟩
refine ⟨_, z, ?_⟩
try dsimp only at b
refine mb z (mb z (ab (tn (wp_ret (aZ [.bool (decide (s ≥ 0))] results217 (rc z ai) ?_)))))
replace c := c.ag.ag.ck
obtain rfl := sj b
exact ⟨(decide (s ≥ 0)), z, z, c⟩
}
rintro _ f0 ⟨t, rfl, rfl, c⟩
refine ⟨_, z, ?_⟩
try dsimp only at b
refine mb (aJ k z z) (mb z (ab (tn (wp_ret ?_))))
obtain rfl := sj b
exact aZ [.bool t] results195 (rc z ai) ⟨z, c.bU⟩
}
}
theorem vw {a0 : ap} {k l f m : Value} {a1 : ap} {g h d i : Value} (J : Rd bY R I k a0.Gets) (K : Rd gB R I l a0.Scans) (q : Rd bY R I f a0.Puts) (L : Rd (cp .u8) R I m a0.Data) (F : Rd bY R I g a1.Gets) (G : Rd gB R I h a1.Scans) (p : Rd bY R I d a1.Puts) (H : Rd (cp .u8) R I i a1.Data) (c : St w0 w I [] R) {r : (Bool)} (b : pH a0 a1 = some r) :
  Calls prog 140 #[.agg #[U6 a0.ID.Session, U6 a0.ID.Seq, U6 a0.Epoch, k, l, f, m], .agg #[U6 a1.ID.Session, U6 a1.ID.Seq, U6 a1.Epoch, g, h, d, i]] w fun e w' => e = .returned (.bool r) ∧ St w0 w' I [] R := by {
unfold pH at b
refine c0 func140 z ntmps140 (wp_seq (wrl ?_))
obtain ⟨o, b6, M, N, c⟩ := c.box [U6 a0.ID.Session, U6 a0.ID.Seq, U6 a0.Epoch, k, l, f, m] 46
refine wa M N ?_
obtain ⟨s, b7, O, P, c⟩ := c.box [U6 a1.ID.Session, U6 a1.ID.Seq, U6 a1.Epoch, g, h, d, i] 46
refine wa O P (mb z (ab (tn ?_)))
obtain ⟨Q, b, x⟩ := ec b
refine cU (fun a w =>(mL a1 a0) () = some r ∧ fz 37 [2, 3] [Pt o 0, Pt s 0] a ∧ St w0 w I [cells o [U6 a0.ID.Session, U6 a0.ID.Seq, U6 a0.Epoch, k, l, f, m], cells s [U6 a1.ID.Session, U6 a1.ID.Seq, U6 a1.Epoch, g, h, d, i]] R) ?_ ?_
{
refine wp_seq (wrl (mf z underlying46 z sizeOf43 (ml z isAgg43 (c.bc1 z) (mz (bZ z underlying43 (ax q)) (mi z (ab (tn (wp_block ?_))))))))
obtain ⟨S, b⟩ := aX b
refine bm (fun n a w => ∃ (t : Int), cT (ln a0 a1) n t = some Q ∧ fz 37 [2, 3, 10, 11, 12] [Pt o 0, Pt s 0, f, I6 ((a0.Puts).length : Int), I6 t] a ∧ St w0 w I [cells s [U6 a1.ID.Session, U6 a1.ID.Seq, U6 a1.Epoch, g, h, d, i], cells o [U6 a0.ID.Session, U6 a0.ID.Seq, U6 a0.Epoch, k, l, f, m]] R) S ⟨0, b, fy z, c⟩ ?_
rintro b8 _ b9 ⟨t, b, ⟨c1, rfl⟩, c⟩
obtain ⟨c2, c3, rfl, b, u⟩ := ba b
dsimp only [ln] at b
refine wp_seq (wrl (mb z (ab (tn (wp_seq (bs b ?_ ?_))))))
{
intro y b
refine ar (cvb y) (wp_skip (tn (wp_seq (wp_block (wp_seq (wrl ?_))))))
obtain ⟨A, T, b⟩ := bn b
obtain ⟨U, V, W⟩ := aP T
refine mz (aC z z underlying43 sizeOf37 (ax q) U V) (ml z isAgg37 (dU q lr c W (by rintro _ rfl; rfl)) (mv (F6 _) z (ab (tn (wp_seq (wrl (mz (ay (cs := [U6 a1.ID.Session, U6 a1.ID.Seq, U6 a1.Epoch, g, h, d, i]) z isAgg46 sizeOf46 (c.eF 0 z)) (mv (F6 _) z (mv (F6 _) z ?_)))))))))
obtain ⟨c4, X, b⟩ := bn b
refine wc call194 [.agg #[U6 a1.ID.Session, U6 a1.ID.Seq, U6 a1.Epoch, g, h, d, i], F6 A, F6 A] z z z ((uy (F.mono (cC _)) (G.mono (cC _)) (p.mono (cC _)) (H.mono (cC _)) c.to0 X).mono ?_)
rintro _ c5 ⟨rfl, c⟩
refine ⟨_, z, ?_⟩
replace c := c.of0
refine mb z (bs b ?_ ?_)
{
intro j b
refine go j (go j (go j (mb (aS j z z) (ab (tn (ar z (wp_seq (wrl (mb z (ab (tn (wp_ret (dm (aN (aN ?_)))))))))))))))
replace b := bo b u
refine dm (aN ?_)
replace b := bo b x
obtain rfl := sj b
exact aZ [.bool true] results140 (rc z ai) ⟨z, c.bU⟩
}
{
intro j b
refine gg j (ay (cs := [U6 a1.ID.Session, U6 a1.ID.Seq, U6 a1.Epoch, g, h, d, i]) z isAgg46 sizeOf46 (c.eF 0 z)) (gv (F6 _) j z ?_)
obtain ⟨c6, Y, b⟩ := bn b
refine dj ((aw z z z (cvb j)).trans z) z (jv call195 z (vs := [.agg #[U6 a1.ID.Session, U6 a1.ID.Seq, U6 a1.Epoch, g, h, d, i], F6 A]) z) ((ri (F.mono (cC _)) (G.mono (cC _)) (p.mono (cC _)) (H.mono (cC _)) c.to0 Y).mono ?_)
rintro _ c7 ⟨rfl, c⟩
refine ⟨_, z, ?_⟩
replace c := c.of0
refine mb (aJ j z z) (ab (tn (bs b ?_ ?_)))
{
intro B b
refine ar (cvb B) (wp_seq (wrl (mb z (ab (tn (wp_ret (dm (aN (aN ?_)))))))))
replace b := bo b u
refine dm (aN ?_)
replace b := bo b x
obtain rfl := sj b
exact aZ [.bool true] results140 (rc z ai) ⟨z, c.bU⟩
}
{
intro B b
refine ak (cvb B) (wp_skip (bF (tn (wrl (mi z (mi z (ab (tn ?_))))))))
replace c := c.ag.ag.ck
obtain rfl := sj b
exact ⟨_, nls, (i64.wrap (t + 1)), u, fy z, c⟩
}
}
}
{
intro y b
refine ak (cvb y) (wp_exit (aV (aV ?_)))
replace b := bo b u
refine de (tn ?_)
replace c := c.ag.ck
obtain rfl := sj b
exact ⟨x, fy z, c⟩
}
}
{
rintro _ c8 ⟨b, ⟨c9, rfl⟩, c⟩
dsimp only [mL] at b
refine wp_seq (wp_seq (wrl (mf z underlying46 z sizeOf43 (ml z isAgg43 (c.bc1 z) (mz (bZ z underlying43 (ax p)) (mi z (ab (tn (wp_block ?_)))))))))
replace c := c.ag.sub
obtain ⟨Z, b⟩ := aX b
refine bm (fun n a w => ∃ (v : Int), cT (lv a1 a0) n v = some r ∧ fz 37 [2, 27, 28, 29] [Pt o 0, d, I6 ((a1.Puts).length : Int), I6 v] a ∧ St w0 w I [cells o [U6 a0.ID.Session, U6 a0.ID.Seq, U6 a0.Epoch, k, l, f, m]] R) Z ⟨0, b, fy z, c⟩ ?_
rintro d0 _ d1 ⟨v, b, ⟨d2, rfl⟩, c⟩
obtain ⟨d3, d4, rfl, b, C⟩ := ba b
dsimp only [lv] at b
refine wp_seq (wrl (mb z (ab (tn (wp_seq (bs b ?_ ?_))))))
{
intro D b
refine ar (cvb D) (wp_skip (tn (wp_seq (wp_block (wp_seq (wrl ?_))))))
obtain ⟨b0, b1, b⟩ := bn b
obtain ⟨b2, b3, b4⟩ := aP b1
refine mz (aC z z underlying43 sizeOf37 (ax p) b2 b3) (ml z isAgg37 (dU p lr c b4 (by rintro _ rfl; rfl)) (mv (F6 _) z (ab (tn (wp_seq (wrl (mz (ay (cs := [U6 a0.ID.Session, U6 a0.ID.Seq, U6 a0.Epoch, k, l, f, m]) z isAgg46 sizeOf46 (c.eF 0 z)) (mv (F6 _) z ?_))))))))
obtain ⟨d5, b5, b⟩ := bn b
refine wc call195 [.agg #[U6 a0.ID.Session, U6 a0.ID.Seq, U6 a0.Epoch, k, l, f, m], F6 b0] z z z ((ri (J.mono (cC _)) (K.mono (cC _)) (q.mono (cC _)) (L.mono (cC _)) c.to0 b5).mono ?_)
rintro _ d6 ⟨rfl, c⟩
refine ⟨_, z, ?_⟩
replace c := c.of0
refine ab (tn (bs b ?_ ?_))
{
intro E b
refine ar (cvb E) (wp_seq (wrl (mb z (ab (tn (wp_ret (dm (aN (aN ?_)))))))))
replace b := bo b C
refine dm (aN ?_)
obtain rfl := sj b
exact aZ [.bool true] results140 (rc z ai) ⟨z, c.bU⟩
}
{
intro E b
refine ak (cvb E) (wp_skip (bF (tn (wrl (mi z (mi z (ab (tn ?_))))))))
replace c := c.bu
obtain rfl := sj b
exact ⟨_, nls, (i64.wrap (v + 1)), C, fy z, c⟩
}
}
{
intro D b
refine ak (cvb D) (wp_exit (aV (aV ?_)))
replace b := bo b C
refine de (tn (wp_seq (wrl (mb z (ab (tn (wp_ret ?_)))))))
obtain rfl := sj b
exact aZ [.bool false] results140 (rc z ai) ⟨z, c.bU⟩
}
}
}
theorem jK {a0 : (List Nat)} {c : Value} (h : Rd bY R I c a0) (a : St w0 w I [] R) {r : (List Nat)} (d : eB a0 = some r) :
  Calls prog 141 #[c] w fun e w' => ∃ (i : Value), e = .returned (i) ∧ St w0 w' I [bg bY i r] R := by {
unfold eB at d
obtain ⟨hg, d⟩ := cz d
obtain rfl := sj d
have hsv := ax h
refine c0 func141 z ntmps141 (wp_seq (wrl (mv ((.slice none 0 0)) z (ab (tn (wp_seq (wp_seq (wrl (mv (c) z (mb (tX z hsv z underlying43) (ab (tn (iw (isNil c) (fun f => ?_) (fun f => ?_))))))))))))))
{
refine ar (cvb f) (wp_seq (wrl (mv ((.slice none 0 0)) z (ab (tn (wp_ret (aN (aZ [Zs] results141 (rc z ai) ?_))))))))
obtain rfl := List.eq_nil_of_length_eq_zero (qA hsv f)
exact ⟨_, z, (a.bd bY).bu⟩
}
{
refine ak (cvb f) (wp_skip (tn (wp_seq (wrl ?_))))
obtain ⟨b, j, ew, eb, a⟩ := a.ey (E := bY) (xs := []) [] 37 0 z bE.nil
refine cb (v := (.slice (some ⟨b, 0, none⟩) 0 0)) (w' := j) z z (dn (by kernel_rfl) ew eb) (mv (c) z ?_)
obtain ⟨g, k, hr, a⟩ := bI oZ underlying43 a (Src.rf a h CU) (cK hg z) 43
refine cb (v := g) (w' := k) z z (bX z z hr) (mv (g) z (ab (tn (wp_ret (aZ [g] results141 (rc z ai) ?_)))))
rw [List.nil_append] at a
exact ⟨_, z, a.bu⟩
}
}
theorem my {a0 : (List (Nat × Nat))} {c : Value} (h : Rd gB R I c a0) (a : St w0 w I [] R) {r : (List (Nat × Nat))} (d : eL a0 = some r) :
  Calls prog 142 #[c] w fun e w' => ∃ (i : Value), e = .returned (i) ∧ St w0 w' I [bg gB i r] R := by {
unfold eL at d
obtain ⟨hg, d⟩ := cz d
obtain rfl := sj d
have hsv := ax h
refine c0 func142 z ntmps142 (wp_seq (wrl (mv ((.slice none 0 0)) z (ab (tn (wp_seq (wp_seq (wrl (mv (c) z (mb (tX z hsv z underlying44) (ab (tn (iw (isNil c) (fun f => ?_) (fun f => ?_))))))))))))))
{
refine ar (cvb f) (wp_seq (wrl (mv ((.slice none 0 0)) z (ab (tn (wp_ret (aN (aZ [Zs] results142 (rc z ai) ?_))))))))
obtain rfl := List.eq_nil_of_length_eq_zero (qA hsv f)
exact ⟨_, z, (a.bd gB).bu⟩
}
{
refine ak (cvb f) (wp_skip (tn (wp_seq (wrl ?_))))
obtain ⟨b, j, ew, eb, a⟩ := a.ey (E := gB) (xs := []) [] 80 0 z bE.nil
refine cb (v := (.slice (some ⟨b, 0, none⟩) 0 0)) (w' := j) z z (dn (by kernel_rfl) ew eb) (mv (c) z ?_)
obtain ⟨g, k, hr, a⟩ := bI AB underlying44 a (Src.rf a h DM) (cK hg z) 44
refine cb (v := g) (w' := k) z z (bX z z hr) (mv (g) z (ab (tn (wp_ret (aZ [g] results142 (rc z ai) ?_)))))
rw [List.nil_append] at a
exact ⟨_, z, a.bu⟩
}
}
theorem iY {a0 : (List Int)} {c : Value} (h : Rd (cp .u8) R I c a0) (a : St w0 w I [] R) {r : (List Int)} (d : dP a0 = some r) :
  Calls prog 143 #[c] w fun e w' => ∃ (i : Value), e = .returned (i) ∧ St w0 w' I [bg (cp .u8) i r] R := by {
unfold dP at d
obtain ⟨hg, d⟩ := cz d
obtain rfl := sj d
have hsv := ax h
refine c0 func143 z ntmps143 (wp_seq (wrl (mv ((.slice none 0 0)) z (ab (tn (wp_seq (wp_seq (wrl (mv (c) z (mb (tX z hsv z underlying22) (ab (tn (iw (isNil c) (fun f => ?_) (fun f => ?_))))))))))))))
{
refine ar (cvb f) (wp_seq (wrl (mv ((.slice none 0 0)) z (ab (tn (wp_ret (aN (aZ [Zs] results143 (rc z ai) ?_))))))))
obtain rfl := List.eq_nil_of_length_eq_zero (qA hsv f)
exact ⟨_, z, (a.bd (cp .u8)).bu⟩
}
{
refine ak (cvb f) (wp_skip (tn (wp_seq (wrl ?_))))
obtain ⟨b, j, ew, eb, a⟩ := a.ey (E := (cp .u8)) (xs := []) [] 5 0 z bE.nil
refine cb (v := (.slice (some ⟨b, 0, none⟩) 0 0)) (w' := j) z z (dn (by kernel_rfl) ew eb) (mv (c) z ?_)
obtain ⟨g, k, hr, a⟩ := bI uV underlying22 a (Src.rf a h mO) (cK hg z) 22
refine cb (v := g) (w' := k) z z (bX z z hr) (mv (g) z (ab (tn (wp_ret (aZ [g] results143 (rc z ai) ?_)))))
rw [List.nil_append] at a
exact ⟨_, z, a.bu⟩
}
}
theorem mF {a0 : (List ap)} {d : Value} {a1 : Int} {a2 : (List ap)} {g : Value} (c : St w0 w I [bg bt d a0, bg bt g a2] R) {r : (List ap)} (q : eP a0 a1 a2 = some r) :
  Calls prog 144 #[d, I6 a1, g] w fun e w' => ∃ (x : Value), e = .returned (x) ∧ St w0 w' I [bg bt x r] R := by {
unfold eP at q
obtain ⟨hg, q⟩ := cz q
obtain rfl := sj q
obtain ⟨A, S, hrm⟩ := qJ hg
obtain ⟨k, rfl⟩ := Int.eq_ofNat_of_zero_le A
have hsm := qM hrm
have hk : k ≤ a0.length := by omega
have hs : ∀ w : World, (sizeOf 46).run prog w = .ok bt.sz w := sizeOf46
have y : 0 < bt.sz := Nat.le_of_ble_eq_true rfl
have hov : ∀ (args : Array Value) (w : World), (callFunc 196 args).run prog w = (Extern.SlicesOverlaps.overlaps #[125, 125] #[4] args >>= fun v => (pure (.value v) : Sem Next)).run prog w := by intro args w; kernel_rfl
obtain ⟨css, hr, c⟩ := c.cB
replace c := c.ag
obtain ⟨dss, hq, c⟩ := c.cB
replace c := c.ag
obtain ⟨n, hn⟩ : ∃ n, css.length = n := ⟨_, rfl⟩
obtain ⟨m, hm'⟩ : ∃ m, dss.length = m := ⟨_, rfl⟩
have hln : a0.length = n := hr.1.trans hn
have hlm : a2.length = m := hq.1.trans hm'
rw [hln] at hsm hk
rw [hlm] at hsm
have hsv : di d n := by have := c.cG.2; rwa [hn] at this
have hsq : di g m := by have := c.ag.cG.2; rwa [hm'] at this
have hoc := hr.sY
have hoq := hq.sY
have s := wrap_add (a := n) (b := m) (by omega)
have t := wrap_add (a := k) (b := m) (by omega)
have B := pC (a := n + m) (b := k) (by omega) (by omega)
have hrb := cK (b := 120) hrm rfl
rw [hln, hlm] at hrb
refine c0 func144 z ntmps144 (wp_seq (wrl (mv ((.slice none 0 0)) z (ab (tn (wp_seq (wrl (mv (d) z (mi z (mv ((dl bt.sz d k n)) (cE (lo := (k : Nat)) (hi := (n : Nat)) underlying125 hs z hsv (by omega) (by omega) (by omega) .i64 .i64 (.inl z) (.inr ⟨z, z⟩)) (ab (tn (wp_seq (wrl (mv (g) z (mz (bZ z underlying125 hsq) (mi z (ab (tn (wp_seq (wp_seq (wrl (mi z (mb z (ab (tn (iw ((m : Int) == 0) (fun j => ?_) (fun j => ?_))))))))))))))))))))))))))))
{
refine ar (cvb j) (wp_seq (wrl (mv (d) z (mv (d) z (ab (tn (wp_ret (aN (aZ [d] results144 (rc z ai) ?_)))))))))
rw [sD (by rw [hlm]; exact j)]
exact ⟨_, z, (c.bh hr).bu⟩
}
{
refine ak (cvb j) ?_
have C : m ≠ 0 := fun h => by rw [h] at j; cases j
have D : dss ≠ [] := fun h => C (by rw [← hm', h]; rfl)
refine wp_skip (tn (wp_seq (wrl (mv (d) z (mz (bZ z underlying125 hsv) (mi z (ab (tn (wp_seq (wp_seq (wrl (mi z (mi z (mb z (ab (tn (iw ((k : Int) == (n : Int)) (fun o => ?_) (fun o => ?_))))))))))))))))))
{
refine ar (cvb o) (wp_seq (wrl (mv (d) z (mv (g) z ?_))))
replace c := ((c.bh hr).ag.bh hq).ag
obtain ⟨f, u, hra, c⟩ := bI qw underlying125 c c.ju (cK hrm z) 125
refine cb (v := f) (w' := u) z z (bX z z hra) (mv (f) z (ab (tn (wp_ret (aN (aZ [f] results144 (rc z ai) ?_))))))
rw [sK (by rw [hln]; exact o)]
exact ⟨_, z, c.bu⟩
}
{
refine ak (cvb o) ?_
have hkn : k ≠ n := fun h => by rw [h] at o; simp at o
have E : 0 < n := by omega
have F : css ≠ [] := fun h => by rw [h] at hn; simp at hn; omega
refine wp_skip (tn (wp_seq (wp_seq (wrl (mi z (mi z (mi (dy s z) (mv (d) z (mi (xa z underlying125 hsv) (mb z (ab (tn (iw (decide (((n + m : Nat) : Int) > (qL d : Int))) (fun p => ?_) (fun p => ?_))))))))))))))
{
refine ar (cvb p) (wp_seq (wrl (mv (d) z (mi z (mv ((dl bt.sz d 0 k)) (cE (lo := (0 : Nat)) (hi := (k : Nat)) underlying125 hs z hsv (by omega) (by omega) (by omega) .i64 .i64 (.inr ⟨z, z⟩) (.inl z)) (mi z (mi z (mi (dy s z) (mi z (mi (dy B z) ?_))))))))))
obtain ⟨f, u, hra, i, zss, hzl, c⟩ := qI qw underlying3 c k (n + m - k) (by omega) (by have := of_decide_eq_true p; omega) (by rw [show k + (n + m - k) = n + m by omega]; exact hrb) y 125
rw [show k + (n + m - k) = n + m by omega] at i
refine cb (v := f) (w' := u) z z (bX z z hra) (mv (f) z (ab (tn (wp_seq (wrl (mv (f) z (mi z (mv ((dl bt.sz f k (n + m))) (cE (lo := (k : Nat)) (hi := ((n + m) : Nat)) underlying125 hs z i (by omega) (by omega) (by omega) .i64 .i64 (.inl z) (.inr ⟨z, z⟩)) (mv (g) z ?_)))))))))
obtain ⟨G, H, c⟩ := dk (P := prog) (t2 := 125) (ty := 3) underlying125 hs c c.aA k m (N := n + m) (by first | omega | (simp only [List.length_append, List.length_take, List.length_drop]; omega)) (by first | omega | (simp only [List.length_append, List.length_take, List.length_drop]; omega)) (by omega) (by first | omega | (simp only [List.length_append, List.length_take, List.length_drop]; omega)) (dV hoq _)
refine cb (v := .int .i64 (m : Nat)) (w' := G) z z (iF z z H) (ab (tn (wp_seq (rg c 9 [0, 0, 0, 6, 15, 0, 0, 96, 255] [] mixed (sz (f) 0 z z (si 1 z z (si 2 z z (sh (I6 _) 3 z (fun w c => dy t z) (sh ((dl bt.sz f (k + m) (n + m))) 4 z (fun w c => cE (lo := ((k + m) : Nat)) (hi := ((n + m) : Nat)) underlying125 hs z i (by omega) (by omega) (by omega) .i64 .i64 (.inl z) (.inr ⟨z, z⟩)) (sz (d) 5 z z (si 6 z z (sh ((dl bt.sz d k n)) 7 z (fun w c => cE (lo := (k : Nat)) (hi := (n : Nat)) underlying125 hs z hsv (by omega) (by omega) (by omega) .i64 .i64 (.inl z) (.inr ⟨z, z⟩)) (e1 8 z z fun w c => ?_)))))))))))))
obtain ⟨J, K, c⟩ := dk (P := prog) (t2 := 125) (ty := 3) underlying125 hs c (c.ag.ib (l := k) (h := n) hk (by omega)) (k + m) (n - k) (N := n + m) (by first | omega | (simp only [List.length_append, List.length_take, List.length_drop]; omega)) (by first | omega | (simp only [List.length_append, List.length_take, List.length_drop]; omega)) (by omega) (by first | omega | (simp only [List.length_append, List.length_take, List.length_drop]; omega)) (dV (iW (dV hoc _) _) _)
refine bW (v := .int .i64 ((n - k) : Nat)) (w' := J) z (iF z z K) (w0n c (bp ?_))
intro w c
refine tn (wp_seq (wrl (mv (f) z (mv (f) z (ab (tn (wp_ret (aN (aZ [f] results144 (rc z ai) ?_)))))))))
rw [pw hn hm' hk hzl] at c
exact ⟨_, z, (c.bh ((hr.take k).app (hq.app (hr.drop k)))).bu⟩
}
{
refine ak (cvb p) ?_
have hup : n + m ≤ qL d := by have := of_decide_eq_false p; omega
obtain ⟨ess, hel, hem, hst'⟩ := c.uE (n + m) (by omega) hup F
rw [show n + m - css.length = m by omega] at hel
have i : di (upV d (n + m)) (n + m) := by have := hst'.cG.2; rwa [List.length_append, hn, hel] at this
clear c
have c := hst'
clear hst'
refine wp_skip (tn (wp_seq (wrl (mv (d) z (mi z (mi z (mi (dy s z) (mv ((upV d (n + m))) (pj underlying125 hs z hsv z hup E) (mv ((upV d (n + m))) z (ab (tn (wp_seq (wp_seq (wrl (mv (g) z (mv ((upV d (n + m))) z (mi z (mi z (mi (dy t z) (mv ((dl bt.sz (upV d (n + m)) (k + m) (n + m))) (cE (lo := ((k + m) : Nat)) (hi := ((n + m) : Nat)) underlying125 hs z i (by omega) (by omega) (by omega) .i64 .i64 (.inl z) (.inr ⟨z, z⟩)) (mb (wZ z z z (hov _) (mj z underlying125 hs c.ag (k + m) (N := n + m) (by rw [List.length_append]; omega) (by omega) D y)) (mb z (ab (tn (ar z (wp_seq (rg c 9 [0, 0, 0, 6, 15, 0, 0, 96, 255] [] mixed (sz ((upV d (n + m))) 0 z z (si 1 z z (si 2 z z (sh (I6 _) 3 z (fun w c => dy t z) (sh ((dl bt.sz (upV d (n + m)) (k + m) (n + m))) 4 z (fun w c => cE (lo := ((k + m) : Nat)) (hi := ((n + m) : Nat)) underlying125 hs z i (by omega) (by omega) (by omega) .i64 .i64 (.inl z) (.inr ⟨z, z⟩)) (sz ((upV d (n + m))) 5 z z (si 6 z z (sh ((dl bt.sz (upV d (n + m)) k (n + m))) 7 z (fun w c => cE (lo := (k : Nat)) (hi := ((n + m) : Nat)) underlying125 hs z i (by omega) (by omega) (by omega) .i64 .i64 (.inl z) (.inr ⟨z, z⟩)) (e1 8 z z fun w c => ?_))))))))))))))))))))))))))))))))))))
obtain ⟨L, M, c⟩ := dk (P := prog) (t2 := 125) (ty := 3) underlying125 hs c (c.ib (l := k) (h := n + m) (by omega) (by rw [List.length_append]; omega)) (k + m) (n - k) (N := n + m) (by first | omega | (simp only [List.length_append, List.length_take, List.length_drop]; omega)) (by first | omega | (simp only [List.length_append, List.length_take, List.length_drop]; omega)) (by omega) (by first | omega | (simp only [List.length_append, List.length_take, List.length_drop]; omega)) (by rw [qq hn hm' hk hel]; exact iW hoc _)
refine bW (v := .int .i64 ((n - k) : Nat)) (w' := L) z (iF z z M) (w0n c (bp ?_))
intro w c
refine tn (wp_seq (wrl (mv ((upV d (n + m))) z (mi z (mv ((dl bt.sz (upV d (n + m)) k (n + m))) (cE (lo := (k : Nat)) (hi := ((n + m) : Nat)) underlying125 hs z i (by omega) (by omega) (by omega) .i64 .i64 (.inl z) (.inr ⟨z, z⟩)) (mv (g) z ?_))))))
obtain ⟨O, Q, c⟩ := dk (P := prog) (t2 := 125) (ty := 3) underlying125 hs c c.ag k m (N := n + m) (by first | omega | (simp only [List.length_append, List.length_take, List.length_drop]; omega)) (by first | omega | (simp only [List.length_append, List.length_take, List.length_drop]; omega)) (by omega) (by first | omega | (simp only [List.length_append, List.length_take, List.length_drop]; omega)) (dV hoq _)
refine cb (v := .int .i64 (m : Nat)) (w' := O) z z (iF z z Q) (ab (tn (wp_seq (wrl (mv ((upV d (n + m))) z (mv ((upV d (n + m))) z (ab (tn (wp_ret (aN (aZ [(upV d (n + m))] results144 (rc z ai) ?_)))))))))))
rw [pu hn hm' hk hel] at c
exact ⟨_, z, (c.bh ((hr.take k).app (hq.app (hr.drop k)))).bu⟩
}
}
}
}
end Go.Proofs.YtgnkkopjkgdieaaGreat
