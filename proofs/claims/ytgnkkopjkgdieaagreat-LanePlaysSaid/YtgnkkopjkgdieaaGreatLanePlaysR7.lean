/- A part of the proof. -/
import Derived.Test.YtgnkkopjkgdieaaGreatLanePlaysR6
set_option linter.unusedVariables false
set_option linter.unusedSimpArgs false
set_option maxRecDepth 100000
set_option maxHeartbeats 4000000
namespace Go.Proofs.YtgnkkopjkgdieaaGreat
open Go Go.V
open _root_.Go.Proofs.Tryz IntKind
variable {w0 w : World} {I : HL} {R : SP}
attribute [local irreducible] wpList Code.wp wpQuiet Calls bodyPost Oper.wp wpS Nx gI YieldsIn
theorem rO {a0 : (List cw)} {d : Value} {a1 a2 : Int} {a3 : bw} {j k : Value} (g : Ro eC I d a0) (l : Ro aD I j a3.Gots) (m : Ro (dJ az) I k a3.Scans) (b : St w0 w I [] R) {r : ((List cw) × Int)} (c : nh a0 a1 a2 a3 = some r) :
  Calls prog 151 #[d, U6 a1, U6 a2, .agg #[I6 a3.E, U6 a3.Epoch, U6 a3.Index, j, k]] w fun e w' => ∃ (I' : HL) (D : Value), e = .returned (.tuple #[D, I6 r.2]) ∧ I.le I' ∧ Ro eC I' D r.1 ∧ St w0 w' I' [] R := by {
unfold nh at c
refine c0 func151 z ntmps151 ?_
have i := HL.le.refl I
refine wp_seq (wrl ?_)
obtain ⟨c1, c2, N, O, b⟩ := b.box [I6 a3.E, U6 a3.Epoch, U6 a3.Index, j, k] 33
refine wa N O (mv ((.slice none 0 0)) z (mi z (ab (tn (wp_seq (wp_seq (wrl (mi z (mb z (ab (tn (bs c ?_ ?_))))))))))))
{
intro t c
refine ar (cvb t) (wp_seq (wrl (mv (d) z (mv (d) z (mi z (ab (tn (wp_ret (aN ?_)))))))))
obtain rfl := sj c
exact aZ [d, I6 1] results151 (rc z (rc z ai)) ⟨_, d, z, i, g, b.bU⟩
}
{
intro t c
refine ak (cvb t) (wp_skip (tn (wp_seq (wp_seq (wrl (mv (d) z (mi z ?_)))))))
obtain ⟨P, Q, c⟩ := bn c
refine wc call93 [d, U6 a1] z z z ((lW g b.to0 Q).mono ?_)
rintro _ c3 ⟨I737, c4, c5, rfl, s, S, T, b⟩
refine ⟨_, z, ?_⟩
replace b := b.of0
replace g := g.mono (ro_le s)
replace l := l.mono (ro_le s)
replace m := m.mono (ro_le s)
replace i := i.trans s
refine wv (.int .u64 P.Seq) z z (by obtain ⟨_, _, hv_, _⟩ := (ah T); rw [hv_]; obtain ⟨_, _, hv_, _⟩ := (ah S); rw [hv_]; kernel_rfl) (mi z (mb z (ab (tn (bs c ?_ ?_)))))
{
intro u c
refine ar (cvb u) (wp_seq (wrl (mv (d) z (mv (d) z (mi z (ab (tn (wp_ret (aN ?_)))))))))
obtain rfl := sj c
exact aZ [d, I6 10] results151 (rc z (rc z ai)) ⟨_, d, z, i, g, b.bU⟩
}
{
intro u c
refine ak (cvb u) (wp_skip (tn (wp_seq (wrl (mi z (mi z (mz (ay (cs := [I6 a3.E, U6 a3.Epoch, U6 a3.Index, j, k]) z isAgg33 sizeOf33 (b.eF 0 z)) (wv (.agg #[U6 a1, U6 a2, I6 a3.E, U6 a3.Epoch, U6 a3.Index, j, k]) z z (by obtain ⟨_, _, hv_, _⟩ := (ah m); rw [hv_]; obtain ⟨_, _, hv_, _⟩ := (ah l); rw [hv_]; kernel_rfl) ?_))))))))
obtain ⟨x, U, V, W, b⟩ := b.ey (E := eC) (xs := [({ Session := a1, Seq := a2, R := a3 } : cw)]) [[U6 a1, U6 a2, I6 a3.E, U6 a3.Epoch, U6 a3.Index, j, k]] 164 1 z (bE.cons ⟨_, _, z, l, m, oS (ah l), oS (ah m)⟩ bE.nil)
refine cb (v := (.slice (some ⟨x, 0, none⟩) 1 1)) (w' := U) z z (dn (by kernel_rfl) V W) (mv ((.slice (some ⟨x, 0, none⟩) 1 1)) z (ab (tn (wp_seq (wp_seq (wrl (mi z (ab (tn (wp_block ?_))))))))))
replace b := b.ag.sub
obtain ⟨X, c⟩ := aX c
refine bm (fun n a w => ∃ (p : (List cw)) (q : Int) (h : Value), cT (iN a0 a1) n (p, q) = some r ∧ fz 48 [0, 1, 10, 11] [d, U6 a1, h, I6 q] a ∧ St w0 w I737 [bg eC h p] R) X ⟨[({ Session := a1, Seq := a2, R := a3 } : cw)], 0, (.slice (some ⟨x, 0, none⟩) 1 1), c, fy z, b⟩ ?_
rintro c6 _ c7 ⟨p, q, h, c, ⟨c8, rfl⟩, b⟩
obtain ⟨c9, d0, rfl, c, y⟩ := ba c
dsimp only [iN] at c
refine wp_seq (wp_seq (wrl (mi z (mv (d) z (mz (bZ z underlying126 (ah g)) (mb z (ab (tn (bs c ?_ ?_)))))))))
{
intro A c
refine ar (cvb A) (wp_skip (tn (wp_seq (wp_block (wp_seq (wrl (mv (d) z (mi z ?_))))))))
obtain ⟨f, Y, c⟩ := bn c
obtain ⟨F, G, Z⟩ := aP Y
refine mz (aC z z underlying126 sizeOf164 (ah g) F G) (mz (aW z underlying164 z sizeOf26 z) ?_)
obtain ⟨d1, b0, H⟩ := Ro.jZ g Z
obtain ⟨J, K, rfl, L, M, -⟩ := b0
refine ml z isAgg26 ((H lr b) 0 _ z) (mi z (mb z (ab (tn (bs c ?_ ?_)))))
{
intro B c
refine ar (cvb B) (wrl (mv (h) z (mv (d) z (mi z (mz (aC z z underlying126 sizeOf164 (ah g) F G) (mz (ay (cs := [U6 f.Session, U6 f.Seq, I6 f.R.E, U6 f.R.Epoch, U6 f.R.Index, J, K]) z isAgg164 sizeOf164 (dS (o := 0) (H lr b) z)) ?_))))))
obtain ⟨b1, b2, b3, b4, b⟩ := b.ey (E := eC) (xs := [f]) [[U6 f.Session, U6 f.Seq, I6 f.R.E, U6 f.R.Epoch, U6 f.R.Index, J, K]] 164 1 z (bE.cons ⟨_, _, z, L, M, oS (ah L), oS (ah M)⟩ bE.nil)
refine cb (v := (.slice (some ⟨b1, 0, none⟩) 1 1)) (w' := b2) z z (dn (by kernel_rfl) b3 b4) ?_
obtain ⟨b5, c⟩ := cz c
replace b := b.ag
obtain ⟨C, b6, b7, b⟩ := bI CP underlying126 b b.ju (cK b5 z) 126
refine cb (v := C) (w' := b6) z z (bX z z b7) (mv (C) z (ab (bF (tn (wrl (mi z (mi z (mi z (ab (tn ?_))))))))))
replace b := b.bu
obtain rfl := sj c
exact ⟨_, nls, (p ++ ([f])), (i64.wrap (q + 1)), C, y, fy z, b⟩
}
{
intro B c
refine ak (cvb B) (wp_skip (bF (tn (wrl (mi z (mi z (mi z (ab (tn ?_)))))))))
replace b := b.bu
obtain rfl := sj c
exact ⟨_, nls, p, (i64.wrap (q + 1)), h, y, fy z, b⟩
}
}
{
intro A c
refine ak (cvb A) (wp_exit (aV (aV ?_)))
replace c := bo c y
refine de (tn (wp_seq (wrl (mv (h) z (mv (h) z (mi z (ab (tn (wp_ret ?_)))))))))
obtain ⟨I855, b8, b9, b⟩ := b.cN
replace i := i.trans b8
obtain rfl := sj c
exact aZ [h, Zi] results151 (rc z (rc z ai)) ⟨_, h, z, i, b9, b.bU⟩
}
}
}
}
theorem nu {a0 : aj} {p0 : Value} {a1 : bO} (b : St w0 w I [aR p0 a0] R) {r : (aj)} (c : fI a0 a1 = some r) :
  Calls prog 74 #[p0, .agg #[U6 a1.Session, U6 a1.Seq]] w fun e w' => e = .returned (.tuple #[]) ∧ St w0 w' I [aR p0 r] R := by {
unfold fI at c
refine c0 func74 z ntmps74 (wp_seq (wrl ?_))
obtain ⟨B, c7, J, K, b⟩ := b.box [U6 a1.Session, U6 a1.Seq] 28
refine wa J K (ab (tn (wp_seq (wrl (mv ((.slice none 0 0)) z (ab (tn ?_)))))))
obtain ⟨L, c, M⟩ := bn c
refine cU (fun a w => ∃ (j : (List bC)) (f : Value), (js a0) j = some r ∧ fz 39 [0, 4] [p0, f] a ∧ St w0 w I [aR p0 a0, bg aM f j] R) ?_ ?_
{
refine wp_seq (wrl (mi z (ab (tn (wp_block ?_)))))
replace b := b.bd aM
obtain ⟨N, c⟩ := aX c
refine bm (fun n a w => ∃ (g : (List bC)) (i : Int) (h : Value), cT (fm a0 a1) n (g, i) = some L ∧ fz 39 [0, 3, 4, 5] [p0, Pt B 0, h, I6 i] a ∧ St w0 w I [bg aM h g, cells B [U6 a1.Session, U6 a1.Seq], aR p0 a0] R) N ⟨[], 0, Zs, c, fy z, b⟩ ?_
rintro c8 _ c9 ⟨g, i, h, c, ⟨d0, rfl⟩, b⟩
obtain ⟨d1, d2, rfl, c, k⟩ := ba c
dsimp only [fm] at c
refine wp_seq (wp_seq (wrl (mi z (mv (p0) z ?_))))
obtain ⟨l, d3, d4, d5, d6, d7, d8, d9, ⟨rfl, m, p, q, s⟩, O⟩ := bl b.aA
have b := O
refine mp z (mf z underlying130 z sizeOf65 (ml z isAgg65 (b.bc0 z) (mz (bZ z underlying65 b.sv1) (mb z (ab (tn (bs c ?_ ?_)))))))
{
intro u c
refine ar (cvb u) (wp_skip (tn (wp_seq (wp_block (wp_seq ?_)))))
replace b := b.ag
obtain ⟨e0, x, b⟩ := b.cB
refine dO b mixed (by kernel_rfl) (qz (Pt _ _) z (qz (Pt _ _) z (qh _ (fun w b => aT z underlying130 z sizeOf65 z) (qh _ (fun w b => aq z isAgg65 (b.bc1 z)) (qz (I6 _) z ?_)))))
obtain ⟨d, Q, c⟩ := bn c
obtain ⟨C, D, F⟩ := aP Q
refine qh _ (fun w b => aC z z underlying65 sizeOf89 (b.rsv 0 z x) C D) (qh _ (fun w b => aW z underlying89 z sizeOf28 z) ?_)
obtain ⟨e1, S, T⟩ := bE.get x F
obtain ⟨e2, rfl, e3, -⟩ := T
refine qh _ (fun w b => ay (cs := [U6 d.ID.Session, U6 d.ID.Seq]) z isAgg28 sizeOf28 (dS (o := 0) (b.uG 0 z S) z)) (qh _ (fun w b => ay (cs := [U6 a1.Session, U6 a1.Seq]) z isAgg28 sizeOf28 (b.xu 0 z)) (qh (.bool _) (fun w b => rM z z (by kernel_rfl) underlying28 (by kernel_rfl) (by kernel_rfl) (by kernel_rfl) underlying26 underlying26 (fun _ _ _ => by kernel_rfl) (fun _ _ _ => by kernel_rfl)) (fO ?_)))
intro w b
replace b := b.bh x
refine tn (bs c ?_ ?_)
{
intro y c
refine ar (cvb y) (wrl (mv (h) z (mp z (mp z (mf z underlying130 z sizeOf65 (ml z isAgg65 (b.bc1 z) (mi z (mz (aC z z underlying65 sizeOf89 b.sv0 C D) ?_))))))))
obtain ⟨e4, U, V⟩ := b.og0 F
obtain ⟨G, rfl, H, -⟩ := U
refine mz (ay (cs := [U6 d.ID.Session, U6 d.ID.Seq, I6 d.E, U6 d.Epoch, U6 d.Index, U6 d.Shards, G]) z isAgg89 sizeOf89 (dS (o := 0) V z)) ?_
obtain ⟨W, X, Y, Z, b⟩ := b.ey (E := aM) (xs := [d]) [[U6 d.ID.Session, U6 d.ID.Seq, I6 d.E, U6 d.Epoch, U6 d.Index, U6 d.Shards, G]] 89 1 z (bE.cons ⟨_, z, H, oS (ah H)⟩ bE.nil)
refine cb (v := (.slice (some ⟨W, 0, none⟩) 1 1)) (w' := X) z z (dn (by kernel_rfl) Y Z) ?_
obtain ⟨b0, c⟩ := cz c
replace b := b.bc
obtain ⟨A, b1, b2, b⟩ := bI sE underlying65 b b.ju (cK b0 z) 65
refine cb (v := A) (w' := b1) z z (bX z z b2) (mv (A) z (ab (bF (tn (wrl (mi z (mi z (mi z (ab (tn ?_))))))))))
replace b := (al (Pt l 0) a0 b.bc.bc.bf.bc ⟨z, m, p, q, s⟩).au.aA.dF
obtain rfl := sj c
exact ⟨_, nls, (g ++ ([d])), (i64.wrap (i + 1)), A, k, fy z, b⟩
}
{
intro y c
refine ak (cvb y) (wp_skip (bF (tn (wrl (mi z (mi z (mi z (ab (tn ?_)))))))))
replace b := (al (Pt l 0) a0 b.au.au.aA.au ⟨z, m, p, q, s⟩).aA.aA.dF
obtain rfl := sj c
exact ⟨_, nls, g, (i64.wrap (i + 1)), h, k, fy z, b⟩
}
}
{
intro u c
refine ak (cvb u) (wp_exit (aV (aV ?_)))
replace c := bo c k
refine de (tn ?_)
replace b := (al (Pt l 0) a0 b.au.au.au.au ⟨z, m, p, q, s⟩).ag.ag.ck
obtain rfl := sj c
exact ⟨g, h, M, fy z, b⟩
}
}
{
rintro _ e5 ⟨j, f, c, ⟨e6, rfl⟩, b⟩
dsimp only [js] at c
refine wrl (mv (p0) z (mv (f) z ?_))
obtain ⟨b3, b4, b5, b6, b7, e7, b8, b9, ⟨rfl, c1, c2, c3, c4⟩, c5⟩ := bl b
have b := c5
refine mp z (mf z underlying130 z sizeOf65 ?_)
obtain ⟨e8, c6, b⟩ := b.cW (P := prog) (t := 65) (cs' := [I6 a0.Wide, U6 a0.Epoch, b4, b5, b6, b7, f, b8, b9]) 6 f (oS b.sv4) sizeOf65 z z
refine aE z z (aG c6) (ab ?_)
replace b := al (Pt b3 0) (({ a0 with Open := j } : aj)) b.au.au.bf.au ⟨z, c1, c2, c3, c4⟩
obtain rfl := sj c
exact vM (vs := []) results74 ai ⟨z, b.bu⟩
}
}
theorem rb {a0 : aj} {p0 : Value} {a1 : Int} {a2 : aH} {D F G H J i j l : Value} (j6 : Ro bY I D a2.Hold.Gets) (j7 : Ro gB I F a2.Hold.Scans) (j8 : Ro bY I G a2.Hold.Puts) (j9 : Ro (cp .u8) I H a2.Hold.Data) (k0 : Ro cI I J a2.Writes) (W : Ro aD I i a2.R.Gots) (X : Ro (dJ az) I j a2.R.Scans) (U : Ro cM I l a2.Parts) (b : St w0 w I [aR p0 a0] R) {r : (bj × aj)} (c : gS a0 a1 a2 = some r) :
  Calls prog 73 #[p0, U6 a1, .agg #[U1 a2.Kind, U6 a2.ID.Session, U6 a2.ID.Seq, U6 a2.Epoch, U6 a2.Index, I6 a2.E, U6 a2.Hold.ID.Session, U6 a2.Hold.ID.Seq, U6 a2.Hold.Epoch, D, F, G, H, J, I6 a2.R.E, U6 a2.R.Epoch, U6 a2.R.Index, i, j, U6 a2.Shards, l, U6 a2.Rule.ID, I6 a2.Rule.From, I6 a2.Rule.To, F6 a2.Rule.Lo, F6 a2.Rule.Hi, U6 a2.Rule.Authority, I6 a2.Rule.Quota, .bool a2.On]] w fun e w' => ∃ (I' : HL) (c6 : Value) (c7 : Value), e = .returned (.agg #[U1 r.1.Kind, U6 r.1.ID.Session, U6 r.1.ID.Seq, I6 r.1.R.E, U6 r.1.R.Epoch, U6 r.1.R.Index, c6, c7]) ∧ I.le I' ∧ Ro aD I' c6 r.1.R.Gots ∧ Ro (dJ az) I' c7 r.1.R.Scans ∧ St w0 w' I' [aR p0 r.2] R := by {
unfold gS at c
refine c0 func73 z ntmps73 ?_
have n := HL.le.refl I
refine wp_seq (wrl ?_)
obtain ⟨o, k1, d4, d5, b⟩ := b.box [U1 a2.Kind, U6 a2.ID.Session, U6 a2.ID.Seq, U6 a2.Epoch, U6 a2.Index, I6 a2.E, U6 a2.Hold.ID.Session, U6 a2.Hold.ID.Seq, U6 a2.Hold.Epoch, D, F, G, H, J, I6 a2.R.E, U6 a2.R.Epoch, U6 a2.R.Index, i, j, U6 a2.Shards, l, U6 a2.Rule.ID, I6 a2.Rule.From, I6 a2.Rule.To, F6 a2.Rule.Lo, F6 a2.Rule.Hi, U6 a2.Rule.Authority, I6 a2.Rule.Quota, .bool a2.On] 49
refine wa d4 d5 ?_
obtain ⟨p, k2, d6, d7, b⟩ := b.box [Zb, Zu, Zu, Zi, Zu, Zu, Zs, Zs] 35
refine wa d6 d7 (ab (tn (wp_seq (wrl (mf z underlying49 z sizeOf33 (mz (ay (cs := [I6 a2.R.E, U6 a2.R.Epoch, U6 a2.R.Index, i, j]) z isAgg33 sizeOf33 (b.eK 14 z)) ?_))))))
obtain ⟨q, k3, d8, d9, b⟩ := b.box [Zi, Zu, Zu, Zs, Zs] 33
refine wa d8 d9 ?_
obtain ⟨k4, e0, b⟩ := b.bx [I6 a2.R.E, U6 a2.R.Epoch, U6 a2.R.Index, i, j] sizeOf33 z (oJ 3 z (oC (oS (ah W)) (oC (oS (ah X)) oN))) (by kernel_rfl)
refine aE z z (aG e0) (ab (tn (wp_seq (wrl (mf z underlying49 z sizeOf26 (ml z isAgg26 (b.bc2 z) (mf z underlying33 z sizeOf26 ?_)))))))
obtain ⟨k5, e2, b⟩ := b.by_ [I6 a2.R.E, U6 a2.Epoch, U6 a2.R.Index, i, j] 1 (.int .u64 a2.Epoch) sizeOf26 z (oC z oN) (by kernel_rfl)
refine aE z z (aG e2) (ab (tn (wp_seq (wrl (mi z (mf z underlying33 z sizeOf26 ?_))))))
obtain ⟨k6, e3, b⟩ := b.by_ [I6 a2.R.E, U6 a2.Epoch, U6 a1, i, j] 2 (.int .u64 a1) sizeOf26 z (oC z oN) (by kernel_rfl)
refine aE z z (aG e3) (ab (tn ?_))
obtain ⟨k7, c, Y⟩ := bn c
refine cU (fun a w => ∃ (d : Int) (K : (List ct)) (L : (List (List bQ))) (g : Value) (h : Value), (gJ a2 a0 a1) (d, K, L) = some r ∧ fz 120 [0, 1, 5, 6, 7] [p0, U6 a1, Pt o 0, Pt p 0, Pt q 0] a ∧ Ro aD I g K ∧ Ro (dJ az) I h L ∧ St w0 w I [aR p0 a0, cells o [U1 a2.Kind, U6 a2.ID.Session, U6 a2.ID.Seq, U6 a2.Epoch, U6 a2.Index, I6 a2.E, U6 a2.Hold.ID.Session, U6 a2.Hold.ID.Seq, U6 a2.Hold.Epoch, D, F, G, H, J, I6 a2.R.E, U6 a2.R.Epoch, U6 a2.R.Index, i, j, U6 a2.Shards, l, U6 a2.Rule.ID, I6 a2.Rule.From, I6 a2.Rule.To, F6 a2.Rule.Lo, F6 a2.Rule.Hi, U6 a2.Rule.Authority, I6 a2.Rule.Quota, .bool a2.On], cells p [Zb, Zu, Zu, Zi, Zu, Zu, Zs, Zs], cells q [I6 d, U6 a2.Epoch, U6 a1, g, h]] R) ?_ ?_
{
refine wp_seq ?_
obtain ⟨Z, k8, k9, l0, l1, l2, l3, l4, ⟨rfl, b0, b1, b2, b3⟩, e4⟩ := bl b.au
have b := e4
refine dO b mixed (by kernel_rfl) (qh _ (fun w b => aT z underlying33 z sizeOf29 z) (qh _ (fun w b => aq z isAgg29 (b.bc4 z)) (qz (.bool _) z (qz (.bool _) z (bs c ?_ ?_)))))
{
intro f c
refine qg _ f (fun w b => aT z underlying49 z sizeOf26 z) (qg _ f (fun w b => aq z isAgg26 (b.bc6 z)) (qgz (Pt _ _) f z (qgz (Pt _ _) f z (qg _ f (fun w b => aT z underlying130 z sizeOf26 z) (qg _ f (fun w b => aq z isAgg26 (b.bc0 z)) (qgz (.bool _) f z (qh (.bool _) (fun w b => aS f z z) (fO ?_))))))))
intro w b
refine tn (bs c ?_ ?_)
{
intro b4 c
refine ar (cvb b4) (wrl (mf z underlying49 z sizeOf26 (ml z isAgg26 (b.bc6 z) (mi z (mk (.agg #[I6 9, U6 a2.Epoch, U6 a1, Zs, Zs]) ?_)))))
replace b := b.bf
obtain ⟨l5, e5, b⟩ := b.bx [I6 9, U6 a2.Epoch, U6 a1, Zs, Zs] sizeOf33 z (oJ 5 z oN) (by kernel_rfl)
refine aE z z (aG e5) (ab (tn ?_))
have e6 : Ro aD I (.slice none 0 0) [] := cy
have e7 : Ro (dJ az) I (.slice none 0 0) [] := cy
replace b := (al (Pt Z 0) a0 b.bf.bf.bf.bf ⟨z, b0, b1, b2, b3⟩).ag.aA.au.au.eI
obtain rfl := sj c
exact ⟨9, ([]), ([]), Zs, Zs, Y, fy z, e6, e7, b⟩
}
{
intro b4 c
refine ak (cvb b4) (wp_skip (tn ?_))
replace b := (al (Pt Z 0) a0 b.au.au.au.au ⟨z, b0, b1, b2, b3⟩).ag.aA.au.au.eI
obtain rfl := sj c
exact ⟨a2.R.E, a2.R.Gots, a2.R.Scans, i, j, Y, fy z, W, X, b⟩
}
}
{
intro f c
refine qo f (qo f (qo f (qo f (qo f (qo f (qo f (qh (.bool _) (fun w b => aJ f z z) (fO ?_))))))))
intro w b
refine tn (ak z (wp_skip (tn ?_)))
replace b := (al (Pt Z 0) a0 b.au.au.au.au ⟨z, b0, b1, b2, b3⟩).ag.aA.au.au.eI
obtain rfl := sj c
exact ⟨a2.R.E, a2.R.Gots, a2.R.Scans, i, j, Y, fy z, W, X, b⟩
}
}
{
rintro _ l6 ⟨d, K, L, g, h, c, ⟨l7, rfl⟩, M, N, b⟩
dsimp only [gJ] at c
obtain ⟨l8, c, b5⟩ := ec c
refine cU (fun a w =>(jr a0 a2 d a1 K L) () = some r ∧ fz 120 [0, 1, 5, 6, 7] [p0, U6 a1, Pt o 0, Pt p 0, Pt q 0] a ∧ St w0 w I [aR p0 a0, cells o [U1 a2.Kind, U6 a2.ID.Session, U6 a2.ID.Seq, U6 a2.Epoch, U6 a2.Index, I6 a2.E, U6 a2.Hold.ID.Session, U6 a2.Hold.ID.Seq, U6 a2.Hold.Epoch, D, F, G, H, J, I6 a2.R.E, U6 a2.R.Epoch, U6 a2.R.Index, i, j, U6 a2.Shards, l, U6 a2.Rule.ID, I6 a2.Rule.From, I6 a2.Rule.To, F6 a2.Rule.Lo, F6 a2.Rule.Hi, U6 a2.Rule.Authority, I6 a2.Rule.Quota, .bool a2.On], cells p [Zb, Zu, Zu, Zi, Zu, Zu, Zs, Zs], cells q [I6 d, U6 a2.Epoch, U6 a1, g, h]] R) ?_ ?_
{
refine wp_seq (wrl (mf z underlying33 z sizeOf29 (ml z isAgg29 (b.bc3 z) (mb z (mb z (bs c ?_ ?_))))))
{
intro k c
refine gg k (aT z underlying49 z sizeOf28 z) (gg k (aT z underlying28 z sizeOf26 z) (gg k (aq z isAgg26 (b.bc1 z)) (gb k z (mb (aS k z z) (ab (tn (bs c ?_ ?_)))))))
{
intro b6 c
refine ar (cvb b6) (wp_seq (wrl (mk (.agg #[Zb, Zu, Zu, Zi, Zu, Zu, Zs, Zs]) ?_)))
replace b := b.aA
obtain ⟨l9, e8, b⟩ := b.bx [Zb, Zu, Zu, Zi, Zu, Zu, Zs, Zs] sizeOf35 z (oJ 8 z oN) (by kernel_rfl)
refine aE z z (aG e8) (ab (tn (wp_ret (aN ?_))))
replace c := bo c b5
have e9 : Ro aD I (.slice none 0 0) [] := cy
have f0 : Ro (dJ az) I (.slice none 0 0) [] := cy
obtain rfl := sj c
refine aZ [.agg #[Zb, Zu, Zu, Zi, Zu, Zu, Zs, Zs]] results73 (bq (bJ (cs := [Zb, Zu, Zu, Zi, Zu, Zu, Zs, Zs]) z isAgg35 sizeOf35 (b.eF 0 z)) ai) ?_
replace b := b.ag
exact ⟨_, Zs, Zs, z, n, e9, f0, b.bu⟩
}
{
intro b6 c
refine ak (cvb b6) (wp_skip (tn ?_))
replace b := b.au.au.au.au.eI
obtain rfl := sj c
exact ⟨b5, fy z, b⟩
}
}
{
intro k c
refine go k (go k (go k (go k (mb (aJ k z z) (ab (tn (ak z (wp_skip (tn ?_)))))))))
replace b := b.au.au.au.au.eI
obtain rfl := sj c
exact ⟨b5, fy z, b⟩
}
}
{
rintro _ m0 ⟨c, ⟨m1, rfl⟩, b⟩
dsimp only [jr] at c
refine wp_seq ?_
obtain ⟨m, f1, f2, c8, f3, f4, f5, f6, ⟨rfl, s, u, x, y⟩, f7⟩ := bl b
have b := f7
refine rg b 17 [0, 1, 3, 7, 0, 16, 48, 0, 128, 384, 0, 2047, 4095, 8191, 8191, 16383, 65535] [] mixed (sp 0 z z (sp 1 z z (sf 2 z z underlying130 z sizeOf126 (sl 3 z z isAgg126 (fun w b => b.bc0 z) (sf 4 z z underlying49 z sizeOf28 (sf 5 z z underlying28 z sizeOf26 (sl 6 z z isAgg26 (fun w b => b.bc4 z) (sf 7 z z underlying49 z sizeOf28 (sf 8 z z underlying28 z sizeOf26 (sl 9 z z isAgg26 (fun w b => b.bc4 z) (sh _ 10 z (fun w b => ay (cs := [I6 d, U6 a2.Epoch, U6 a1, g, h]) z isAgg33 sizeOf33 (b.BR 0 z)) (e1 11 z z fun w b => ?_))))))))))))
obtain ⟨V, f8, c⟩ := bn c
refine wec call151 [c8, U6 a2.ID.Session, U6 a2.ID.Seq, .agg #[I6 d, U6 a2.Epoch, U6 a1, g, h]] z z ((rO (a3 := ({ E := d, Epoch := a2.Epoch, Index := a1, Gots := K, Scans := L } : bw)) x M N b.to0 f8).mono ?_)
rintro _ m2 ⟨I821, O, rfl, B, b7, b⟩
refine ⟨_, z, ?_⟩
replace b := b.of0
replace U := U.mono (ro_le B)
replace M := M.mono (ro_le B)
replace N := N.mono (ro_le B)
replace s := s.mono (ro_le B)
replace u := u.mono (ro_le B)
replace x := x.mono (ro_le B)
replace y := y.mono (ro_le B)
replace n := n.trans B
refine w0n b (sz (.tuple #[O, I6 V.2]) 12 z z (sz (O) 13 z z (si 14 z z (sz (O) 15 z z (si 16 z z (bp ?_))))))
intro w b
refine tn (wp_seq (wp_seq (wrl (mi z (mb z (ab (tn (bs c ?_ ?_))))))))
{
intro b8 c
refine ar (cvb b8) (wp_seq (wp_seq (rg b 13 [0, 1, 3, 7, 0, 16, 48, 127, 255, 0, 512, 1536, 4095] [] mixed (sp 0 z z (sp 1 z z (sf 2 z z underlying130 z sizeOf126 (sl 3 z z isAgg126 (fun w b => b.bc0 z) (sf 4 z z underlying49 z sizeOf28 (sf 5 z z underlying28 z sizeOf26 (sl 6 z z isAgg26 (fun w b => b.bc4 z) (sf 9 z z underlying49 z sizeOf28 (sf 10 z z underlying28 z sizeOf26 (sl 11 z z isAgg26 (fun w b => b.bc4 z) (e1 7 z z fun w b => ?_))))))))))))))
obtain ⟨c9, f9, c⟩ := bn c
refine wec call93 [c8, U6 a2.ID.Session] z z ((lW x b.to0 f9).mono ?_)
rintro _ m3 ⟨I830, m4, m5, rfl, S, g0, g1, b⟩
refine ⟨_, z, ?_⟩
replace b := b.of0
replace s := s.mono (ro_le S)
replace u := u.mono (ro_le S)
replace x := x.mono (ro_le S)
replace y := y.mono (ro_le S)
replace n := n.trans S
refine wn [11, 10, 9] b (pkr z z (fun w b => aq z isAgg26 (b.bc4 z)) (pf z z underlying28 z sizeOf26 (pf z z underlying49 z sizeOf28 bD))) (wsr (.int .u64 c9.Seq) 8 rfl rfl rfl (by kernel_rfl) (fun w b => by obtain ⟨_, _, hv_, _⟩ := (ah g1); rw [hv_]; obtain ⟨_, _, hv_, _⟩ := (ah g0); rw [hv_]; kernel_rfl) (wsr (.bool (decide (c9.Seq > a2.ID.Seq))) 12 rfl rfl rfl (by kernel_rfl) (fun w b => rfl) (bp ?_)))
intro w b
refine tn (bs c ?_ ?_)
{
intro b9 c
refine ar (cvb b9) (wp_seq (wrl (mf z underlying49 z sizeOf28 (mz (ay (cs := [U6 a2.ID.Session, U6 a2.ID.Seq]) z isAgg28 sizeOf28 (b.wy 1 z)) (mk (.agg #[I6 10, Zu, Zu, Zs, Zs]) (mk (.agg #[U1 4, U6 a2.ID.Session, U6 a2.ID.Seq, I6 10, Zu, Zu, Zs, Zs]) ?_))))))
replace b := b.bc
obtain ⟨m6, g2, b⟩ := b.bx [U1 4, U6 a2.ID.Session, U6 a2.ID.Seq, I6 10, Zu, Zu, Zs, Zs] sizeOf35 z (oJ 8 z oN) (by kernel_rfl)
refine aE z z (aG g2) (ab (tn (wp_ret (aN (aN ?_)))))
have g3 : Ro aD I830 (.slice none 0 0) [] := cy
have g4 : Ro (dJ az) I830 (.slice none 0 0) [] := cy
replace b := al (Pt m 0) a0 b.bf.bf.bf.bf ⟨z, s, u, x, y⟩
obtain rfl := sj c
exact aZ [.agg #[U1 4, U6 a2.ID.Session, U6 a2.ID.Seq, I6 10, Zu, Zu, Zs, Zs]] results73 (bq (bJ (cs := [U1 4, U6 a2.ID.Session, U6 a2.ID.Seq, I6 10, Zu, Zu, Zs, Zs]) z isAgg35 sizeOf35 (b.eK 0 z)) ai) ⟨_, Zs, Zs, z, n, g3, g4, b.bu⟩
}
{
intro b9 c
refine ak (cvb b9) (wp_skip (tn (wp_seq (wrl (mk (.agg #[Zb, Zu, Zu, Zi, Zu, Zu, Zs, Zs]) ?_)))))
replace b := b.bc
obtain ⟨m7, g5, b⟩ := b.bx [Zb, Zu, Zu, Zi, Zu, Zu, Zs, Zs] sizeOf35 z (oJ 8 z oN) (by kernel_rfl)
refine aE z z (aG g5) (ab (tn (wp_ret (aN ?_))))
have g6 : Ro aD I830 (.slice none 0 0) [] := cy
have g7 : Ro (dJ az) I830 (.slice none 0 0) [] := cy
replace b := al (Pt m 0) a0 b.bf.bf.bf.bf ⟨z, s, u, x, y⟩
obtain rfl := sj c
exact aZ [.agg #[Zb, Zu, Zu, Zi, Zu, Zu, Zs, Zs]] results73 (bq (bJ (cs := [Zb, Zu, Zu, Zi, Zu, Zu, Zs, Zs]) z isAgg35 sizeOf35 (b.eK 0 z)) ai) ⟨_, Zs, Zs, z, n, g6, g7, b.bu⟩
}
}
{
intro b8 c
refine ak (cvb b8) (wp_skip (tn (wp_seq (wrl (mp z (mv (O) z (mp z (mf z underlying130 z sizeOf126 ?_))))))))
obtain ⟨m8, g8, b⟩ := b.cW (P := prog) (t := 126) (cs' := [I6 a0.Wide, U6 a0.Epoch, f1, f2, O, f3, f4, f5, f6]) 4 O (oS (ah b7)) sizeOf126 z z
refine aE z z (aG g8) (ab (tn ?_))
obtain ⟨g9, c, d0⟩ := bn c
refine cU (fun a w => ∃ (c1 : aj), (jo a2 d a1 K L) c1 = some r ∧ fz 120 [5, 6, 7] [Pt o 0, Pt p 0, Pt q 0] a ∧ St w0 w I821 [cells o [U1 a2.Kind, U6 a2.ID.Session, U6 a2.ID.Seq, U6 a2.Epoch, U6 a2.Index, I6 a2.E, U6 a2.Hold.ID.Session, U6 a2.Hold.ID.Seq, U6 a2.Hold.Epoch, D, F, G, H, J, I6 a2.R.E, U6 a2.R.Epoch, U6 a2.R.Index, i, j, U6 a2.Shards, l, U6 a2.Rule.ID, I6 a2.Rule.From, I6 a2.Rule.To, F6 a2.Rule.Lo, F6 a2.Rule.Hi, U6 a2.Rule.Authority, I6 a2.Rule.Quota, .bool a2.On], cells p [Zb, Zu, Zu, Zi, Zu, Zu, Zs, Zs], cells q [I6 d, U6 a2.Epoch, U6 a1, g, h], aR (Pt m 0) c1] R) ?_ ?_
{
refine wp_seq (wrl (mf z underlying49 z sizeOf26 (ml z isAgg26 (b.bc4 z) (mb z (ab (tn (bs c ?_ ?_)))))))
{
intro c2 c
refine ar (cvb c2) (wp_seq (wrl (mp z (mf z underlying49 z sizeOf28 (mz (ay (cs := [U6 a2.ID.Session, U6 a2.ID.Seq]) z isAgg28 sizeOf28 (b.wy 1 z)) ?_)))))
replace b := al (Pt m 0) (({ a0 with A := V.1 } : aj)) b.au.au.au.au ⟨z, s, u, b7, y⟩
obtain ⟨C, h0, c⟩ := bn c
refine wc call74 [Pt m 0, .agg #[U6 a2.ID.Session, U6 a2.ID.Seq]] z z z ((nu b.to1 h0).mono ?_)
rintro _ m9 ⟨rfl, b⟩
refine ⟨_, z, ?_⟩
replace b := b.of1
refine ab (tn (wp_seq (wrl (mf z underlying49 z sizeOf28 (mz (ay (cs := [U6 a2.ID.Session, U6 a2.ID.Seq]) z isAgg28 sizeOf28 (b.eK 1 z)) (mf z underlying33 z sizeOf29 (ml z isAgg29 (b.bc3 z) (mf z underlying49 z sizeOf26 (ml z isAgg26 (b.bc1 z) (mi z (mf z underlying49 z sizeOf26 (ml z isAgg26 (b.bc1 z) (mk (.agg #[U6 a2.ID.Session, U6 a2.ID.Seq, I6 d, U6 a2.Epoch, U6 a1, U6 a2.Shards, Zs]) ?_)))))))))))))
obtain ⟨d1, n0, h1, h2, b⟩ := b.box [Zu, Zu, Zi, Zu, Zu, Zu, Zs] 89
refine wa h1 h2 ?_
obtain ⟨n1, h3, b⟩ := b.bx [U6 a2.ID.Session, U6 a2.ID.Seq, I6 d, U6 a2.Epoch, U6 a1, U6 a2.Shards, Zs] sizeOf89 z (oJ 7 z oN) (by kernel_rfl)
refine aE z z (aG h3) (ab (tn ?_))
obtain ⟨n2, c, d2⟩ := bn c
refine cU (fun a w => ∃ (Q : (List ee)) (T : Value), (jn C a2 d a1) Q = some g9 ∧ fz 120 [0, 5, 6, 7, 10] [Pt m 0, Pt o 0, Pt p 0, Pt q 0, Pt d1 0] a ∧ Ro cM I821 T Q ∧ St w0 w I821 [aR (Pt m 0) C, cells o [U1 a2.Kind, U6 a2.ID.Session, U6 a2.ID.Seq, U6 a2.Epoch, U6 a2.Index, I6 a2.E, U6 a2.Hold.ID.Session, U6 a2.Hold.ID.Seq, U6 a2.Hold.Epoch, D, F, G, H, J, I6 a2.R.E, U6 a2.R.Epoch, U6 a2.R.Index, i, j, U6 a2.Shards, l, U6 a2.Rule.ID, I6 a2.Rule.From, I6 a2.Rule.To, F6 a2.Rule.Lo, F6 a2.Rule.Hi, U6 a2.Rule.Authority, I6 a2.Rule.Quota, .bool a2.On], cells p [Zb, Zu, Zu, Zi, Zu, Zu, Zs, Zs], cells q [I6 d, U6 a2.Epoch, U6 a1, g, h], cells d1 [U6 a2.ID.Session, U6 a2.ID.Seq, I6 d, U6 a2.Epoch, U6 a1, U6 a2.Shards, T]] R) ?_ ?_
{
refine wp_seq (wrl (mf z underlying33 z sizeOf29 (ml z isAgg29 (b.bc4 z) (mb z (ab (tn (bs c ?_ ?_)))))))
{
intro c3 c
refine ar (cvb c3) (wrl (mf z underlying49 z sizeOf47 (ml z isAgg47 (b.bc2 z) (mf z underlying89 z sizeOf47 ?_))))
obtain ⟨n3, h4, b⟩ := b.cW (P := prog) (t := 47) (cs' := [U6 a2.ID.Session, U6 a2.ID.Seq, I6 d, U6 a2.Epoch, U6 a1, U6 a2.Shards, l]) 6 l (oS (ah U)) sizeOf47 z z
refine aE z z (aG h4) (ab (tn ?_))
replace b := b.bf.bf.bf.bf.oX
obtain rfl := sj c
exact ⟨a2.Parts, l, d2, fy z, U, b⟩
}
{
intro c3 c
refine ak (cvb c3) (wp_skip (tn ?_))
have h5 : Ro cM I821 (.slice none 0 0) [] := cy
replace b := b.bf.bf.bf.bf.oX
obtain rfl := sj c
exact ⟨([]), Zs, d2, fy z, h5, b⟩
}
}
{
rintro _ n4 ⟨Q, T, c, ⟨n5, rfl⟩, d3, b⟩
dsimp only [jn] at c
obtain ⟨n6, h6, h7, h8, h9, n7, i0, i1, ⟨c4, i2, i3, i4, i5⟩, i6⟩ := bl b
replace c4 := dI c4
subst c4
have b := i6
refine rg b 11 [0, 0, 2, 6, 14, 0, 32, 126, 255, 511, 1023] [] mixed (sp 0 z z (sp 1 z z (sp 2 z z (sf 3 z z underlying130 z sizeOf65 (sl 4 z z isAgg65 (fun w b => b.bc0 z) (sh _ 5 z (fun w b => ay (cs := [U6 a2.ID.Session, U6 a2.ID.Seq, I6 d, U6 a2.Epoch, U6 a1, U6 a2.Shards, T]) z isAgg89 sizeOf89 (b.FB 0 z)) (e1 6 z z fun w b => ?_)))))))
obtain ⟨i7, i8, i9, j0, b⟩ := b.ey (E := aM) (xs := [({ a2 with E := d, Index := a1, Parts := Q } : bC)]) [[U6 a2.ID.Session, U6 a2.ID.Seq, I6 d, U6 a2.Epoch, U6 a1, U6 a2.Shards, T]] 89 1 z (bE.cons ⟨_, z, d3, oS (ah d3)⟩ bE.nil)
refine bW (v := (.slice (some ⟨i7, 0, none⟩) 1 1)) (w' := i8) z (dn (by kernel_rfl) i9 j0) (wn [4, 3, 2, 1, 0] b (pkr z z (fun w b => aq z isAgg65 (b.bc1 z)) (pf z z underlying130 z sizeOf65 (pz (pz (pz bD))))) (e1 7 z z fun w b => ?_))
obtain ⟨j1, c⟩ := cz c
replace b := b.aA
obtain ⟨c5, j2, j3, b⟩ := bI sE underlying65 b b.ju (cK j1 z) 65
refine bW (v := c5) (w' := j2) z (bX z z j3) (wn [0] b (pz bD) (sp 8 z z (sf 9 z z underlying130 z sizeOf65 (e1 10 z z fun w b => ?_))))
replace b := b.aA
obtain ⟨n8, j4, b⟩ := b.cW (P := prog) (t := 65) (cs' := [I6 C.Wide, U6 C.Epoch, h6, h7, h8, h9, c5, i0, i1]) 6 c5 (oS b.sv1) sizeOf65 z z
refine dz z (aG j4) (w0n b (bp ?_))
intro w b
refine tn ?_
replace b := (al (Pt m 0) (({ C with Open := (C.Open ++ ([({ a2 with E := d, Index := a1, Parts := Q } : bC)])) } : aj)) b.bf.bf.au.au ⟨z, i2, i3, i4, i5⟩).bf.bf.bf.eI
obtain rfl := sj c
exact ⟨({ C with Open := (C.Open ++ ([({ a2 with E := d, Index := a1, Parts := Q } : bC)])) } : aj), d0, fy z, b⟩
}
}
{
intro c2 c
refine ak (cvb c2) (wp_skip (tn ?_))
replace b := (al (Pt m 0) (({ a0 with A := V.1 } : aj)) b.au.au.au.au ⟨z, s, u, b7, y⟩).au.au.au.eI
obtain rfl := sj c
exact ⟨({ a0 with A := V.1 } : aj), d0, fy z, b⟩
}
}
{
rintro _ n9 ⟨c1, c, ⟨o0, rfl⟩, b⟩
dsimp only [jo] at c
refine wp_seq (wrl (mf z underlying49 z sizeOf28 (mz (ay (cs := [U6 a2.ID.Session, U6 a2.ID.Seq]) z isAgg28 sizeOf28 (b.eF 1 z)) (mz (ay (cs := [I6 d, U6 a2.Epoch, U6 a1, g, h]) z isAgg33 sizeOf33 (b.pR 0 z)) (wv (.agg #[U1 4, U6 a2.ID.Session, U6 a2.ID.Seq, I6 d, U6 a2.Epoch, U6 a1, g, h]) z z (by obtain ⟨_, _, hv_, _⟩ := (ah N); rw [hv_]; obtain ⟨_, _, hv_, _⟩ := (ah M); rw [hv_]; kernel_rfl) ?_)))))
replace b := b.ag
obtain ⟨o1, j5, b⟩ := b.bx [U1 4, U6 a2.ID.Session, U6 a2.ID.Seq, I6 d, U6 a2.Epoch, U6 a1, g, h] sizeOf35 z (oJ 6 z (oC (oS (ah M)) (oC (oS (ah N)) oN))) (by kernel_rfl)
refine aE z z (aG j5) (ab (tn (wp_ret ?_)))
obtain rfl := sj c
refine aZ [.agg #[U1 4, U6 a2.ID.Session, U6 a2.ID.Seq, I6 d, U6 a2.Epoch, U6 a1, g, h]] results73 (bq (bJ (cs := [U1 4, U6 a2.ID.Session, U6 a2.ID.Seq, I6 d, U6 a2.Epoch, U6 a1, g, h]) z isAgg35 sizeOf35 (b.eF 0 z)) ai) ?_
replace b := b.au
exact ⟨_, g, h, z, n, M, N, b.bu⟩
}
}
}
}
}
theorem uz {a0 : (List cH)} {h : Value} {a1 a2 : Int} (s : Rd dR R I h a0) (c : St w0 w I [] R) {r : ((List cH) × Bool)} (d : mq a0 a1 a2 = some r) :
  Calls prog 75 #[h, U6 a1, U6 a2] w fun e w' => ∃ (C : Value), e = .returned (.tuple #[C, .bool r.2]) ∧ St w0 w' I [bg dR C r.1] R := by {
unfold mq at d
refine c0 func75 z ntmps75 (wp_seq (wrl (mv ((.slice none 0 0)) z (mb z (ab (tn (wp_seq (wrl (mv ((.slice none 0 0)) z (ab (tn (wp_seq (wrl (mb z (ab (tn ?_))))))))))))))))
obtain ⟨b2, d, D⟩ := bn d
refine cU (fun a w => ∃ (f : Int), (lf a0 a1) f = some r ∧ fz 42 [0, 1, 2, 8, 9] [h, U6 a1, U6 f, (.slice none 0 0), .bool false] a ∧ St w0 w I [] R) ?_ ?_
{
refine wp_seq (wrl (mi z (mb z (ab (tn (bs d ?_ ?_))))))
{
intro t d
refine ar (cvb t) (wrl (mi z (ab (tn ?_))))
replace c := c.bU
obtain rfl := sj d
exact ⟨1, D, fy z, c⟩
}
{
intro t d
refine ak (cvb t) (wp_skip (tn ?_))
replace c := c.bU
obtain rfl := sj d
exact ⟨a2, D, fy z, c⟩
}
}
{
rintro _ b3 ⟨f, d, ⟨b4, rfl⟩, c⟩
dsimp only [lf] at d
obtain ⟨H, d, J⟩ := bn d
refine cU (fun a w => ∃ (u : (List cH)) (p : Bool) (i : Value), (oM) (u, p) = some r ∧ fz 42 [8, 9] [i, .bool p] a ∧ St w0 w I [bg dR i u] R) ?_ ?_
{
refine wp_seq (wrl (mi z (ab (tn (wp_block ?_)))))
replace c := c.bd dR
obtain ⟨K, d⟩ := aX d
refine bm (fun n a w => ∃ (m : Int) (j : (List cH)) (o : Bool) (k : Value), cT (iD a0 a1 f) n (m, j, o) = some H ∧ fz 42 [0, 1, 2, 8, 9, 10] [h, U6 a1, U6 f, k, .bool o, I6 m] a ∧ St w0 w I [bg dR k j] R) K ⟨0, [], false, Zs, d, fy z, c⟩ ?_
rintro b5 _ b6 ⟨m, j, o, k, d, ⟨b7, rfl⟩, c⟩
obtain ⟨b8, L, rfl, d, F⟩ := ba d
dsimp only [iD] at d
refine wp_seq (wp_seq (wrl (mi z (mv (h) z (mz (bZ z underlying127 (ax s)) (mb z (ab (tn (bs d ?_ ?_)))))))))
{
intro x d
refine ar (cvb x) (wp_skip (tn (wp_seq (wp_block (wp_seq (wrl (mv (h) z (mi z ?_))))))))
obtain ⟨b, M, d⟩ := bn d
obtain ⟨N, O, P⟩ := aP M
refine mz (aC z z underlying127 sizeOf144 (ax s) N O) (mz (ay (cs := [U6 b.R.ID, I6 b.R.From, I6 b.R.To, F6 b.R.Lo, F6 b.R.Hi, U6 b.R.Authority, I6 b.R.Quota, U6 b.From, U6 b.To]) z isAgg144 sizeOf144 (pD s lr c P 0 (by rintro _ rfl; rfl))) ?_)
obtain ⟨G, b9, Q, S, c⟩ := c.box [Zu, Zi, Zi, Zf, Zf, Zu, Zi, Zu, Zu] 144
refine wa Q S ?_
obtain ⟨c1, T, c⟩ := c.bx [U6 b.R.ID, I6 b.R.From, I6 b.R.To, F6 b.R.Lo, F6 b.R.Hi, U6 b.R.Authority, I6 b.R.Quota, U6 b.From, U6 b.To] sizeOf144 z (oJ 9 z oN) (by kernel_rfl)
refine aE z z (aG T) (ab (tn ?_))
obtain ⟨c2, d, y⟩ := bn d
refine cU (fun a w => ∃ (q : Bool) (l : Int), (jw j b m) (q, l) = some L ∧ fz 42 [0, 1, 2, 8, 9, 10, 11] [h, U6 a1, U6 f, k, .bool q, I6 m, Pt G 0] a ∧ St w0 w I [bg dR k j, cells G [U6 b.R.ID, I6 b.R.From, I6 b.R.To, F6 b.R.Lo, F6 b.R.Hi, U6 b.R.Authority, I6 b.R.Quota, U6 b.From, U6 l]] R) ?_ ?_
{
refine wp_seq (wrl (mf z underlying144 z sizeOf39 (mf z underlying39 z sizeOf26 (ml z isAgg26 (c.bc0 z) (mi z (mb z (mb z (bs d ?_ ?_))))))))
{
intro g d
refine gg g (aT z underlying144 z sizeOf26 z) (gg g (aq z isAgg26 (c.bc0 z)) (gb g z (mb (aS g z z) (ab (tn (bs d ?_ ?_))))))
{
intro A d
refine ar (cvb A) (wp_seq (wrl (mi z (mf z underlying144 z sizeOf26 ?_))))
obtain ⟨c3, U, c⟩ := c.by_ [U6 b.R.ID, I6 b.R.From, I6 b.R.To, F6 b.R.Lo, F6 b.R.Hi, U6 b.R.Authority, I6 b.R.Quota, U6 b.From, U6 f] 8 (.int .u64 f) sizeOf26 z (oC z oN) (by kernel_rfl)
refine aE z z (aG U) (ab (tn (wrl (mb z (ab (tn ?_))))))
replace c := c.ag.ck
obtain rfl := sj d
exact ⟨true, f, y, fy z, c⟩
}
{
intro A d
refine ak (cvb A) (wp_skip (tn ?_))
replace c := c.ag.ck
obtain rfl := sj d
exact ⟨o, b.To, y, fy z, c⟩
}
}
{
intro g d
refine go g (go g (go g (mb (aJ g z z) (ab (tn (ak z (wp_skip (tn ?_))))))))
replace c := c.ag.ck
obtain rfl := sj d
exact ⟨o, b.To, y, fy z, c⟩
}
}
{
rintro _ c4 ⟨q, l, d, ⟨c5, rfl⟩, c⟩
dsimp only [jw] at d
refine wrl (mv (k) z (mz (ay (cs := [U6 b.R.ID, I6 b.R.From, I6 b.R.To, F6 b.R.Lo, F6 b.R.Hi, U6 b.R.Authority, I6 b.R.Quota, U6 b.From, U6 l]) z isAgg144 sizeOf144 (c.eK 0 z)) ?_))
obtain ⟨V, W, X, Y, c⟩ := c.ey (E := dR) (xs := [({ b with To := l } : cH)]) [[U6 b.R.ID, I6 b.R.From, I6 b.R.To, F6 b.R.Lo, F6 b.R.Hi, U6 b.R.Authority, I6 b.R.Quota, U6 b.From, U6 l]] 144 1 z (bE.cons z bE.nil)
refine cb (v := (.slice (some ⟨V, 0, none⟩) 1 1)) (w' := W) z z (dn (by kernel_rfl) X Y) ?_
obtain ⟨Z, d⟩ := cz d
replace c := c.ag
obtain ⟨B, b0, b1, c⟩ := bI yD underlying127 c c.ju (cK Z z) 127
refine cb (v := B) (w' := b0) z z (bX z z b1) (mv (B) z (ab (bF (tn (wrl (mi z (mi z (mi z (ab (tn ?_))))))))))
replace c := c.bu
obtain rfl := sj d
exact ⟨_, nls, (i64.wrap (m + 1)), (j ++ ([({ b with To := l } : cH)])), q, B, F, fy z, c⟩
}
}
{
intro x d
refine ak (cvb x) (wp_exit (aV (aV ?_)))
replace d := bo d F
refine de (tn ?_)
replace c := c.bu
obtain rfl := sj d
exact ⟨j, o, k, J, fy z, c⟩
}
}
{
rintro _ c6 ⟨u, p, i, d, ⟨c7, rfl⟩, c⟩
dsimp only [oM] at d
refine wp_seq (wrl (mv (i) z (mb z (mv (i) z (mb z (ab (tn (wp_ret ?_))))))))
obtain rfl := sj d
exact aZ [i, .bool p] results75 (rc z (rc z ai)) ⟨i, z, c.bu⟩
}
}
}
theorem wm {a0 : bR} {i : Value} {a1 : Int} (o : Rd (cp .u8) R I i a0.Val) (b : St w0 w I [] R) {r : (bR)} (c : qy a0 a1 = some r) :
  Calls prog 16 #[.agg #[F6 a0.At, .bool a0.Del, i], I6 a1] w fun e w' => ∃ (y : Value), e = .returned (.agg #[F6 r.At, .bool r.Del, y]) ∧ St w0 w' I [bg (cp .u8) y r.Val] R := by {
unfold qy at c
refine c0 func16 z ntmps16 (wp_seq (wrl ?_))
obtain ⟨j, b1, C, D, b⟩ := b.box [F6 a0.At, .bool a0.Del, i] 41
refine wa C D ?_
obtain ⟨k, b2, F, G, b⟩ := b.box [Zf, .bool false, Zs] 41
refine wa F G (ab (tn (wp_seq (wrl (mv ((.slice none 0 0)) z (ab (tn ?_)))))))
obtain ⟨H, c, A⟩ := bn c
refine cU (fun a w => ∃ (p : (List Int)) (d : Value), (nG a0) p = some r ∧ fz 35 [2, 4, 5] [Pt j 0, Pt k 0, d] a ∧ St w0 w I [cells j [F6 a0.At, .bool a0.Del, i], cells k [Zf, .bool false, Zs], bg (cp .u8) d p] R) ?_ ?_
{
refine wp_seq (wrl (mi z (ab (tn (wp_block ?_)))))
replace b := b.bd (cp .u8)
obtain ⟨J, c⟩ := aX c
refine bm (fun n a w => ∃ (g : (List Int)) (l : Int) (h : Value), cT (jE a1 a0) n (g, l) = some H ∧ fz 35 [1, 2, 4, 5, 6] [I6 a1, Pt j 0, Pt k 0, h, I6 l] a ∧ St w0 w I [bg (cp .u8) h g, cells k [Zf, .bool false, Zs], cells j [F6 a0.At, .bool a0.Del, i]] R) J ⟨[], 0, Zs, c, fy z, b⟩ ?_
rintro b3 _ b4 ⟨g, l, h, c, ⟨b5, rfl⟩, b⟩
obtain ⟨b6, K, rfl, c, q⟩ := ba c
dsimp only [jE] at c
refine wp_seq (wp_seq (wrl (mi z (mi z (mb z (mb z (bs c ?_ ?_)))))))
{
intro f c
refine gg f (aT z underlying41 z sizeOf4 z) (gg f (aq z isAgg4 (b.bc2 z)) (gb f z (mb (aS f z z) (ab (tn (bs c ?_ ?_))))))
{
intro s c
refine ar (cvb s) (wp_skip (tn (wp_seq (wp_block (wp_seq (wrl (mi z (ab (tn ?_)))))))))
obtain ⟨b7, c, B⟩ := bn c
refine cU (fun a w => ∃ (m : Int), (pg g l) m = some K ∧ fz 35 [1, 2, 4, 5, 6, 7] [I6 a1, Pt j 0, Pt k 0, h, I6 l, U1 m] a ∧ St w0 w I [cells j [F6 a0.At, .bool a0.Del, i], cells k [Zf, .bool false, Zs], bg (cp .u8) h g] R) ?_ ?_
{
refine wp_seq (wrl (mi z (mf z underlying41 z sizeOf22 (ml z isAgg22 (b.bc2 z) (mz (bZ z underlying22 (ax o)) (mb z (ab (tn (bs c ?_ ?_)))))))))
{
intro u c
refine ar (cvb u) (wrl (mf z underlying41 z sizeOf22 (ml z isAgg22 (b.bc2 z) (mi z ?_))))
obtain ⟨L, M, c⟩ := bn c
obtain ⟨N, O, Q⟩ := aP M
refine mz (aC z z underlying22 sizeOf5 (ax o) N O) (ml z isAgg5 (dU o lr b Q (by rintro _ rfl; rfl)) (mi z (ab (tn ?_))))
replace b := b.ag.aA.dF
obtain rfl := sj c
exact ⟨L, B, fy z, b⟩
}
{
intro u c
refine ak (cvb u) (wp_skip (tn ?_))
replace b := b.ag.aA.dF
obtain rfl := sj c
exact ⟨0, B, fy z, b⟩
}
}
{
rintro _ b8 ⟨m, c, ⟨b9, rfl⟩, b⟩
dsimp only [pg] at c
refine wrl (mv (h) z (mi z ?_))
obtain ⟨S, T, U, V, b⟩ := b.ey (E := (cp .u8)) (xs := [m]) [[U1 m]] 5 1 z (bE.cons z bE.nil)
refine cb (v := (.slice (some ⟨S, 0, none⟩) 1 1)) (w' := T) z z (dn (by kernel_rfl) U V) ?_
obtain ⟨W, c⟩ := cz c
replace b := b.au
obtain ⟨x, X, Y, b⟩ := bI uV underlying22 b b.ju (cK W z) 22
refine cb (v := x) (w' := X) z z (bX z z Y) (mv (x) z (ab (bF (tn (wrl (mi z (mi z (mi z (ab (tn ?_))))))))))
replace b := b.aA.au.aA.dF
obtain rfl := sj c
exact ⟨_, nls, (g ++ ([m])), (i64.wrap (l + 1)), x, q, fy z, b⟩
}
}
{
intro s c
refine ak (cvb s) (wp_exit (aV (aV ?_)))
replace c := bo c q
refine de (tn ?_)
replace b := b.ag.aA.dF
obtain rfl := sj c
exact ⟨g, h, A, fy z, b⟩
}
}
{
intro f c
refine go f (go f (go f (mb (aJ f z z) (ab (tn (ak z (wp_exit (aV (aV ?_)))))))))
replace c := bo c q
refine de (tn ?_)
replace b := b.ag.aA.dF
obtain rfl := sj c
exact ⟨g, h, A, fy z, b⟩
}
}
{
rintro _ c1 ⟨p, d, c, ⟨c2, rfl⟩, b⟩
dsimp only [nG] at c
refine wp_seq (wrl (mv (d) z (mf z underlying41 z sizeOf22 ?_)))
obtain ⟨c3, Z, b⟩ := b.cW (P := prog) (t := 22) (cs' := [F6 a0.At, .bool a0.Del, d]) 2 d (oS b.sv2) sizeOf22 z z
refine aE z z (aG Z) (ab (tn (wp_seq (wrl (mz (ay (cs := [F6 a0.At, .bool a0.Del, d]) z isAgg41 sizeOf41 (b.eF 0 z)) ?_)))))
replace b := b.ag
obtain ⟨c4, b0, b⟩ := b.bx [F6 a0.At, .bool a0.Del, d] sizeOf41 z (oJ 2 z (oC (oS b.sv2) oN)) (by kernel_rfl)
refine aE z z (aG b0) (ab (tn (wp_ret ?_)))
obtain rfl := sj c
refine aZ [.agg #[F6 a0.At, .bool a0.Del, d]] results16 (bq (bJ (cs := [F6 a0.At, .bool a0.Del, d]) z isAgg41 sizeOf41 (b.eF 0 z)) ai) ?_
replace b := b.aA
exact ⟨d, z, b.bu⟩
}
}
theorem rV {a0 : aj} {p0 : Value} {a1 : Int} {a2 : aH} {q s u x y B C D : Value} (s0 : Rd bY R I q a2.Hold.Gets) (s1 : Rd gB R I s a2.Hold.Scans) (s2 : Rd bY R I u a2.Hold.Puts) (s3 : Rd (cp .u8) R I x a2.Hold.Data) (b4 : Rd cI R I y a2.Writes) (s4 : Rd aD R I B a2.R.Gots) (s5 : Rd (dJ az) R I C a2.R.Scans) (s6 : Rd cM R I D a2.Parts) (b : St w0 w I [aR p0 a0] R) {r : (bj × aj)} (c : iT a0 a1 a2 = some r) :
  Calls prog 76 #[p0, U6 a1, .agg #[U1 a2.Kind, U6 a2.ID.Session, U6 a2.ID.Seq, U6 a2.Epoch, U6 a2.Index, I6 a2.E, U6 a2.Hold.ID.Session, U6 a2.Hold.ID.Seq, U6 a2.Hold.Epoch, q, s, u, x, y, I6 a2.R.E, U6 a2.R.Epoch, U6 a2.R.Index, B, C, U6 a2.Shards, D, U6 a2.Rule.ID, I6 a2.Rule.From, I6 a2.Rule.To, F6 a2.Rule.Lo, F6 a2.Rule.Hi, U6 a2.Rule.Authority, I6 a2.Rule.Quota, .bool a2.On]] w fun e w' => ∃ (I' : HL) (h0 : Value) (h1 : Value), e = .returned (.agg #[U1 r.1.Kind, U6 r.1.ID.Session, U6 r.1.ID.Seq, I6 r.1.R.E, U6 r.1.R.Epoch, U6 r.1.R.Index, h0, h1]) ∧ I.le I' ∧ Ro aD I' h0 r.1.R.Gots ∧ Ro (dJ az) I' h1 r.1.R.Scans ∧ St w0 w' I' [aR p0 r.2] R := by {
unfold iT at c
refine c0 func76 z ntmps76 ?_
have Q := HL.le.refl I
refine wp_seq (wrl ?_)
obtain ⟨i, s7, i6, i7, b⟩ := b.box [U1 a2.Kind, U6 a2.ID.Session, U6 a2.ID.Seq, U6 a2.Epoch, U6 a2.Index, I6 a2.E, U6 a2.Hold.ID.Session, U6 a2.Hold.ID.Seq, U6 a2.Hold.Epoch, q, s, u, x, y, I6 a2.R.E, U6 a2.R.Epoch, U6 a2.R.Index, B, C, U6 a2.Shards, D, U6 a2.Rule.ID, I6 a2.Rule.From, I6 a2.Rule.To, F6 a2.Rule.Lo, F6 a2.Rule.Hi, U6 a2.Rule.Authority, I6 a2.Rule.Quota, .bool a2.On] 49
refine wa i6 i7 ?_
obtain ⟨j, s8, i8, i9, b⟩ := b.box [Zb, Zu, Zu, Zi, Zu, Zu, Zs, Zs] 35
refine wa i8 i9 (ab (tn (wp_seq (wrl (mf z underlying49 z sizeOf33 (mf z underlying33 z sizeOf29 (ml z isAgg29 (b.bc1 z) (mf z underlying49 z sizeOf26 (ml z isAgg26 (b.bc1 z) (mi z (mk (.agg #[I6 a2.R.E, U6 a2.Epoch, U6 a1, Zs, Zs]) ?_)))))))))))
obtain ⟨k, s9, j0, j1, b⟩ := b.box [Zi, Zu, Zu, Zs, Zs] 33
refine wa j0 j1 ?_
obtain ⟨t0, j2, b⟩ := b.bx [I6 a2.R.E, U6 a2.Epoch, U6 a1, Zs, Zs] sizeOf33 z (oJ 5 z oN) (by kernel_rfl)
refine aE z z (aG j2) (ab (tn (wp_seq (wrl (mf z underlying49 z sizeOf39 (mf z underlying39 z sizeOf26 (ml z isAgg26 (b.bc2 z) (mf z underlying49 z sizeOf26 (ml z isAgg26 (b.bc2 z) (mk (.agg #[U6 a2.Rule.ID, U6 a2.Epoch, Zi]) ?_))))))))))
obtain ⟨p, t1, j3, j4, b⟩ := b.box [Zu, Zu, Zi] 249
refine wa j3 j4 ?_
obtain ⟨t2, j5, b⟩ := b.bx [U6 a2.Rule.ID, U6 a2.Epoch, Zi] sizeOf249 z (oJ 3 z oN) (by kernel_rfl)
refine aE z z (aG j5) (ab (tn (wp_seq (wrl (mv ((.slice none 0 0)) z (ab (tn ?_)))))))
obtain ⟨j6, c, j7⟩ := bn c
refine cU (fun a w => ∃ (d : Int) (m : (List dv)) (H : Value), (kc a2 a0 a1) (d, m) = some r ∧ fz 204 [0, 5, 6, 7, 8, 9] [p0, Pt i 0, Pt j 0, Pt k 0, Pt p 0, H] a ∧ St w0 w I [aR p0 a0, cells i [U1 a2.Kind, U6 a2.ID.Session, U6 a2.ID.Seq, U6 a2.Epoch, U6 a2.Index, I6 a2.E, U6 a2.Hold.ID.Session, U6 a2.Hold.ID.Seq, U6 a2.Hold.Epoch, q, s, u, x, y, I6 a2.R.E, U6 a2.R.Epoch, U6 a2.R.Index, B, C, U6 a2.Shards, D, U6 a2.Rule.ID, I6 a2.Rule.From, I6 a2.Rule.To, F6 a2.Rule.Lo, F6 a2.Rule.Hi, U6 a2.Rule.Authority, I6 a2.Rule.Quota, .bool a2.On], cells j [Zb, Zu, Zu, Zi, Zu, Zu, Zs, Zs], cells k [I6 a2.R.E, U6 a2.Epoch, U6 a1, Zs, Zs], cells p [U6 a2.Rule.ID, U6 a2.Epoch, I6 d], bg dA H m] R) ?_ ?_
{
refine wp_seq (wrl (mi z (ab (tn (wp_block ?_)))))
replace b := b.bd dA
obtain ⟨j8, c⟩ := aX c
refine bm (fun n a w => ∃ (b5 : Int) (b6 : Int) (Y : (List dv)) (Z : Value), cT (ff a0 a2) n (b5, b6, Y) = some j6 ∧ fz 204 [0, 5, 6, 7, 8, 9, 10] [p0, Pt i 0, Pt j 0, Pt k 0, Pt p 0, Z, I6 b6] a ∧ St w0 w I [bg dA Z Y, cells p [U6 a2.Rule.ID, U6 a2.Epoch, I6 b5], cells k [I6 a2.R.E, U6 a2.Epoch, U6 a1, Zs, Zs], cells j [Zb, Zu, Zu, Zi, Zu, Zu, Zs, Zs], cells i [U1 a2.Kind, U6 a2.ID.Session, U6 a2.ID.Seq, U6 a2.Epoch, U6 a2.Index, I6 a2.E, U6 a2.Hold.ID.Session, U6 a2.Hold.ID.Seq, U6 a2.Hold.Epoch, q, s, u, x, y, I6 a2.R.E, U6 a2.R.Epoch, U6 a2.R.Index, B, C, U6 a2.Shards, D, U6 a2.Rule.ID, I6 a2.Rule.From, I6 a2.Rule.To, F6 a2.Rule.Lo, F6 a2.Rule.Hi, U6 a2.Rule.Authority, I6 a2.Rule.Quota, .bool a2.On], aR p0 a0] R) j8 ⟨0, 0, [], Zs, c, fy z, b⟩ ?_
rintro t3 _ t4 ⟨b5, b6, Y, Z, c, ⟨t5, rfl⟩, b⟩
obtain ⟨t6, t7, rfl, c, d1⟩ := ba c
dsimp only [ff] at c
refine wp_seq (wp_seq (wrl (mi z (mv (p0) z ?_))))
obtain ⟨d2, t8, t9, u0, u1, u2, u3, u4, ⟨rfl, d3, d4, d5, d6⟩, j9⟩ := bl b.bc
have b := j9
refine mp z (mf z underlying130 z sizeOf128 (ml z isAgg128 (b.bc0 z) (mz (bZ z underlying128 b.sv3) (mb z (ab (tn (bs c ?_ ?_)))))))
{
intro e2 c
refine ar (cvb e2) (wp_skip (tn (wp_seq (wp_block (wp_seq (dO b mixed (by kernel_rfl) (qz (Pt _ _) z (qz (Pt _ _) z (qh _ (fun w b => aT z underlying130 z sizeOf128 z) (qh _ (fun w b => aq z isAgg128 (b.bc0 z)) (qz (I6 _) z ?_)))))))))))
obtain ⟨F, k0, c⟩ := bn c
obtain ⟨d7, d8, d9⟩ := aP k0
refine qh _ (fun w b => aC z z underlying128 sizeOf249 b.sv3 d7 d8) (qh _ (fun w b => aW z underlying249 z sizeOf26 z) (qh _ (fun w b => aq z isAgg26 (b.ol3 d9 (by rintro _ rfl; rfl))) (qh _ (fun w b => aT z underlying49 z sizeOf39 z) (qh _ (fun w b => aT z underlying39 z sizeOf26 z) (qh _ (fun w b => aq z isAgg26 (b.bc8 z)) (qz (.bool _) z (fO ?_)))))))
intro w b
refine tn (bs c ?_ ?_)
{
intro e3 c
refine ar (cvb e3) (wrl (mv (Z) z (mp z (mp z (mf z underlying130 z sizeOf128 (ml z isAgg128 (b.bc0 z) (mi z (mz (aC z z underlying128 sizeOf249 b.sv3 d7 d8) (mz (ay (cs := [U6 F.Rule, U6 F.Epoch, I6 F.N]) z isAgg249 sizeOf249 (b.FI d9 0 (by rintro _ rfl; rfl))) ?_)))))))))
obtain ⟨k1, k2, k3, k4, b⟩ := b.ey (E := dA) (xs := [F]) [[U6 F.Rule, U6 F.Epoch, I6 F.N]] 249 1 z (bE.cons z bE.nil)
refine cb (v := (.slice (some ⟨k1, 0, none⟩) 1 1)) (w' := k2) z z (dn (by kernel_rfl) k3 k4) ?_
obtain ⟨k5, c⟩ := cz c
replace b := b.bc
obtain ⟨e4, k6, k7, b⟩ := bI yN underlying128 b b.ju (cK k5 z) 128
refine cb (v := e4) (w' := k6) z z (bX z z k7) (mv (e4) z (ab (bF (tn (wrl (mi z (mi z (mi z (ab (tn ?_))))))))))
replace b := (al (Pt d2 0) a0 b.bc.bc.bc.bc ⟨z, d3, d4, d5, d6⟩).da.da.da.da.bc.kj
obtain rfl := sj c
exact ⟨_, nls, b5, (i64.wrap (b6 + 1)), (Y ++ ([F])), e4, d1, fy z, b⟩
}
{
intro e3 c
refine ak (cvb e3) (wp_seq (dO b mixed (by kernel_rfl) (qz (Pt _ _) z (qz (Pt _ _) z (qh _ (fun w b => aT z underlying130 z sizeOf128 z) (qh _ (fun w b => aq z isAgg128 (b.bc0 z)) (qz (I6 _) z (qh _ (fun w b => aC z z underlying128 sizeOf249 b.sv3 d7 d8) (qh _ (fun w b => aW z underlying249 z sizeOf26 z) (qh _ (fun w b => aq z isAgg26 (b.ol3 d9 (by rintro _ rfl; rfl))) (qh _ (fun w b => aT z underlying49 z sizeOf26 z) (qh _ (fun w b => aq z isAgg26 (b.bc8 z)) (qz (.bool _) z (fO ?_))))))))))))))
intro w b
refine tn (bs c ?_ ?_)
{
intro e5 c
refine ar (cvb e5) (wrl (mp z (mp z (mf z underlying130 z sizeOf128 (ml z isAgg128 (b.bc0 z) (mi z (mz (aC z z underlying128 sizeOf249 b.sv3 d7 d8) (mz (aW z underlying249 z sizeOf3 z) (ml z isAgg3 (b.ol3 d9 (by rintro _ rfl; rfl)) (mf z underlying249 z sizeOf3 ?_))))))))))
replace b := b.bc
obtain ⟨u5, k8, b⟩ := b.by_ [U6 a2.Rule.ID, U6 a2.Epoch, I6 F.N] 2 (.int .i64 F.N) sizeOf3 z (oC z oN) (by kernel_rfl)
refine aE z z (aG k8) (ab (bF (tn (wrl (mi z (mi z (mi z (ab (tn ?_)))))))))
replace b := (al (Pt d2 0) a0 b.bf.bf.bf.bf ⟨z, d3, d4, d5, d6⟩).bc.bc.bc.bf.bc.kj
obtain rfl := sj c
exact ⟨_, nls, F.N, (i64.wrap (b6 + 1)), Y, Z, d1, fy z, b⟩
}
{
intro e5 c
refine ak (cvb e5) (wp_skip (bF (tn (wrl (mi z (mi z (mi z (ab (tn ?_)))))))))
replace b := (al (Pt d2 0) a0 b.au.au.au.au ⟨z, d3, d4, d5, d6⟩).bc.bc.bc.bc.bc.kj
obtain rfl := sj c
exact ⟨_, nls, b5, (i64.wrap (b6 + 1)), Y, Z, d1, fy z, b⟩
}
}
}
{
intro e2 c
refine ak (cvb e2) (wp_exit (aV (aV ?_)))
replace c := bo c d1
refine de (tn ?_)
replace b := (al (Pt d2 0) a0 b.au.au.au.au ⟨z, d3, d4, d5, d6⟩).ag.aA.au.bf.bc.bc.kj
obtain rfl := sj c
exact ⟨b5, Y, Z, j7, fy z, b⟩
}
}
{
rintro _ u6 ⟨d, m, H, c, ⟨u7, rfl⟩, b⟩
dsimp only [kc] at c
obtain ⟨u9, c, e6⟩ := bn c
refine cU (fun a w => ∃ (c1 : Int), (iK a2 d a0 a1 m) c1 = some r ∧ fz 204 [0, 5, 6, 7, 8, 9] [p0, Pt i 0, Pt j 0, Pt k 0, Pt p 0, H] a ∧ St w0 w I [aR p0 a0, cells i [U1 a2.Kind, U6 a2.ID.Session, U6 a2.ID.Seq, U6 a2.Epoch, U6 a2.Index, I6 a2.E, U6 a2.Hold.ID.Session, U6 a2.Hold.ID.Seq, U6 a2.Hold.Epoch, q, s, u, x, y, I6 a2.R.E, U6 a2.R.Epoch, U6 a2.R.Index, B, C, U6 a2.Shards, D, U6 a2.Rule.ID, I6 a2.Rule.From, I6 a2.Rule.To, F6 a2.Rule.Lo, F6 a2.Rule.Hi, U6 a2.Rule.Authority, I6 a2.Rule.Quota, .bool a2.On], cells j [Zb, Zu, Zu, Zi, Zu, Zu, Zs, Zs], cells k [I6 c1, U6 a2.Epoch, U6 a1, Zs, Zs], cells p [U6 a2.Rule.ID, U6 a2.Epoch, I6 d], bg dA H m] R) ?_ ?_
{
refine wp_seq ?_
obtain ⟨e7, v0, v1, v2, v3, v4, v5, v6, ⟨rfl, e8, e9, f0, f1⟩, k9⟩ := bl b
have b := k9
refine dO b mixed (by kernel_rfl) (qh _ (fun w b => aT z underlying33 z sizeOf29 z) (qh _ (fun w b => aq z isAgg29 (b.bc6 z)) (qz (.bool _) z (qz (.bool _) z (bs c ?_ ?_)))))
{
intro f c
refine qg _ f (fun w b => aT z underlying49 z sizeOf26 z) (qg _ f (fun w b => aq z isAgg26 (b.bc4 z)) (qgz (Pt _ _) f z (qgz (Pt _ _) f z (qg _ f (fun w b => aT z underlying130 z sizeOf26 z) (qg _ f (fun w b => aq z isAgg26 (b.bc0 z)) (qgz (.bool _) f z (qh (.bool _) (fun w b => aS f z z) (fO ?_))))))))
intro w b
refine tn (bs c ?_ ?_)
{
intro f2 c
refine ar (cvb f2) (wrl (mf z underlying33 z sizeOf29 ?_))
replace b := b.da
obtain ⟨v7, l0, b⟩ := b.by_ [I6 9, U6 a2.Epoch, U6 a1, Zs, Zs] 0 (.int .i64 9) sizeOf29 z (oC z oN) (by kernel_rfl)
refine aE z z (aG l0) (ab (tn ?_))
replace b := (al (Pt e7 0) a0 b.bf.bf.bf.bf ⟨z, e8, e9, f0, f1⟩).bc.bc.au.bc.bc.bc.kj
obtain rfl := sj c
exact ⟨9, e6, fy z, b⟩
}
{
intro f2 c
refine ak (cvb f2) (wp_skip (tn ?_))
replace b := (al (Pt e7 0) a0 b.au.au.au.au ⟨z, e8, e9, f0, f1⟩).bc.bc.bc.bc.bc.bc.kj
obtain rfl := sj c
exact ⟨a2.R.E, e6, fy z, b⟩
}
}
{
intro f c
refine qo f (qo f (qo f (qo f (qo f (qo f (qo f (qh (.bool _) (fun w b => aJ f z z) (fO ?_))))))))
intro w b
refine tn (ak z (wp_skip (tn ?_)))
replace b := (al (Pt e7 0) a0 b.au.au.au.au ⟨z, e8, e9, f0, f1⟩).bc.bc.bc.bc.bc.bc.kj
obtain rfl := sj c
exact ⟨a2.R.E, e6, fy z, b⟩
}
}
{
rintro _ v8 ⟨c1, c, ⟨v9, rfl⟩, b⟩
dsimp only [iK] at c
obtain ⟨x0, c, f3⟩ := bn c
refine cU (fun a w => ∃ (c2 : Int), (iI d a2 a0 a1 m) c2 = some r ∧ fz 204 [0, 5, 6, 7, 8, 9] [p0, Pt i 0, Pt j 0, Pt k 0, Pt p 0, H] a ∧ St w0 w I [aR p0 a0, cells i [U1 a2.Kind, U6 a2.ID.Session, U6 a2.ID.Seq, U6 a2.Epoch, U6 a2.Index, I6 a2.E, U6 a2.Hold.ID.Session, U6 a2.Hold.ID.Seq, U6 a2.Hold.Epoch, q, s, u, x, y, I6 a2.R.E, U6 a2.R.Epoch, U6 a2.R.Index, B, C, U6 a2.Shards, D, U6 a2.Rule.ID, I6 a2.Rule.From, I6 a2.Rule.To, F6 a2.Rule.Lo, F6 a2.Rule.Hi, U6 a2.Rule.Authority, I6 a2.Rule.Quota, .bool a2.On], cells j [Zb, Zu, Zu, Zi, Zu, Zu, Zs, Zs], cells k [I6 c2, U6 a2.Epoch, U6 a1, Zs, Zs], cells p [U6 a2.Rule.ID, U6 a2.Epoch, I6 d], bg dA H m] R) ?_ ?_
{
refine wp_seq (wrl (mf z underlying33 z sizeOf29 (ml z isAgg29 (b.bc3 z) (mb z (mb z (bs c ?_ ?_))))))
{
intro G c
refine gg G (aT z underlying49 z sizeOf42 z) (gg G (aq z isAgg42 (b.bc1 z)) (gg G (bZ z underlying42 (ax b4)) (gb G z (mb (aS G z z) (ab (tn (bs c ?_ ?_)))))))
{
intro f4 c
refine ar (cvb f4) (wrl (mf z underlying33 z sizeOf29 ?_))
replace b := b.au
obtain ⟨x1, l1, b⟩ := b.by_ [I6 1, U6 a2.Epoch, U6 a1, Zs, Zs] 0 (.int .i64 1) sizeOf29 z (oC z oN) (by kernel_rfl)
refine aE z z (aG l1) (ab (tn ?_))
replace b := b.bc.bc.aA.bc.bc.bc.kj
obtain rfl := sj c
exact ⟨1, f3, fy z, b⟩
}
{
intro f4 c
refine ak (cvb f4) (wp_skip (tn ?_))
replace b := b.bc.bc.bc.bc.bc.bc.kj
obtain rfl := sj c
exact ⟨c1, f3, fy z, b⟩
}
}
{
intro G c
refine go G (go G (go G (go G (mb (aJ G z z) (ab (tn (ak z (wp_skip (tn ?_)))))))))
replace b := b.bc.bc.bc.bc.bc.bc.kj
obtain rfl := sj c
exact ⟨c1, f3, fy z, b⟩
}
}
{
rintro _ x2 ⟨c2, c, ⟨x3, rfl⟩, b⟩
dsimp only [iI] at c
obtain ⟨x4, c, f5⟩ := bn c
refine cU (fun a w => ∃ (g : Int), (dL a0 a2 a1 m d) g = some r ∧ fz 204 [0, 5, 6, 7, 8, 9] [p0, Pt i 0, Pt j 0, Pt k 0, Pt p 0, H] a ∧ St w0 w I [aR p0 a0, cells i [U1 a2.Kind, U6 a2.ID.Session, U6 a2.ID.Seq, U6 a2.Epoch, U6 a2.Index, I6 a2.E, U6 a2.Hold.ID.Session, U6 a2.Hold.ID.Seq, U6 a2.Hold.Epoch, q, s, u, x, y, I6 a2.R.E, U6 a2.R.Epoch, U6 a2.R.Index, B, C, U6 a2.Shards, D, U6 a2.Rule.ID, I6 a2.Rule.From, I6 a2.Rule.To, F6 a2.Rule.Lo, F6 a2.Rule.Hi, U6 a2.Rule.Authority, I6 a2.Rule.Quota, .bool a2.On], cells j [Zb, Zu, Zu, Zi, Zu, Zu, Zs, Zs], cells k [I6 g, U6 a2.Epoch, U6 a1, Zs, Zs], cells p [U6 a2.Rule.ID, U6 a2.Epoch, I6 d], bg dA H m] R) ?_ ?_
{
refine wp_seq (wrl (mf z underlying33 z sizeOf29 (ml z isAgg29 (b.bc3 z) (mb z (mb z (bs c ?_ ?_))))))
{
intro h c
refine gg h (aT z underlying249 z sizeOf3 z) (gg h (aq z isAgg3 (b.bc4 z)) (gg h (aT z underlying49 z sizeOf39 z) (gg h (aT z underlying39 z sizeOf3 z) (gg h (aq z isAgg3 (b.bc1 z)) (gb h z (mb (aS h z z) (ab (tn (bs c ?_ ?_)))))))))
{
intro f6 c
refine ar (cvb f6) (wrl (mf z underlying33 z sizeOf29 ?_))
replace b := b.au
obtain ⟨x5, l2, b⟩ := b.by_ [I6 13, U6 a2.Epoch, U6 a1, Zs, Zs] 0 (.int .i64 13) sizeOf29 z (oC z oN) (by kernel_rfl)
refine aE z z (aG l2) (ab (tn ?_))
replace b := b.bc.bc.aA.bc.bc.bc.kj
obtain rfl := sj c
exact ⟨13, f5, fy z, b⟩
}
{
intro f6 c
refine ak (cvb f6) (wp_skip (tn ?_))
replace b := b.bc.bc.bc.bc.bc.bc.kj
obtain rfl := sj c
exact ⟨c2, f5, fy z, b⟩
}
}
{
intro h c
refine go h (go h (go h (go h (go h (go h (mb (aJ h z z) (ab (tn (ak z (wp_skip (tn ?_)))))))))))
replace b := b.bc.bc.bc.bc.bc.bc.kj
obtain rfl := sj c
exact ⟨c2, f5, fy z, b⟩
}
}
{
rintro _ x6 ⟨g, c, ⟨x7, rfl⟩, b⟩
dsimp only [dL] at c
refine wp_seq ?_
obtain ⟨J, c3, c4, h2, c5, b0, b7, l3, ⟨rfl, K, L, U, M⟩, l4⟩ := bl b
have b := l4
refine rg b 17 [0, 1, 3, 7, 0, 16, 48, 0, 128, 384, 0, 2047, 4095, 8191, 8191, 16383, 65535] [] mixed (sp 0 z z (sp 1 z z (sf 2 z z underlying130 z sizeOf126 (sl 3 z z isAgg126 (fun w b => b.bc0 z) (sf 4 z z underlying49 z sizeOf28 (sf 5 z z underlying28 z sizeOf26 (sl 6 z z isAgg26 (fun w b => b.bc4 z) (sf 7 z z underlying49 z sizeOf28 (sf 8 z z underlying28 z sizeOf26 (sl 9 z z isAgg26 (fun w b => b.bc4 z) (sh _ 10 z (fun w b => ay (cs := [I6 g, U6 a2.Epoch, U6 a1, Zs, Zs]) z isAgg33 sizeOf33 (b.BR 0 z)) (e1 11 z z fun w b => ?_))))))))))))
have b1 : Ro aD I (.slice none 0 0) [] := cy
have b2 : Ro (dJ az) I (.slice none 0 0) [] := cy
obtain ⟨c6, l5, c⟩ := bn c
refine wec call151 [h2, U6 a2.ID.Session, U6 a2.ID.Seq, .agg #[I6 g, U6 a2.Epoch, U6 a1, Zs, Zs]] z z ((rO (a3 := ({ E := g, Epoch := a2.Epoch, Index := a1, Gots := [], Scans := [] } : bw)) U b1 b2 b.to0 l5).mono ?_)
rintro _ x8 ⟨I1388, O, rfl, V, c7, b⟩
refine ⟨_, z, ?_⟩
replace b := b.of0
replace b4 := b4.mono (ns V)
replace K := K.mono (ro_le V)
replace L := L.mono (ro_le V)
replace U := U.mono (ro_le V)
replace M := M.mono (ro_le V)
replace b1 := b1.mono (ro_le V)
replace b2 := b2.mono (ro_le V)
replace Q := Q.trans V
refine w0n b (sz (.tuple #[O, I6 c6.2]) 12 z z (sz (O) 13 z z (si 14 z z (sz (O) 15 z z (si 16 z z (bp ?_))))))
intro w b
refine tn (wp_seq (wp_seq (wrl (mi z (mb z (ab (tn (bs c ?_ ?_))))))))
{
intro f7 c
refine ar (cvb f7) (wp_seq (wp_seq (rg b 13 [0, 1, 3, 7, 0, 16, 48, 127, 255, 0, 512, 1536, 4095] [] mixed (sp 0 z z (sp 1 z z (sf 2 z z underlying130 z sizeOf126 (sl 3 z z isAgg126 (fun w b => b.bc0 z) (sf 4 z z underlying49 z sizeOf28 (sf 5 z z underlying28 z sizeOf26 (sl 6 z z isAgg26 (fun w b => b.bc4 z) (sf 9 z z underlying49 z sizeOf28 (sf 10 z z underlying28 z sizeOf26 (sl 11 z z isAgg26 (fun w b => b.bc4 z) (e1 7 z z fun w b => ?_))))))))))))))
obtain ⟨h3, l6, c⟩ := bn c
refine wec call93 [h2, U6 a2.ID.Session] z z ((lW U b.to0 l6).mono ?_)
rintro _ x9 ⟨I1397, y0, y1, rfl, c8, l7, l8, b⟩
refine ⟨_, z, ?_⟩
replace b := b.of0
replace K := K.mono (ro_le c8)
replace L := L.mono (ro_le c8)
replace U := U.mono (ro_le c8)
replace M := M.mono (ro_le c8)
replace Q := Q.trans c8
refine wn [11, 10, 9] b (pkr z z (fun w b => aq z isAgg26 (b.bc4 z)) (pf z z underlying28 z sizeOf26 (pf z z underlying49 z sizeOf28 bD))) (wsr (.int .u64 h3.Seq) 8 rfl rfl rfl (by kernel_rfl) (fun w b => by obtain ⟨_, _, hv_, _⟩ := (ah l8); rw [hv_]; obtain ⟨_, _, hv_, _⟩ := (ah l7); rw [hv_]; kernel_rfl) (wsr (.bool (decide (h3.Seq > a2.ID.Seq))) 12 rfl rfl rfl (by kernel_rfl) (fun w b => rfl) (bp ?_)))
intro w b
refine tn (bs c ?_ ?_)
{
intro f8 c
refine ar (cvb f8) (wp_seq (wrl (mf z underlying49 z sizeOf28 (mz (ay (cs := [U6 a2.ID.Session, U6 a2.ID.Seq]) z isAgg28 sizeOf28 (b.wy 1 z)) (mk (.agg #[I6 10, Zu, Zu, Zs, Zs]) (mk (.agg #[U1 4, U6 a2.ID.Session, U6 a2.ID.Seq, I6 10, Zu, Zu, Zs, Zs]) ?_))))))
replace b := b.bc
obtain ⟨y2, l9, b⟩ := b.bx [U1 4, U6 a2.ID.Session, U6 a2.ID.Seq, I6 10, Zu, Zu, Zs, Zs] sizeOf35 z (oJ 8 z oN) (by kernel_rfl)
refine aE z z (aG l9) (ab (tn (wp_ret (aN (aN ?_)))))
have m0 : Ro aD I1397 (.slice none 0 0) [] := cy
have m1 : Ro (dJ az) I1397 (.slice none 0 0) [] := cy
replace b := al (Pt J 0) a0 b.bf.bf.bf.bf ⟨z, K, L, U, M⟩
obtain rfl := sj c
exact aZ [.agg #[U1 4, U6 a2.ID.Session, U6 a2.ID.Seq, I6 10, Zu, Zu, Zs, Zs]] results76 (bq (bJ (cs := [U1 4, U6 a2.ID.Session, U6 a2.ID.Seq, I6 10, Zu, Zu, Zs, Zs]) z isAgg35 sizeOf35 (b.eK 0 z)) ai) ⟨_, Zs, Zs, z, Q, m0, m1, b.bu⟩
}
{
intro f8 c
refine ak (cvb f8) (wp_skip (tn (wp_seq (wrl (mk (.agg #[Zb, Zu, Zu, Zi, Zu, Zu, Zs, Zs]) ?_)))))
replace b := b.bc
obtain ⟨y3, m2, b⟩ := b.bx [Zb, Zu, Zu, Zi, Zu, Zu, Zs, Zs] sizeOf35 z (oJ 8 z oN) (by kernel_rfl)
refine aE z z (aG m2) (ab (tn (wp_ret (aN ?_))))
have m3 : Ro aD I1397 (.slice none 0 0) [] := cy
have m4 : Ro (dJ az) I1397 (.slice none 0 0) [] := cy
replace b := al (Pt J 0) a0 b.bf.bf.bf.bf ⟨z, K, L, U, M⟩
obtain rfl := sj c
exact aZ [.agg #[Zb, Zu, Zu, Zi, Zu, Zu, Zs, Zs]] results76 (bq (bJ (cs := [Zb, Zu, Zu, Zi, Zu, Zu, Zs, Zs]) z isAgg35 sizeOf35 (b.eK 0 z)) ai) ⟨_, Zs, Zs, z, Q, m3, m4, b.bu⟩
}
}
{
intro f7 c
refine ak (cvb f7) (wp_skip (tn (wp_seq (wrl (mp z (mv (O) z (mp z (mf z underlying130 z sizeOf126 ?_))))))))
obtain ⟨y4, m5, b⟩ := b.cW (P := prog) (t := 126) (cs' := [I6 a0.Wide, U6 a0.Epoch, c3, c4, O, c5, b0, b7, l3]) 4 O (oS (ah c7)) sizeOf126 z z
refine aE z z (aG m5) (ab (tn ?_))
obtain ⟨y5, c, h4⟩ := bn c
refine cU (fun a w => ∃ (I1594 : HL) (f9 : aj), (kb a2 g a1) f9 = some r ∧ fz 204 [5, 6, 7] [Pt i 0, Pt j 0, Pt k 0] a ∧ I1388.le I1594 ∧ St w0 w I1594 [cells i [U1 a2.Kind, U6 a2.ID.Session, U6 a2.ID.Seq, U6 a2.Epoch, U6 a2.Index, I6 a2.E, U6 a2.Hold.ID.Session, U6 a2.Hold.ID.Seq, U6 a2.Hold.Epoch, q, s, u, x, y, I6 a2.R.E, U6 a2.R.Epoch, U6 a2.R.Index, B, C, U6 a2.Shards, D, U6 a2.Rule.ID, I6 a2.Rule.From, I6 a2.Rule.To, F6 a2.Rule.Lo, F6 a2.Rule.Hi, U6 a2.Rule.Authority, I6 a2.Rule.Quota, .bool a2.On], cells j [Zb, Zu, Zu, Zi, Zu, Zu, Zs, Zs], cells k [I6 g, U6 a2.Epoch, U6 a1, Zs, Zs], aR (Pt J 0) f9] R) ?_ ?_
{
have e0 := HL.le.refl I1388
refine wp_seq (wrl (mf z underlying33 z sizeOf29 (ml z isAgg29 (b.bc6 z) (mb z (ab (tn (bs c ?_ ?_)))))))
{
intro g0 c
refine ar (cvb g0) (wp_seq (wrl (mf z underlying249 z sizeOf3 (ml z isAgg3 (b.bc7 z) (mi z (mf z underlying249 z sizeOf3 ?_))))))
replace b := b.aL
obtain ⟨y6, m6, b⟩ := b.by_ [U6 a2.Rule.ID, U6 a2.Epoch, I6 (i64.wrap (d + 1))] 2 (.int .i64 (i64.wrap (d + 1))) sizeOf3 z (oC z oN) (by kernel_rfl)
refine aE z z (aG m6) (ab (tn (wp_seq (wrl (mp z (mv (H) z (mz (ay (cs := [U6 a2.Rule.ID, U6 a2.Epoch, I6 (i64.wrap (d + 1))]) z isAgg249 sizeOf249 (b.eF 0 z)) ?_)))))))
obtain ⟨g1, m7, m8, m9, b⟩ := b.ey (E := dA) (xs := [({ Rule := a2.Rule.ID, Epoch := a2.Epoch, N := (i64.wrap (d + 1)) } : dv)]) [[U6 a2.Rule.ID, U6 a2.Epoch, I6 (i64.wrap (d + 1))]] 249 1 z (bE.cons z bE.nil)
refine cb (v := (.slice (some ⟨g1, 0, none⟩) 1 1)) (w' := m7) z z (dn (by kernel_rfl) m8 m9) ?_
obtain ⟨n0, c⟩ := cz c
replace b := b.bS
obtain ⟨X, n1, n2, b⟩ := bI yN underlying128 b b.ju (cK n0 z) 128
refine cb (v := X) (w' := n1) z z (bX z z n2) (mp z (mf z underlying130 z sizeOf128 ?_))
replace b := b.au
obtain ⟨y7, n3, b⟩ := b.cW (P := prog) (t := 128) (cs' := [I6 a0.Wide, U6 a0.Epoch, c3, c4, O, c5, b0, b7, X]) 8 X (oS b.sv1) sizeOf128 z z
refine aE z z (aG n3) (ab (tn (rg b 36 [0, 0, 2, 6, 14, 0, 32, 96, 0, 0, 512, 1536, 3840, 7936, 16128, 32512, 0, 65536, 196608, 0, 524288, 0, 2097152, 6291456, 14680064, 0, 33554432, 100663296, 234881024, 534781696, 1073741792, 2147483616, 4294967294, 8589934591, 17179869183, 34359738367] [] mixed (sp 0 z z (sp 1 z z (sp 2 z z (sf 3 z z underlying130 z sizeOf50 (sl 4 z z isAgg50 (fun w b => b.bc0 z) (sf 5 z z underlying49 z sizeOf39 (sf 6 z z underlying39 z sizeOf3 (sl 7 z z isAgg3 (fun w b => b.bc7 z) (sp 8 z z (sf 9 z z underlying49 z sizeOf39 (sf 10 z z underlying39 z sizeOf3 (sl 11 z z isAgg3 (fun w b => b.bc7 z) (sf 16 z z underlying49 z sizeOf39 (sf 17 z z underlying39 z sizeOf26 (sl 18 z z isAgg26 (fun w b => b.bc7 z) (sf 19 z z underlying49 z sizeOf26 (sl 20 z z isAgg26 (fun w b => b.bc7 z) (sf 21 z z underlying49 z sizeOf42 (sl 22 z z isAgg42 (fun w b => b.bc7 z) ?_))))))))))))))))))))))
obtain ⟨b8, n4, c⟩ := bn c
obtain ⟨h5, h6, n5⟩ := aP n4
refine sh _ 23 z (fun w b => aC z z underlying42 sizeOf41 (ax b4) h5 h6) ?_
obtain ⟨y8, n6, h7⟩ := Rd.jZ b4 n5
obtain ⟨g2, rfl, n7, -⟩ := n6
refine sh _ 24 z (fun w b => ay (cs := [F6 b8.At, .bool b8.Del, g2]) z isAgg41 sizeOf41 (dS (o := 0) (h7 lr b) z)) (sp 25 z z (sp 26 z z (sf 27 z z underlying130 z sizeOf3 (sl 28 z z isAgg3 (fun w b => b.bc0 z) (e1 12 z z fun w b => ?_)))))
obtain ⟨h8, n8, c⟩ := bn c
refine oy z (dH call92 (caps := []) z (vs := [Pt J 0, I6 a2.Rule.To]) z) (Calls.mono (show Calls prog 92 #[Pt J 0, I6 a2.Rule.To] _ (fun e w' => ∃ (S : (List cR)) (g3 : Value), S = h8 ∧ e = .returned (g3) ∧ St w0 w' I1388 [bg cj g3 S, cells J [I6 a0.Wide, U6 a0.Epoch, c3, c4, O, c5, b0, b7, X], bg aM b0 a0.Open, bg cj b7 a0.Out, bg dA X (m ++ ([({ Rule := a2.Rule.ID, Epoch := a2.Epoch, N := (i64.wrap (d + 1)) } : dv)])), cells i [U1 a2.Kind, U6 a2.ID.Session, U6 a2.ID.Seq, U6 a2.Epoch, U6 a2.Index, I6 a2.E, U6 a2.Hold.ID.Session, U6 a2.Hold.ID.Seq, U6 a2.Hold.Epoch, q, s, u, x, y, I6 a2.R.E, U6 a2.R.Epoch, U6 a2.R.Index, B, C, U6 a2.Shards, D, U6 a2.Rule.ID, I6 a2.Rule.From, I6 a2.Rule.To, F6 a2.Rule.Lo, F6 a2.Rule.Hi, U6 a2.Rule.Authority, I6 a2.Rule.Quota, .bool a2.On], cells j [Zb, Zu, Zu, Zi, Zu, Zu, Zs, Zs], cells k [I6 g, U6 a2.Epoch, U6 a1, Zs, Zs], cells p [U6 a2.Rule.ID, U6 a2.Epoch, I6 (i64.wrap (d + 1))], bg dA (.slice (some ⟨g1, 0, none⟩) 1 1) ([({ Rule := a2.Rule.ID, Epoch := a2.Epoch, N := (i64.wrap (d + 1)) } : dv)])] R) from ?_) ?_)
{
clear c; have c := n8
refine c0 func92 z ntmps92 (wp_seq (wrl (mv ((.slice none 0 0)) z (ab (tn (wp_seq (wrl (mv ((.slice none 0 0)) z (ab (tn (wp_seq (wp_seq (wrl (mi z (ab (tn (wp_block ?_)))))))))))))))))
replace b := b.da.sub.bd cj
obtain ⟨n9, c⟩ := aX c
refine bm (fun n a w => ∃ (b9 : (List cR)) (c9 : Int) (T : Value), cT (fh a0 a2) n (b9, c9) = some h8 ∧ fz 37 [0, 1, 5, 6] [Pt J 0, I6 a2.Rule.To, T, I6 c9] a ∧ St w0 w I1388 [bg cj T b9, cells J [I6 a0.Wide, U6 a0.Epoch, c3, c4, O, c5, b0, b7, X], bg dA X (m ++ ([({ Rule := a2.Rule.ID, Epoch := a2.Epoch, N := (i64.wrap (d + 1)) } : dv)])), bg dA (.slice (some ⟨g1, 0, none⟩) 1 1) ([({ Rule := a2.Rule.ID, Epoch := a2.Epoch, N := (i64.wrap (d + 1)) } : dv)]), cells p [U6 a2.Rule.ID, U6 a2.Epoch, I6 (i64.wrap (d + 1))], bg aM b0 a0.Open, bg cj b7 a0.Out, cells i [U1 a2.Kind, U6 a2.ID.Session, U6 a2.ID.Seq, U6 a2.Epoch, U6 a2.Index, I6 a2.E, U6 a2.Hold.ID.Session, U6 a2.Hold.ID.Seq, U6 a2.Hold.Epoch, q, s, u, x, y, I6 a2.R.E, U6 a2.R.Epoch, U6 a2.R.Index, B, C, U6 a2.Shards, D, U6 a2.Rule.ID, I6 a2.Rule.From, I6 a2.Rule.To, F6 a2.Rule.Lo, F6 a2.Rule.Hi, U6 a2.Rule.Authority, I6 a2.Rule.Quota, .bool a2.On], cells j [Zb, Zu, Zu, Zi, Zu, Zu, Zs, Zs], cells k [I6 g, U6 a2.Epoch, U6 a1, Zs, Zs]] R) n9 ⟨[], 0, Zs, c, fy z, b⟩ ?_
rintro y9 _ A0 ⟨b9, c9, T, c, ⟨A1, rfl⟩, b⟩
obtain ⟨A2, A3, rfl, c, g4⟩ := ba c
dsimp only [fh] at c
refine wp_seq (wp_seq (wrl (mi z (mp z (mp z (mf z underlying130 z sizeOf50 (ml z isAgg50 (b.bc1 z) (mz (bZ z underlying50 b.sv6) (mb z (ab (tn (bs c ?_ ?_))))))))))))
{
intro g5 c
refine ar (cvb g5) (wp_skip (tn (wp_seq (wp_block (wp_seq (wrl (mp z (mp z (mf z underlying130 z sizeOf50 (ml z isAgg50 (b.bc1 z) (mi z ?_)))))))))))
obtain ⟨l, o0, c⟩ := bn c
obtain ⟨h9, i0, o1⟩ := aP o0
refine mz (aC z z underlying50 sizeOf53 b.sv6 h9 i0) (mz (aW z underlying53 z sizeOf3 z) ?_)
obtain ⟨A4, o2, i1⟩ := b.og6 o1
obtain ⟨i2, rfl, i3, -⟩ := o2
refine ml z isAgg3 (i1 0 _ z) (mi z (mb z (ab (tn (bs c ?_ ?_)))))
{
intro g6 c
refine ar (cvb g6) (wrl (mv (T) z (mp z (mp z (mf z underlying130 z sizeOf50 (ml z isAgg50 (b.bc1 z) (mi z (mz (aC z z underlying50 sizeOf53 b.sv6 h9 i0) (mz (ay (cs := [I6 l.To, U6 l.N, U6 l.Rule, U6 l.Epoch, F6 l.W.At, .bool l.W.Del, i2]) z isAgg53 sizeOf53 (dS (o := 0) i1 z)) ?_)))))))))
obtain ⟨o3, o4, o5, o6, b⟩ := b.ey (E := cj) (xs := [l]) [[I6 l.To, U6 l.N, U6 l.Rule, U6 l.Epoch, F6 l.W.At, .bool l.W.Del, i2]] 53 1 z (bE.cons ⟨_, z, i3, oS (ah i3)⟩ bE.nil)
refine cb (v := (.slice (some ⟨o3, 0, none⟩) 1 1)) (w' := o4) z z (dn (by kernel_rfl) o5 o6) ?_
obtain ⟨o7, c⟩ := cz c
replace b := b.ag
obtain ⟨g7, o8, o9, b⟩ := bI sH underlying50 b b.ju (cK o7 z) 50
refine cb (v := g7) (w' := o8) z z (bX z z o9) (mv (g7) z (ab (bF (tn (wrl (mi z (mi z (mi z (ab (tn ?_))))))))))
replace b := b.bz.bz.bz.bz.bz.bz.bz.bz.bz.bS.ui
obtain rfl := sj c
exact ⟨_, nls, (b9 ++ ([l])), (i64.wrap (c9 + 1)), g7, g4, fy z, b⟩
}
{
intro g6 c
refine ak (cvb g6) (wp_skip (bF (tn (wrl (mi z (mi z (mi z (ab (tn ?_)))))))))
replace b := b.bS.bS.bS.bS.bS.bS.bS.bS.bS.bS.ui
obtain rfl := sj c
exact ⟨_, nls, b9, (i64.wrap (c9 + 1)), T, g4, fy z, b⟩
}
}
{
intro g5 c
refine ak (cvb g5) (wp_exit (aV (aV ?_)))
replace c := bo c g4
refine de (tn (wp_seq (wrl (mv (T) z (mv (T) z (ab (tn (wp_ret (aZ [T] results92 (rc z ai) ?_)))))))))
replace b := b.au.bf.bS.bS.bS.aL.bS.bS.bS.bS.ui
obtain rfl := sj c
exact ⟨b9, T, z, z, b⟩
}
}
rintro _ A5 ⟨S, g3, rfl, rfl, b⟩
refine ⟨_, z, ?_⟩
try dsimp only at c
refine wn [28, 27, 26, 25, 24, 23, 22, 21, 20, 19, 18, 17, 16, 7, 6, 5, 4, 3, 2, 1, 0] b (pkr z z (fun w b => aq z isAgg3 (b.bc1 z)) (pf z z underlying130 z sizeOf3 (pz (pz (pkr z z (fun w b => ay (cs := [F6 b8.At, .bool b8.Del, g2]) z isAgg41 sizeOf41 (dS (o := 0) (h7 lr b) z)) (pkr z z (fun w b => aC z z underlying42 sizeOf41 (ax b4) h5 h6) (pkr z z (fun w b => aq z isAgg42 (b.bc5 z)) (pf z z underlying49 z sizeOf42 (pkr z z (fun w b => aq z isAgg26 (b.bc5 z)) (pf z z underlying49 z sizeOf26 (pkr z z (fun w b => aq z isAgg26 (b.bc5 z)) (pf z z underlying39 z sizeOf26 (pf z z underlying49 z sizeOf39 (pkr z z (fun w b => aq z isAgg3 (b.bc5 z)) (pf z z underlying39 z sizeOf3 (pf z z underlying49 z sizeOf39 (pkr z z (fun w b => aq z isAgg50 (b.bc1 z)) (pf z z underlying130 z sizeOf50 (pz (pz (pz bD))))))))))))))))))))) (sh _ 13 z (fun w b => bZ z underlying50 b.sv0) (si 14 z z (sk (.int .u64 (u64.wrap (i64.wrap (((S).length : Int) + 1)))) 15 z (e1 29 z z fun w b => ?_))))
obtain ⟨b3, q0, c⟩ := bn c
refine wec call16 [.agg #[F6 b8.At, .bool b8.Del, g2], I6 a0.Wide] z z ((wm (n7.mono (cC _)) b.to0 q0).mono ?_)
rintro _ A6 ⟨i4, rfl, b⟩
refine ⟨_, z, ?_⟩
replace b := b.of1
refine wn [15, 14, 13, 20, 19, 18, 17, 16, 7, 6, 5, 4, 3, 2, 1, 0] b (pkr z z (fun w b => by kernel_rfl) (pz (pkr z z (fun w b => bZ z underlying50 b.sv1) (pkr z z (fun w b => aq z isAgg26 (b.bc6 z)) (pf z z underlying49 z sizeOf26 (pkr z z (fun w b => aq z isAgg26 (b.bc6 z)) (pf z z underlying39 z sizeOf26 (pf z z underlying49 z sizeOf39 (pkr z z (fun w b => aq z isAgg3 (b.bc6 z)) (pf z z underlying39 z sizeOf3 (pf z z underlying49 z sizeOf39 (pkr z z (fun w b => aq z isAgg50 (b.bc2 z)) (pf z z underlying130 z sizeOf50 (pz (pz (pz bD)))))))))))))))) (wsr (.agg #[I6 a2.Rule.To, U6 (u64.wrap (i64.wrap (((S).length : Int) + 1))), U6 a2.Rule.ID, U6 a2.Epoch, F6 b3.At, .bool b3.Del, i4]) 30 rfl rfl rfl (by kernel_rfl) (fun w b => by obtain ⟨_, _, hv_, _⟩ := b.sv0; rw [hv_]; kernel_rfl) (e1 31 z z fun w b => ?_))
obtain ⟨I1578, d0, i5, b⟩ := b.cN
replace K := K.mono (ro_le d0)
replace L := L.mono (ro_le d0)
replace M := M.mono (ro_le d0)
replace c7 := c7.mono (ro_le d0)
replace e0 := e0.trans d0
obtain ⟨q1, q2, q3, q4, b⟩ := b.ey (E := cj) (xs := [({ To := a2.Rule.To, N := (u64.wrap (i64.wrap (((S).length : Int) + 1))), Rule := a2.Rule.ID, Epoch := a2.Epoch, W := b3 } : cR)]) [[I6 a2.Rule.To, U6 (u64.wrap (i64.wrap (((S).length : Int) + 1))), U6 a2.Rule.ID, U6 a2.Epoch, F6 b3.At, .bool b3.Del, i4]] 53 1 z (bE.cons ⟨_, z, i5, oS (ah i5)⟩ bE.nil)
refine bW (v := (.slice (some ⟨q1, 0, none⟩) 1 1)) (w' := q2) z (dn (by kernel_rfl) q3 q4) (wn [4, 3, 2, 1, 0] b (pkr z z (fun w b => aq z isAgg50 (b.bc2 z)) (pf z z underlying130 z sizeOf50 (pz (pz (pz bD))))) (e1 32 z z fun w b => ?_))
obtain ⟨q5, c⟩ := cz c
replace b := b.bf
obtain ⟨g8, q6, q7, b⟩ := bI sH underlying50 b b.ju (cK q5 z) 50
refine bW (v := g8) (w' := q6) z (bX z z q7) (wn [0] b (pz bD) (sp 33 z z (sf 34 z z underlying130 z sizeOf50 (e1 35 z z fun w b => ?_))))
replace b := b.au
obtain ⟨A7, q8, b⟩ := b.cW (P := prog) (t := 50) (cs' := [I6 a0.Wide, U6 a0.Epoch, c3, c4, O, c5, b0, g8, X]) 7 g8 (oS b.sv1) sizeOf50 z z
refine dz z (aG q8) (w0n b (bp ?_))
intro w b
refine tn ?_
replace b := (al (Pt J 0) (({ a0 with A := c6.1, Out := (a0.Out ++ ([({ To := a2.Rule.To, N := (u64.wrap (i64.wrap (((S).length : Int) + 1))), Rule := a2.Rule.ID, Epoch := a2.Epoch, W := b3 } : cR)])), Used := (m ++ ([({ Rule := a2.Rule.ID, Epoch := a2.Epoch, N := (i64.wrap (d + 1)) } : dv)])) } : aj)) b.bc.aA.bc.au ⟨z, K, L, c7, M⟩).bc.bc.bc.eI
obtain rfl := sj c
exact ⟨_, ({ a0 with A := c6.1, Out := (a0.Out ++ ([({ To := a2.Rule.To, N := (u64.wrap (i64.wrap (((S).length : Int) + 1))), Rule := a2.Rule.ID, Epoch := a2.Epoch, W := b3 } : cR)])), Used := (m ++ ([({ Rule := a2.Rule.ID, Epoch := a2.Epoch, N := (i64.wrap (d + 1)) } : dv)])) } : aj), h4, fy z, e0, b⟩
}
{
intro g0 c
refine ak (cvb g0) (wp_skip (tn ?_))
replace b := (al (Pt J 0) (({ a0 with A := c6.1 } : aj)) b.au.au.au.au ⟨z, K, L, c7, M⟩).au.au.au.eI
obtain rfl := sj c
exact ⟨_, ({ a0 with A := c6.1 } : aj), h4, fy z, e0, b⟩
}
}
{
rintro _ A8 ⟨I1594, f9, c, ⟨A9, rfl⟩, g9, b⟩
dsimp only [kb] at c
replace b1 := b1.mono (ro_le g9)
replace b2 := b2.mono (ro_le g9)
replace Q := Q.trans g9
refine wp_seq (wrl (mf z underlying49 z sizeOf28 (mz (ay (cs := [U6 a2.ID.Session, U6 a2.ID.Seq]) z isAgg28 sizeOf28 (b.eF 1 z)) (mz (ay (cs := [I6 g, U6 a2.Epoch, U6 a1, Zs, Zs]) z isAgg33 sizeOf33 (b.pR 0 z)) (mk (.agg #[U1 4, U6 a2.ID.Session, U6 a2.ID.Seq, I6 g, U6 a2.Epoch, U6 a1, Zs, Zs]) ?_)))))
replace b := b.ag
obtain ⟨B0, q9, b⟩ := b.bx [U1 4, U6 a2.ID.Session, U6 a2.ID.Seq, I6 g, U6 a2.Epoch, U6 a1, Zs, Zs] sizeOf35 z (oJ 6 z (oC (oS (ah b1)) (oC (oS (ah b2)) oN))) (by kernel_rfl)
refine aE z z (aG q9) (ab (tn (wp_ret ?_)))
obtain rfl := sj c
refine aZ [.agg #[U1 4, U6 a2.ID.Session, U6 a2.ID.Seq, I6 g, U6 a2.Epoch, U6 a1, Zs, Zs]] results76 (bq (bJ (cs := [U1 4, U6 a2.ID.Session, U6 a2.ID.Seq, I6 g, U6 a2.Epoch, U6 a1, Zs, Zs]) z isAgg35 sizeOf35 (b.eF 0 z)) ai) ?_
replace b := b.au
exact ⟨_, Zs, Zs, z, Q, b1, b2, b.bu⟩
}
}
}
}
}
}
}
end Go.Proofs.YtgnkkopjkgdieaaGreat
