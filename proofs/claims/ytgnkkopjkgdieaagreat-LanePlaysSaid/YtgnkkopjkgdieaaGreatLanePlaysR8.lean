/- A part of the proof. -/
import Derived.Test.YtgnkkopjkgdieaaGreatLanePlaysR7
set_option linter.unusedVariables false
set_option linter.unusedSimpArgs false
set_option maxRecDepth 100000
set_option maxHeartbeats 4000000
namespace Go.Proofs.YtgnkkopjkgdieaaGreat
open Go Go.V
open _root_.Go.Proofs.Tryz IntKind
variable {w0 w : World} {I : HL} {R : SP}
attribute [local irreducible] wpList Code.wp wpQuiet Calls bodyPost Oper.wp wpS Nx gI YieldsIn
theorem rr {a0 : aj} {p0 : Value} {a1 : Int} {a2 : aH} {j k l m s u x y : Value} (S : Ro bY I j a2.Hold.Gets) (T : Ro gB I k a2.Hold.Scans) (U : Ro bY I l a2.Hold.Puts) (W : Ro (cp .u8) I m a2.Hold.Data) (q : Ro cI I s a2.Writes) (h6 : Ro aD I u a2.R.Gots) (h7 : Ro (dJ az) I x a2.R.Scans) (h8 : Ro cM I y a2.Parts) (b : St w0 w I [aR p0 a0] R) {r : (bj × aj)} (c : cx a0 a1 a2 = some r) :
  Calls prog 30 #[p0, U6 a1, .agg #[U1 a2.Kind, U6 a2.ID.Session, U6 a2.ID.Seq, U6 a2.Epoch, U6 a2.Index, I6 a2.E, U6 a2.Hold.ID.Session, U6 a2.Hold.ID.Seq, U6 a2.Hold.Epoch, j, k, l, m, s, I6 a2.R.E, U6 a2.R.Epoch, U6 a2.R.Index, u, x, U6 a2.Shards, y, U6 a2.Rule.ID, I6 a2.Rule.From, I6 a2.Rule.To, F6 a2.Rule.Lo, F6 a2.Rule.Hi, U6 a2.Rule.Authority, I6 a2.Rule.Quota, .bool a2.On]] w fun e w' => ∃ (I' : HL) (h9 : Value) (i0 : Value), e = .returned (.agg #[U1 r.1.Kind, U6 r.1.ID.Session, U6 r.1.ID.Seq, I6 r.1.R.E, U6 r.1.R.Epoch, U6 r.1.R.Index, h9, i0]) ∧ I.le I' ∧ Ro aD I' h9 r.1.R.Gots ∧ Ro (dJ az) I' i0 r.1.R.Scans ∧ St w0 w' I' [aR p0 r.2] R := by {
unfold cx at c
refine c0 func30 z ntmps30 ?_
have f := HL.le.refl I
refine wp_seq (wrl ?_)
obtain ⟨X, B8, k8, k9, b⟩ := b.box [U1 a2.Kind, U6 a2.ID.Session, U6 a2.ID.Seq, U6 a2.Epoch, U6 a2.Index, I6 a2.E, U6 a2.Hold.ID.Session, U6 a2.Hold.ID.Seq, U6 a2.Hold.Epoch, j, k, l, m, s, I6 a2.R.E, U6 a2.R.Epoch, U6 a2.R.Index, u, x, U6 a2.Shards, y, U6 a2.Rule.ID, I6 a2.Rule.From, I6 a2.Rule.To, F6 a2.Rule.Lo, F6 a2.Rule.Hi, U6 a2.Rule.Authority, I6 a2.Rule.Quota, .bool a2.On] 49
refine wa k8 k9 ?_
obtain ⟨M, B9, l0, l1, b⟩ := b.box [Zb, Zu, Zu, Zi, Zu, Zu, Zs, Zs] 35
refine wa l0 l1 (ab (tn (wp_seq (wp_seq (wrl (mf z underlying49 z sizeOf5 (ml z isAgg5 (b.bc1 z) (ab (tn (wp_block (wp_seq (wrl (mb z (mb z (ab (tn (bs c ?_ ?_)))))))))))))))))
{
intro d5 c
refine ar (cvb d5) (wp_seq (wp_seq ?_))
obtain ⟨c5, C0, C1, C2, C3, C4, C5, C6, ⟨rfl, i1, i2, i3, i4⟩, l2⟩ := bl b.aA
have b := l2
refine rg b 12 [0, 1, 0, 4, 12, 28, 63, 127, 255, 511, 1023, 2047] [] mixed (sf 0 z z underlying49 z sizeOf26 (sl 1 z z isAgg26 (fun w b => b.bc5 z) (sp 2 z z (sp 3 z z (sf 4 z z underlying130 z sizeOf26 (sl 5 z z isAgg26 (fun w b => b.bc0 z) (sb 6 z z (sb 7 z z (bs c ?_ ?_)))))))))
{
intro C c
refine so 8 z C (so 9 z C (so 10 z C (sh (.bool _) 11 z (fun w b => aS C z z) (bp ?_))))
intro w b
refine tn (ar z (wp_seq (wrl (mk (.agg #[Zb, Zu, Zu, Zi, Zu, Zu, Zs, Zs]) ?_))))
replace b := b.bf
obtain ⟨C7, l3, b⟩ := b.bx [Zb, Zu, Zu, Zi, Zu, Zu, Zs, Zs] sizeOf35 z (oJ 8 z oN) (by kernel_rfl)
refine aE z z (aG l3) (ab (tn (wp_ret (aN (dm (aN ?_))))))
have l4 : Ro aD I (.slice none 0 0) [] := cy
have l5 : Ro (dJ az) I (.slice none 0 0) [] := cy
replace b := al (Pt c5 0) a0 b.bf.bf.bf.bf ⟨z, i1, i2, i3, i4⟩
obtain rfl := sj c
exact aZ [.agg #[Zb, Zu, Zu, Zi, Zu, Zu, Zs, Zs]] results30 (bq (bJ (cs := [Zb, Zu, Zu, Zi, Zu, Zu, Zs, Zs]) z isAgg35 sizeOf35 (b.eK 0 z)) ai) ⟨_, Zs, Zs, z, f, l4, l5, b.bu⟩
}
{
intro C c
refine sgz (Pt _ _) 8 z C z (hJ 9 (by kernel_rfl) (nxe [10, 11] (by kernel_rfl) z ((aw z z z (cvb C)).trans z) ?_))
clear b
intro w b
replace b := al (Pt c5 0) a0 b.au.au.au.au ⟨z, i1, i2, i3, i4⟩
obtain ⟨C8, l6, c⟩ := bn c
refine wec call67 [Pt c5 0] z z ((oQ b.to1 l6).mono ?_)
rintro _ C9 ⟨rfl, b⟩
refine ⟨_, z, ?_⟩
replace b := b.of1
refine w0n b (sgz (.bool _) 10 z C z (sh (.bool _) 11 z (fun w b => aJ C z z) (bp ?_)))
intro w b
refine tn (bs c ?_ ?_)
{
intro d6 c
refine ar (cvb d6) (wp_seq (wrl (mk (.agg #[Zb, Zu, Zu, Zi, Zu, Zu, Zs, Zs]) ?_)))
replace b := b.ag
obtain ⟨D0, l7, b⟩ := b.bx [Zb, Zu, Zu, Zi, Zu, Zu, Zs, Zs] sizeOf35 z (oJ 8 z oN) (by kernel_rfl)
refine aE z z (aG l7) (ab (tn (wp_ret (aN (dm (aN ?_))))))
have l8 : Ro aD I (.slice none 0 0) [] := cy
have l9 : Ro (dJ az) I (.slice none 0 0) [] := cy
obtain rfl := sj c
refine aZ [.agg #[Zb, Zu, Zu, Zi, Zu, Zu, Zs, Zs]] results30 (bq (bJ (cs := [Zb, Zu, Zu, Zi, Zu, Zu, Zs, Zs]) z isAgg35 sizeOf35 (b.eF 0 z)) ai) ?_
replace b := b.ag
exact ⟨_, Zs, Zs, z, f, l8, l9, b.bu⟩
}
{
intro d6 c
refine ak (cvb d6) (wp_skip (tn (wp_seq (wrl (mp z ?_)))))
obtain ⟨D1, m0, m1, m2, m3, m4, m5, m6, ⟨d7, m7, m8, m9, n0⟩, n1⟩ := bl b
replace d7 := dI d7
subst d7
have b := n1
refine mp z (mf z underlying130 z sizeOf26 (ml z isAgg26 (b.bc0 z) (mi z (mp z (mf z underlying130 z sizeOf26 ?_)))))
obtain ⟨D2, n2, b⟩ := b.by_ [I6 a0.Wide, U6 (u64.wrap (a0.Epoch + 1)), m0, m1, m2, m3, m4, m5, m6] 1 (.int .u64 (u64.wrap (a0.Epoch + 1))) sizeOf26 z (oC z oN) (by kernel_rfl)
refine aE z z (aG n2) (ab (tn (wp_seq (wp_seq (wrl (mp z (mp z (mf z underlying130 z sizeOf26 (ml z isAgg26 (b.bc0 z) (mb z (ab (tn (bs c ?_ ?_)))))))))))))
{
intro i5 c
cases c
}
{
intro i5 c
refine ak (cvb i5) (wp_skip (tn (wp_seq (wrl (mk (.agg #[U1 1, Zu, Zu, Zi, Zu, Zu, Zs, Zs]) ?_)))))
replace b := b.bf
obtain ⟨D3, n3, b⟩ := b.bx [U1 1, Zu, Zu, Zi, Zu, Zu, Zs, Zs] sizeOf35 z (oJ 8 z oN) (by kernel_rfl)
refine aE z z (aG n3) (ab (tn (wp_ret (dm (aN ?_)))))
have n4 : Ro aD I (.slice none 0 0) [] := cy
have n5 : Ro (dJ az) I (.slice none 0 0) [] := cy
replace b := al (Pt c5 0) (({ a0 with Epoch := (u64.wrap (a0.Epoch + 1)) } : aj)) b.bf.bf.bf.bf ⟨z, m7, m8, m9, n0⟩
obtain rfl := sj c
exact aZ [.agg #[U1 1, Zu, Zu, Zi, Zu, Zu, Zs, Zs]] results30 (bq (bJ (cs := [U1 1, Zu, Zu, Zi, Zu, Zu, Zs, Zs]) z isAgg35 sizeOf35 (b.eK 0 z)) ai) ⟨_, Zs, Zs, z, f, n4, n5, b.bu⟩
}
}
}
}
{
intro d5 c
refine ak (cvb d5) (wp_seq (wrl (mb z (mb z (ab (tn (bs c ?_ ?_)))))))
{
intro d8 c
refine ar (cvb d8) (wp_seq (wrl (mf z underlying49 z sizeOf46 (mf z underlying46 z sizeOf28 (mz (ay (cs := [U6 a2.Hold.ID.Session, U6 a2.Hold.ID.Seq]) z isAgg28 sizeOf28 (b.eK 6 z)) (mk (.agg #[U1 2, U6 a2.Hold.ID.Session, U6 a2.Hold.ID.Seq, Zi, Zu, Zu, Zs, Zs]) ?_))))))
obtain ⟨i6, D4, n6, n7, b⟩ := b.box [Zb, Zu, Zu, Zi, Zu, Zu, Zs, Zs] 35
refine wa n6 n7 ?_
obtain ⟨D5, n8, b⟩ := b.bx [U1 2, U6 a2.Hold.ID.Session, U6 a2.Hold.ID.Seq, Zi, Zu, Zu, Zs, Zs] sizeOf35 z (oJ 8 z oN) (by kernel_rfl)
refine aE z z (aG n8) (ab (tn (wp_seq (wrl (mv (p0) z (mf z underlying49 z sizeOf46 (mz (ay (cs := [U6 a2.Hold.ID.Session, U6 a2.Hold.ID.Seq, U6 a2.Hold.Epoch, j, k, l, m]) z isAgg46 sizeOf46 (b.pR 6 z)) ?_)))))))
replace b := b.au
obtain ⟨D, n9, c⟩ := bn c
refine wc call69 [p0, .agg #[U6 a2.Hold.ID.Session, U6 a2.Hold.ID.Seq, U6 a2.Hold.Epoch, j, k, l, m]] z z z ((rQ S T U W b.to1 n9).mono ?_)
rintro _ D6 ⟨I704, rfl, b7, b⟩
refine ⟨_, z, ?_⟩
replace b := b.of1
replace S := S.mono (ro_le b7)
replace T := T.mono (ro_le b7)
replace U := U.mono (ro_le b7)
replace W := W.mono (ro_le b7)
replace f := f.trans b7
refine mi z (ab (tn ?_))
obtain ⟨D7, c, i7⟩ := bn c
refine cU (fun a w => ∃ (I723 : HL) (d : bj) (F : Value) (G : Value), (jR D) d = some r ∧ fz 198 [6, 7, 8] [Pt M 0, Pt i6 0, I6 D.1] a ∧ I704.le I723 ∧ St w0 w I723 [cells M [Zb, Zu, Zu, Zi, Zu, Zu, Zs, Zs], cells i6 [U1 d.Kind, U6 d.ID.Session, U6 d.ID.Seq, I6 d.R.E, U6 d.R.Epoch, U6 d.R.Index, F, G], bg aD F d.R.Gots, bg (dJ az) G d.R.Scans, aR p0 D.2] R) ?_ ?_
{
have c6 := HL.le.refl I704
refine wp_seq (wrl (mi z (mb z (ab (tn (bs c ?_ ?_))))))
{
intro d9 c
refine ar (cvb d9) (wrl (mv (p0) z (mf z underlying49 z sizeOf46 (mz (ay (cs := [U6 a2.Hold.ID.Session, U6 a2.Hold.ID.Seq, U6 a2.Hold.Epoch, j, k, l, m]) z isAgg46 sizeOf46 (b.rI 6 z)) ?_))))
obtain ⟨O, o0, c⟩ := bn c
refine wc call34 [p0, .agg #[U6 a2.Hold.ID.Session, U6 a2.Hold.ID.Seq, U6 a2.Hold.Epoch, j, k, l, m]] z z z ((rF (S.mono cD) (T.mono cD) (U.mono cD) (W.mono cD) b.to1 o0).mono ?_)
rintro _ D8 ⟨I710, e0, e2, rfl, o1, b⟩
refine ⟨_, z, ?_⟩
replace b := b.of3
replace c6 := c6.trans o1
refine mf z underlying35 z sizeOf33 ?_
replace b := b.au
obtain ⟨D9, o2, b⟩ := b.by_ [U1 2, U6 a2.Hold.ID.Session, U6 a2.Hold.ID.Seq, I6 O.E, U6 O.Epoch, U6 O.Index, e0, e2] 3 (.agg #[I6 O.E, U6 O.Epoch, U6 O.Index, e0, e2]) sizeOf33 z (oJ 3 z (oC (oS b.sv1) (oC (oS b.sv2) oN))) (by kernel_rfl)
refine aE z z (aG o2) (ab (tn ?_))
replace b := b.au.au.au.au.bf.oX
obtain rfl := sj c
exact ⟨_, ({ Kind := 2, ID := a2.Hold.ID, R := O } : bj), e0, e2, i7, fy z, c6, b⟩
}
{
intro d9 c
refine ak (cvb d9) (wp_skip (tn ?_))
replace b := ((b.bd aD).bd (dJ az)).aA.ag.aA.au.bf.oX
obtain rfl := sj c
exact ⟨_, ({ Kind := 2, ID := a2.Hold.ID, R := bK } : bj), Zs, Zs, i7, fy z, c6, b⟩
}
}
{
rintro _ E0 ⟨I723, d, F, G, c, ⟨E1, rfl⟩, o3, b⟩
dsimp only [jR] at c
replace f := f.trans o3
refine wp_seq (wrl (mi z (mf z underlying35 z sizeOf33 (mf z underlying33 z sizeOf29 ?_))))
replace b := b.ag
obtain ⟨E2, o4, b⟩ := b.by_ [U1 d.Kind, U6 d.ID.Session, U6 d.ID.Seq, I6 D.1, U6 d.R.Epoch, U6 d.R.Index, F, G] 3 (.int .i64 D.1) sizeOf29 z (oC z oN) (by kernel_rfl)
refine aE z z (aG o4) (ab (tn (wp_seq (wrl (mz (ay (cs := [U1 d.Kind, U6 d.ID.Session, U6 d.ID.Seq, I6 D.1, U6 d.R.Epoch, U6 d.R.Index, F, G]) z isAgg35 sizeOf35 (b.eF 0 z)) ?_)))))
replace b := b.ag
obtain ⟨E3, o5, b⟩ := b.bx [U1 d.Kind, U6 d.ID.Session, U6 d.ID.Seq, I6 D.1, U6 d.R.Epoch, U6 d.R.Index, F, G] sizeOf35 z (oJ 6 z (oC (oS b.sv2) (oC (oS b.sv3) oN))) (by kernel_rfl)
refine aE z z (aG o5) (ab (tn (wp_ret (dm (aN ?_)))))
replace b := b.aA
obtain ⟨I734, o6, e3, b⟩ := b.cN
replace f := f.trans o6
replace b := b.aA
obtain ⟨I737, i8, o7, b⟩ := b.cN
replace e3 := e3.mono (ro_le i8)
replace f := f.trans i8
obtain rfl := sj c
refine aZ [.agg #[U1 d.Kind, U6 d.ID.Session, U6 d.ID.Seq, I6 D.1, U6 d.R.Epoch, U6 d.R.Index, F, G]] results30 (bq (bJ (cs := [U1 d.Kind, U6 d.ID.Session, U6 d.ID.Seq, I6 D.1, U6 d.R.Epoch, U6 d.R.Index, F, G]) z isAgg35 sizeOf35 (b.eF 0 z)) ai) ?_
replace b := b.aA
exact ⟨_, F, G, z, f, e3, o7, b.bu⟩
}
}
{
intro d8 c
refine ak (cvb d8) (wp_seq (wrl (mb z (mb z (ab (tn (bs c ?_ ?_)))))))
{
intro e4 c
refine ar (cvb e4) (wp_seq ?_)
obtain ⟨J, E4, i9, E5, E6, E7, E8, E9, ⟨rfl, Y, N, Z, b0⟩, o8⟩ := bl b.aA
have b := o8
obtain ⟨G0, c, j0⟩ := bn c
refine qT (fun a w => ∃ (I815 : HL) (b8 : Bool), (ig a0 a2) b8 = some r ∧ fz 198 [0, 5, 6, 10] [Pt J 0, Pt X 0, Pt M 0, .bool b8] a ∧ I.le I815 ∧ St w0 w I815 [aR (Pt J 0) a0, cells X [U1 a2.Kind, U6 a2.ID.Session, U6 a2.ID.Seq, U6 a2.Epoch, U6 a2.Index, I6 a2.E, U6 a2.Hold.ID.Session, U6 a2.Hold.ID.Seq, U6 a2.Hold.Epoch, j, k, l, m, s, I6 a2.R.E, U6 a2.R.Epoch, U6 a2.R.Index, u, x, U6 a2.Shards, y, U6 a2.Rule.ID, I6 a2.Rule.From, I6 a2.Rule.To, F6 a2.Rule.Lo, F6 a2.Rule.Hi, U6 a2.Rule.Authority, I6 a2.Rule.Quota, .bool a2.On], cells M [Zb, Zu, Zu, Zi, Zu, Zu, Zs, Zs]] R) ?_ ?_
{
have b1 := HL.le.refl I
refine rg b 13 [0, 1, 3, 7, 0, 16, 63, 127, 255, 255, 0, 1535, 4095] [] mixed (sp 0 z z (sp 1 z z (sf 2 z z underlying130 z sizeOf125 (sl 3 z z isAgg125 (fun w b => b.bc0 z) (sf 4 z z underlying49 z sizeOf28 (sh _ 5 z (fun w b => ay (cs := [U6 a2.ID.Session, U6 a2.ID.Seq]) z isAgg28 sizeOf28 (b.xu 1 z)) ?_))))))
obtain ⟨g, j1, c⟩ := bn c
refine pK 6 10 (by kernel_rfl) ?_ ?_
{
refine nx z z fun w b => wec call70 [i9, .agg #[U6 a2.ID.Session, U6 a2.ID.Seq]] z z ((kp N b.to0 j1).mono ?_)
rintro _ G1 ⟨I763, e5, e6, e7, e8, rfl, b9, o9, q0, q1, q2, b⟩
refine ⟨_, z, ?_⟩
replace b := b.of0
replace Y := Y.mono (ro_le b9)
replace N := N.mono (ro_le b9)
replace Z := Z.mono (ro_le b9)
replace b0 := b0.mono (ro_le b9)
replace b1 := b1.trans b9
refine w0n b (sz (.tuple #[.agg #[U6 g.1.ID.Session, U6 g.1.ID.Seq, U6 g.1.Epoch, e5, e6, e7, e8], .bool g.2]) 7 z z (sz (.agg #[U6 g.1.ID.Session, U6 g.1.ID.Seq, U6 g.1.Epoch, e5, e6, e7, e8]) 8 z z (sb 9 z z (e1 10 z z fun w b => ?_))))
obtain ⟨q3, q4, q5, q6, b⟩ := b.box [Zu, Zu, Zu, Zs, Zs, Zs, Zs] 46
refine bW (v := Pt q3 0) (w' := q4) z (tQ (by kernel_rfl) q5 q6) (wn [9, 8, 7] b (pz (pz (pz bD))) (e1 11 z z fun w b => ?_))
obtain ⟨G2, q7, b⟩ := b.bx [U6 g.1.ID.Session, U6 g.1.ID.Seq, U6 g.1.Epoch, e5, e6, e7, e8] sizeOf46 z (oJ 3 z (oC (oS (ah o9)) (oC (oS (ah q0)) (oC (oS (ah q1)) (oC (oS (ah q2)) oN))))) (by kernel_rfl)
refine dz z (aG q7) (wn [9] b (pz bD) (sb 12 z z (bp ?_)))
intro w b
refine ⟨z, ?_⟩
replace b := (al (Pt J 0) a0 b.bf.bf.bf.bf ⟨z, Y, N, Z, b0⟩).aA.au.aA.dF
obtain rfl := sj c
exact ⟨_, g.2, j0, fy z, b1, b⟩
}
{
refine nx z z fun w b => ?_
obtain ⟨q8, q9, s0, s1, b⟩ := b.box [Zu, Zu, Zu, Zs, Zs, Zs, Zs] 46
refine bW (v := Pt q8 0) (w' := q9) z (tQ (by kernel_rfl) s0 s1) (wn [5, 4, 3, 2, 1, 0] b (pkr z z (fun w b => ay (cs := [U6 a2.ID.Session, U6 a2.ID.Seq]) z isAgg28 sizeOf28 (b.BR 1 z)) (pf z z underlying49 z sizeOf28 (pkr z z (fun w b => aq z isAgg125 (b.bc1 z)) (pf z z underlying130 z sizeOf125 (pz (pz bD)))))) (e1 6 z z fun w b => wec call70 [i9, .agg #[U6 a2.ID.Session, U6 a2.ID.Seq]] z z ((kp N b.to0 j1).mono ?_)))
rintro _ G3 ⟨I798, e9, f0, f1, f2, rfl, c1, s2, s3, s4, s5, b⟩
refine ⟨_, z, ?_⟩
replace b := b.of0
replace Y := Y.mono (ro_le c1)
replace N := N.mono (ro_le c1)
replace Z := Z.mono (ro_le c1)
replace b0 := b0.mono (ro_le c1)
replace b1 := b1.trans c1
refine w0n b (sz (.tuple #[.agg #[U6 g.1.ID.Session, U6 g.1.ID.Seq, U6 g.1.Epoch, e9, f0, f1, f2], .bool g.2]) 7 z z (sz (.agg #[U6 g.1.ID.Session, U6 g.1.ID.Seq, U6 g.1.Epoch, e9, f0, f1, f2]) 8 z z (sb 9 z z (e1 11 z z fun w b => ?_))))
obtain ⟨G4, s6, b⟩ := b.bx [U6 g.1.ID.Session, U6 g.1.ID.Seq, U6 g.1.Epoch, e9, f0, f1, f2] sizeOf46 z (oJ 3 z (oC (oS (ah s2)) (oC (oS (ah s3)) (oC (oS (ah s4)) (oC (oS (ah s5)) oN))))) (by kernel_rfl)
refine dz z (aG s6) (wn [9] b (pz bD) (sb 12 z z (bp ?_)))
intro w b
refine ⟨z, ?_⟩
replace b := (al (Pt J 0) a0 b.bf.bf.bf.bf ⟨z, Y, N, Z, b0⟩).aA.au.aA.dF
obtain rfl := sj c
exact ⟨_, g.2, j0, fy z, b1, b⟩
}
}
{
rintro _ G5 ⟨I815, b8, c, ⟨G6, rfl⟩, j2, b⟩
dsimp only [ig] at c
replace q := q.mono (ro_le j2)
replace f := f.trans j2
refine tn (wp_seq ?_)
obtain ⟨G7, s7, s8, s9, t0, t1, t2, t3, ⟨f3, f4, t4, f5, f6⟩, t5⟩ := bl b
replace f3 := dI f3
subst f3
have b := t5
refine rg b 11 [0, 0, 2, 6, 14, 0, 32, 126, 255, 511, 1023] [] mixed (sp 0 z z (sp 1 z z (sp 2 z z (sf 3 z z underlying130 z sizeOf125 (sl 4 z z isAgg125 (fun w b => b.bc0 z) (sf 5 z z underlying49 z sizeOf28 (sh _ 6 z (fun w b => ay (cs := [U6 a2.ID.Session, U6 a2.ID.Seq]) z isAgg28 sizeOf28 (b.wy 1 z)) (e1 7 z z fun w b => ?_))))))))
obtain ⟨j3, t6, c⟩ := bn c
refine wec call71 [s8, .agg #[U6 a2.ID.Session, U6 a2.ID.Seq]] z z ((py t4 b.to0 t6).mono ?_)
rintro _ G8 ⟨j4, rfl, b⟩
refine ⟨_, z, ?_⟩
replace b := b.of1
refine wn [0] b (pz bD) (sp 8 z z (sf 9 z z underlying130 z sizeOf125 (e1 10 z z fun w b => ?_)))
replace b := b.ag
obtain ⟨G9, t7, b⟩ := b.cW (P := prog) (t := 125) (cs' := [I6 a0.Wide, U6 a0.Epoch, s7, j4, s9, t0, t1, t2, t3]) 3 j4 (oS b.sv1) sizeOf125 z z
refine dz z (aG t7) (w0n b (bp ?_))
intro w b
refine tn ?_
obtain ⟨t8, c, f7⟩ := bn c
refine cU (fun a w => ∃ (I1033 : HL) (f8 : aj), (lX a2) f8 = some r ∧ fz 198 [5, 6] [Pt X 0, Pt M 0] a ∧ I815.le I1033 ∧ St w0 w I1033 [cells X [U1 a2.Kind, U6 a2.ID.Session, U6 a2.ID.Seq, U6 a2.Epoch, U6 a2.Index, I6 a2.E, U6 a2.Hold.ID.Session, U6 a2.Hold.ID.Seq, U6 a2.Hold.Epoch, j, k, l, m, s, I6 a2.R.E, U6 a2.R.Epoch, U6 a2.R.Index, u, x, U6 a2.Shards, y, U6 a2.Rule.ID, I6 a2.Rule.From, I6 a2.Rule.To, F6 a2.Rule.Lo, F6 a2.Rule.Hi, U6 a2.Rule.Authority, I6 a2.Rule.Quota, .bool a2.On], cells M [Zb, Zu, Zu, Zi, Zu, Zu, Zs, Zs], aR (Pt J 0) f8] R) ?_ ?_
{
have Q := HL.le.refl I815
refine wp_seq (wrl (mi z (ab (tn (wp_block ?_)))))
replace b := b.ag
obtain ⟨I851, c2, t9, b⟩ := b.cN
replace q := q.mono (ro_le c2)
replace f4 := f4.mono (ro_le c2)
replace f5 := f5.mono (ro_le c2)
replace f6 := f6.mono (ro_le c2)
replace Q := Q.trans c2
replace b := al (Pt J 0) (({ a0 with H := j3 } : aj)) b.au.au.au.au ⟨z, f4, t9, f5, f6⟩
obtain ⟨u0, c⟩ := aX c
refine bm (fun n a w => ∃ (I968 : HL) (A : aj) (c7 : Int), cT (dx b8 a2) n (A, c7) = some t8 ∧ fz 198 [0, 5, 6, 10, 11] [Pt J 0, Pt X 0, Pt M 0, .bool b8, I6 c7] a ∧ I851.le I968 ∧ St w0 w I968 [aR (Pt J 0) A, cells X [U1 a2.Kind, U6 a2.ID.Session, U6 a2.ID.Seq, U6 a2.Epoch, U6 a2.Index, I6 a2.E, U6 a2.Hold.ID.Session, U6 a2.Hold.ID.Seq, U6 a2.Hold.Epoch, j, k, l, m, s, I6 a2.R.E, U6 a2.R.Epoch, U6 a2.R.Index, u, x, U6 a2.Shards, y, U6 a2.Rule.ID, I6 a2.Rule.From, I6 a2.Rule.To, F6 a2.Rule.Lo, F6 a2.Rule.Hi, U6 a2.Rule.Authority, I6 a2.Rule.Quota, .bool a2.On], cells M [Zb, Zu, Zu, Zi, Zu, Zu, Zs, Zs]] R) u0 ⟨_, ({ a0 with H := j3 } : aj), 0, c, fy z, lr, b⟩ ?_
rintro H0 _ H1 ⟨I968, A, c7, c, ⟨H2, rfl⟩, c3, b⟩
obtain ⟨H3, H4, rfl, c, c8⟩ := ba c
dsimp only [dx] at c
replace q := q.mono (ro_le c3)
replace Q := Q.trans c3
refine wp_seq (wp_seq (wrl (mb z (mb z (bs c ?_ ?_)))))
{
intro K c
refine gg K (aT z underlying49 z sizeOf29 z) (gg K (aq z isAgg29 (b.bc1 z)) (gb K z (mb (aS K z z) (mb z (bs c ?_ ?_)))))
{
intro p c
refine gi p z (gg p (aT z underlying49 z sizeOf42 z) (gg p (aq z isAgg42 (b.bc1 z)) (gg p (bZ z underlying42 (ah q)) (gb p z (mb (aS p z z) (ab (tn (bs c ?_ ?_))))))))
{
intro f9 c
refine ar (cvb f9) (wp_skip (tn (wp_seq (wp_block (wp_seq (wrl (mf z underlying49 z sizeOf42 (ml z isAgg42 (b.bc1 z) (mi z ?_)))))))))
obtain ⟨L, u1, c⟩ := bn c
obtain ⟨u2, u3, u4⟩ := aP u1
refine mz (aC z z underlying42 sizeOf41 (ah q) u2 u3) ?_
obtain ⟨H5, u5, u6⟩ := Ro.jZ q u4
obtain ⟨c4, rfl, g0, -⟩ := u5
refine mz (ay (cs := [F6 L.At, .bool L.Del, c4]) z isAgg41 sizeOf41 (dS (o := 0) (u6 lr b) z)) ?_
obtain ⟨u7, H6, u9, v0, b⟩ := b.box [Zf, .bool false, Zs] 41
refine wa u9 v0 ?_
obtain ⟨H7, v1, b⟩ := b.bx [F6 L.At, .bool L.Del, c4] sizeOf41 z (oJ 2 z (oC (oS (ah g0)) oN)) (by kernel_rfl)
refine aE z z (aG v1) (ab (tn ?_))
obtain ⟨H8, v2, v3, v4, v5, v6, v7, v8, ⟨g1, v9, g2, g3, g4⟩, x0⟩ := bl b.ag
replace g1 := dI g1
subst g1
have b := x0
refine rg b 20 [0, 0, 2, 6, 14, 0, 32, 0, 128, 0, 512, 0, 2048, 0, 8192, 32736, 65534, 131071, 262143, 524287] [] mixed (sp 0 z z (sp 1 z z (sp 2 z z (sf 3 z z underlying130 z sizeOf124 (sl 4 z z isAgg124 (fun w b => b.bc0 z) (sf 5 z z underlying41 z sizeOf37 (sl 6 z z isAgg37 (fun w b => b.bc4 z) (sf 7 z z underlying49 z sizeOf26 (sl 8 z z isAgg26 (fun w b => b.bc5 z) (sf 9 z z underlying49 z sizeOf26 (sl 10 z z isAgg26 (fun w b => b.bc5 z) (sf 11 z z underlying41 z sizeOf4 (sl 12 z z isAgg4 (fun w b => b.bc4 z) (wsr (Pt u7 2) 13 rfl rfl rfl (by kernel_rfl) (fun w b => aT rfl underlying41 rfl sizeOf22 rfl) (wsr (c4) 14 rfl rfl rfl (by kernel_rfl) (fun w b => aq rfl isAgg22 (b.bc4 rfl)) (wsr (.agg #[F6 L.At, U6 a2.Epoch, U6 a2.Index, .bool L.Del, c4]) 15 rfl rfl rfl (by kernel_rfl) (fun w b => by obtain ⟨_, _, hv_, _⟩ := (ah g0); rw [hv_]; kernel_rfl) (e1 16 z z fun w b => ?_)))))))))))))))))
obtain ⟨j5, x1, c⟩ := bn c
refine wec call72 [v2, .agg #[F6 L.At, U6 a2.Epoch, U6 a2.Index, .bool L.Del, c4]] z z ((wk (a1 := ({ L with Epoch := a2.Epoch, Index := a2.Index } : aF)) v9 g0 b.to0 x1).mono ?_)
rintro _ H9 ⟨j6, rfl, b⟩
refine ⟨_, z, ?_⟩
replace b := b.of1
refine wn [0] b (pz bD) (sp 17 z z (sf 18 z z underlying130 z sizeOf124 (e1 19 z z fun w b => ?_)))
replace b := b.ag
obtain ⟨J0, x2, b⟩ := b.cW (P := prog) (t := 124) (cs' := [I6 A.Wide, U6 A.Epoch, j6, v3, v4, v5, v6, v7, v8]) 2 j6 (oS b.sv1) sizeOf124 z z
refine dz z (aG x2) (w0n b (bp ?_))
intro w b
refine bF (tn (wrl (mi z (mi z (mi z (ab (tn ?_)))))))
replace b := b.ag
obtain ⟨I1029, c9, x3, b⟩ := b.cN
replace g2 := g2.mono (ro_le c9)
replace g3 := g3.mono (ro_le c9)
replace g4 := g4.mono (ro_le c9)
replace c3 := c3.trans c9
replace b := (al (Pt J 0) (({ A with V := j5 } : aj)) b.au.au.au.au ⟨z, x3, g2, g3, g4⟩).au.au.aA.dF
obtain rfl := sj c
exact ⟨_, nls, _, ({ A with V := j5 } : aj), (i64.wrap (c7 + 1)), c8, fy z, c3, b⟩
}
{
intro f9 c
refine ak (cvb f9) (wp_exit (aV (aV ?_)))
replace c := bo c c8
refine de (tn ?_)
replace b := b.aA.aA.dF
obtain rfl := sj c
exact ⟨_, A, f7, fy z, Q, b⟩
}
}
{
intro p c
refine go p (go p (go p (go p (go p (mb (aJ p z z) (ab (tn (ak z (wp_exit (aV (aV ?_)))))))))))
replace c := bo c c8
refine de (tn ?_)
replace b := b.aA.aA.dF
obtain rfl := sj c
exact ⟨_, A, f7, fy z, Q, b⟩
}
}
{
intro K c
refine go K (go K (go K (mb (aJ K z z) (mb z (gz (gz (gz (gz (gz (mb (aJ z z z) (ab (tn (ak z (wp_exit (aV (aV ?_))))))))))))))))
replace c := bo c c8
refine de (tn ?_)
replace b := b.aA.aA.dF
obtain rfl := sj c
exact ⟨_, A, f7, fy z, Q, b⟩
}
}
{
rintro _ J1 ⟨I1033, f8, c, ⟨J2, rfl⟩, x4, b⟩
dsimp only [lX] at c
replace f := f.trans x4
refine wp_seq (wrl (mf z underlying49 z sizeOf28 (mz (ay (cs := [U6 a2.ID.Session, U6 a2.ID.Seq]) z isAgg28 sizeOf28 (b.eF 1 z)) (mk (.agg #[U1 3, U6 a2.ID.Session, U6 a2.ID.Seq, Zi, Zu, Zu, Zs, Zs]) ?_))))
replace b := b.ag
obtain ⟨J3, x5, b⟩ := b.bx [U1 3, U6 a2.ID.Session, U6 a2.ID.Seq, Zi, Zu, Zu, Zs, Zs] sizeOf35 z (oJ 8 z oN) (by kernel_rfl)
refine aE z z (aG x5) (ab (tn (wp_ret (dm (aN ?_)))))
have x6 : Ro aD I1033 (.slice none 0 0) [] := cy
have x7 : Ro (dJ az) I1033 (.slice none 0 0) [] := cy
obtain rfl := sj c
refine aZ [.agg #[U1 3, U6 a2.ID.Session, U6 a2.ID.Seq, Zi, Zu, Zu, Zs, Zs]] results30 (bq (bJ (cs := [U1 3, U6 a2.ID.Session, U6 a2.ID.Seq, Zi, Zu, Zu, Zs, Zs]) z isAgg35 sizeOf35 (b.eF 0 z)) ai) ?_
replace b := b.aA
exact ⟨_, Zs, Zs, z, f, x6, x7, b.bu⟩
}
}
}
{
intro e4 c
refine ak (cvb e4) (wp_seq (wrl (mb z (mb z (ab (tn (bs c ?_ ?_)))))))
{
intro g5 c
refine ar (cvb g5) (wp_seq (wrl (mv (p0) z (mi z (mz (ay (cs := [U1 a2.Kind, U6 a2.ID.Session, U6 a2.ID.Seq, U6 a2.Epoch, U6 a2.Index, I6 a2.E, U6 a2.Hold.ID.Session, U6 a2.Hold.ID.Seq, U6 a2.Hold.Epoch, j, k, l, m, s, I6 a2.R.E, U6 a2.R.Epoch, U6 a2.R.Index, u, x, U6 a2.Shards, y, U6 a2.Rule.ID, I6 a2.Rule.From, I6 a2.Rule.To, F6 a2.Rule.Lo, F6 a2.Rule.Hi, U6 a2.Rule.Authority, I6 a2.Rule.Quota, .bool a2.On]) z isAgg49 sizeOf49 (b.eK 0 z)) ?_)))))
replace b := b.aA
obtain ⟨h, x8, c⟩ := bn c
refine wc call73 [p0, U6 a1, .agg #[U1 a2.Kind, U6 a2.ID.Session, U6 a2.ID.Seq, U6 a2.Epoch, U6 a2.Index, I6 a2.E, U6 a2.Hold.ID.Session, U6 a2.Hold.ID.Seq, U6 a2.Hold.Epoch, j, k, l, m, s, I6 a2.R.E, U6 a2.R.Epoch, U6 a2.R.Index, u, x, U6 a2.Shards, y, U6 a2.Rule.ID, I6 a2.Rule.From, I6 a2.Rule.To, F6 a2.Rule.Lo, F6 a2.Rule.Hi, U6 a2.Rule.Authority, I6 a2.Rule.Quota, .bool a2.On]] z z z ((rb S T U W q h6 h7 h8 b.to1 x8).mono ?_)
rintro _ J4 ⟨I1050, d0, d1, rfl, x9, j7, j8, b⟩
refine ⟨_, z, ?_⟩
replace b := b.of1
replace f := f.trans x9
replace b := b.ag
obtain ⟨J5, y0, b⟩ := b.bx [U1 h.1.Kind, U6 h.1.ID.Session, U6 h.1.ID.Seq, I6 h.1.R.E, U6 h.1.R.Epoch, U6 h.1.R.Index, d0, d1] sizeOf35 z (oJ 6 z (oC (oS (ah j7)) (oC (oS (ah j8)) oN))) (by kernel_rfl)
refine aE z z (aG y0) (ab (tn (wp_ret (dm (aN ?_)))))
obtain rfl := sj c
refine aZ [.agg #[U1 h.1.Kind, U6 h.1.ID.Session, U6 h.1.ID.Seq, I6 h.1.R.E, U6 h.1.R.Epoch, U6 h.1.R.Index, d0, d1]] results30 (bq (bJ (cs := [U1 h.1.Kind, U6 h.1.ID.Session, U6 h.1.ID.Seq, I6 h.1.R.E, U6 h.1.R.Epoch, U6 h.1.R.Index, d0, d1]) z isAgg35 sizeOf35 (b.eF 0 z)) ai) ?_
replace b := b.ag
exact ⟨_, d0, d1, z, f, j7, j8, b.bu⟩
}
{
intro g5 c
refine ak (cvb g5) (wp_seq (wrl (mb z (mb z (ab (tn (bs c ?_ ?_)))))))
{
intro g6 c
refine ar (cvb g6) (wrl (mv (p0) z (mf z underlying49 z sizeOf28 (mz (ay (cs := [U6 a2.ID.Session, U6 a2.ID.Seq]) z isAgg28 sizeOf28 (b.eK 1 z)) ?_))))
replace b := b.aA
obtain ⟨J6, y1, c⟩ := bn c
refine wc call74 [p0, .agg #[U6 a2.ID.Session, U6 a2.ID.Seq]] z z z ((nu b.to1 y1).mono ?_)
rintro _ J7 ⟨rfl, b⟩
refine ⟨_, z, ?_⟩
replace b := b.of1
refine ab (bF (tn (wp_seq (wrl (mk (.agg #[Zb, Zu, Zu, Zi, Zu, Zu, Zs, Zs]) ?_)))))
replace b := b.ag
obtain ⟨J8, y2, b⟩ := b.bx [Zb, Zu, Zu, Zi, Zu, Zu, Zs, Zs] sizeOf35 z (oJ 8 z oN) (by kernel_rfl)
refine aE z z (aG y2) (ab (tn (wp_ret ?_)))
have y3 : Ro aD I (.slice none 0 0) [] := cy
have y4 : Ro (dJ az) I (.slice none 0 0) [] := cy
obtain rfl := sj c
refine aZ [.agg #[Zb, Zu, Zu, Zi, Zu, Zu, Zs, Zs]] results30 (bq (bJ (cs := [Zb, Zu, Zu, Zi, Zu, Zu, Zs, Zs]) z isAgg35 sizeOf35 (b.eF 0 z)) ai) ?_
replace b := b.ag
exact ⟨_, Zs, Zs, z, f, y3, y4, b.bu⟩
}
{
intro g6 c
refine ak (cvb g6) (wp_seq (wrl (mb z (mb z (ab (tn (bs c ?_ ?_)))))))
{
intro g7 c
refine ar (cvb g7) (wp_seq ?_)
obtain ⟨j9, k0, k1, k2, y5, k3, k4, k5, ⟨rfl, b2, b3, b4, y6⟩, y7⟩ := bl b.aA
have b := y7
refine rg b 19 [0, 0, 2, 6, 14, 0, 32, 96, 0, 256, 768, 1792, 4094, 8190, 16382, 16382, 32767, 98303, 229375] [] mixed (sp 0 z z (sp 1 z z (sp 2 z z (sf 3 z z underlying130 z sizeOf127 (sl 4 z z isAgg127 (fun w b => b.bc0 z) (sf 5 z z underlying49 z sizeOf39 (sf 6 z z underlying39 z sizeOf26 (sl 7 z z isAgg26 (fun w b => b.bc5 z) (sp 8 z z (sp 9 z z (sf 10 z z underlying130 z sizeOf26 (sl 11 z z isAgg26 (fun w b => b.bc0 z) (e1 12 z z fun w b => ?_)))))))))))))
obtain ⟨g8, y8, c⟩ := bn c
refine wec call75 [y5, U6 a2.Rule.ID, U6 a0.Epoch] z z ((uz (y6.mono cD) b.to0 y8).mono ?_)
rintro _ J9 ⟨d2, rfl, b⟩
refine ⟨_, z, ?_⟩
replace b := b.of1
refine wn [0] b (pz bD) (sz (.tuple #[d2, .bool g8.2]) 13 z z (sz (d2) 14 z z (sb 15 z z (sp 16 z z (sf 17 z z underlying130 z sizeOf127 (e1 18 z z fun w b => ?_))))))
replace b := b.ag
obtain ⟨K0, y9, b⟩ := b.cW (P := prog) (t := 127) (cs' := [I6 a0.Wide, U6 a0.Epoch, k0, k1, k2, d2, k3, k4, k5]) 5 d2 (oS b.sv1) sizeOf127 z z
refine dz z (aG y9) (wn [15] b (pz bD) (bp ?_))
intro w b
refine tn (wp_seq (wrl (mf z underlying49 z sizeOf4 (ml z isAgg4 (b.bc6 z) (ab (tn (bs c ?_ ?_)))))))
{
intro g9 c
refine ar (cvb g9) (rg b 17 [0, 0, 2, 6, 14, 0, 32, 0, 128, 384, 896, 2016, 4064, 8190, 16383, 32767, 65535] [] mixed (sp 0 z z (sp 1 z z (sp 2 z z (sf 3 z z underlying130 z sizeOf127 (sl 4 z z isAgg127 (fun w b => b.bc0 z) (sf 5 z z underlying49 z sizeOf39 (sh _ 6 z (fun w b => ay (cs := [U6 a2.Rule.ID, I6 a2.Rule.From, I6 a2.Rule.To, F6 a2.Rule.Lo, F6 a2.Rule.Hi, U6 a2.Rule.Authority, I6 a2.Rule.Quota]) z isAgg39 sizeOf39 (b.BR 21 z)) (sp 7 z z (sp 8 z z (sf 9 z z underlying130 z sizeOf26 (sl 10 z z isAgg26 (fun w b => b.bc0 z) (sk (.agg #[U6 a2.Rule.ID, I6 a2.Rule.From, I6 a2.Rule.To, F6 a2.Rule.Lo, F6 a2.Rule.Hi, U6 a2.Rule.Authority, I6 a2.Rule.Quota, U6 a0.Epoch, Zu]) 11 z (e1 12 z z fun w b => ?_))))))))))))))
obtain ⟨A0, A1, A2, A3, b⟩ := b.ey (E := dR) (xs := [({ R := a2.Rule, From := a0.Epoch, To := 0 } : cH)]) [[U6 a2.Rule.ID, I6 a2.Rule.From, I6 a2.Rule.To, F6 a2.Rule.Lo, F6 a2.Rule.Hi, U6 a2.Rule.Authority, I6 a2.Rule.Quota, U6 a0.Epoch, Zu]] 144 1 z (bE.cons z bE.nil)
refine bW (v := (.slice (some ⟨A0, 0, none⟩) 1 1)) (w' := A1) z (dn (by kernel_rfl) A2 A3) (wn [4, 3, 2, 1, 0] b (pkr z z (fun w b => aq z isAgg127 (b.bc1 z)) (pf z z underlying130 z sizeOf127 (pz (pz (pz bD))))) (e1 13 z z fun w b => ?_))
obtain ⟨A4, c⟩ := cz c
replace b := b.aA
obtain ⟨h0, A5, A6, b⟩ := bI yD underlying127 b b.ju (cK A4 z) 127
refine bW (v := h0) (w' := A5) z (bX z z A6) (wn [0] b (pz bD) (sp 14 z z (sf 15 z z underlying130 z sizeOf127 (e1 16 z z fun w b => ?_))))
replace b := b.aA
obtain ⟨K1, A7, b⟩ := b.cW (P := prog) (t := 127) (cs' := [I6 a0.Wide, U6 a0.Epoch, k0, k1, k2, h0, k3, k4, k5]) 5 h0 (oS b.sv1) sizeOf127 z z
refine dz z (aG A7) (w0n b (bp ?_))
intro w b
refine bF (tn (wp_seq (wrl (mk (.agg #[Zb, Zu, Zu, Zi, Zu, Zu, Zs, Zs]) ?_))))
replace b := b.da
obtain ⟨K2, A8, b⟩ := b.bx [Zb, Zu, Zu, Zi, Zu, Zu, Zs, Zs] sizeOf35 z (oJ 8 z oN) (by kernel_rfl)
refine aE z z (aG A8) (ab (tn (wp_ret ?_)))
have h1 : Ro aD I (.slice none 0 0) [] := cy
have h2 : Ro (dJ az) I (.slice none 0 0) [] := cy
replace b := b.aA
obtain ⟨I1120, b5, A9, b⟩ := b.cN
replace b2 := b2.mono (ro_le b5)
replace b3 := b3.mono (ro_le b5)
replace b4 := b4.mono (ro_le b5)
replace h1 := h1.mono (ro_le b5)
replace h2 := h2.mono (ro_le b5)
replace f := f.trans b5
replace b := al (Pt j9 0) (({ a0 with B := (g8.1 ++ ([({ R := a2.Rule, From := a0.Epoch, To := 0 } : cH)])) } : aj)) b.bc.bc.bc.bf ⟨z, b2, b3, b4, A9⟩
obtain rfl := sj c
exact aZ [.agg #[Zb, Zu, Zu, Zi, Zu, Zu, Zs, Zs]] results30 (bq (bJ (cs := [Zb, Zu, Zu, Zi, Zu, Zu, Zs, Zs]) z isAgg35 sizeOf35 (b.eK 0 z)) ai) ⟨_, Zs, Zs, z, f, h1, h2, b.bu⟩
}
{
intro g9 c
refine ak (cvb g9) (wp_skip (bF (tn (wp_seq (wrl (mk (.agg #[Zb, Zu, Zu, Zi, Zu, Zu, Zs, Zs]) ?_))))))
replace b := b.bc
obtain ⟨K3, B0, b⟩ := b.bx [Zb, Zu, Zu, Zi, Zu, Zu, Zs, Zs] sizeOf35 z (oJ 8 z oN) (by kernel_rfl)
refine aE z z (aG B0) (ab (tn (wp_ret ?_)))
have h3 : Ro aD I (.slice none 0 0) [] := cy
have h4 : Ro (dJ az) I (.slice none 0 0) [] := cy
replace b := b.aA
obtain ⟨I1129, b6, B1, b⟩ := b.cN
replace b2 := b2.mono (ro_le b6)
replace b3 := b3.mono (ro_le b6)
replace b4 := b4.mono (ro_le b6)
replace h3 := h3.mono (ro_le b6)
replace h4 := h4.mono (ro_le b6)
replace f := f.trans b6
replace b := al (Pt j9 0) (({ a0 with B := g8.1 } : aj)) b.bf.bf.bf.bf ⟨z, b2, b3, b4, B1⟩
obtain rfl := sj c
exact aZ [.agg #[Zb, Zu, Zu, Zi, Zu, Zu, Zs, Zs]] results30 (bq (bJ (cs := [Zb, Zu, Zu, Zi, Zu, Zu, Zs, Zs]) z isAgg35 sizeOf35 (b.eK 0 z)) ai) ⟨_, Zs, Zs, z, f, h3, h4, b.bu⟩
}
}
{
intro g7 c
refine ak (cvb g7) (wp_seq (wrl (mb z (mb z (ab (tn (bs c ?_ ?_)))))))
{
intro h5 c
refine ar (cvb h5) (wp_seq (wrl (mv (p0) z (mi z (mz (ay (cs := [U1 a2.Kind, U6 a2.ID.Session, U6 a2.ID.Seq, U6 a2.Epoch, U6 a2.Index, I6 a2.E, U6 a2.Hold.ID.Session, U6 a2.Hold.ID.Seq, U6 a2.Hold.Epoch, j, k, l, m, s, I6 a2.R.E, U6 a2.R.Epoch, U6 a2.R.Index, u, x, U6 a2.Shards, y, U6 a2.Rule.ID, I6 a2.Rule.From, I6 a2.Rule.To, F6 a2.Rule.Lo, F6 a2.Rule.Hi, U6 a2.Rule.Authority, I6 a2.Rule.Quota, .bool a2.On]) z isAgg49 sizeOf49 (b.eK 0 z)) ?_)))))
replace b := b.aA
obtain ⟨i, B2, c⟩ := bn c
refine wc call76 [p0, U6 a1, .agg #[U1 a2.Kind, U6 a2.ID.Session, U6 a2.ID.Seq, U6 a2.Epoch, U6 a2.Index, I6 a2.E, U6 a2.Hold.ID.Session, U6 a2.Hold.ID.Seq, U6 a2.Hold.Epoch, j, k, l, m, s, I6 a2.R.E, U6 a2.R.Epoch, U6 a2.R.Index, u, x, U6 a2.Shards, y, U6 a2.Rule.ID, I6 a2.Rule.From, I6 a2.Rule.To, F6 a2.Rule.Lo, F6 a2.Rule.Hi, U6 a2.Rule.Authority, I6 a2.Rule.Quota, .bool a2.On]] z z z ((rV (S.mono cD) (T.mono cD) (U.mono cD) (W.mono cD) (q.mono cD) (h6.mono cD) (h7.mono cD) (h8.mono cD) b.to1 B2).mono ?_)
rintro _ K4 ⟨I1136, d3, d4, rfl, B3, k6, k7, b⟩
refine ⟨_, z, ?_⟩
replace b := b.of1
replace f := f.trans B3
replace b := b.ag
obtain ⟨K5, B4, b⟩ := b.bx [U1 i.1.Kind, U6 i.1.ID.Session, U6 i.1.ID.Seq, I6 i.1.R.E, U6 i.1.R.Epoch, U6 i.1.R.Index, d3, d4] sizeOf35 z (oJ 6 z (oC (oS (ah k6)) (oC (oS (ah k7)) oN))) (by kernel_rfl)
refine aE z z (aG B4) (ab (tn (wp_ret (dm (aN ?_)))))
obtain rfl := sj c
refine aZ [.agg #[U1 i.1.Kind, U6 i.1.ID.Session, U6 i.1.ID.Seq, I6 i.1.R.E, U6 i.1.R.Epoch, U6 i.1.R.Index, d3, d4]] results30 (bq (bJ (cs := [U1 i.1.Kind, U6 i.1.ID.Session, U6 i.1.ID.Seq, I6 i.1.R.E, U6 i.1.R.Epoch, U6 i.1.R.Index, d3, d4]) z isAgg35 sizeOf35 (b.eF 0 z)) ai) ?_
replace b := b.ag
exact ⟨_, d3, d4, z, f, k6, k7, b.bu⟩
}
{
intro h5 c
refine ak (cvb h5) (wp_skip (bF (tn (wp_seq (wrl (mk (.agg #[Zb, Zu, Zu, Zi, Zu, Zu, Zs, Zs]) ?_))))))
obtain ⟨K6, B5, b⟩ := b.bx [Zb, Zu, Zu, Zi, Zu, Zu, Zs, Zs] sizeOf35 z (oJ 8 z oN) (by kernel_rfl)
refine aE z z (aG B5) (ab (tn (wp_ret ?_)))
have B6 : Ro aD I (.slice none 0 0) [] := cy
have B7 : Ro (dJ az) I (.slice none 0 0) [] := cy
obtain rfl := sj c
refine aZ [.agg #[Zb, Zu, Zu, Zi, Zu, Zu, Zs, Zs]] results30 (bq (bJ (cs := [Zb, Zu, Zu, Zi, Zu, Zu, Zs, Zs]) z isAgg35 sizeOf35 (b.eF 0 z)) ai) ?_
replace b := b.aA
exact ⟨_, Zs, Zs, z, f, B6, B7, b.bu⟩
}
}
}
}
}
}
}
}
theorem et {a0 : (List ct)} {f : Value} {a1 : (List ct)} {g : Value} (h : Rd aD R I f a0) (i : Rd aD R I g a1) (b : St w0 w I [] R) {r : (Bool)} (c : gj a0 a1 = some r) :
  Calls prog 78 #[f, g] w fun e w' => e = .returned (.bool r) ∧ St w0 w' I [] R := by {
unfold gj at c
refine c0 func78 z ntmps78 (wp_seq (wrl (mb z (ab (tn (wp_seq (wp_seq (wrl (mv (f) z (mz (bZ z underlying30 (ax h)) (mv (g) z (mz (bZ z underlying30 (ax i)) (mb z (ab (tn (bs c ?_ ?_))))))))))))))))
{
intro o c
cases c
}
{
intro o c
refine ak (cvb o) (wp_skip (tn (wp_seq (wp_seq (wrl (mi z (ab (tn (wp_block ?_)))))))))
obtain ⟨B, c⟩ := aX c
refine bm (fun n a w => ∃ (j : Int), cT (fl a0 a1) n j = some r ∧ fz 43 [0, 1, 5] [f, g, I6 j] a ∧ St w0 w I [] R) B ⟨0, c, fy z, b⟩ ?_
rintro L _ M ⟨j, c, ⟨N, rfl⟩, b⟩
obtain ⟨O, P, rfl, c, p⟩ := ba c
dsimp only [fl] at c
refine wp_seq (wp_seq (wrl (mi z (mv (f) z (mz (bZ z underlying30 (ax h)) (mb z (ab (tn (bs c ?_ ?_)))))))))
{
intro k c
refine ar (cvb k) (wp_skip (tn (wp_seq (wp_block (wp_seq (dO b mixed (by kernel_rfl) (qz f z (qz (I6 _) z ?_))))))))
obtain ⟨l, C, c⟩ := bn c
obtain ⟨q, s, D⟩ := aP C
refine qh _ (fun w b => aC z z underlying30 sizeOf61 (ax h) q s) (qh _ (fun w b => aW z underlying61 z sizeOf4 z) ?_)
obtain ⟨Q, E, t⟩ := Rd.jZ h D
obtain ⟨S, rfl, F, -⟩ := E
refine qh _ (fun w b => aq z isAgg4 ((t lr b) 0 _ z)) (qz g z (qz (I6 _) z ?_))
obtain ⟨m, G, c⟩ := bn c
obtain ⟨u, x, H⟩ := aP G
refine qh _ (fun w b => aC z z underlying30 sizeOf61 (ax i) u x) (qh _ (fun w b => aW z underlying61 z sizeOf4 z) ?_)
obtain ⟨T, J, y⟩ := Rd.jZ i H
obtain ⟨U, rfl, K, -⟩ := J
refine qh _ (fun w b => aq z isAgg4 ((y lr b) 0 _ z)) (tz (v := .bool (!(l.Has == m.Has))) z z (fun w b => by kernel_rfl) (qz (.bool _) z (bs c ?_ ?_)))
{
intro d c
cases c
}
{
intro d c
refine qgz f d z (qgz (I6 _) d z (qg _ d (fun w b => aC z z underlying30 sizeOf61 (ax h) q s) (qg _ d (fun w b => aW z underlying61 z sizeOf22 z) (qg _ d (fun w b => aq z isAgg22 ((t lr b) 1 _ z)) (qg (.string (iZ l.Val)) d (fun w b => pX underlying22 underlying9 underlying5 z (Src.rf b F mO)) (qgz g d z (qgz (I6 _) d z (qg _ d (fun w b => aC z z underlying30 sizeOf61 (ax i) u x) (qg _ d (fun w b => aW z underlying61 z sizeOf22 z) (qg _ d (fun w b => aq z isAgg22 ((y lr b) 1 _ z)) (qg (.string (iZ m.Val)) d (fun w b => pX underlying22 underlying9 underlying5 z (Src.rf b K mO)) (tz (v := .bool (!(sEq (iZ l.Val) (iZ m.Val)))) ((aw z z z (cvb d)).trans z) z (fun w b => by kernel_rfl) (qh (.bool _) (fun w b => aJ d z z) (fO ?_))))))))))))))
intro w b
refine tn (bs c ?_ ?_)
{
intro A c
cases c
}
{
intro A c
refine ak (cvb A) (wp_skip (bF (tn (wrl (mi z (mi z (mi z (ab (tn ?_)))))))))
replace b := b.bU
obtain rfl := sj c
exact ⟨_, nls, (i64.wrap (j + 1)), p, fy z, b⟩
}
}
}
{
intro k c
refine ak (cvb k) (wp_exit (aV (aV ?_)))
replace c := bo c p
refine de (tn (wp_seq (wrl (mb z (ab (tn (wp_ret ?_)))))))
obtain rfl := sj c
exact aZ [.bool true] results78 (rc z ai) ⟨z, b.bU⟩
}
}
}
theorem sR {a0 : (List bQ)} {f : Value} {a1 : (List bQ)} {g : Value} (h : Rd az R I f a0) (i : Rd az R I g a1) (b : St w0 w I [] R) {r : (Bool)} (c : gF a0 a1 = some r) :
  Calls prog 79 #[f, g] w fun e w' => e = .returned (.bool r) ∧ St w0 w' I [] R := by {
unfold gF at c
refine c0 func79 z ntmps79 (wp_seq (wrl (mb z (ab (tn (wp_seq (wp_seq (wrl (mv (f) z (mz (bZ z underlying81 (ax h)) (mv (g) z (mz (bZ z underlying81 (ax i)) (mb z (ab (tn (bs c ?_ ?_))))))))))))))))
{
intro o c
cases c
}
{
intro o c
refine ak (cvb o) (wp_skip (tn (wp_seq (wp_seq (wrl (mi z (ab (tn (wp_block ?_)))))))))
obtain ⟨A, c⟩ := aX c
refine bm (fun n a w => ∃ (j : Int), cT (fE a0 a1) n j = some r ∧ fz 44 [0, 1, 5] [f, g, I6 j] a ∧ St w0 w I [] R) A ⟨0, c, fy z, b⟩ ?_
rintro P _ Q ⟨j, c, ⟨S, rfl⟩, b⟩
obtain ⟨T, U, rfl, c, p⟩ := ba c
dsimp only [fE] at c
refine wp_seq (wp_seq (wrl (mi z (mv (f) z (mz (bZ z underlying81 (ax h)) (mb z (ab (tn (bs c ?_ ?_)))))))))
{
intro k c
refine ar (cvb k) (wp_skip (tn (wp_seq (wp_block (wp_seq (rg b 27 [0, 0, 3, 7, 15, 0, 0, 96, 224, 480, 1023, 2047, 4095, 8191, 8191, 32767, 65535, 131071, 262143, 8191, 8191, 1581055, 3678207, 7872511, 16261119, 33554431, 67108863] [] mixed (sz (f) 0 z z (si 1 z z ?_))))))))
obtain ⟨l, B, c⟩ := bn c
obtain ⟨q, s, t⟩ := aP B
refine sh _ 2 z (fun w b => aC z z underlying81 sizeOf152 (ax h) q s) (sh _ 3 z (fun w b => aW z underlying152 z sizeOf37 z) ?_)
obtain ⟨V, C, D⟩ := Rd.jZ h t
obtain ⟨W, rfl, X, -⟩ := C
refine sl 4 z z isAgg37 (fun w b => (D lr b) 0 _ z) (sz (g) 5 z z (si 6 z z ?_))
obtain ⟨m, E, c⟩ := bn c
obtain ⟨u, v, x⟩ := aP E
refine sh _ 7 z (fun w b => aC z z underlying81 sizeOf152 (ax i) u v) (sh _ 8 z (fun w b => aW z underlying152 z sizeOf37 z) ?_)
obtain ⟨Y, F, G⟩ := Rd.jZ i x
obtain ⟨Z, rfl, b0, -⟩ := F
refine sl 9 z z isAgg37 (fun w b => (G lr b) 0 _ z) (e1 10 z z fun w b => ?_)
obtain ⟨b1, H, c⟩ := bn c
refine wec call20 [F6 l.At, F6 m.At] z z ((ez b.to0 H).mono ?_)
rintro _ b2 ⟨rfl, b⟩
refine ⟨_, z, ?_⟩
replace b := b.of0
refine w0n b (sb 11 z z (sb 12 z z (bs c ?_ ?_)))
{
intro d c
cases c
}
{
intro d c
refine sgz f 13 z d z (sgz (I6 _) 14 z d z (sg _ 15 z d (fun w b => aC z z underlying81 sizeOf152 (ax h) q s) (sg _ 16 z d (fun w b => aW z underlying152 z sizeOf22 z) ?_)))
obtain ⟨b3, J, K⟩ := Rd.jZ h t
obtain ⟨b4, rfl, L, -⟩ := J
refine sg _ 17 z d (fun w b => aq z isAgg22 ((K lr b) 1 _ z)) (sg (.string (iZ l.Val)) 18 z d (fun w b => pX underlying22 underlying9 underlying5 z (Src.rf b L mO)) (sgz g 19 z d z (sgz (I6 _) 20 z d z (sg _ 21 z d (fun w b => aC z z underlying81 sizeOf152 (ax i) u v) (sg _ 22 z d (fun w b => aW z underlying152 z sizeOf22 z) ?_)))))
obtain ⟨b5, M, N⟩ := Rd.jZ i x
obtain ⟨b6, rfl, O, -⟩ := M
refine sg _ 23 z d (fun w b => aq z isAgg22 ((N lr b) 1 _ z)) (sg (.string (iZ m.Val)) 24 z d (fun w b => pX underlying22 underlying9 underlying5 z (Src.rf b O mO)) (sgk (.bool (!(sEq (iZ l.Val) (iZ m.Val)))) 25 z d (sh (.bool _) 26 z (fun w b => aJ d z z) (bp ?_))))
intro w b
refine tn (bs c ?_ ?_)
{
intro y c
cases c
}
{
intro y c
refine ak (cvb y) (wp_skip (bF (tn (wrl (mi z (mi z (mi z (ab (tn ?_)))))))))
replace b := b.bU
obtain rfl := sj c
exact ⟨_, nls, (i64.wrap (j + 1)), p, fy z, b⟩
}
}
}
{
intro k c
refine ak (cvb k) (wp_exit (aV (aV ?_)))
replace c := bo c p
refine de (tn (wp_seq (wrl (mb z (ab (tn (wp_ret ?_)))))))
obtain rfl := sj c
exact aZ [.bool true] results79 (rc z ai) ⟨z, b.bU⟩
}
}
}
theorem oR {a0 : bw} {i k : Value} {a1 : bw} {j l : Value} (y : Rd aD R I i a0.Gots) (m : Rd (dJ az) R I k a0.Scans) (A : Rd aD R I j a1.Gots) (p : Rd (dJ az) R I l a1.Scans) (c : St w0 w I [] R) {r : (Bool)} (b : eX a0 a1 = some r) :
  Calls prog 32 #[.agg #[I6 a0.E, U6 a0.Epoch, U6 a0.Index, i, k], .agg #[I6 a1.E, U6 a1.Epoch, U6 a1.Index, j, l]] w fun e w' => e = .returned (.bool r) ∧ St w0 w' I [] R := by {
unfold eX at b
refine c0 func32 z ntmps32 (wp_seq (wrl ?_))
obtain ⟨s, b1, B, C, c⟩ := c.box [I6 a0.E, U6 a0.Epoch, U6 a0.Index, i, k] 33
refine wa B C ?_
obtain ⟨t, b2, D, F, c⟩ := c.box [I6 a1.E, U6 a1.Epoch, U6 a1.Index, j, l] 33
refine wa D F (mb z (ab (tn (wp_seq (wp_seq (wrl (mf z underlying33 z sizeOf29 (ml z isAgg29 (c.bc1 z) (mf z underlying33 z sizeOf29 (ml z isAgg29 (c.bc0 z) (mb z (mb z (bs b ?_ ?_)))))))))))))
{
intro g b
cases b
}
{
intro g b
refine gg g (aT z underlying33 z sizeOf26 z) (gg g (aq z isAgg26 (c.bc1 z)) (gg g (aT z underlying33 z sizeOf26 z) (gg g (aq z isAgg26 (c.bc0 z)) (gb g z (mb (aJ g z z) (mb z (bs b ?_ ?_)))))))
{
intro h b
cases b
}
{
intro h b
refine gg h (aT z underlying33 z sizeOf26 z) (gg h (aq z isAgg26 (c.bc1 z)) (gg h (aT z underlying33 z sizeOf26 z) (gg h (aq z isAgg26 (c.bc0 z)) (gb h z (mb (aJ h z z) (mb z (bs b ?_ ?_)))))))
{
intro f b
cases b
}
{
intro f b
refine gg f (aT z underlying33 z sizeOf30 z) (gg f (aq z isAgg30 (c.bc1 z)) (gg f (aT z underlying33 z sizeOf30 z) (gg f (aq z isAgg30 (c.bc0 z)) ?_)))
obtain ⟨b3, G, b⟩ := bn b
refine dj ((aw z z z (cvb f)).trans z) z (jv call78 z (vs := [i, j]) z) ((et (y.mono (cC _)) (A.mono (cC _)) c.to0 G).mono ?_)
rintro _ b4 ⟨rfl, c⟩
refine ⟨_, z, ?_⟩
replace c := c.of0
refine gb f z (mb (aJ f z z) (mb z (bs b ?_ ?_)))
{
intro d b
cases b
}
{
intro d b
refine gg d (aT z underlying33 z sizeOf31 z) (gg d (aq z isAgg31 (c.bc1 z)) (gg d (bZ z underlying31 (ax m)) (gg d (aT z underlying33 z sizeOf31 z) (gg d (aq z isAgg31 (c.bc0 z)) (gg d (bZ z underlying31 (ax p)) (gb d z (mb (aJ d z z) (ab (tn (bs b ?_ ?_))))))))))
{
intro u b
cases b
}
{
intro u b
refine ak (cvb u) (wp_skip (tn (wp_seq (wp_seq (wrl (mi z (ab (tn (wp_block ?_)))))))))
obtain ⟨H, b⟩ := aX b
refine bm (fun n a w => ∃ (o : Int), cT (fH a0 a1) n o = some r ∧ fz 61 [2, 3, 5] [Pt s 0, Pt t 0, I6 o] a ∧ St w0 w I [cells t [I6 a1.E, U6 a1.Epoch, U6 a1.Index, j, l], cells s [I6 a0.E, U6 a0.Epoch, U6 a0.Index, i, k]] R) H ⟨0, b, fy z, c⟩ ?_
rintro b5 _ b6 ⟨o, b, ⟨b7, rfl⟩, c⟩
obtain ⟨b8, b9, rfl, b, v⟩ := ba b
dsimp only [fH] at b
refine wp_seq (wp_seq (wrl (mi z (mf z underlying33 z sizeOf31 (ml z isAgg31 (c.bc1 z) (mz (bZ z underlying31 (ax m)) (mb z (ab (tn (bs b ?_ ?_))))))))))
{
intro q b
refine ar (cvb q) (wp_skip (tn (wp_seq (wp_block (wp_seq (rg c 12 [0, 1, 0, 7, 15, 0, 32, 0, 224, 480, 1023, 2047] [] mixed (sf 0 z z underlying33 z sizeOf31 (sl 1 z z isAgg31 (fun w c => c.bc1 z) (si 2 z z ?_)))))))))
obtain ⟨c1, J, b⟩ := bn b
obtain ⟨K, L, M⟩ := aP J
refine sh _ 3 z (fun w c => aC z z underlying31 sizeOf81 (ax m) K L) ?_
obtain ⟨c2, N, O⟩ := Rd.jZ m M
obtain ⟨P, rfl, Q, -⟩ := N
refine sl 4 z z isAgg81 (fun w c => (O lr c) 0 _ z) (sf 5 z z underlying33 z sizeOf31 (sl 6 z z isAgg31 (fun w c => c.bc0 z) (si 7 z z ?_)))
obtain ⟨c3, S, b⟩ := bn b
obtain ⟨T, U, V⟩ := aP S
refine sh _ 8 z (fun w c => aC z z underlying31 sizeOf81 (ax p) T U) ?_
obtain ⟨c4, W, X⟩ := Rd.jZ p V
obtain ⟨Y, rfl, Z, -⟩ := W
refine sl 9 z z isAgg81 (fun w c => (X lr c) 0 _ z) (e1 10 z z fun w c => ?_)
obtain ⟨c5, b0, b⟩ := bn b
refine wec call79 [P, Y] z z ((sR (Q.mono (cC _)) (Z.mono (cC _)) c.to0 b0).mono ?_)
rintro _ c6 ⟨rfl, c⟩
refine ⟨_, z, ?_⟩
replace c := c.of0
refine w0n c (sb 11 z z (bp ?_))
intro w c
refine tn (bs b ?_ ?_)
{
intro x b
cases b
}
{
intro x b
refine ak (cvb x) (wp_skip (bF (tn (wrl (mi z (mi z (mi z (ab (tn ?_)))))))))
replace c := c.ag.ag.ck
obtain rfl := sj b
exact ⟨_, nls, (i64.wrap (o + 1)), v, fy z, c⟩
}
}
{
intro q b
refine ak (cvb q) (wp_exit (aV (aV ?_)))
replace b := bo b v
refine de (tn (wp_seq (wrl (mb z (ab (tn (wp_ret ?_)))))))
obtain rfl := sj b
exact aZ [.bool true] results32 (rc z ai) ⟨z, c.bU⟩
}
}
}
}
}
}
}
theorem rT {a0 : bj} {f g : Value} {a1 : bj} {h i : Value} (j : Rd aD R I f a0.R.Gots) (k : Rd (dJ az) R I g a0.R.Scans) (l : Rd aD R I h a1.R.Gots) (m : Rd (dJ az) R I i a1.R.Scans) (a : St w0 w I [] R) {r : (Bool)} (b : kq a0 a1 = some r) :
  Calls prog 39 #[.agg #[U1 a0.Kind, U6 a0.ID.Session, U6 a0.ID.Seq, I6 a0.R.E, U6 a0.R.Epoch, U6 a0.R.Index, f, g], .agg #[U1 a1.Kind, U6 a1.ID.Session, U6 a1.ID.Seq, I6 a1.R.E, U6 a1.R.Epoch, U6 a1.R.Index, h, i]] w fun e w' => e = .returned (.bool r) ∧ St w0 w' I [] R := by {
unfold kq at b
refine c0 func39 z ntmps39 (wp_seq (wrl ?_))
obtain ⟨u, v, n, o, a⟩ := a.box [U1 a0.Kind, U6 a0.ID.Session, U6 a0.ID.Seq, I6 a0.R.E, U6 a0.R.Epoch, U6 a0.R.Index, f, g] 35
refine wa n o ?_
obtain ⟨x, y, p, q, a⟩ := a.box [U1 a1.Kind, U6 a1.ID.Session, U6 a1.ID.Seq, I6 a1.R.E, U6 a1.R.Epoch, U6 a1.R.Index, h, i] 35
refine wa p q (mb z (ab (tn (wp_seq (wrl (mf z underlying35 z sizeOf5 (ml z isAgg5 (a.bc1 z) (mf z underlying35 z sizeOf5 (ml z isAgg5 (a.bc0 z) (mb z (mb z (bs b ?_ ?_))))))))))))
{
intro c b
refine gg c (aT z underlying35 z sizeOf28 z) (gg c (ay (cs := [U6 a0.ID.Session, U6 a0.ID.Seq]) z isAgg28 sizeOf28 (a.eK 1 z)) (gg c (aT z underlying35 z sizeOf28 z) (gg c (ay (cs := [U6 a1.ID.Session, U6 a1.ID.Seq]) z isAgg28 sizeOf28 (a.eF 1 z)) (gb c (ua z z (by kernel_rfl) underlying28 (by kernel_rfl) (by kernel_rfl) (by kernel_rfl) underlying26 underlying26 (fun _ _ _ => by kernel_rfl) (fun _ _ _ => by kernel_rfl)) (mb (aS c z z) (mb z (bs b ?_ ?_)))))))
{
intro d b
refine gg d (aT z underlying35 z sizeOf33 z) (gg d (ay (cs := [I6 a0.R.E, U6 a0.R.Epoch, U6 a0.R.Index, f, g]) z isAgg33 sizeOf33 (a.eK 3 z)) (gg d (aT z underlying35 z sizeOf33 z) (gg d (ay (cs := [I6 a1.R.E, U6 a1.R.Epoch, U6 a1.R.Index, h, i]) z isAgg33 sizeOf33 (a.eF 3 z)) ?_)))
obtain ⟨s, t, b⟩ := bn b
refine dj ((aw z z z (cvb d)).trans z) z (jv call32 z (vs := [.agg #[I6 a0.R.E, U6 a0.R.Epoch, U6 a0.R.Index, f, g], .agg #[I6 a1.R.E, U6 a1.R.Epoch, U6 a1.R.Index, h, i]]) z) ((oR (j.mono (cC _)) (k.mono (cC _)) (l.mono (cC _)) (m.mono (cC _)) a.to0 t).mono ?_)
rintro _ A ⟨rfl, a⟩
refine ⟨_, z, ?_⟩
replace a := a.of0
refine mb (aS d z z) (mb z (ab (tn (wp_ret ?_))))
obtain rfl := sj b
exact aZ [.bool s] results39 (rc z ai) ⟨z, a.bU⟩
}
{
intro d b
cases b
}
}
{
intro c b
cases b
}
}
theorem kG {a0 : (List bC)} {c : Value} (h : RdO aM R I c a0) (a : St w0 w I [] R) {r : (List bC)} (d : dw a0 = some r) :
  Calls prog 62 #[c] w fun e w' => ∃ (i : Value), e = .returned (i) ∧ St w0 w' I [bg aM i r] R := by {
unfold dw at d
obtain ⟨hg, d⟩ := cz d
obtain rfl := sj d
have hsv := tG h
refine c0 func62 z ntmps62 (wp_seq (wrl (mv ((.slice none 0 0)) z (ab (tn (wp_seq (wp_seq (wrl (mv (c) z (mb (tX z hsv z underlying65) (ab (tn (iw (isNil c) (fun f => ?_) (fun f => ?_))))))))))))))
{
refine ar (cvb f) (wp_seq (wrl (mv ((.slice none 0 0)) z (ab (tn (wp_ret (aN (aZ [Zs] results62 (rc z ai) ?_))))))))
obtain rfl := List.eq_nil_of_length_eq_zero (qA hsv f)
exact ⟨_, z, (a.bd aM).bu⟩
}
{
refine ak (cvb f) (wp_skip (tn (wp_seq (wrl ?_))))
obtain ⟨b, j, ew, eb, a⟩ := a.ey (E := aM) (xs := []) [] 89 0 z bE.nil
refine cb (v := (.slice (some ⟨b, 0, none⟩) 0 0)) (w' := j) z z (dn (by kernel_rfl) ew eb) (mv (c) z ?_)
obtain ⟨g, k, hr, a⟩ := bI sE underlying65 a (Src.CL a h) (cK hg z) 65
refine cb (v := g) (w' := k) z z (bX z z hr) (mv (g) z (ab (tn (wp_ret (aZ [g] results62 (rc z ai) ?_)))))
rw [List.nil_append] at a
exact ⟨_, z, a.bu⟩
}
}
theorem sM {a0 : (Option ae)} {p0 : Value} (a : St w0 w I [cF aI p0 a0] R) {r : ((List bC))} (b : kX a0 = some r) :
  Calls prog 23 #[p0] w fun e w' => ∃ (d : Value), e = .returned (d) ∧ St w0 w' I [bg aM d r, cF aI p0 a0] R := by {
rcases a0 with _ | g
{
dsimp only [kX] at b
cases b
}
{
replace a := bH a
dsimp only [kX] at b
refine c0 func23 z ntmps23 (wp_seq (wrl (mv ((.slice none 0 0)) z (ab (tn (wp_seq (wp_seq (wrl (mv (p0) z ?_)))))))))
obtain ⟨h, l, m, n, o, i, p, q, rfl, j⟩ := bi a
have a := j
refine mk (.bool false) (ab (tn (ak z (wp_skip (tn (wp_seq (wrl (mp z (mp z (mf z underlying111 z sizeOf65 (ml z isAgg65 (a.bc0 z) ?_)))))))))))
replace a := a.bc
obtain ⟨s, f, a⟩ := a.cB
obtain ⟨t, k, b⟩ := bn b
refine wc call62 [i] z z z ((kG (a.EE 0 z f) a.to0 k).mono ?_)
rintro _ u ⟨c, rfl, a⟩
refine ⟨_, z, ?_⟩
replace a := a.of1.ag.bh f
refine mv (c) z (ab (tn (wp_ret ?_)))
replace a := aO (av (Pt h 0) g a.bM.bM.aA.bM.bM.bM.bM.bM z)
obtain rfl := sj b
refine aZ [c] results23 (rc z ai) ?_
replace a := a.ag
exact ⟨c, z, a.ck⟩
}
}
theorem lI {a0 : (List bR)} {g : Value} {a1 : (List bR)} {h : Value} (i : Rd cI R I g a0) (j : Rd cI R I h a1) (b : St w0 w I [] R) {r : (Bool)} (c : fM a0 a1 = some r) :
  Calls prog 18 #[g, h] w fun e w' => e = .returned (.bool r) ∧ St w0 w' I [] R := by {
unfold fM at c
refine c0 func18 z ntmps18 (wp_seq (wrl (mb z (ab (tn (wp_seq (wp_seq (wrl (mv (g) z (mz (bZ z underlying42 (ax i)) (mv (h) z (mz (bZ z underlying42 (ax j)) (mb z (ab (tn (bs c ?_ ?_))))))))))))))))
{
intro u c
cases c
}
{
intro u c
refine ak (cvb u) (wp_skip (tn (wp_seq (wp_seq (wrl (mi z (ab (tn (wp_block ?_)))))))))
obtain ⟨D, c⟩ := aX c
refine bm (fun n a w => ∃ (k : Int), cT (fg a0 a1) n k = some r ∧ fz 57 [0, 1, 5] [g, h, I6 k] a ∧ St w0 w I [] R) D ⟨0, c, fy z, b⟩ ?_
rintro Q _ S ⟨k, c, ⟨T, rfl⟩, b⟩
obtain ⟨U, V, rfl, c, v⟩ := ba c
dsimp only [fg] at c
refine wp_seq (wp_seq (wrl (mi z (mv (g) z (mz (bZ z underlying42 (ax i)) (mb z (ab (tn (bs c ?_ ?_)))))))))
{
intro o c
refine ar (cvb o) (wp_skip (tn (wp_seq (wp_block (wp_seq (rg b 40 [0, 0, 3, 7, 15, 0, 0, 96, 224, 480, 1023, 2047, 4095, 8191, 8191, 32767, 65535, 131071, 8191, 8191, 794623, 1843199, 3940351, 8388607, 16777215, 33554431, 67108863, 67108863, 268435455, 536870911, 1073741823, 2147483647, 67108863, 67108863, 12952010751, 30131879935, 64491618303, 133211095039, 274877906943, 549755813887] [] mixed (sz (g) 0 z z (si 1 z z ?_))))))))
obtain ⟨l, E, c⟩ := bn c
obtain ⟨p, q, x⟩ := aP E
refine sh _ 2 z (fun w b => aC z z underlying42 sizeOf41 (ax i) p q) (sh _ 3 z (fun w b => aW z underlying41 z sizeOf37 z) ?_)
obtain ⟨W, F, G⟩ := Rd.jZ i x
obtain ⟨X, rfl, Y, -⟩ := F
refine sl 4 z z isAgg37 (fun w b => (G lr b) 0 _ z) (sz (h) 5 z z (si 6 z z ?_))
obtain ⟨m, H, c⟩ := bn c
obtain ⟨s, t, y⟩ := aP H
refine sh _ 7 z (fun w b => aC z z underlying42 sizeOf41 (ax j) s t) (sh _ 8 z (fun w b => aW z underlying41 z sizeOf37 z) ?_)
obtain ⟨Z, J, K⟩ := Rd.jZ j y
obtain ⟨b0, rfl, b1, -⟩ := J
refine sl 9 z z isAgg37 (fun w b => (K lr b) 0 _ z) (e1 10 z z fun w b => ?_)
obtain ⟨b2, L, c⟩ := bn c
refine wec call20 [F6 l.At, F6 m.At] z z ((ez b.to0 L).mono ?_)
rintro _ b3 ⟨rfl, b⟩
refine ⟨_, z, ?_⟩
replace b := b.of0
refine w0n b (sb 11 z z (sb 12 z z (bs c ?_ ?_)))
{
intro f c
cases c
}
{
intro f c
refine sgz g 13 z f z (sgz (I6 _) 14 z f z (sg _ 15 z f (fun w b => aC z z underlying42 sizeOf41 (ax i) p q) (sg _ 16 z f (fun w b => aW z underlying41 z sizeOf4 z) ?_)))
obtain ⟨b4, M, A⟩ := Rd.jZ i x
obtain ⟨b5, rfl, N, -⟩ := M
refine sg _ 17 z f (fun w b => aq z isAgg4 ((A lr b) 1 _ z)) (sgz h 18 z f z (sgz (I6 _) 19 z f z (sg _ 20 z f (fun w b => aC z z underlying42 sizeOf41 (ax j) s t) (sg _ 21 z f (fun w b => aW z underlying41 z sizeOf4 z) ?_))))
obtain ⟨b6, O, B⟩ := Rd.jZ j y
obtain ⟨b7, rfl, P, -⟩ := O
refine sg _ 22 z f (fun w b => aq z isAgg4 ((B lr b) 1 _ z)) (sgk (.bool (!(l.Del == m.Del))) 23 z f (sh (.bool _) 24 z (fun w b => aJ f z z) (sb 25 z z (bs c ?_ ?_))))
{
intro d c
cases c
}
{
intro d c
refine sgz g 26 z d z (sgz (I6 _) 27 z d z (sg _ 28 z d (fun w b => aC z z underlying42 sizeOf41 (ax i) p q) (sg _ 29 z d (fun w b => aW z underlying41 z sizeOf22 z) (sg _ 30 z d (fun w b => aq z isAgg22 ((A lr b) 2 _ z)) (sg (.string (iZ l.Val)) 31 z d (fun w b => pX underlying22 underlying9 underlying5 z (Src.rf b N mO)) (sgz h 32 z d z (sgz (I6 _) 33 z d z (sg _ 34 z d (fun w b => aC z z underlying42 sizeOf41 (ax j) s t) (sg _ 35 z d (fun w b => aW z underlying41 z sizeOf22 z) (sg _ 36 z d (fun w b => aq z isAgg22 ((B lr b) 2 _ z)) (sg (.string (iZ m.Val)) 37 z d (fun w b => pX underlying22 underlying9 underlying5 z (Src.rf b P mO)) (sgk (.bool (!(sEq (iZ l.Val) (iZ m.Val)))) 38 z d (sh (.bool _) 39 z (fun w b => aJ d z z) (bp ?_))))))))))))))
intro w b
refine tn (bs c ?_ ?_)
{
intro C c
cases c
}
{
intro C c
refine ak (cvb C) (wp_skip (bF (tn (wrl (mi z (mi z (mi z (ab (tn ?_)))))))))
replace b := b.bU
obtain rfl := sj c
exact ⟨_, nls, (i64.wrap (k + 1)), v, fy z, b⟩
}
}
}
}
{
intro o c
refine ak (cvb o) (wp_exit (aV (aV ?_)))
replace c := bo c v
refine de (tn (wp_seq (wrl (mb z (ab (tn (wp_ret ?_)))))))
obtain rfl := sj c
exact aZ [.bool true] results18 (rc z ai) ⟨z, b.bU⟩
}
}
}
theorem qt {a0 : (List bC)} {s : Value} {a1 : (List bC)} {t : Value} (D : Rd aM R I s a0) (F : Rd aM R I t a1) (b : St w0 w I [] R) {r : (Bool)} (c : iJ a0 a1 = some r) :
  Calls prog 86 #[s, t] w fun e w' => e = .returned (.bool r) ∧ St w0 w' I [] R := by {
unfold iJ at c
refine c0 func86 z ntmps86 (wp_seq (wrl (mb z (ab (tn (wp_seq (wp_seq (wrl (mv (s) z (mz (bZ z underlying65 (ax D)) (mv (t) z (mz (bZ z underlying65 (ax F)) (mb z (ab (tn (bs c ?_ ?_))))))))))))))))
{
intro Q c
cases c
}
{
intro Q c
refine ak (cvb Q) (wp_skip (tn (wp_seq (wp_seq (wrl (mi z (ab (tn (wp_block ?_)))))))))
obtain ⟨b3, c⟩ := aX c
refine bm (fun n a w => ∃ (x : Int), cT (gl a0 a1) n x = some r ∧ fz 123 [0, 1, 5] [s, t, I6 x] a ∧ St w0 w I [] R) b3 ⟨0, c, fy z, b⟩ ?_
rintro f1 _ f2 ⟨x, c, ⟨f3, rfl⟩, b⟩
obtain ⟨f4, b4, rfl, c, S⟩ := ba c
dsimp only [gl] at c
refine wp_seq (wp_seq (wrl (mi z (mv (s) z (mz (bZ z underlying65 (ax D)) (mb z (ab (tn (bs c ?_ ?_)))))))))
{
intro K c
refine ar (cvb K) (wp_skip (tn (wp_seq (wp_block (wp_seq (wrl (mb z (ab (tn (wp_seq (wp_seq (wrl (mi z (ab (tn (wp_block ?_))))))))))))))))
obtain ⟨b5, c⟩ := aX c
refine bm (fun n a w => ∃ (q : Bool) (j : Int), cT (fb a1 a0 x) n (q, j) = some b4 ∧ fz 123 [0, 1, 5, 6, 7] [s, t, I6 x, .bool q, I6 j] a ∧ St w0 w I [] R) b5 ⟨false, 0, c, fy z, b⟩ ?_
rintro f5 _ f6 ⟨q, j, c, ⟨f7, rfl⟩, b⟩
obtain ⟨f8, b6, rfl, c, u⟩ := ba c
dsimp only [fb] at c
refine wp_seq (wp_seq (wrl (mi z (mv (t) z (mz (bZ z underlying65 (ax F)) (mb z (ab (tn (bs c ?_ ?_)))))))))
{
intro L c
refine ar (cvb L) (wp_skip (tn (wp_seq (wp_block (wp_seq (wrl (mv (s) z (mi z ?_))))))))
obtain ⟨g, b7, c⟩ := bn c
obtain ⟨b8, b9, c1⟩ := aP b7
refine mz (aC z z underlying65 sizeOf89 (ax D) b8 b9) ?_
obtain ⟨f9, c2, c3⟩ := Rd.jZ D c1
obtain ⟨M, rfl, y, -⟩ := c2
refine mz (ay (cs := [U6 g.ID.Session, U6 g.ID.Seq, I6 g.E, U6 g.Epoch, U6 g.Index, U6 g.Shards, M]) z isAgg89 sizeOf89 (dS (o := 0) (c3 lr b) z)) ?_
obtain ⟨T, g0, c4, c5, b⟩ := b.box [Zu, Zu, Zi, Zu, Zu, Zu, Zs] 89
refine wa c4 c5 ?_
obtain ⟨g1, c6, b⟩ := b.bx [U6 g.ID.Session, U6 g.ID.Seq, I6 g.E, U6 g.Epoch, U6 g.Index, U6 g.Shards, M] sizeOf89 z (oJ 6 z (oC (oS (ax y)) oN)) (by kernel_rfl)
refine aE z z (aG c6) (ab (tn (wp_seq (wrl (mv (t) z (mi z ?_))))))
obtain ⟨h, c7, c⟩ := bn c
obtain ⟨c8, c9, d0⟩ := aP c7
refine mz (aC z z underlying65 sizeOf89 (ax F) c8 c9) ?_
obtain ⟨g2, d1, d2⟩ := Rd.jZ F d0
obtain ⟨N, rfl, B, -⟩ := d1
refine mz (ay (cs := [U6 h.ID.Session, U6 h.ID.Seq, I6 h.E, U6 h.Epoch, U6 h.Index, U6 h.Shards, N]) z isAgg89 sizeOf89 (dS (o := 0) (d2 lr b) z)) ?_
obtain ⟨U, g3, d3, d4, b⟩ := b.box [Zu, Zu, Zi, Zu, Zu, Zu, Zs] 89
refine wa d3 d4 ?_
obtain ⟨g4, d5, b⟩ := b.bx [U6 h.ID.Session, U6 h.ID.Seq, I6 h.E, U6 h.Epoch, U6 h.Index, U6 h.Shards, N] sizeOf89 z (oJ 6 z (oC (oS (ax B)) oN)) (by kernel_rfl)
refine aE z z (aG d5) (ab (tn (wp_seq (wrl (mf z underlying89 z sizeOf28 (mz (ay (cs := [U6 g.ID.Session, U6 g.ID.Seq]) z isAgg28 sizeOf28 (b.eK 0 z)) (mf z underlying89 z sizeOf28 (mz (ay (cs := [U6 h.ID.Session, U6 h.ID.Seq]) z isAgg28 sizeOf28 (b.eF 0 z)) (mb (ua z z (by kernel_rfl) underlying28 (by kernel_rfl) (by kernel_rfl) (by kernel_rfl) underlying26 underlying26 (fun _ _ _ => by kernel_rfl) (fun _ _ _ => by kernel_rfl)) (mb z (bs c ?_ ?_)))))))))))
{
intro k c
refine gg k (aT z underlying89 z sizeOf29 z) (gg k (aq z isAgg29 (b.bc1 z)) (gg k (aT z underlying89 z sizeOf29 z) (gg k (aq z isAgg29 (b.bc0 z)) (gb k z (mb (aS k z z) (mb z (bs c ?_ ?_)))))))
{
intro l c
refine gg l (aT z underlying89 z sizeOf26 z) (gg l (aq z isAgg26 (b.bc1 z)) (gg l (aT z underlying89 z sizeOf26 z) (gg l (aq z isAgg26 (b.bc0 z)) (gb l z (mb (aS l z z) (mb z (bs c ?_ ?_)))))))
{
intro m c
refine gg m (aT z underlying89 z sizeOf26 z) (gg m (aq z isAgg26 (b.bc1 z)) (gg m (aT z underlying89 z sizeOf26 z) (gg m (aq z isAgg26 (b.bc0 z)) (gb m z (mb (aS m z z) (mb z (bs c ?_ ?_)))))))
{
intro p c
refine gg p (aT z underlying89 z sizeOf26 z) (gg p (aq z isAgg26 (b.bc1 z)) (gg p (aT z underlying89 z sizeOf26 z) (gg p (aq z isAgg26 (b.bc0 z)) (gb p z (mb (aS p z z) (mb z (bs c ?_ ?_)))))))
{
intro i c
refine gg i (aT z underlying89 z sizeOf47 z) (gg i (aq z isAgg47 (b.bc1 z)) (gg i (bZ z underlying47 (ax y)) (gg i (aT z underlying89 z sizeOf47 z) (gg i (aq z isAgg47 (b.bc0 z)) (gg i (bZ z underlying47 (ax B)) (gb i z (mb (aS i z z) (ab (tn (bs c ?_ ?_))))))))))
{
intro O c
refine ar (cvb O) (wp_seq (wrl (mb z (ab (tn ?_)))))
obtain ⟨d6, c, d7⟩ := bn c
refine cU (fun a w => ∃ (G : Bool), (kK q j) G = some b6 ∧ fz 123 [0, 1, 5, 6, 7, 10] [s, t, I6 x, .bool q, I6 j, .bool G] a ∧ St w0 w I [] R) ?_ ?_
{
refine wp_seq (wrl (mi z (ab (tn (wp_block ?_)))))
obtain ⟨d8, c⟩ := aX c
refine bm (fun n a w => ∃ (H : Bool) (A : Int), cT (eo g h) n (H, A) = some d6 ∧ fz 123 [0, 1, 5, 6, 7, 8, 9, 10, 11] [s, t, I6 x, .bool q, I6 j, Pt T 0, Pt U 0, .bool H, I6 A] a ∧ St w0 w I [cells U [U6 h.ID.Session, U6 h.ID.Seq, I6 h.E, U6 h.Epoch, U6 h.Index, U6 h.Shards, N], cells T [U6 g.ID.Session, U6 g.ID.Seq, I6 g.E, U6 g.Epoch, U6 g.Index, U6 g.Shards, M]] R) d8 ⟨true, 0, c, fy z, b⟩ ?_
rintro g5 _ g6 ⟨H, A, c, ⟨g7, rfl⟩, b⟩
obtain ⟨g8, g9, rfl, c, J⟩ := ba c
dsimp only [eo] at c
refine wp_seq (wp_seq (wrl (mi z (mf z underlying89 z sizeOf47 (ml z isAgg47 (b.bc1 z) (mz (bZ z underlying47 (ax y)) (mb z (ab (tn (bs c ?_ ?_))))))))))
{
intro P c
refine ar (cvb P) (wp_skip (tn (wp_seq (wp_block (rg b 32 [0, 1, 3, 7, 3, 31, 63, 127, 3, 259, 3, 1795, 3843, 7939, 16383, 32767, 65535, 131071, 262143, 131071, 1048575, 2097151, 4194303, 131071, 8519679, 131071, 58851327, 125960191, 260177919, 536870911, 1073741823, 2147483647] [31] mixed (sb 0 z z (sb 1 z z (bs c ?_ ?_))))))))
{
intro d c
refine sg _ 2 z d (fun w b => aT z underlying89 z sizeOf47 z) (sg _ 3 z d (fun w b => aq z isAgg47 (b.bc1 z)) (sgz (I6 _) 4 z d z ?_))
obtain ⟨h0, d9, c⟩ := bn c
obtain ⟨V, W, e0⟩ := aP d9
refine sg _ 5 z d (fun w b => aC z z underlying47 sizeOf156 (ax y) V W) (sg _ 6 z d (fun w b => aW z underlying156 z sizeOf3 z) ?_)
obtain ⟨h1, e2, X⟩ := Rd.jZ y e0
obtain ⟨e3, rfl, e4, -⟩ := e2
refine sg _ 7 z d (fun w b => aq z isAgg3 ((X lr b) 0 _ z)) (sg _ 8 z d (fun w b => aT z underlying89 z sizeOf47 z) (sg _ 9 z d (fun w b => aq z isAgg47 (b.bc0 z)) (sgz (I6 _) 10 z d z ?_)))
obtain ⟨h2, e5, c⟩ := bn c
obtain ⟨Y, Z, e6⟩ := aP e5
refine sg _ 11 z d (fun w b => aC z z underlying47 sizeOf156 (ax B) Y Z) (sg _ 12 z d (fun w b => aW z underlying156 z sizeOf3 z) ?_)
obtain ⟨h3, e7, b0⟩ := Rd.jZ B e6
obtain ⟨e8, rfl, e9, -⟩ := e7
refine sg _ 13 z d (fun w b => aq z isAgg3 ((b0 lr b) 0 _ z)) (sgz (.bool _) 14 z d z (sh (.bool _) 15 z (fun w b => aS d z z) (sb 16 z z (bs c ?_ ?_))))
{
intro f c
refine sg _ 17 z f (fun w b => aT z underlying89 z sizeOf47 z) (sg _ 18 z f (fun w b => aq z isAgg47 (b.bc1 z)) (sgz (I6 _) 19 z f z (sg _ 20 z f (fun w b => aC z z underlying47 sizeOf156 (ax y) V W) (sg _ 21 z f (fun w b => aW z underlying156 z sizeOf42 z) (sg _ 22 z f (fun w b => aq z isAgg42 ((X lr b) 1 _ z)) (sg _ 23 z f (fun w b => aT z underlying89 z sizeOf47 z) (sg _ 24 z f (fun w b => aq z isAgg47 (b.bc0 z)) (sgz (I6 _) 25 z f z (sg _ 26 z f (fun w b => aC z z underlying47 sizeOf156 (ax B) Y Z) (sg _ 27 z f (fun w b => aW z underlying156 z sizeOf42 z) (sg _ 28 z f (fun w b => aq z isAgg42 ((b0 lr b) 1 _ z)) (hJ 29 (by kernel_rfl) (nxe [30, 31] (by kernel_rfl) z ((aw z z z (cvb f)).trans z) ?_)))))))))))))
clear b
intro w b
obtain ⟨b1, f0, c⟩ := bn c
refine wec call18 [e3, e8] z z ((lI (e4.mono (cC _)) (e9.mono (cC _)) b.to0 f0).mono ?_)
rintro _ h4 ⟨rfl, b⟩
refine ⟨_, z, ?_⟩
replace b := b.of0
refine w0n b (sh (.bool _) 30 z (fun w b => aS f z z) (e1 31 z z fun w b => bW (v := .bool b1) (w' := w) z z (w0n b (bp ?_))))
intro w b
refine bF (tn (wrl (mi z (mi z (mi z (ab (tn ?_)))))))
replace b := b.ag.ag.ck
obtain rfl := sj c
exact ⟨_, nls, b1, (i64.wrap (A + 1)), J, fy z, b⟩
}
{
intro f c
refine so 17 z f (so 18 z f (so 19 z f (so 20 z f (so 21 z f (so 22 z f (so 23 z f (so 24 z f (so 25 z f (so 26 z f (so 27 z f (so 28 z f (so 29 z f (sh (.bool _) 30 z (fun w b => aJ f z z) (e1 31 z z fun w b => bW (v := .bool false) (w' := w) z z (w0n b (bp ?_))))))))))))))))
intro w b
refine bF (tn (wrl (mi z (mi z (mi z (ab (tn ?_)))))))
replace b := b.ag.ag.ck
obtain rfl := sj c
exact ⟨_, nls, false, (i64.wrap (A + 1)), J, fy z, b⟩
}
}
{
intro d c
refine so 2 z d (so 3 z d (so 4 z d (so 5 z d (so 6 z d (so 7 z d (so 8 z d (so 9 z d (so 10 z d (so 11 z d (so 12 z d (so 13 z d (so 14 z d (sh (.bool _) 15 z (fun w b => aJ d z z) (sb 16 z z (sq 17 z (sq 18 z (sq 19 z (sq 20 z (sq 21 z (sq 22 z (sq 23 z (sq 24 z (sq 25 z (sq 26 z (sq 27 z (sq 28 z (sq 29 z (sh (.bool _) 30 z (fun w b => aJ z z z) (e1 31 z z fun w b => bW (v := .bool false) (w' := w) z z (w0n b (bp ?_)))))))))))))))))))))))))))))))
intro w b
refine bF (tn (wrl (mi z (mi z (mi z (ab (tn ?_)))))))
replace b := b.ag.ag.ck
obtain rfl := sj c
exact ⟨_, nls, false, (i64.wrap (A + 1)), J, fy z, b⟩
}
}
{
intro P c
refine ak (cvb P) (wp_exit (aV (aV ?_)))
replace c := bo c J
refine de (tn ?_)
replace b := b.bU
obtain rfl := sj c
exact ⟨H, d7, fy z, b⟩
}
}
{
rintro _ h5 ⟨G, c, ⟨h6, rfl⟩, b⟩
dsimp only [kK] at c
refine wrl (mb z (mb z (bs c ?_ ?_)))
{
intro C c
refine go C (mb (aS C z z) (mb z (ab (bF (tn (wrl (mi z (mi z (mi z (ab (tn ?_)))))))))))
replace b := b.bU
obtain rfl := sj c
exact ⟨_, nls, true, (i64.wrap (j + 1)), u, fy z, b⟩
}
{
intro C c
refine gb C z (mb (aJ C z z) (mb z (ab (bF (tn (wrl (mi z (mi z (mi z (ab (tn ?_)))))))))))
replace b := b.bU
obtain rfl := sj c
exact ⟨_, nls, G, (i64.wrap (j + 1)), u, fy z, b⟩
}
}
}
{
intro O c
refine ak (cvb O) (wp_skip (bF (tn (wrl (mi z (mi z (mi z (ab (tn ?_)))))))))
replace b := b.bU
obtain rfl := sj c
exact ⟨_, nls, q, (i64.wrap (j + 1)), u, fy z, b⟩
}
}
{
intro i c
refine go i (go i (go i (go i (go i (go i (go i (mb (aJ i z z) (ab (tn (ak z (wp_skip (bF (tn (wrl (mi z (mi z (mi z (ab (tn ?_)))))))))))))))))))
replace b := b.bU
obtain rfl := sj c
exact ⟨_, nls, q, (i64.wrap (j + 1)), u, fy z, b⟩
}
}
{
intro p c
refine go p (go p (go p (go p (go p (mb (aJ p z z) (mb z (gz (gz (gz (gz (gz (gz (gz (mb (aJ z z z) (ab (tn (ak z (wp_skip (bF (tn (wrl (mi z (mi z (mi z (ab (tn ?_))))))))))))))))))))))))))
replace b := b.bU
obtain rfl := sj c
exact ⟨_, nls, q, (i64.wrap (j + 1)), u, fy z, b⟩
}
}
{
intro m c
refine go m (go m (go m (go m (go m (mb (aJ m z z) (mb z (gz (gz (gz (gz (gz (mb (aJ z z z) (mb z (gz (gz (gz (gz (gz (gz (gz (mb (aJ z z z) (ab (tn (ak z (wp_skip (bF (tn (wrl (mi z (mi z (mi z (ab (tn ?_)))))))))))))))))))))))))))))))))
replace b := b.bU
obtain rfl := sj c
exact ⟨_, nls, q, (i64.wrap (j + 1)), u, fy z, b⟩
}
}
{
intro l c
refine go l (go l (go l (go l (go l (mb (aJ l z z) (mb z (gz (gz (gz (gz (gz (mb (aJ z z z) (mb z (gz (gz (gz (gz (gz (mb (aJ z z z) (mb z (gz (gz (gz (gz (gz (gz (gz (mb (aJ z z z) (ab (tn (ak z (wp_skip (bF (tn (wrl (mi z (mi z (mi z (ab (tn ?_))))))))))))))))))))))))))))))))))))))))
replace b := b.bU
obtain rfl := sj c
exact ⟨_, nls, q, (i64.wrap (j + 1)), u, fy z, b⟩
}
}
{
intro k c
refine go k (go k (go k (go k (go k (mb (aJ k z z) (mb z (gz (gz (gz (gz (gz (mb (aJ z z z) (mb z (gz (gz (gz (gz (gz (mb (aJ z z z) (mb z (gz (gz (gz (gz (gz (mb (aJ z z z) (mb z (gz (gz (gz (gz (gz (gz (gz (mb (aJ z z z) (ab (tn (ak z (wp_skip (bF (tn (wrl (mi z (mi z (mi z (ab (tn ?_)))))))))))))))))))))))))))))))))))))))))))))))
replace b := b.bU
obtain rfl := sj c
exact ⟨_, nls, q, (i64.wrap (j + 1)), u, fy z, b⟩
}
}
{
intro L c
refine ak (cvb L) (wp_exit (aV (aV ?_)))
replace c := bo c u
refine de (tn (wp_seq (wrl (mb z (mb z (ab (tn (bs c ?_ ?_))))))))
{
intro b2 c
cases c
}
{
intro b2 c
refine ak (cvb b2) (wp_skip (bF (tn (wrl (mi z (mi z (mi z (ab (tn ?_)))))))))
replace b := b.bU
obtain rfl := sj c
exact ⟨_, nls, (i64.wrap (x + 1)), S, fy z, b⟩
}
}
}
{
intro K c
refine ak (cvb K) (wp_exit (aV (aV ?_)))
replace c := bo c S
refine de (tn (wp_seq (wrl (mb z (ab (tn (wp_ret ?_)))))))
obtain rfl := sj c
exact aZ [.bool true] results86 (rc z ai) ⟨z, b.bU⟩
}
}
}
theorem sV {a0 : (Option cg)} {p0 : Value} (a : St w0 w I [cF bT p0 a0] R) {r : (Int)} (b : kV a0 = some r) :
  Calls prog 169 #[p0] w fun e w' => e = .returned (.int .i64 r) ∧ St w0 w' I [cF bT p0 a0] R := by {
rcases a0 with _ | c
{
dsimp only [kV] at b
cases b
}
{
replace a := bH a
dsimp only [kV] at b
refine c0 func169 z ntmps169 (wp_seq (wrl (mi z (ab (tn (wp_seq (wp_seq (wrl (mv (p0) z ?_)))))))))
obtain ⟨d, g, rfl, f⟩ := dE a
have a := f
refine mk (.bool false) (ab (tn (ak z (wp_skip (tn (wp_seq (wrl (mp z (mp z (mf z underlying203 z sizeOf125 (ml z isAgg125 (a.bc0 z) (mz (bZ z underlying125 a.sv1) (mi z (ab (tn (wp_ret ?_))))))))))))))))
replace a := aO (dq (Pt d 0) c a.ag.ag z)
obtain rfl := sj b
exact aZ [I6 ((c.l).length : Int)] results169 (rc z ai) ⟨z, a.bu⟩
}
}
theorem tc {a0 : (Option cg)} {p0 : Value} (b : St w0 w I [cF bT p0 a0] R) {r : ((List bO))} (c : iB a0 = some r) :
  Calls prog 155 #[p0] w fun e w' => ∃ (l : Value), e = .returned (l) ∧ St w0 w' I [bg mg l r, cF bT p0 a0] R := by {
rcases a0 with _ | i
{
dsimp only [iB] at c
cases c
}
{
replace b := bH b
dsimp only [iB] at c
refine c0 func155 z ntmps155 (wp_seq (wrl (mv ((.slice none 0 0)) z (ab (tn (wp_seq (wrl (mv ((.slice none 0 0)) z (ab (tn (wp_seq (wp_seq (wrl (mv (p0) z ?_))))))))))))))
replace b := aO b
obtain ⟨m, q, c⟩ := bn c
refine wc call169 [p0] z z z ((sV b.to1 q).mono ?_)
rintro _ N ⟨rfl, b⟩
refine ⟨_, z, ?_⟩
replace b := bH b.of1
refine mi z (ab (tn (wp_block ?_)))
replace b := b.bd mg
obtain ⟨s, c⟩ := aX c
refine bm (fun n a w => ∃ (g : (List bO)) (h : Int) (d : Value), cT (gM m i) n (g, h) = some r ∧ fz 23 [0, 3, 6, 7] [p0, d, I6 m, I6 h] a ∧ St w0 w I [bg mg d g, bT p0 i] R) s ⟨[], 0, Zs, c, fy z, b⟩ ?_
rintro O _ P ⟨g, h, d, c, ⟨Q, rfl⟩, b⟩
obtain ⟨S, T, rfl, c, p⟩ := ba c
dsimp only [gM] at c
refine wp_seq (wrl (mb z (ab (tn (wp_seq (bs c ?_ ?_))))))
{
intro j c
refine ar (cvb j) (wp_skip (tn (wp_seq (wp_block (wp_seq (wrl (mi z (mi z (ab (tn (wrl (mv (d) z (mv (p0) z ?_)))))))))))))
obtain ⟨t, U, rfl, u⟩ := dE b.ag
have b := u
refine mp z (mf z underlying203 z sizeOf125 (ml z isAgg125 (b.bc0 z) (mi z ?_)))
obtain ⟨f, x, c⟩ := bn c
obtain ⟨y, A, B⟩ := aP x
refine mz (aC z z underlying125 sizeOf46 b.sv1 y A) (mz (aW z underlying46 z sizeOf28 z) ?_)
obtain ⟨V, C, D⟩ := b.og1 B
obtain ⟨W, X, Y, Z, rfl, b0, b1, b2, b3, -⟩ := C
refine mz (ay (cs := [U6 f.ID.Session, U6 f.ID.Seq]) z isAgg28 sizeOf28 (dS (o := 0) D z)) ?_
obtain ⟨F, G, H, J, b⟩ := b.ey (E := mg) (xs := [f.ID]) [[U6 f.ID.Session, U6 f.ID.Seq]] 28 1 z (bE.cons z bE.nil)
refine cb (v := (.slice (some ⟨F, 0, none⟩) 1 1)) (w' := G) z z (dn (by kernel_rfl) H J) ?_
obtain ⟨K, c⟩ := cz c
replace b := b.au
obtain ⟨k, L, M, b⟩ := bI Dg underlying159 b b.ju (cK K z) 159
refine cb (v := k) (w' := L) z z (bX z z M) (mv (k) z (ab (bF (tn (wrl (mi z (mi z (ab (tn ?_)))))))))
replace b := (dq (Pt t 0) i b.au.au z).ag.ck
obtain rfl := sj c
exact ⟨_, nls, (g ++ ([f.ID])), (i64.wrap (h + 1)), k, p, fy z, b⟩
}
{
intro j c
refine ak (cvb j) (wp_exit (aV (aV ?_)))
replace c := bo c p
refine de (tn (wp_seq (wrl (mv (d) z (mv (d) z (ab (tn (wp_ret ?_))))))))
replace b := aO b.ag
obtain rfl := sj c
refine aZ [d] results155 (rc z ai) ?_
replace b := b.ag
exact ⟨d, z, b.ck⟩
}
}
}
end Go.Proofs.YtgnkkopjkgdieaaGreat
