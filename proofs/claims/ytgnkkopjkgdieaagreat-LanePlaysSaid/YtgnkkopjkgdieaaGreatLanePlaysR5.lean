/- A part of the proof. -/
import Derived.Test.YtgnkkopjkgdieaaGreatLanePlaysR4
set_option linter.unusedVariables false
set_option linter.unusedSimpArgs false
set_option maxRecDepth 100000
set_option maxHeartbeats 4000000
namespace Go.Proofs.YtgnkkopjkgdieaaGreat
open Go Go.V
open _root_.Go.Proofs.Tryz IntKind
variable {w0 w : World} {I : HL} {R : SP}
attribute [local irreducible] wpList Code.wp wpQuiet Calls bodyPost Oper.wp wpS Nx gI YieldsIn
theorem sU {a0 : ao} {p0 : Value} (b : St w0 w I [bG p0 a0] R) {r : (aH × ao)} (c : eY a0 = some r) :
  Calls prog 38 #[p0] w fun e w' => ∃ (I' : HL) (c7 : Value) (c8 : Value) (c9 : Value) (d0 : Value) (d1 : Value) (d2 : Value) (d3 : Value) (d4 : Value), e = .returned (.agg #[U1 r.1.Kind, U6 r.1.ID.Session, U6 r.1.ID.Seq, U6 r.1.Epoch, U6 r.1.Index, I6 r.1.E, U6 r.1.Hold.ID.Session, U6 r.1.Hold.ID.Seq, U6 r.1.Hold.Epoch, c7, c8, c9, d0, d1, I6 r.1.R.E, U6 r.1.R.Epoch, U6 r.1.R.Index, d2, d3, U6 r.1.Shards, d4, U6 r.1.Rule.ID, I6 r.1.Rule.From, I6 r.1.Rule.To, F6 r.1.Rule.Lo, F6 r.1.Rule.Hi, U6 r.1.Rule.Authority, I6 r.1.Rule.Quota, .bool r.1.On]) ∧ I.le I' ∧ St w0 w' I' [bg bY c7 r.1.Hold.Gets, bg gB c8 r.1.Hold.Scans, bg bY c9 r.1.Hold.Puts, bg (cp .u8) d0 r.1.Hold.Data, bg cI d1 r.1.Writes, bg aD d2 r.1.R.Gots, bg (dJ az) d3 r.1.R.Scans, bg cM d4 r.1.Parts, bG p0 r.2] R := by {
unfold eY at c
refine c0 func38 z ntmps38 ?_
have k := HL.le.refl I
refine wp_seq (wrl ?_)
obtain ⟨T, m3, e0, e2, b⟩ := b.box [Zb, Zu, Zu, Zu, Zu, Zi, Zu, Zu, Zu, Zs, Zs, Zs, Zs, Zs, Zi, Zu, Zu, Zs, Zs, Zu, Zs, Zu, Zi, Zi, Zf, Zf, Zu, Zi, .bool false] 49
refine wa e0 e2 (ab (tn (wp_seq (wrl (mv (p0) z ?_)))))
replace b := b.ag
obtain ⟨d, e3, c⟩ := bn c
refine wc call64 [p0, I6 7] z z z ((aU b.to1 e3).mono ?_)
rintro _ m4 ⟨rfl, b⟩
refine ⟨_, z, ?_⟩
replace b := b.of1
refine mi z (mk (.int .u8 (u8.wrap (i64.wrap (1 + d.1)))) (mk (.agg #[U1 (u8.wrap (i64.wrap (1 + d.1))), Zu, Zu, Zu, Zu, Zi, Zu, Zu, Zu, Zs, Zs, Zs, Zs, Zs, Zi, Zu, Zu, Zs, Zs, Zu, Zs, Zu, Zi, Zi, Zf, Zf, Zu, Zi, .bool false]) ?_))
obtain ⟨U, m5, e4, e5, b⟩ := b.box [Zb, Zu, Zu, Zu, Zu, Zi, Zu, Zu, Zu, Zs, Zs, Zs, Zs, Zs, Zi, Zu, Zu, Zs, Zs, Zu, Zs, Zu, Zi, Zi, Zf, Zf, Zu, Zi, .bool false] 49
refine wa e4 e5 ?_
obtain ⟨m6, e6, b⟩ := b.bx [U1 (u8.wrap (i64.wrap (1 + d.1))), Zu, Zu, Zu, Zu, Zi, Zu, Zu, Zu, Zs, Zs, Zs, Zs, Zs, Zi, Zu, Zu, Zs, Zs, Zu, Zs, Zu, Zi, Zi, Zf, Zf, Zu, Zi, .bool false] sizeOf49 z (oJ 29 z oN) (by kernel_rfl)
refine aE z z (aG e6) (ab (tn (wp_seq (wp_seq (wrl (mf z underlying49 z sizeOf5 (ml z isAgg5 (b.bc0 z) (ab (tn (wp_block (wp_seq (wrl (mb z (mb z (ab (tn (bs c ?_ ?_)))))))))))))))))
{
intro b1 c
refine ar (cvb b1) (wrl (mv (p0) z ?_))
replace b := b.ag
obtain ⟨G, e7, c⟩ := bn c
refine wc call64 [p0, I6 4] z z z ((aU b.to1 e7).mono ?_)
rintro _ m7 ⟨rfl, b⟩
refine ⟨_, z, ?_⟩
replace b := b.of1
refine mi z (mk (.int .u64 (u64.wrap (i64.wrap (1 + G.1)))) (mf z underlying49 z sizeOf26 ?_))
replace b := b.ag
obtain ⟨m8, e8, b⟩ := b.by_ [U1 (u8.wrap (i64.wrap (1 + d.1))), Zu, Zu, U6 (u64.wrap (i64.wrap (1 + G.1))), Zu, Zi, Zu, Zu, Zu, Zs, Zs, Zs, Zs, Zs, Zi, Zu, Zu, Zs, Zs, Zu, Zs, Zu, Zi, Zi, Zf, Zf, Zu, Zi, .bool false] 3 (.int .u64 (u64.wrap (i64.wrap (1 + G.1)))) sizeOf26 z (oC z oN) (by kernel_rfl)
refine aE z z (aG e8) (ab (bF (tn (wp_seq (wrl (mz (ay (cs := [U1 (u8.wrap (i64.wrap (1 + d.1))), Zu, Zu, U6 (u64.wrap (i64.wrap (1 + G.1))), Zu, Zi, Zu, Zu, Zu, Zs, Zs, Zs, Zs, Zs, Zi, Zu, Zu, Zs, Zs, Zu, Zs, Zu, Zi, Zi, Zf, Zf, Zu, Zi, .bool false]) z isAgg49 sizeOf49 (b.eF 0 z)) ?_))))))
replace b := b.aA
obtain ⟨m9, e9, b⟩ := b.bx [U1 (u8.wrap (i64.wrap (1 + d.1))), Zu, Zu, U6 (u64.wrap (i64.wrap (1 + G.1))), Zu, Zi, Zu, Zu, Zu, Zs, Zs, Zs, Zs, Zs, Zi, Zu, Zu, Zs, Zs, Zu, Zs, Zu, Zi, Zi, Zf, Zf, Zu, Zi, .bool false] sizeOf49 z (oJ 29 z oN) (by kernel_rfl)
refine aE z z (aG e9) (ab (tn (wp_ret ?_)))
replace b := (((((((b.bd bY).bd gB).bd bY).bd (cp .u8)).bd cI).bd aD).bd (dJ az)).bd cM
obtain rfl := sj c
refine aZ [.agg #[U1 (u8.wrap (i64.wrap (1 + d.1))), Zu, Zu, U6 (u64.wrap (i64.wrap (1 + G.1))), Zu, Zi, Zu, Zu, Zu, Zs, Zs, Zs, Zs, Zs, Zi, Zu, Zu, Zs, Zs, Zu, Zs, Zu, Zi, Zi, Zf, Zf, Zu, Zi, .bool false]] results38 (bq (bJ (cs := [U1 (u8.wrap (i64.wrap (1 + d.1))), Zu, Zu, U6 (u64.wrap (i64.wrap (1 + G.1))), Zu, Zi, Zu, Zu, Zu, Zs, Zs, Zs, Zs, Zs, Zi, Zu, Zu, Zs, Zs, Zu, Zs, Zu, Zi, Zi, Zf, Zf, Zu, Zi, .bool false]) z isAgg49 sizeOf49 (b.wC 0 z)) ai) ?_
replace b := b.bz.ag.aA.au.bf.bc.da.aL.bM
exact ⟨_, Zs, Zs, Zs, Zs, Zs, Zs, Zs, Zs, z, k, b.rj⟩
}
{
intro b1 c
refine ak (cvb b1) (wp_seq (wrl (mb z (mb z (ab (tn (bs c ?_ ?_)))))))
{
intro b2 c
refine ar (cvb b2) (wrl (mv (p0) z ?_))
replace b := b.ag
obtain ⟨l, f0, c⟩ := bn c
refine wc call83 [p0] z z z ((sS b.to1 f0).mono ?_)
rintro _ n0 ⟨H, J, K, L, rfl, b⟩
refine ⟨_, z, ?_⟩
replace b := b.of5
refine mf z underlying49 z sizeOf46 ?_
replace b := b.bc
obtain ⟨n1, f1, b⟩ := b.by_ [U1 (u8.wrap (i64.wrap (1 + d.1))), Zu, Zu, Zu, Zu, Zi, U6 l.1.ID.Session, U6 l.1.ID.Seq, U6 l.1.Epoch, H, J, K, L, Zs, Zi, Zu, Zu, Zs, Zs, Zu, Zs, Zu, Zi, Zi, Zf, Zf, Zu, Zi, .bool false] 6 (.agg #[U6 l.1.ID.Session, U6 l.1.ID.Seq, U6 l.1.Epoch, H, J, K, L]) sizeOf46 z (oJ 3 z (oC (oS b.sv1) (oC (oS b.sv2) (oC (oS b.sv3) (oC (oS b.sv4) oN))))) (by kernel_rfl)
refine aE z z (aG f1) (ab (bF (tn (wp_seq (wrl (mz (ay (cs := [U1 (u8.wrap (i64.wrap (1 + d.1))), Zu, Zu, Zu, Zu, Zi, U6 l.1.ID.Session, U6 l.1.ID.Seq, U6 l.1.Epoch, H, J, K, L, Zs, Zi, Zu, Zu, Zs, Zs, Zu, Zs, Zu, Zi, Zi, Zf, Zf, Zu, Zi, .bool false]) z isAgg49 sizeOf49 (b.eF 0 z)) ?_))))))
replace b := b.da
obtain ⟨n2, f2, b⟩ := b.bx [U1 (u8.wrap (i64.wrap (1 + d.1))), Zu, Zu, Zu, Zu, Zi, U6 l.1.ID.Session, U6 l.1.ID.Seq, U6 l.1.Epoch, H, J, K, L, Zs, Zi, Zu, Zu, Zs, Zs, Zu, Zs, Zu, Zi, Zi, Zf, Zf, Zu, Zi, .bool false] sizeOf49 z (oJ 9 z (oC (oS b.sv2) (oC (oS b.sv3) (oC (oS b.sv4) (oC (oS b.sv5) (oJ 16 z oN)))))) (by kernel_rfl)
refine aE z z (aG f2) (ab (tn (wp_ret ?_)))
replace b := (((b.bd cI).bd aD).bd (dJ az)).bd cM
obtain rfl := sj c
refine aZ [.agg #[U1 (u8.wrap (i64.wrap (1 + d.1))), Zu, Zu, Zu, Zu, Zi, U6 l.1.ID.Session, U6 l.1.ID.Seq, U6 l.1.Epoch, H, J, K, L, Zs, Zi, Zu, Zu, Zs, Zs, Zu, Zs, Zu, Zi, Zi, Zf, Zf, Zu, Zi, .bool false]] results38 (bq (bJ (cs := [U1 (u8.wrap (i64.wrap (1 + d.1))), Zu, Zu, Zu, Zu, Zi, U6 l.1.ID.Session, U6 l.1.ID.Seq, U6 l.1.Epoch, H, J, K, L, Zs, Zi, Zu, Zu, Zs, Zs, Zu, Zs, Zu, Zi, Zi, Zf, Zf, Zu, Zi, .bool false]) z isAgg49 sizeOf49 (b.wy 0 z)) ai) ?_
replace b := b.bz.ag.aA.au.bf.bz.bz.bz.bz
exact ⟨_, H, J, K, L, Zs, Zs, Zs, Zs, z, k, b.rj⟩
}
{
intro b2 c
refine ak (cvb b2) (wp_seq (wrl (mb z (mb z (ab (tn (bs c ?_ ?_)))))))
{
intro b3 c
refine ar (cvb b3) (wp_seq (wrl (mv (p0) z ?_)))
replace b := b.ag
obtain ⟨i, f3, c⟩ := bn c
refine wc call27 [p0] z z z ((jQ b.to1 f3).mono ?_)
rintro _ n3 ⟨rfl, b⟩
refine ⟨_, z, ?_⟩
replace b := b.of1
refine mf z underlying49 z sizeOf28 ?_
replace b := b.ag
obtain ⟨n4, f4, b⟩ := b.by_ [U1 (u8.wrap (i64.wrap (1 + d.1))), U6 i.1.Session, U6 i.1.Seq, Zu, Zu, Zi, Zu, Zu, Zu, Zs, Zs, Zs, Zs, Zs, Zi, Zu, Zu, Zs, Zs, Zu, Zs, Zu, Zi, Zi, Zf, Zf, Zu, Zi, .bool false] 1 (.agg #[U6 i.1.Session, U6 i.1.Seq]) sizeOf28 z (oC z (oC z oN)) (by kernel_rfl)
refine aE z z (aG f4) (ab (tn (wp_seq (wrl ?_))))
obtain ⟨f5, f6, f7, f8, b⟩ := b.ey (E := (cp .i64)) (xs := [0, 0, 8]) [[Zi], [Zi], [I6 8]] 29 3 z (bE.cons z (bE.cons z (bE.cons z bE.nil)))
refine cb (v := (.slice (some ⟨f5, 0, none⟩) 3 3)) (w' := f6) z z (dn (by kernel_rfl) f7 f8) (mv (p0) z ?_)
replace b := b.aA
obtain ⟨n5, f9, c⟩ := bn c
refine wc call64 [p0, I6 3] z z z ((aU b.to1 f9).mono ?_)
rintro _ n6 ⟨rfl, b⟩
refine ⟨_, z, ?_⟩
replace b := b.of1
obtain ⟨y, g0, c⟩ := bn c
obtain ⟨g1, g2, g3⟩ := aP g0
refine mz (aC z z underlying150 sizeOf29 b.sv1 g1 g2) (ml z isAgg29 (b.ol1 g3 (by rintro _ rfl; rfl)) (mf z underlying49 z sizeOf29 ?_))
replace b := b.aA
obtain ⟨n7, g4, b⟩ := b.by_ [U1 (u8.wrap (i64.wrap (1 + d.1))), U6 i.1.Session, U6 i.1.Seq, Zu, Zu, I6 y, Zu, Zu, Zu, Zs, Zs, Zs, Zs, Zs, Zi, Zu, Zu, Zs, Zs, Zu, Zs, Zu, Zi, Zi, Zf, Zf, Zu, Zi, .bool false] 5 (.int .i64 y) sizeOf29 z (oC z oN) (by kernel_rfl)
refine aE z z (aG g4) (ab (tn (wp_seq (wrl (mv (p0) z ?_)))))
replace b := b.ag
obtain ⟨A, g5, c⟩ := bn c
refine wc call64 [p0, I6 4] z z z ((aU b.to1 g5).mono ?_)
rintro _ n8 ⟨rfl, b⟩
refine ⟨_, z, ?_⟩
replace b := b.of1
refine mi z (mk (.int .u64 (u64.wrap (i64.wrap (1 + A.1)))) (mf z underlying49 z sizeOf26 ?_))
replace b := b.ag
obtain ⟨n9, g6, b⟩ := b.by_ [U1 (u8.wrap (i64.wrap (1 + d.1))), U6 i.1.Session, U6 i.1.Seq, U6 (u64.wrap (i64.wrap (1 + A.1))), Zu, I6 y, Zu, Zu, Zu, Zs, Zs, Zs, Zs, Zs, Zi, Zu, Zu, Zs, Zs, Zu, Zs, Zu, Zi, Zi, Zf, Zf, Zu, Zi, .bool false] 3 (.int .u64 (u64.wrap (i64.wrap (1 + A.1)))) sizeOf26 z (oC z oN) (by kernel_rfl)
refine aE z z (aG g6) (ab (tn (wp_seq (wrl (mv (p0) z ?_)))))
replace b := b.ag
obtain ⟨C, g7, c⟩ := bn c
refine wc call64 [p0, I6 20] z z z ((aU b.to1 g7).mono ?_)
rintro _ o0 ⟨rfl, b⟩
refine ⟨_, z, ?_⟩
replace b := b.of1
refine mk (.int .u64 (u64.wrap C.1)) (mf z underlying49 z sizeOf26 ?_)
replace b := b.ag
obtain ⟨o1, g8, b⟩ := b.by_ [U1 (u8.wrap (i64.wrap (1 + d.1))), U6 i.1.Session, U6 i.1.Seq, U6 (u64.wrap (i64.wrap (1 + A.1))), U6 (u64.wrap C.1), I6 y, Zu, Zu, Zu, Zs, Zs, Zs, Zs, Zs, Zi, Zu, Zu, Zs, Zs, Zu, Zs, Zu, Zi, Zi, Zf, Zf, Zu, Zi, .bool false] 4 (.int .u64 (u64.wrap C.1)) sizeOf26 z (oC z oN) (by kernel_rfl)
refine aE z z (aG g8) (ab (tn (wrl (mv (p0) z ?_))))
replace b := b.ag
obtain ⟨o2, g9, c⟩ := bn c
refine wc call29 [p0] z z z ((mW b.to1 g9).mono ?_)
rintro _ o3 ⟨I530, M, rfl, h0, b⟩
refine ⟨_, z, ?_⟩
replace b := b.of2
replace k := k.trans h0
refine mf z underlying49 z sizeOf42 ?_
replace b := b.aA
obtain ⟨o4, h1, b⟩ := b.cW (P := prog) (t := 42) (cs' := [U1 (u8.wrap (i64.wrap (1 + d.1))), U6 i.1.Session, U6 i.1.Seq, U6 (u64.wrap (i64.wrap (1 + A.1))), U6 (u64.wrap C.1), I6 y, Zu, Zu, Zu, Zs, Zs, Zs, Zs, M, Zi, Zu, Zu, Zs, Zs, Zu, Zs, Zu, Zi, Zi, Zf, Zf, Zu, Zi, .bool false]) 13 M (oS b.sv1) sizeOf42 z z
refine aE z z (aG h1) (ab (bF (tn (wp_seq (wrl (mz (ay (cs := [U1 (u8.wrap (i64.wrap (1 + d.1))), U6 i.1.Session, U6 i.1.Seq, U6 (u64.wrap (i64.wrap (1 + A.1))), U6 (u64.wrap C.1), I6 y, Zu, Zu, Zu, Zs, Zs, Zs, Zs, M, Zi, Zu, Zu, Zs, Zs, Zu, Zs, Zu, Zi, Zi, Zf, Zf, Zu, Zi, .bool false]) z isAgg49 sizeOf49 (b.eF 0 z)) ?_))))))
replace b := b.bf
obtain ⟨o5, h2, b⟩ := b.bx [U1 (u8.wrap (i64.wrap (1 + d.1))), U6 i.1.Session, U6 i.1.Seq, U6 (u64.wrap (i64.wrap (1 + A.1))), U6 (u64.wrap C.1), I6 y, Zu, Zu, Zu, Zs, Zs, Zs, Zs, M, Zi, Zu, Zu, Zs, Zs, Zu, Zs, Zu, Zi, Zi, Zf, Zf, Zu, Zi, .bool false] sizeOf49 z (oJ 13 z (oC (oS b.sv2) (oJ 15 z oN))) (by kernel_rfl)
refine aE z z (aG h2) (ab (tn (wp_ret ?_)))
replace b := ((((((b.bd bY).bd gB).bd bY).bd (cp .u8)).bd aD).bd (dJ az)).bd cM
obtain rfl := sj c
refine aZ [.agg #[U1 (u8.wrap (i64.wrap (1 + d.1))), U6 i.1.Session, U6 i.1.Seq, U6 (u64.wrap (i64.wrap (1 + A.1))), U6 (u64.wrap C.1), I6 y, Zu, Zu, Zu, Zs, Zs, Zs, Zs, M, Zi, Zu, Zu, Zs, Zs, Zu, Zs, Zu, Zi, Zi, Zf, Zf, Zu, Zi, .bool false]] results38 (bq (bJ (cs := [U1 (u8.wrap (i64.wrap (1 + d.1))), U6 i.1.Session, U6 i.1.Seq, U6 (u64.wrap (i64.wrap (1 + A.1))), U6 (u64.wrap C.1), I6 y, Zu, Zu, Zu, Zs, Zs, Zs, Zs, M, Zi, Zu, Zu, Zs, Zs, Zu, Zs, Zu, Zi, Zi, Zf, Zf, Zu, Zi, .bool false]) z isAgg49 sizeOf49 (b.FB 0 z)) ai) ?_
replace b := b.bz.ag.aA.au.bz.bc.da.aL.bM
exact ⟨_, Zs, Zs, Zs, Zs, M, Zs, Zs, Zs, z, k, b.rj⟩
}
{
intro b3 c
refine ak (cvb b3) (wp_seq (wrl (mb z (mb z (ab (tn (bs c ?_ ?_)))))))
{
intro b4 c
refine ar (cvb b4) (wp_seq (wrl (mv (p0) z ?_)))
replace b := b.ag
obtain ⟨h, h3, c⟩ := bn c
refine wc call27 [p0] z z z ((jQ b.to1 h3).mono ?_)
rintro _ o6 ⟨rfl, b⟩
refine ⟨_, z, ?_⟩
replace b := b.of1
refine mf z underlying49 z sizeOf28 ?_
replace b := b.ag
obtain ⟨o7, h4, b⟩ := b.by_ [U1 (u8.wrap (i64.wrap (1 + d.1))), U6 h.1.Session, U6 h.1.Seq, Zu, Zu, Zi, Zu, Zu, Zu, Zs, Zs, Zs, Zs, Zs, Zi, Zu, Zu, Zs, Zs, Zu, Zs, Zu, Zi, Zi, Zf, Zf, Zu, Zi, .bool false] 1 (.agg #[U6 h.1.Session, U6 h.1.Seq]) sizeOf28 z (oC z (oC z oN)) (by kernel_rfl)
refine aE z z (aG h4) (ab (tn ?_))
obtain ⟨o8, c, d5⟩ := bn c
refine cU (fun a w => ∃ (b5 : ao) (p : Int), (jg d h) (b5, p) = some r ∧ fz 124 [0, 2, 3] [p0, Pt T 0, Pt U 0] a ∧ St w0 w I [bG p0 b5, cells T [Zb, Zu, Zu, Zu, Zu, Zi, Zu, Zu, Zu, Zs, Zs, Zs, Zs, Zs, Zi, Zu, Zu, Zs, Zs, Zu, Zs, Zu, Zi, Zi, Zf, Zf, Zu, Zi, .bool false], cells U [U1 (u8.wrap (i64.wrap (1 + d.1))), U6 p, U6 h.1.Seq, Zu, Zu, Zi, Zu, Zu, Zu, Zs, Zs, Zs, Zs, Zs, Zi, Zu, Zu, Zs, Zs, Zu, Zs, Zu, Zi, Zi, Zf, Zf, Zu, Zi, .bool false]] R) ?_ ?_
{
refine wp_seq (wrl (mv (p0) z ?_))
replace b := b.ag
obtain ⟨d6, h5, c⟩ := bn c
refine wc call64 [p0, I6 6] z z z ((aU b.to1 h5).mono ?_)
rintro _ o9 ⟨rfl, b⟩
refine ⟨_, z, ?_⟩
replace b := b.of1
refine mb z (ab (tn (bs c ?_ ?_)))
{
intro b6 c
refine ar (cvb b6) (wrl (mf z underlying49 z sizeOf28 (mf z underlying28 z sizeOf26 (ml z isAgg26 (b.bc1 z) (mi z (mf z underlying49 z sizeOf28 (mf z underlying28 z sizeOf26 ?_)))))))
replace b := b.ag
obtain ⟨q0, h6, b⟩ := b.by_ [U1 (u8.wrap (i64.wrap (1 + d.1))), U6 (u64.wrap (h.1.Session + 9223372036854775808)), U6 h.1.Seq, Zu, Zu, Zi, Zu, Zu, Zu, Zs, Zs, Zs, Zs, Zs, Zi, Zu, Zu, Zs, Zs, Zu, Zs, Zu, Zi, Zi, Zf, Zf, Zu, Zi, .bool false] 1 (.int .u64 (u64.wrap (h.1.Session + 9223372036854775808))) sizeOf26 z (oC z oN) (by kernel_rfl)
refine aE z z (aG h6) (ab (tn ?_))
replace b := b.aA.aA.dF
obtain rfl := sj c
exact ⟨d6.2, (u64.wrap (h.1.Session + 9223372036854775808)), d5, fy z, b⟩
}
{
intro b6 c
refine ak (cvb b6) (wp_skip (tn ?_))
replace b := b.ag.aA.aA.dF
obtain rfl := sj c
exact ⟨d6.2, h.1.Session, d5, fy z, b⟩
}
}
{
rintro _ q1 ⟨b5, p, c, ⟨q2, rfl⟩, b⟩
dsimp only [jg] at c
refine wp_seq (wrl (mv (p0) z ?_))
obtain ⟨q, h7, c⟩ := bn c
refine wc call64 [p0, I6 4] z z z ((aU b.to1 h7).mono ?_)
rintro _ q3 ⟨rfl, b⟩
refine ⟨_, z, ?_⟩
replace b := b.of1
refine mi z (mk (.int .u64 (u64.wrap (i64.wrap (1 + q.1)))) (mf z underlying49 z sizeOf26 ?_))
replace b := b.aA
obtain ⟨q4, h8, b⟩ := b.by_ [U1 (u8.wrap (i64.wrap (1 + d.1))), U6 p, U6 h.1.Seq, U6 (u64.wrap (i64.wrap (1 + q.1))), Zu, Zi, Zu, Zu, Zu, Zs, Zs, Zs, Zs, Zs, Zi, Zu, Zu, Zs, Zs, Zu, Zs, Zu, Zi, Zi, Zf, Zf, Zu, Zi, .bool false] 3 (.int .u64 (u64.wrap (i64.wrap (1 + q.1)))) sizeOf26 z (oC z oN) (by kernel_rfl)
refine aE z z (aG h8) (ab (tn (wp_seq (wrl (mv (p0) z ?_)))))
replace b := b.ag
obtain ⟨s, h9, c⟩ := bn c
refine wc call64 [p0, I6 4] z z z ((aU b.to1 h9).mono ?_)
rintro _ q5 ⟨rfl, b⟩
refine ⟨_, z, ?_⟩
replace b := b.of1
refine mk (.int .u64 (u64.wrap s.1)) (mf z underlying49 z sizeOf26 ?_)
replace b := b.ag
obtain ⟨q6, i0, b⟩ := b.by_ [U1 (u8.wrap (i64.wrap (1 + d.1))), U6 p, U6 h.1.Seq, U6 (u64.wrap (i64.wrap (1 + q.1))), Zu, Zi, Zu, Zu, Zu, Zs, Zs, Zs, Zs, Zs, Zi, Zu, Zu, Zs, Zs, U6 (u64.wrap s.1), Zs, Zu, Zi, Zi, Zf, Zf, Zu, Zi, .bool false] 19 (.int .u64 (u64.wrap s.1)) sizeOf26 z (oC z oN) (by kernel_rfl)
refine aE z z (aG i0) (ab (tn (wp_seq (wrl (mv (p0) z ?_)))))
replace b := b.ag
obtain ⟨b7, i1, c⟩ := bn c
refine wc call64 [p0, I6 3] z z z ((aU b.to1 i1).mono ?_)
rintro _ q7 ⟨rfl, b⟩
refine ⟨_, z, ?_⟩
replace b := b.of1
refine mi z (ab (tn ?_))
obtain ⟨i2, c, i3⟩ := bn c
refine cU (fun a w => ∃ (I703 : HL) (b8 : ao) (b9 : (List ee)) (B : Value), (ni d p h q s) (b8, b9) = some r ∧ fz 124 [0, 2, 3] [p0, Pt T 0, Pt U 0] a ∧ I.le I703 ∧ St w0 w I703 [bG p0 b8, cells T [Zb, Zu, Zu, Zu, Zu, Zi, Zu, Zu, Zu, Zs, Zs, Zs, Zs, Zs, Zi, Zu, Zu, Zs, Zs, Zu, Zs, Zu, Zi, Zi, Zf, Zf, Zu, Zi, .bool false], cells U [U1 (u8.wrap (i64.wrap (1 + d.1))), U6 p, U6 h.1.Seq, U6 (u64.wrap (i64.wrap (1 + q.1))), Zu, Zi, Zu, Zu, Zu, Zs, Zs, Zs, Zs, Zs, Zi, Zu, Zu, Zs, Zs, U6 (u64.wrap s.1), B, Zu, Zi, Zi, Zf, Zf, Zu, Zi, .bool false], bg cM B b9] R) ?_ ?_
{
have c1 := HL.le.refl I
refine wp_seq (wrl (mi z (ab (tn (wp_block ?_)))))
replace b := b.bd cM
obtain ⟨i4, c⟩ := aX c
refine bm (fun n a w => ∃ (I665 : HL) (X : (List ee)) (Y : ao) (D : Int) (Z : Value), cT (dT b7) n (X, Y, D) = some i2 ∧ fz 124 [0, 2, 3, 4, 5] [p0, Pt T 0, Pt U 0, I6 b7.1, I6 D] a ∧ I.le I665 ∧ St w0 w I665 [bg cM Z X, bG p0 Y, cells U [U1 (u8.wrap (i64.wrap (1 + d.1))), U6 p, U6 h.1.Seq, U6 (u64.wrap (i64.wrap (1 + q.1))), Zu, Zi, Zu, Zu, Zu, Zs, Zs, Zs, Zs, Zs, Zi, Zu, Zu, Zs, Zs, U6 (u64.wrap s.1), Z, Zu, Zi, Zi, Zf, Zf, Zu, Zi, .bool false], cells T [Zb, Zu, Zu, Zu, Zu, Zi, Zu, Zu, Zu, Zs, Zs, Zs, Zs, Zs, Zi, Zu, Zu, Zs, Zs, Zu, Zs, Zu, Zi, Zi, Zf, Zf, Zu, Zi, .bool false]] R) i4 ⟨_, [], b7.2, 0, Zs, c, fy z, lr, b⟩ ?_
rintro q8 _ q9 ⟨I665, X, Y, D, Z, c, ⟨s0, rfl⟩, V, b⟩
obtain ⟨s1, s2, rfl, c, d7⟩ := ba c
dsimp only [dT] at c
replace c1 := c1.trans V
refine wp_seq (wp_seq (wrl (mi z (mi z (mb z (ab (tn (bs c ?_ ?_))))))))
{
intro c2 c
refine ar (cvb c2) (wp_skip (tn (wp_seq (wp_block (rg b 10 [0, 1, 0, 0, 8, 28, 60, 127, 255, 511] [] mixed (sf 0 z z underlying49 z sizeOf47 (sl 1 z z isAgg47 (fun w b => b.bc2 z) (si 2 z z (sz (p0) 3 z z (e1 4 z z fun w b => ?_))))))))))
replace b := b.ag
obtain ⟨c3, i5, c⟩ := bn c
refine wec call29 [p0] z z ((mW b.to1 i5).mono ?_)
rintro _ s3 ⟨I678, d8, rfl, i6, b⟩
refine ⟨_, z, ?_⟩
replace b := b.of2
replace V := V.trans i6
refine wn [2, 1, 0] b (pz (pkr z z (fun w b => aq z isAgg47 (b.bc3 z)) (pf z z underlying49 z sizeOf47 bD))) (wsr (.agg #[I6 D, d8]) 5 rfl rfl rfl (by kernel_rfl) (fun w b => by obtain ⟨_, _, hv_, _⟩ := b.sv0; rw [hv_]; kernel_rfl) (e1 6 z z fun w b => ?_))
obtain ⟨I684, i7, d9, b⟩ := b.cN
replace V := V.trans i7
obtain ⟨i8, i9, j0, j1, b⟩ := b.ey (E := cM) (xs := [({ Shard := D, Writes := c3.1 } : ee)]) [[I6 D, d8]] 156 1 z (bE.cons ⟨_, z, d9, oS (ah d9)⟩ bE.nil)
refine bW (v := (.slice (some ⟨i8, 0, none⟩) 1 1)) (w' := i9) z (dn (by kernel_rfl) j0 j1) (wn [1, 0] b (pkr z z (fun w b => aq z isAgg47 (b.bc3 z)) (pf z z underlying49 z sizeOf47 bD)) (e1 7 z z fun w b => ?_))
obtain ⟨j2, c⟩ := cz c
replace b := b.aA
obtain ⟨b0, j3, j4, b⟩ := bI zW underlying47 b b.ju (cK j2 z) 47
refine bW (v := b0) (w' := j3) z (bX z z j4) (w0n b (sf 8 z z underlying49 z sizeOf47 (e1 9 z z fun w b => ?_)))
replace b := b.au
obtain ⟨s4, j5, b⟩ := b.cW (P := prog) (t := 47) (cs' := [U1 (u8.wrap (i64.wrap (1 + d.1))), U6 p, U6 h.1.Seq, U6 (u64.wrap (i64.wrap (1 + q.1))), Zu, Zi, Zu, Zu, Zu, Zs, Zs, Zs, Zs, Zs, Zi, Zu, Zu, Zs, Zs, U6 (u64.wrap s.1), b0, Zu, Zi, Zi, Zf, Zf, Zu, Zi, .bool false]) 20 b0 (oS b.sv1) sizeOf47 z z
refine dz z (aG j5) (w0n b (bp ?_))
intro w b
refine bF (tn (wrl (mi z (mi z (mi z (ab (tn ?_)))))))
replace b := b.bf.ag.bf.au.eI
obtain rfl := sj c
exact ⟨_, nls, _, (X ++ ([({ Shard := D, Writes := c3.1 } : ee)])), c3.2, (i64.wrap (D + 1)), b0, d7, fy z, V, b⟩
}
{
intro c2 c
refine ak (cvb c2) (wp_exit (aV (aV ?_)))
replace c := bo c d7
refine de (tn ?_)
replace b := b.aA.au.au.eI
obtain rfl := sj c
exact ⟨_, Y, X, Z, i3, fy z, c1, b⟩
}
}
{
rintro _ s5 ⟨I703, b8, b9, B, c, ⟨s6, rfl⟩, j6, b⟩
dsimp only [ni] at c
replace k := k.trans j6
refine wrl (mv (p0) z ?_)
obtain ⟨m, j7, c⟩ := bn c
refine wc call35 [p0] z z z ((pT b.to1 j7).mono ?_)
rintro _ s7 ⟨I713, N, O, rfl, j8, b⟩
refine ⟨_, z, ?_⟩
replace b := b.of3
replace k := k.trans j8
refine mf z underlying49 z sizeOf33 ?_
replace b := b.bf
obtain ⟨s8, j9, b⟩ := b.by_ [U1 (u8.wrap (i64.wrap (1 + d.1))), U6 p, U6 h.1.Seq, U6 (u64.wrap (i64.wrap (1 + q.1))), Zu, Zi, Zu, Zu, Zu, Zs, Zs, Zs, Zs, Zs, I6 m.1.E, U6 m.1.Epoch, U6 m.1.Index, N, O, U6 (u64.wrap s.1), B, Zu, Zi, Zi, Zf, Zf, Zu, Zi, .bool false] 14 (.agg #[I6 m.1.E, U6 m.1.Epoch, U6 m.1.Index, N, O]) sizeOf33 z (oJ 3 z (oC (oS b.sv1) (oC (oS b.sv2) oN))) (by kernel_rfl)
refine aE z z (aG j9) (ab (bF (tn (wp_seq (wrl (mz (ay (cs := [U1 (u8.wrap (i64.wrap (1 + d.1))), U6 p, U6 h.1.Seq, U6 (u64.wrap (i64.wrap (1 + q.1))), Zu, Zi, Zu, Zu, Zu, Zs, Zs, Zs, Zs, Zs, I6 m.1.E, U6 m.1.Epoch, U6 m.1.Index, N, O, U6 (u64.wrap s.1), B, Zu, Zi, Zi, Zf, Zf, Zu, Zi, .bool false]) z isAgg49 sizeOf49 (b.eF 0 z)) ?_))))))
replace b := b.bf
obtain ⟨s9, k0, b⟩ := b.bx [U1 (u8.wrap (i64.wrap (1 + d.1))), U6 p, U6 h.1.Seq, U6 (u64.wrap (i64.wrap (1 + q.1))), Zu, Zi, Zu, Zu, Zu, Zs, Zs, Zs, Zs, Zs, I6 m.1.E, U6 m.1.Epoch, U6 m.1.Index, N, O, U6 (u64.wrap s.1), B, Zu, Zi, Zi, Zf, Zf, Zu, Zi, .bool false] sizeOf49 z (oJ 17 z (oC (oS b.sv2) (oC (oS b.sv3) (oC z (oC (oS b.sv5) (oJ 8 z oN)))))) (by kernel_rfl)
refine aE z z (aG k0) (ab (tn (wp_ret ?_)))
replace b := ((((b.bd bY).bd gB).bd bY).bd (cp .u8)).bd cI
obtain rfl := sj c
refine aZ [.agg #[U1 (u8.wrap (i64.wrap (1 + d.1))), U6 p, U6 h.1.Seq, U6 (u64.wrap (i64.wrap (1 + q.1))), Zu, Zi, Zu, Zu, Zu, Zs, Zs, Zs, Zs, Zs, I6 m.1.E, U6 m.1.Epoch, U6 m.1.Index, N, O, U6 (u64.wrap s.1), B, Zu, Zi, Zi, Zf, Zf, Zu, Zi, .bool false]] results38 (bq (bJ (cs := [U1 (u8.wrap (i64.wrap (1 + d.1))), U6 p, U6 h.1.Seq, U6 (u64.wrap (i64.wrap (1 + q.1))), Zu, Zi, Zu, Zu, Zu, Zs, Zs, Zs, Zs, Zs, I6 m.1.E, U6 m.1.Epoch, U6 m.1.Index, N, O, U6 (u64.wrap s.1), B, Zu, Zi, Zi, Zf, Zf, Zu, Zi, .bool false]) z isAgg49 sizeOf49 (b.xu 0 z)) ai) ?_
replace b := b.bS.bz.bz.bz.bf.bc.da.aL.bM
exact ⟨_, Zs, Zs, Zs, Zs, Zs, N, O, B, z, k, b.rj⟩
}
}
}
{
intro b4 c
refine ak (cvb b4) (wp_seq (wrl (mb z (mb z (ab (tn (bs c ?_ ?_)))))))
{
intro c4 c
refine ar (cvb c4) (wrl (mv (p0) z ?_))
replace b := b.ag
obtain ⟨u, k1, c⟩ := bn c
refine wc call27 [p0] z z z ((jQ b.to1 k1).mono ?_)
rintro _ t0 ⟨rfl, b⟩
refine ⟨_, z, ?_⟩
replace b := b.of1
refine mf z underlying49 z sizeOf28 ?_
replace b := b.ag
obtain ⟨t1, k2, b⟩ := b.by_ [U1 (u8.wrap (i64.wrap (1 + d.1))), U6 u.1.Session, U6 u.1.Seq, Zu, Zu, Zi, Zu, Zu, Zu, Zs, Zs, Zs, Zs, Zs, Zi, Zu, Zu, Zs, Zs, Zu, Zs, Zu, Zi, Zi, Zf, Zf, Zu, Zi, .bool false] 1 (.agg #[U6 u.1.Session, U6 u.1.Seq]) sizeOf28 z (oC z (oC z oN)) (by kernel_rfl)
refine aE z z (aG k2) (ab (bF (tn (wp_seq (wrl (mz (ay (cs := [U1 (u8.wrap (i64.wrap (1 + d.1))), U6 u.1.Session, U6 u.1.Seq, Zu, Zu, Zi, Zu, Zu, Zu, Zs, Zs, Zs, Zs, Zs, Zi, Zu, Zu, Zs, Zs, Zu, Zs, Zu, Zi, Zi, Zf, Zf, Zu, Zi, .bool false]) z isAgg49 sizeOf49 (b.eF 0 z)) ?_))))))
replace b := b.aA
obtain ⟨t2, k3, b⟩ := b.bx [U1 (u8.wrap (i64.wrap (1 + d.1))), U6 u.1.Session, U6 u.1.Seq, Zu, Zu, Zi, Zu, Zu, Zu, Zs, Zs, Zs, Zs, Zs, Zi, Zu, Zu, Zs, Zs, Zu, Zs, Zu, Zi, Zi, Zf, Zf, Zu, Zi, .bool false] sizeOf49 z (oJ 29 z oN) (by kernel_rfl)
refine aE z z (aG k3) (ab (tn (wp_ret ?_)))
replace b := (((((((b.bd bY).bd gB).bd bY).bd (cp .u8)).bd cI).bd aD).bd (dJ az)).bd cM
obtain rfl := sj c
refine aZ [.agg #[U1 (u8.wrap (i64.wrap (1 + d.1))), U6 u.1.Session, U6 u.1.Seq, Zu, Zu, Zi, Zu, Zu, Zu, Zs, Zs, Zs, Zs, Zs, Zi, Zu, Zu, Zs, Zs, Zu, Zs, Zu, Zi, Zi, Zf, Zf, Zu, Zi, .bool false]] results38 (bq (bJ (cs := [U1 (u8.wrap (i64.wrap (1 + d.1))), U6 u.1.Session, U6 u.1.Seq, Zu, Zu, Zi, Zu, Zu, Zu, Zs, Zs, Zs, Zs, Zs, Zi, Zu, Zu, Zs, Zs, Zu, Zs, Zu, Zi, Zi, Zf, Zf, Zu, Zi, .bool false]) z isAgg49 sizeOf49 (b.wC 0 z)) ai) ?_
replace b := b.bz.ag.aA.au.bf.bc.da.aL.bM
exact ⟨_, Zs, Zs, Zs, Zs, Zs, Zs, Zs, Zs, z, k, b.rj⟩
}
{
intro c4 c
refine ak (cvb c4) (wp_seq (wrl (mb z (mb z (ab (tn (bs c ?_ ?_)))))))
{
intro c5 c
refine ar (cvb c5) (wp_seq (wrl (mv (p0) z ?_)))
replace b := b.ag
obtain ⟨g, k4, c⟩ := bn c
refine wc call84 [p0] z z z ((qG b.to1 k4).mono ?_)
rintro _ t3 ⟨rfl, b⟩
refine ⟨_, z, ?_⟩
replace b := b.of1
refine mf z underlying49 z sizeOf39 ?_
replace b := b.ag
obtain ⟨t4, k5, b⟩ := b.by_ [U1 (u8.wrap (i64.wrap (1 + d.1))), Zu, Zu, Zu, Zu, Zi, Zu, Zu, Zu, Zs, Zs, Zs, Zs, Zs, Zi, Zu, Zu, Zs, Zs, Zu, Zs, U6 g.1.ID, I6 g.1.From, I6 g.1.To, F6 g.1.Lo, F6 g.1.Hi, U6 g.1.Authority, I6 g.1.Quota, .bool false] 21 (.agg #[U6 g.1.ID, I6 g.1.From, I6 g.1.To, F6 g.1.Lo, F6 g.1.Hi, U6 g.1.Authority, I6 g.1.Quota]) sizeOf39 z (oJ 7 z oN) (by kernel_rfl)
refine aE z z (aG k5) (ab (tn (wrl (mv (p0) z ?_))))
replace b := b.ag
obtain ⟨W, k6, c⟩ := bn c
refine wc call64 [p0, I6 3] z z z ((aU b.to1 k6).mono ?_)
rintro _ t5 ⟨rfl, b⟩
refine ⟨_, z, ?_⟩
replace b := b.of1
refine mb z (mf z underlying49 z sizeOf4 ?_)
replace b := b.ag
obtain ⟨t6, k7, b⟩ := b.by_ [U1 (u8.wrap (i64.wrap (1 + d.1))), Zu, Zu, Zu, Zu, Zi, Zu, Zu, Zu, Zs, Zs, Zs, Zs, Zs, Zi, Zu, Zu, Zs, Zs, Zu, Zs, U6 g.1.ID, I6 g.1.From, I6 g.1.To, F6 g.1.Lo, F6 g.1.Hi, U6 g.1.Authority, I6 g.1.Quota, .bool (decide (W.1 > 0))] 28 (.bool (decide (W.1 > 0))) sizeOf4 z (oC z oN) (by kernel_rfl)
refine aE z z (aG k7) (ab (bF (tn (wp_seq (wrl (mz (ay (cs := [U1 (u8.wrap (i64.wrap (1 + d.1))), Zu, Zu, Zu, Zu, Zi, Zu, Zu, Zu, Zs, Zs, Zs, Zs, Zs, Zi, Zu, Zu, Zs, Zs, Zu, Zs, U6 g.1.ID, I6 g.1.From, I6 g.1.To, F6 g.1.Lo, F6 g.1.Hi, U6 g.1.Authority, I6 g.1.Quota, .bool (decide (W.1 > 0))]) z isAgg49 sizeOf49 (b.eF 0 z)) ?_))))))
replace b := b.aA
obtain ⟨t7, k8, b⟩ := b.bx [U1 (u8.wrap (i64.wrap (1 + d.1))), Zu, Zu, Zu, Zu, Zi, Zu, Zu, Zu, Zs, Zs, Zs, Zs, Zs, Zi, Zu, Zu, Zs, Zs, Zu, Zs, U6 g.1.ID, I6 g.1.From, I6 g.1.To, F6 g.1.Lo, F6 g.1.Hi, U6 g.1.Authority, I6 g.1.Quota, .bool (decide (W.1 > 0))] sizeOf49 z (oJ 29 z oN) (by kernel_rfl)
refine aE z z (aG k8) (ab (tn (wp_ret ?_)))
replace b := (((((((b.bd bY).bd gB).bd bY).bd (cp .u8)).bd cI).bd aD).bd (dJ az)).bd cM
obtain rfl := sj c
refine aZ [.agg #[U1 (u8.wrap (i64.wrap (1 + d.1))), Zu, Zu, Zu, Zu, Zi, Zu, Zu, Zu, Zs, Zs, Zs, Zs, Zs, Zi, Zu, Zu, Zs, Zs, Zu, Zs, U6 g.1.ID, I6 g.1.From, I6 g.1.To, F6 g.1.Lo, F6 g.1.Hi, U6 g.1.Authority, I6 g.1.Quota, .bool (decide (W.1 > 0))]] results38 (bq (bJ (cs := [U1 (u8.wrap (i64.wrap (1 + d.1))), Zu, Zu, Zu, Zu, Zi, Zu, Zu, Zu, Zs, Zs, Zs, Zs, Zs, Zi, Zu, Zu, Zs, Zs, Zu, Zs, U6 g.1.ID, I6 g.1.From, I6 g.1.To, F6 g.1.Lo, F6 g.1.Hi, U6 g.1.Authority, I6 g.1.Quota, .bool (decide (W.1 > 0))]) z isAgg49 sizeOf49 (b.wC 0 z)) ai) ?_
replace b := b.bz.ag.aA.au.bf.bc.da.aL.bM
exact ⟨_, Zs, Zs, Zs, Zs, Zs, Zs, Zs, Zs, z, k, b.rj⟩
}
{
intro c5 c
refine ak (cvb c5) (wp_seq (wrl (mb z (mb z (ab (tn (bs c ?_ ?_)))))))
{
intro c6 c
refine ar (cvb c6) (wp_seq (wrl (mv (p0) z ?_)))
replace b := b.ag
obtain ⟨j, k9, c⟩ := bn c
refine wc call27 [p0] z z z ((jQ b.to1 k9).mono ?_)
rintro _ t8 ⟨rfl, b⟩
refine ⟨_, z, ?_⟩
replace b := b.of1
refine mf z underlying49 z sizeOf28 ?_
replace b := b.ag
obtain ⟨t9, l0, b⟩ := b.by_ [U1 (u8.wrap (i64.wrap (1 + d.1))), U6 j.1.Session, U6 j.1.Seq, Zu, Zu, Zi, Zu, Zu, Zu, Zs, Zs, Zs, Zs, Zs, Zi, Zu, Zu, Zs, Zs, Zu, Zs, Zu, Zi, Zi, Zf, Zf, Zu, Zi, .bool false] 1 (.agg #[U6 j.1.Session, U6 j.1.Seq]) sizeOf28 z (oC z (oC z oN)) (by kernel_rfl)
refine aE z z (aG l0) (ab (tn (wp_seq (wrl (mv (p0) z ?_)))))
replace b := b.ag
obtain ⟨x, l1, c⟩ := bn c
refine wc call64 [p0, I6 4] z z z ((aU b.to1 l1).mono ?_)
rintro _ u0 ⟨rfl, b⟩
refine ⟨_, z, ?_⟩
replace b := b.of1
refine mi z (mk (.int .u64 (u64.wrap (i64.wrap (1 + x.1)))) (mf z underlying49 z sizeOf26 ?_))
replace b := b.ag
obtain ⟨u1, l2, b⟩ := b.by_ [U1 (u8.wrap (i64.wrap (1 + d.1))), U6 j.1.Session, U6 j.1.Seq, U6 (u64.wrap (i64.wrap (1 + x.1))), Zu, Zi, Zu, Zu, Zu, Zs, Zs, Zs, Zs, Zs, Zi, Zu, Zu, Zs, Zs, Zu, Zs, Zu, Zi, Zi, Zf, Zf, Zu, Zi, .bool false] 3 (.int .u64 (u64.wrap (i64.wrap (1 + x.1)))) sizeOf26 z (oC z oN) (by kernel_rfl)
refine aE z z (aG l2) (ab (tn (wp_seq (wrl (mv (p0) z ?_)))))
replace b := b.ag
obtain ⟨f, l3, c⟩ := bn c
refine wc call84 [p0] z z z ((qG b.to1 l3).mono ?_)
rintro _ u2 ⟨rfl, b⟩
refine ⟨_, z, ?_⟩
replace b := b.of1
refine mf z underlying49 z sizeOf39 ?_
replace b := b.ag
obtain ⟨u3, l4, b⟩ := b.by_ [U1 (u8.wrap (i64.wrap (1 + d.1))), U6 j.1.Session, U6 j.1.Seq, U6 (u64.wrap (i64.wrap (1 + x.1))), Zu, Zi, Zu, Zu, Zu, Zs, Zs, Zs, Zs, Zs, Zi, Zu, Zu, Zs, Zs, Zu, Zs, U6 f.1.ID, I6 f.1.From, I6 f.1.To, F6 f.1.Lo, F6 f.1.Hi, U6 f.1.Authority, I6 f.1.Quota, .bool false] 21 (.agg #[U6 f.1.ID, I6 f.1.From, I6 f.1.To, F6 f.1.Lo, F6 f.1.Hi, U6 f.1.Authority, I6 f.1.Quota]) sizeOf39 z (oJ 7 z oN) (by kernel_rfl)
refine aE z z (aG l4) (ab (tn (wp_seq (wrl (mv (p0) z ?_)))))
replace b := b.ag
obtain ⟨u4, l5, c⟩ := bn c
refine wc call29 [p0] z z z ((mW b.to1 l5).mono ?_)
rintro _ u5 ⟨I775, F, rfl, l6, b⟩
refine ⟨_, z, ?_⟩
replace b := b.of2
replace k := k.trans l6
refine mf z underlying49 z sizeOf42 ?_
replace b := b.aA
obtain ⟨u6, l7, b⟩ := b.cW (P := prog) (t := 42) (cs' := [U1 (u8.wrap (i64.wrap (1 + d.1))), U6 j.1.Session, U6 j.1.Seq, U6 (u64.wrap (i64.wrap (1 + x.1))), Zu, Zi, Zu, Zu, Zu, Zs, Zs, Zs, Zs, F, Zi, Zu, Zu, Zs, Zs, Zu, Zs, U6 f.1.ID, I6 f.1.From, I6 f.1.To, F6 f.1.Lo, F6 f.1.Hi, U6 f.1.Authority, I6 f.1.Quota, .bool false]) 13 F (oS b.sv1) sizeOf42 z z
refine aE z z (aG l7) (ab (tn (wrl (mv (p0) z ?_))))
replace b := b.aA
obtain ⟨o, l8, c⟩ := bn c
refine wc call35 [p0] z z z ((pT b.to1 l8).mono ?_)
rintro _ u7 ⟨I784, Q, S, rfl, l9, b⟩
refine ⟨_, z, ?_⟩
replace b := b.of3
replace k := k.trans l9
refine mf z underlying49 z sizeOf33 ?_
replace b := b.au
obtain ⟨u9, m0, b⟩ := b.by_ [U1 (u8.wrap (i64.wrap (1 + d.1))), U6 j.1.Session, U6 j.1.Seq, U6 (u64.wrap (i64.wrap (1 + x.1))), Zu, Zi, Zu, Zu, Zu, Zs, Zs, Zs, Zs, F, I6 o.1.E, U6 o.1.Epoch, U6 o.1.Index, Q, S, Zu, Zs, U6 f.1.ID, I6 f.1.From, I6 f.1.To, F6 f.1.Lo, F6 f.1.Hi, U6 f.1.Authority, I6 f.1.Quota, .bool false] 14 (.agg #[I6 o.1.E, U6 o.1.Epoch, U6 o.1.Index, Q, S]) sizeOf33 z (oJ 3 z (oC (oS b.sv1) (oC (oS b.sv2) oN))) (by kernel_rfl)
refine aE z z (aG m0) (ab (bF (tn (wp_seq (wrl (mz (ay (cs := [U1 (u8.wrap (i64.wrap (1 + d.1))), U6 j.1.Session, U6 j.1.Seq, U6 (u64.wrap (i64.wrap (1 + x.1))), Zu, Zi, Zu, Zu, Zu, Zs, Zs, Zs, Zs, F, I6 o.1.E, U6 o.1.Epoch, U6 o.1.Index, Q, S, Zu, Zs, U6 f.1.ID, I6 f.1.From, I6 f.1.To, F6 f.1.Lo, F6 f.1.Hi, U6 f.1.Authority, I6 f.1.Quota, .bool false]) z isAgg49 sizeOf49 (b.eF 0 z)) ?_))))))
replace b := b.bc
obtain ⟨v0, m1, b⟩ := b.bx [U1 (u8.wrap (i64.wrap (1 + d.1))), U6 j.1.Session, U6 j.1.Seq, U6 (u64.wrap (i64.wrap (1 + x.1))), Zu, Zi, Zu, Zu, Zu, Zs, Zs, Zs, Zs, F, I6 o.1.E, U6 o.1.Epoch, U6 o.1.Index, Q, S, Zu, Zs, U6 f.1.ID, I6 f.1.From, I6 f.1.To, F6 f.1.Lo, F6 f.1.Hi, U6 f.1.Authority, I6 f.1.Quota, .bool false] sizeOf49 z (oJ 13 z (oC (oS b.sv5) (oJ 3 z (oC (oS b.sv2) (oC (oS b.sv3) (oJ 10 z oN)))))) (by kernel_rfl)
refine aE z z (aG m1) (ab (tn (wp_ret ?_)))
replace b := ((((b.bd bY).bd gB).bd bY).bd (cp .u8)).bd cM
obtain rfl := sj c
refine aZ [.agg #[U1 (u8.wrap (i64.wrap (1 + d.1))), U6 j.1.Session, U6 j.1.Seq, U6 (u64.wrap (i64.wrap (1 + x.1))), Zu, Zi, Zu, Zu, Zu, Zs, Zs, Zs, Zs, F, I6 o.1.E, U6 o.1.Epoch, U6 o.1.Index, Q, S, Zu, Zs, U6 f.1.ID, I6 f.1.From, I6 f.1.To, F6 f.1.Lo, F6 f.1.Hi, U6 f.1.Authority, I6 f.1.Quota, .bool false]] results38 (bq (bJ (cs := [U1 (u8.wrap (i64.wrap (1 + d.1))), U6 j.1.Session, U6 j.1.Seq, U6 (u64.wrap (i64.wrap (1 + x.1))), Zu, Zi, Zu, Zu, Zu, Zs, Zs, Zs, Zs, F, I6 o.1.E, U6 o.1.Epoch, U6 o.1.Index, Q, S, Zu, Zs, U6 f.1.ID, I6 f.1.From, I6 f.1.To, F6 f.1.Lo, F6 f.1.Hi, U6 f.1.Authority, I6 f.1.Quota, .bool false]) z isAgg49 sizeOf49 (b.xu 0 z)) ai) ?_
replace b := b.bS.ag.bS.bS.bz.bc.da.aL.bM
exact ⟨_, Zs, Zs, Zs, Zs, F, Q, S, Zs, z, k, b.rj⟩
}
{
intro c6 c
refine ak (cvb c6) (wp_skip (bF (tn (wp_seq (wrl (mz (ay (cs := [U1 (u8.wrap (i64.wrap (1 + d.1))), Zu, Zu, Zu, Zu, Zi, Zu, Zu, Zu, Zs, Zs, Zs, Zs, Zs, Zi, Zu, Zu, Zs, Zs, Zu, Zs, Zu, Zi, Zi, Zf, Zf, Zu, Zi, .bool false]) z isAgg49 sizeOf49 (b.eF 0 z)) ?_))))))
replace b := b.aA
obtain ⟨v1, m2, b⟩ := b.bx [U1 (u8.wrap (i64.wrap (1 + d.1))), Zu, Zu, Zu, Zu, Zi, Zu, Zu, Zu, Zs, Zs, Zs, Zs, Zs, Zi, Zu, Zu, Zs, Zs, Zu, Zs, Zu, Zi, Zi, Zf, Zf, Zu, Zi, .bool false] sizeOf49 z (oJ 29 z oN) (by kernel_rfl)
refine aE z z (aG m2) (ab (tn (wp_ret ?_)))
replace b := (((((((b.bd bY).bd gB).bd bY).bd (cp .u8)).bd cI).bd aD).bd (dJ az)).bd cM
obtain rfl := sj c
refine aZ [.agg #[U1 (u8.wrap (i64.wrap (1 + d.1))), Zu, Zu, Zu, Zu, Zi, Zu, Zu, Zu, Zs, Zs, Zs, Zs, Zs, Zi, Zu, Zu, Zs, Zs, Zu, Zs, Zu, Zi, Zi, Zf, Zf, Zu, Zi, .bool false]] results38 (bq (bJ (cs := [U1 (u8.wrap (i64.wrap (1 + d.1))), Zu, Zu, Zu, Zu, Zi, Zu, Zu, Zu, Zs, Zs, Zs, Zs, Zs, Zi, Zu, Zu, Zs, Zs, Zu, Zs, Zu, Zi, Zi, Zf, Zf, Zu, Zi, .bool false]) z isAgg49 sizeOf49 (b.wC 0 z)) ai) ?_
replace b := b.bz.ag.aA.au.bf.bc.da.aL.bM
exact ⟨_, Zs, Zs, Zs, Zs, Zs, Zs, Zs, Zs, z, k, b.rj⟩
}
}
}
}
}
}
}
}
theorem oQ {a0 : aj} {p0 : Value} (b : St w0 w I [aR p0 a0] R) {r : (Bool)} (c : iz a0 = some r) :
  Calls prog 67 #[p0] w fun e w' => e = .returned (.bool r) ∧ St w0 w' I [aR p0 a0] R := by {
unfold iz at c
refine c0 func67 z ntmps67 (wp_seq (wrl (mb z (ab (tn (wp_seq (wp_seq (wrl (mi z (ab (tn (wp_block ?_))))))))))))
obtain ⟨o, c⟩ := aX c
refine bm (fun n a w => ∃ (f : Int), cT (gQ a0) n f = some r ∧ fz 26 [0, 3] [p0, I6 f] a ∧ St w0 w I [aR p0 a0] R) o ⟨0, c, fy z, b⟩ ?_
rintro y _ A ⟨f, c, ⟨B, rfl⟩, b⟩
obtain ⟨C, D, rfl, c, g⟩ := ba c
dsimp only [gQ] at c
refine wp_seq (wp_seq (wrl (mi z (mv (p0) z ?_))))
obtain ⟨h, E, F, G, H, J, K, L, ⟨rfl, i, d, j, k⟩, p⟩ := bl b
have b := p
refine mp z (mf z underlying130 z sizeOf125 (ml z isAgg125 (b.bc0 z) (mz (bZ z underlying125 (ah d)) (mb z (ab (tn (bs c ?_ ?_)))))))
{
intro l c
refine ar (cvb l) (wp_skip (tn (wp_seq (wp_block (wp_seq (dO b mixed (by kernel_rfl) (qz (Pt _ _) z (qz (Pt _ _) z (qh _ (fun w b => aT z underlying130 z sizeOf125 z) (qh _ (fun w b => aq z isAgg125 (b.bc0 z)) (qz (I6 _) z ?_)))))))))))
obtain ⟨M, q, c⟩ := bn c
obtain ⟨s, t, u⟩ := aP q
refine qh _ (fun w b => aC z z underlying125 sizeOf46 (ah d) s t) (qh _ (fun w b => aW z underlying46 z sizeOf26 z) ?_)
obtain ⟨N, v, x⟩ := Ro.jZ d u
obtain ⟨O, P, Q, S, rfl, T, U, V, W, -⟩ := v
refine qh _ (fun w b => aq z isAgg26 ((x lr b) 2 _ z)) (qz (Pt _ _) z (qz (Pt _ _) z (qh _ (fun w b => aT z underlying130 z sizeOf26 z) (qh _ (fun w b => aq z isAgg26 (b.bc0 z)) (qz (.bool _) z (fO ?_))))))
intro w b
refine tn (bs c ?_ ?_)
{
intro m c
refine ar (cvb m) (wp_seq (wrl (mb z (ab (tn (wp_ret (dm (aN (aN ?_)))))))))
replace c := bo c g
refine dm (aN ?_)
replace b := al (Pt h 0) a0 b.au.au.au.au ⟨z, i, d, j, k⟩
obtain rfl := sj c
exact aZ [.bool false] results67 (rc z ai) ⟨z, b.bu⟩
}
{
intro m c
refine ak (cvb m) (wp_skip (bF (tn (wrl (mi z (mi z (mi z (ab (tn ?_)))))))))
replace b := (al (Pt h 0) a0 b.au.au.au.au ⟨z, i, d, j, k⟩).bu
obtain rfl := sj c
exact ⟨_, nls, (i64.wrap (f + 1)), g, fy z, b⟩
}
}
{
intro l c
refine ak (cvb l) (wp_exit (aV (aV ?_)))
replace c := bo c g
refine de (tn (wp_seq (wrl (mb z (ab (tn (wp_ret ?_)))))))
replace b := al (Pt h 0) a0 b.au.au.au.au ⟨z, i, d, j, k⟩
obtain rfl := sj c
exact aZ [.bool true] results67 (rc z ai) ⟨z, b.bu⟩
}
}
theorem kp {a0 : (List ap)} {f : Value} {a1 : bO} (k : Ro bt I f a0) (b : St w0 w I [] R) {r : (ap × Bool)} (c : kO a0 a1 = some r) :
  Calls prog 70 #[f, .agg #[U6 a1.Session, U6 a1.Seq]] w fun e w' => ∃ (I' : HL) (s : Value) (t : Value) (u : Value) (v : Value), e = .returned (.tuple #[.agg #[U6 r.1.ID.Session, U6 r.1.ID.Seq, U6 r.1.Epoch, s, t, u, v], .bool r.2]) ∧ I.le I' ∧ Ro bY I' s r.1.Gets ∧ Ro gB I' t r.1.Scans ∧ Ro bY I' u r.1.Puts ∧ Ro (cp .u8) I' v r.1.Data ∧ St w0 w' I' [] R := by {
unfold kO at c
refine c0 func70 z ntmps70 ?_
have x := HL.le.refl I
refine wp_seq (wrl ?_)
obtain ⟨y, Y, J, K, b⟩ := b.box [U6 a1.Session, U6 a1.Seq] 28
refine wa J K ?_
obtain ⟨A, Z, L, M, b⟩ := b.box [Zu, Zu, Zu, Zs, Zs, Zs, Zs] 46
refine wa L M (mb z (ab (tn (wp_seq (wp_seq (wrl (mi z (ab (tn (wp_block ?_))))))))))
obtain ⟨N, c⟩ := aX c
refine bm (fun n a w => ∃ (l : Int), cT (lA a0 a1) n l = some r ∧ fz 25 [0, 3, 4, 6] [f, Pt y 0, Pt A 0, I6 l] a ∧ St w0 w I [cells A [Zu, Zu, Zu, Zs, Zs, Zs, Zs], cells y [U6 a1.Session, U6 a1.Seq]] R) N ⟨0, c, fy z, b⟩ ?_
rintro b0 _ b1 ⟨l, c, ⟨b2, rfl⟩, b⟩
obtain ⟨b3, b4, rfl, c, m⟩ := ba c
dsimp only [lA] at c
refine wp_seq (wp_seq (wrl (mi z (mv (f) z (mz (bZ z underlying125 (ah k)) (mb z (ab (tn (bs c ?_ ?_)))))))))
{
intro p c
refine ar (cvb p) (wp_skip (tn (wp_seq (wp_block (wp_seq (dO b mixed (by kernel_rfl) (qz f z (qz (I6 _) z ?_))))))))
obtain ⟨d, O, c⟩ := bn c
obtain ⟨B, C, P⟩ := aP O
refine qh _ (fun w b => aC z z underlying125 sizeOf46 (ah k) B C) (qh _ (fun w b => aW z underlying46 z sizeOf28 z) ?_)
obtain ⟨b5, Q, D⟩ := Ro.jZ k P
obtain ⟨g, h, i, j, rfl, E, F, G, H, -⟩ := Q
refine qh _ (fun w b => ay (cs := [U6 d.ID.Session, U6 d.ID.Seq]) z isAgg28 sizeOf28 (dS (o := 0) (D lr b) z)) (qh _ (fun w b => ay (cs := [U6 a1.Session, U6 a1.Seq]) z isAgg28 sizeOf28 (b.eK 0 z)) (qh (.bool _) (fun w b => ua z z (by kernel_rfl) underlying28 (by kernel_rfl) (by kernel_rfl) (by kernel_rfl) underlying26 underlying26 (fun _ _ _ => by kernel_rfl) (fun _ _ _ => by kernel_rfl)) (fO ?_)))
intro w b
refine tn (bs c ?_ ?_)
{
intro q c
refine ar (cvb q) (wp_seq (wrl (mv (f) z (mi z (mz (aC z z underlying125 sizeOf46 (ah k) B C) (mz (ay (cs := [U6 d.ID.Session, U6 d.ID.Seq, U6 d.Epoch, g, h, i, j]) z isAgg46 sizeOf46 (dS (o := 0) (D lr b) z)) ?_))))))
obtain ⟨b6, S, b⟩ := b.bx [U6 d.ID.Session, U6 d.ID.Seq, U6 d.Epoch, g, h, i, j] sizeOf46 z (oJ 3 z (oC (oS (ah E)) (oC (oS (ah F)) (oC (oS (ah G)) (oC (oS (ah H)) oN))))) (by kernel_rfl)
refine aE z z (aG S) (mb z (ab (tn (wp_ret (dm (aN (aN ?_)))))))
replace c := bo c m
refine dm (aN ?_)
obtain rfl := sj c
exact aZ [.agg #[U6 d.ID.Session, U6 d.ID.Seq, U6 d.Epoch, g, h, i, j], .bool true] results70 (bq (bJ (cs := [U6 d.ID.Session, U6 d.ID.Seq, U6 d.Epoch, g, h, i, j]) z isAgg46 sizeOf46 (b.eF 0 z)) (rc z ai)) ⟨_, g, h, i, j, z, x, E, F, G, H, b.bU⟩
}
{
intro q c
refine ak (cvb q) (wp_skip (bF (tn (wrl (mi z (mi z (mi z (ab (tn ?_)))))))))
replace b := b.ag.ag.ck
obtain rfl := sj c
exact ⟨_, nls, (i64.wrap (l + 1)), m, fy z, b⟩
}
}
{
intro p c
refine ak (cvb p) (wp_exit (aV (aV ?_)))
replace c := bo c m
refine de (tn (wp_seq (wrl (mk (.agg #[Zu, Zu, Zu, Zs, Zs, Zs, Zs]) ?_))))
obtain ⟨b7, T, b⟩ := b.bx [Zu, Zu, Zu, Zs, Zs, Zs, Zs] sizeOf46 z (oJ 7 z oN) (by kernel_rfl)
refine aE z z (aG T) (mb z (ab (tn (wp_ret ?_))))
have U : Ro bY I (.slice none 0 0) [] := cy
have V : Ro gB I (.slice none 0 0) [] := cy
have W : Ro bY I (.slice none 0 0) [] := cy
have X : Ro (cp .u8) I (.slice none 0 0) [] := cy
obtain rfl := sj c
exact aZ [.agg #[Zu, Zu, Zu, Zs, Zs, Zs, Zs], .bool false] results70 (bq (bJ (cs := [Zu, Zu, Zu, Zs, Zs, Zs, Zs]) z isAgg46 sizeOf46 (b.eF 0 z)) (rc z ai)) ⟨_, Zs, Zs, Zs, Zs, z, x, U, V, W, X, b.bU⟩
}
}
theorem qB {a0 : Nat} (b : St w0 w I [] R) {r : (Bool)} (a : mr a0 = some r) :
  Calls prog 145 #[F6 a0] w fun e w' => e = .returned (.bool r) ∧ St w0 w' I [] R := by {
unfold mr at a
refine c0 func145 z ntmps145 (wp_seq (wrl (mb z (ab (tn (wp_seq (wrl (mv (F6 _) z (mk (.int .u64 (Int.ofNat a0)) (mk (.int .i64 (i64.wrap (Int.ofNat a0))) (mb z (mb z (ab (tn (wp_ret ?_)))))))))))))))
obtain rfl := sj a
exact aZ [.bool (decide ((i64.wrap (Int.ofNat a0)) < 0))] results145 (rc z ai) ⟨z, b.bU⟩
}
theorem kQ {a0 a1 : Nat} (c : St w0 w I [] R) {r : (Bool)} (b : jI a0 a1 = some r) :
  Calls prog 59 #[F6 a0, F6 a1] w fun e w' => e = .returned (.bool r) ∧ St w0 w' I [] R := by {
unfold jI at b
refine c0 func59 z ntmps59 (wp_seq (wrl (mb z (ab (tn (wp_seq (wp_seq (wrl (mv (F6 _) z (mv (F6 _) z (mb z (ab (tn (bs b ?_ ?_))))))))))))))
{
intro h b
refine ar (cvb h) (wp_seq (wrl (mb z (ab (tn (wp_ret (aN ?_)))))))
obtain rfl := sj b
exact aZ [.bool false] results59 (rc z ai) ⟨z, c.bU⟩
}
{
intro h b
refine ak (cvb h) (wp_skip (tn (wp_seq (wp_seq (wrl (mv (F6 _) z (mv (F6 _) z (mb z (ab (tn (bs b ?_ ?_)))))))))))
{
intro i b
refine ar (cvb i) (wp_seq (wrl (mb z (ab (tn (wp_ret (aN ?_)))))))
obtain rfl := sj b
exact aZ [.bool true] results59 (rc z ai) ⟨z, c.bU⟩
}
{
intro i b
refine ak (cvb i) (wp_skip (tn ?_))
obtain ⟨n, b, g⟩ := ec b
refine cU (fun a w =>(nP a0 a1) () = some r ∧ fz 27 [0, 1] [F6 a0, F6 a1] a ∧ St w0 w I [] R) ?_ ?_
{
refine wp_seq (wrl (mv (F6 _) z (mb z (mb z (bs b ?_ ?_)))))
{
intro f b
refine gv (F6 _) f z (gb f z (mb (aS f z z) (ab (tn (bs b ?_ ?_)))))
{
intro j b
refine ar (cvb j) (wp_seq (wrl (mv (F6 _) z ?_)))
obtain ⟨o, k, b⟩ := bn b
refine wc call145 [F6 a0] z z z ((qB c.to0 k).mono ?_)
rintro _ p ⟨rfl, c⟩
refine ⟨_, z, ?_⟩
replace c := c.of0
refine mb z (bs b ?_ ?_)
{
intro d b
refine gv (F6 _) d z ?_
obtain ⟨l, m, b⟩ := bn b
refine dj ((aw z z z (cvb d)).trans z) z (jv call145 z (vs := [F6 a1]) z) ((qB c.to0 m).mono ?_)
rintro _ q ⟨rfl, c⟩
refine ⟨_, z, ?_⟩
replace c := c.of0
refine gb d z (mb (aS d z z) (mb z (ab (tn (wp_ret (aN ?_))))))
replace b := bo b g
obtain rfl := sj b
exact aZ [.bool (!l)] results59 (rc z ai) ⟨z, c.bU⟩
}
{
intro d b
refine go d (go d (go d (mb (aJ d z z) (mb z (ab (tn (wp_ret (aN ?_))))))))
replace b := bo b g
obtain rfl := sj b
exact aZ [.bool false] results59 (rc z ai) ⟨z, c.bU⟩
}
}
{
intro j b
refine ak (cvb j) (wp_skip (tn ?_))
replace c := c.bU
obtain rfl := sj b
exact ⟨g, fy z, c⟩
}
}
{
intro f b
refine go f (go f (mb (aJ f z z) (ab (tn (ak z (wp_skip (tn ?_)))))))
replace c := c.bU
obtain rfl := sj b
exact ⟨g, fy z, c⟩
}
}
{
rintro _ s ⟨b, ⟨t, rfl⟩, c⟩
dsimp only [nP] at b
refine wp_seq (wrl (mv (F6 _) z (mv (F6 _) z (mb z (mb z (ab (tn (wp_ret ?_))))))))
obtain rfl := sj b
exact aZ [.bool (fLt a0 a1)] results59 (rc z ai) ⟨z, c.bU⟩
}
}
}
}
theorem ez {a0 a1 : Nat} (b : St w0 w I [] R) {r : (Bool)} (c : eJ a0 a1 = some r) :
  Calls prog 20 #[F6 a0, F6 a1] w fun e w' => e = .returned (.bool r) ∧ St w0 w' I [] R := by {
unfold eJ at c
refine c0 func20 z ntmps20 (wp_seq (wrl (mb z (ab (tn (wp_seq (wrl (mv (F6 _) z (mv (F6 _) z ?_)))))))))
obtain ⟨h, d, c⟩ := bn c
refine wc call59 [F6 a0, F6 a1] z z z ((kQ b.to0 d).mono ?_)
rintro _ i ⟨rfl, b⟩
refine ⟨_, z, ?_⟩
replace b := b.of0
refine mb z (mb z (bs c ?_ ?_))
{
intro a c
refine gv (F6 _) a z (gv (F6 _) a z ?_)
obtain ⟨f, g, c⟩ := bn c
refine dj ((aw z z z (cvb a)).trans z) z (jv call59 z (vs := [F6 a1, F6 a0]) z) ((kQ b.to0 g).mono ?_)
rintro _ j ⟨rfl, b⟩
refine ⟨_, z, ?_⟩
replace b := b.of0
refine gb a z (mb (aS a z z) (mb z (ab (tn (wp_ret ?_)))))
obtain rfl := sj c
exact aZ [.bool (!f)] results20 (rc z ai) ⟨z, b.bU⟩
}
{
intro a c
refine go a (go a (go a (go a (mb (aJ a z z) (mb z (ab (tn (wp_ret ?_))))))))
obtain rfl := sj c
exact aZ [.bool false] results20 (rc z ai) ⟨z, b.bU⟩
}
}
theorem pG {a0 : ap} {o p q s : Value} {a1 : ap} {t u v x : Value} (B : Rd bY R I o a0.Gets) (y : Rd gB R I p a0.Scans) (C : Rd bY R I q a0.Puts) (b4 : Rd (cp .u8) R I s a0.Data) (H : Rd bY R I t a1.Gets) (A : Rd gB R I u a1.Scans) (J : Rd bY R I v a1.Puts) (b5 : Rd (cp .u8) R I x a1.Data) (b : St w0 w I [] R) {r : (Bool)} (c : ji a0 a1 = some r) :
  Calls prog 89 #[.agg #[U6 a0.ID.Session, U6 a0.ID.Seq, U6 a0.Epoch, o, p, q, s], .agg #[U6 a1.ID.Session, U6 a1.ID.Seq, U6 a1.Epoch, t, u, v, x]] w fun e w' => e = .returned (.bool r) ∧ St w0 w' I [] R := by {
unfold ji at c
refine c0 func89 z ntmps89 (wp_seq (wrl ?_))
obtain ⟨l, f3, b6, b7, b⟩ := b.box [U6 a0.ID.Session, U6 a0.ID.Seq, U6 a0.Epoch, o, p, q, s] 46
refine wa b6 b7 ?_
obtain ⟨m, f4, b8, b9, b⟩ := b.box [U6 a1.ID.Session, U6 a1.ID.Seq, U6 a1.Epoch, t, u, v, x] 46
refine wa b8 b9 (mb z (ab (tn (wp_seq (wp_seq (wrl (mf z underlying46 z sizeOf28 (mz (ay (cs := [U6 a0.ID.Session, U6 a0.ID.Seq]) z isAgg28 sizeOf28 (b.eK 0 z)) (mf z underlying46 z sizeOf28 (mz (ay (cs := [U6 a1.ID.Session, U6 a1.ID.Seq]) z isAgg28 sizeOf28 (b.eF 0 z)) (mb (rM z z (by kernel_rfl) underlying28 (by kernel_rfl) (by kernel_rfl) (by kernel_rfl) underlying26 underlying26 (fun _ _ _ => by kernel_rfl) (fun _ _ _ => by kernel_rfl)) (mb z (bs c ?_ ?_)))))))))))))
{
intro k c
refine go k (go k (go k (go k (go k (mb (aS k z z) (mb z (gz (gz (gz (gz (gz (gz (gz (mb (aS z z z) (mb z (gz (gz (gz (gz (gz (gz (gz (mb (aS z z z) (mb z (gz (gz (gz (gz (gz (gz (gz (mb (aS z z z) (mb z (gz (gz (gz (gz (gz (gz (gz (mb (aS z z z) (ab (tn (ar z (wp_seq (wrl (mb z (ab (tn (wp_ret (aN ?_)))))))))))))))))))))))))))))))))))))))))))))))))))
obtain rfl := sj c
exact aZ [.bool false] results89 (rc z ai) ⟨z, b.bU⟩
}
{
intro k c
refine gg k (aT z underlying46 z sizeOf26 z) (gg k (aq z isAgg26 (b.bc1 z)) (gg k (aT z underlying46 z sizeOf26 z) (gg k (aq z isAgg26 (b.bc0 z)) (gb k z (mb (aJ k z z) (mb z (bs c ?_ ?_)))))))
{
intro f c
refine go f (go f (go f (go f (go f (go f (go f (mb (aS f z z) (mb z (gz (gz (gz (gz (gz (gz (gz (mb (aS z z z) (mb z (gz (gz (gz (gz (gz (gz (gz (mb (aS z z z) (mb z (gz (gz (gz (gz (gz (gz (gz (mb (aS z z z) (ab (tn (ar z (wp_seq (wrl (mb z (ab (tn (wp_ret (aN ?_))))))))))))))))))))))))))))))))))))))))))))
obtain rfl := sj c
exact aZ [.bool false] results89 (rc z ai) ⟨z, b.bU⟩
}
{
intro f c
refine gg f (aT z underlying46 z sizeOf43 z) (gg f (aq z isAgg43 (b.bc1 z)) (gg f (bZ z underlying43 (ax B)) (gg f (aT z underlying46 z sizeOf43 z) (gg f (aq z isAgg43 (b.bc0 z)) (gg f (bZ z underlying43 (ax H)) (gb f z (mb (aJ f z z) (mb z (bs c ?_ ?_)))))))))
{
intro g c
refine go g (go g (go g (go g (go g (go g (go g (mb (aS g z z) (mb z (gz (gz (gz (gz (gz (gz (gz (mb (aS z z z) (mb z (gz (gz (gz (gz (gz (gz (gz (mb (aS z z z) (ab (tn (ar z (wp_seq (wrl (mb z (ab (tn (wp_ret (aN ?_)))))))))))))))))))))))))))))))))))
obtain rfl := sj c
exact aZ [.bool false] results89 (rc z ai) ⟨z, b.bU⟩
}
{
intro g c
refine gg g (aT z underlying46 z sizeOf44 z) (gg g (aq z isAgg44 (b.bc1 z)) (gg g (bZ z underlying44 (ax y)) (gg g (aT z underlying46 z sizeOf44 z) (gg g (aq z isAgg44 (b.bc0 z)) (gg g (bZ z underlying44 (ax A)) (gb g z (mb (aJ g z z) (mb z (bs c ?_ ?_)))))))))
{
intro h c
refine go h (go h (go h (go h (go h (go h (go h (mb (aS h z z) (mb z (gz (gz (gz (gz (gz (gz (gz (mb (aS z z z) (ab (tn (ar z (wp_seq (wrl (mb z (ab (tn (wp_ret (aN ?_))))))))))))))))))))))))))
obtain rfl := sj c
exact aZ [.bool false] results89 (rc z ai) ⟨z, b.bU⟩
}
{
intro h c
refine gg h (aT z underlying46 z sizeOf43 z) (gg h (aq z isAgg43 (b.bc1 z)) (gg h (bZ z underlying43 (ax C)) (gg h (aT z underlying46 z sizeOf43 z) (gg h (aq z isAgg43 (b.bc0 z)) (gg h (bZ z underlying43 (ax J)) (gb h z (mb (aJ h z z) (mb z (bs c ?_ ?_)))))))))
{
intro j c
refine go j (go j (go j (go j (go j (go j (go j (mb (aS j z z) (ab (tn (ar z (wp_seq (wrl (mb z (ab (tn (wp_ret (aN ?_)))))))))))))))))
obtain rfl := sj c
exact aZ [.bool false] results89 (rc z ai) ⟨z, b.bU⟩
}
{
intro j c
refine gg j (aT z underlying46 z sizeOf22 z) (gg j (aq z isAgg22 (b.bc1 z)) (gv (.string (iZ a0.Data)) j (pX underlying22 underlying9 underlying5 z (Src.rf b b4 mO)) (gg j (aT z underlying46 z sizeOf22 z) (gg j (aq z isAgg22 (b.bc0 z)) (gv (.string (iZ a1.Data)) j (pX underlying22 underlying9 underlying5 z (Src.rf b b5 mO)) (gk (.bool (!(sEq (iZ a0.Data) (iZ a1.Data)))) j (mb (aJ j z z) (ab (tn (bs c ?_ ?_))))))))))
{
intro K c
refine ar (cvb K) (wp_seq (wrl (mb z (ab (tn (wp_ret (aN ?_)))))))
obtain rfl := sj c
exact aZ [.bool false] results89 (rc z ai) ⟨z, b.bU⟩
}
{
intro K c
refine ak (cvb K) (wp_skip (tn ?_))
obtain ⟨c1, c, V⟩ := ec c
refine cU (fun a w =>(lE a0 a1) () = some r ∧ fz 131 [2, 3] [Pt l 0, Pt m 0] a ∧ St w0 w I [cells l [U6 a0.ID.Session, U6 a0.ID.Seq, U6 a0.Epoch, o, p, q, s], cells m [U6 a1.ID.Session, U6 a1.ID.Seq, U6 a1.Epoch, t, u, v, x]] R) ?_ ?_
{
refine wp_seq (wrl (mi z (ab (tn (wp_block ?_)))))
obtain ⟨c2, c⟩ := aX c
refine bm (fun n a w => ∃ (D : Int), cT (fW a0 a1) n D = some c1 ∧ fz 131 [2, 3, 5] [Pt l 0, Pt m 0, I6 D] a ∧ St w0 w I [cells m [U6 a1.ID.Session, U6 a1.ID.Seq, U6 a1.Epoch, t, u, v, x], cells l [U6 a0.ID.Session, U6 a0.ID.Seq, U6 a0.Epoch, o, p, q, s]] R) c2 ⟨0, c, fy z, b⟩ ?_
rintro f5 _ f6 ⟨D, c, ⟨f7, rfl⟩, b⟩
obtain ⟨f8, f9, rfl, c, L⟩ := ba c
dsimp only [fW] at c
refine wp_seq (wp_seq (wrl (mi z (mf z underlying46 z sizeOf43 (ml z isAgg43 (b.bc1 z) (mz (bZ z underlying43 (ax B)) (mb z (ab (tn (bs c ?_ ?_))))))))))
{
intro M c
refine ar (cvb M) (wp_skip (tn (wp_seq (wp_block (wp_seq (rg b 12 [0, 1, 0, 7, 15, 0, 32, 0, 224, 480, 1023, 2047] [] mixed (sf 0 z z underlying46 z sizeOf43 (sl 1 z z isAgg43 (fun w b => b.bc1 z) (si 2 z z ?_)))))))))
obtain ⟨c3, c4, c⟩ := bn c
obtain ⟨c5, c6, c7⟩ := aP c4
refine sh _ 3 z (fun w b => aC z z underlying43 sizeOf37 (ax B) c5 c6) (sl 4 z z isAgg37 (fun w b => dU B lr b c7 (by rintro _ rfl; rfl)) (sf 5 z z underlying46 z sizeOf43 (sl 6 z z isAgg43 (fun w b => b.bc0 z) (si 7 z z ?_))))
obtain ⟨c8, c9, c⟩ := bn c
obtain ⟨d0, d1, d2⟩ := aP c9
refine sh _ 8 z (fun w b => aC z z underlying43 sizeOf37 (ax H) d0 d1) (sl 9 z z isAgg37 (fun w b => dU H lr b d2 (by rintro _ rfl; rfl)) (e1 10 z z fun w b => ?_))
obtain ⟨g0, d3, c⟩ := bn c
refine wec call20 [F6 c3, F6 c8] z z ((ez b.to0 d3).mono ?_)
rintro _ g1 ⟨rfl, b⟩
refine ⟨_, z, ?_⟩
replace b := b.of0
refine w0n b (sb 11 z z (bp ?_))
intro w b
refine tn (bs c ?_ ?_)
{
intro N c
refine ar (cvb N) (wp_seq (wrl (mb z (ab (tn (wp_ret (dm (aN (aN ?_)))))))))
replace c := bo c L
refine dm (aN ?_)
replace c := bo c V
obtain rfl := sj c
exact aZ [.bool false] results89 (rc z ai) ⟨z, b.bU⟩
}
{
intro N c
refine ak (cvb N) (wp_skip (bF (tn (wrl (mi z (mi z (mi z (ab (tn ?_)))))))))
replace b := b.ag.ag.ck
obtain rfl := sj c
exact ⟨_, nls, (i64.wrap (D + 1)), L, fy z, b⟩
}
}
{
intro M c
refine ak (cvb M) (wp_exit (aV (aV ?_)))
replace c := bo c L
refine de (tn ?_)
replace b := b.ag.ck
obtain rfl := sj c
exact ⟨V, fy z, b⟩
}
}
{
rintro _ g2 ⟨c, ⟨g3, rfl⟩, b⟩
dsimp only [lE] at c
obtain ⟨d4, c, O⟩ := ec c
refine cU (fun a w =>(nt a0 a1) () = some r ∧ fz 131 [2, 3] [Pt l 0, Pt m 0] a ∧ St w0 w I [cells l [U6 a0.ID.Session, U6 a0.ID.Seq, U6 a0.Epoch, o, p, q, s], cells m [U6 a1.ID.Session, U6 a1.ID.Seq, U6 a1.Epoch, t, u, v, x]] R) ?_ ?_
{
refine wp_seq (wrl (mi z (ab (tn (wp_block ?_)))))
obtain ⟨d5, c⟩ := aX c
refine bm (fun n a w => ∃ (E : Int), cT (fU a0 a1) n E = some d4 ∧ fz 131 [2, 3, 6] [Pt l 0, Pt m 0, I6 E] a ∧ St w0 w I [cells l [U6 a0.ID.Session, U6 a0.ID.Seq, U6 a0.Epoch, o, p, q, s], cells m [U6 a1.ID.Session, U6 a1.ID.Seq, U6 a1.Epoch, t, u, v, x]] R) d5 ⟨0, c, fy z, b⟩ ?_
rintro g4 _ g5 ⟨E, c, ⟨g6, rfl⟩, b⟩
obtain ⟨g7, g8, rfl, c, F⟩ := ba c
dsimp only [fU] at c
refine wp_seq (wp_seq (wrl (mi z (mf z underlying46 z sizeOf44 (ml z isAgg44 (b.bc0 z) (mz (bZ z underlying44 (ax y)) (mb z (ab (tn (bs c ?_ ?_))))))))))
{
intro P c
refine ar (cvb P) (wp_skip (tn (wp_seq (wp_block (wp_seq (rg b 30 [0, 1, 0, 7, 15, 31, 0, 64, 0, 448, 960, 1984, 4095, 8191, 16383, 32767, 65535, 32767, 262143, 524287, 1048575, 32767, 2129919, 32767, 14712831, 31490047, 65044479, 134217727, 268435455, 536870911] [] mixed (sf 0 z z underlying46 z sizeOf44 (sl 1 z z isAgg44 (fun w b => b.bc0 z) (si 2 z z ?_)))))))))
obtain ⟨W, d6, c⟩ := bn c
obtain ⟨X, Y, Z⟩ := aP d6
refine sh _ 3 z (fun w b => aC z z underlying44 sizeOf80 (ax y) X Y) (sh (.pointer (some _)) 4 z (fun w b => iP (i := 0) z z underlying80 sizeOf37 (by decide) (by decide) z) (sl 5 z z isAgg37 (fun w b => dU y lr b Z (by rintro _ rfl; rfl)) (sf 6 z z underlying46 z sizeOf44 (sl 7 z z isAgg44 (fun w b => b.bc1 z) (si 8 z z ?_)))))
obtain ⟨b0, d7, c⟩ := bn c
obtain ⟨b1, b2, b3⟩ := aP d7
refine sh _ 9 z (fun w b => aC z z underlying44 sizeOf80 (ax A) b1 b2) (sh (.pointer (some _)) 10 z (fun w b => iP (i := 0) z z underlying80 sizeOf37 (by decide) (by decide) z) (sl 11 z z isAgg37 (fun w b => dU A lr b b3 (by rintro _ rfl; rfl)) (e1 12 z z fun w b => ?_)))
obtain ⟨g9, d8, c⟩ := bn c
refine wec call20 [F6 W.1, F6 b0.1] z z ((ez b.to0 d8).mono ?_)
rintro _ h0 ⟨rfl, b⟩
refine ⟨_, z, ?_⟩
replace b := b.of0
refine w0n b (sb 13 z z (sb 14 z z (bs c ?_ ?_)))
{
intro d c
refine so 15 z d (so 16 z d (so 17 z d (so 18 z d (so 19 z d (so 20 z d (so 21 z d (so 22 z d (so 23 z d (so 24 z d (so 25 z d (so 26 z d (so 27 z d (so 28 z d (sh (.bool _) 29 z (fun w b => aS d z z) (bp ?_)))))))))))))))
intro w b
refine tn (ar z (wp_seq (wrl (mb z (ab (tn (wp_ret (dm (aN (aN ?_))))))))))
replace c := bo c F
refine dm (aN ?_)
replace c := bo c O
obtain rfl := sj c
exact aZ [.bool false] results89 (rc z ai) ⟨z, b.bU⟩
}
{
intro d c
refine sg _ 15 z d (fun w b => aT z underlying46 z sizeOf44 z) (sg _ 16 z d (fun w b => aq z isAgg44 (b.bc0 z)) (sgz (I6 _) 17 z d z (sg _ 18 z d (fun w b => aC z z underlying44 sizeOf80 (ax y) X Y) (sg (.pointer (some _)) 19 z d (fun w b => iP (i := 1) z z underlying80 sizeOf37 (by decide) (by decide) z) (sg _ 20 z d (fun w b => aq z isAgg37 (dU y lr b Z (by rintro _ rfl; rfl))) (sg _ 21 z d (fun w b => aT z underlying46 z sizeOf44 z) (sg _ 22 z d (fun w b => aq z isAgg44 (b.bc1 z)) (sgz (I6 _) 23 z d z (sg _ 24 z d (fun w b => aC z z underlying44 sizeOf80 (ax A) b1 b2) (sg (.pointer (some _)) 25 z d (fun w b => iP (i := 1) z z underlying80 sizeOf37 (by decide) (by decide) z) (sg _ 26 z d (fun w b => aq z isAgg37 (dU A lr b b3 (by rintro _ rfl; rfl))) (hJ 27 (by kernel_rfl) (nxe [28, 29] (by kernel_rfl) z ((aw z z z (cvb d)).trans z) ?_)))))))))))))
clear b
intro w b
obtain ⟨h1, d9, c⟩ := bn c
refine wec call20 [F6 W.2, F6 b0.2] z z ((ez b.to0 d9).mono ?_)
rintro _ h2 ⟨rfl, b⟩
refine ⟨_, z, ?_⟩
replace b := b.of0
refine w0n b (sgz (.bool _) 28 z d z (sh (.bool _) 29 z (fun w b => aJ d z z) (bp ?_)))
intro w b
refine tn (bs c ?_ ?_)
{
intro Q c
refine ar (cvb Q) (wp_seq (wrl (mb z (ab (tn (wp_ret (dm (aN (aN ?_)))))))))
replace c := bo c F
refine dm (aN ?_)
replace c := bo c O
obtain rfl := sj c
exact aZ [.bool false] results89 (rc z ai) ⟨z, b.bU⟩
}
{
intro Q c
refine ak (cvb Q) (wp_skip (bF (tn (wrl (mi z (mi z (mi z (ab (tn ?_)))))))))
replace b := b.ag.ag.ck
obtain rfl := sj c
exact ⟨_, nls, (i64.wrap (E + 1)), F, fy z, b⟩
}
}
}
{
intro P c
refine ak (cvb P) (wp_exit (aV (aV ?_)))
replace c := bo c F
refine de (tn ?_)
replace b := b.ag.ag.ck
obtain rfl := sj c
exact ⟨O, fy z, b⟩
}
}
{
rintro _ h3 ⟨c, ⟨h4, rfl⟩, b⟩
dsimp only [nt] at c
refine wp_seq (wp_seq (wrl (mi z (ab (tn (wp_block ?_))))))
obtain ⟨e0, c⟩ := aX c
refine bm (fun n a w => ∃ (G : Int), cT (gf a0 a1) n G = some r ∧ fz 131 [2, 3, 7] [Pt l 0, Pt m 0, I6 G] a ∧ St w0 w I [cells l [U6 a0.ID.Session, U6 a0.ID.Seq, U6 a0.Epoch, o, p, q, s], cells m [U6 a1.ID.Session, U6 a1.ID.Seq, U6 a1.Epoch, t, u, v, x]] R) e0 ⟨0, c, fy z, b⟩ ?_
rintro h5 _ h6 ⟨G, c, ⟨h7, rfl⟩, b⟩
obtain ⟨h8, h9, rfl, c, S⟩ := ba c
dsimp only [gf] at c
refine wp_seq (wp_seq (wrl (mi z (mf z underlying46 z sizeOf43 (ml z isAgg43 (b.bc0 z) (mz (bZ z underlying43 (ax C)) (mb z (ab (tn (bs c ?_ ?_))))))))))
{
intro T c
refine ar (cvb T) (wp_skip (tn (wp_seq (wp_block (wp_seq (rg b 12 [0, 1, 0, 7, 15, 0, 32, 0, 224, 480, 1023, 2047] [] mixed (sf 0 z z underlying46 z sizeOf43 (sl 1 z z isAgg43 (fun w b => b.bc0 z) (si 2 z z ?_)))))))))
obtain ⟨e2, e3, c⟩ := bn c
obtain ⟨e4, e5, e6⟩ := aP e3
refine sh _ 3 z (fun w b => aC z z underlying43 sizeOf37 (ax C) e4 e5) (sl 4 z z isAgg37 (fun w b => dU C lr b e6 (by rintro _ rfl; rfl)) (sf 5 z z underlying46 z sizeOf43 (sl 6 z z isAgg43 (fun w b => b.bc1 z) (si 7 z z ?_))))
obtain ⟨e7, e8, c⟩ := bn c
obtain ⟨e9, f0, f1⟩ := aP e8
refine sh _ 8 z (fun w b => aC z z underlying43 sizeOf37 (ax J) e9 f0) (sl 9 z z isAgg37 (fun w b => dU J lr b f1 (by rintro _ rfl; rfl)) (e1 10 z z fun w b => ?_))
obtain ⟨i0, f2, c⟩ := bn c
refine wec call20 [F6 e2, F6 e7] z z ((ez b.to0 f2).mono ?_)
rintro _ i1 ⟨rfl, b⟩
refine ⟨_, z, ?_⟩
replace b := b.of0
refine w0n b (sb 11 z z (bp ?_))
intro w b
refine tn (bs c ?_ ?_)
{
intro U c
refine ar (cvb U) (wp_seq (wrl (mb z (ab (tn (wp_ret (dm (aN (aN ?_)))))))))
replace c := bo c S
refine dm (aN ?_)
obtain rfl := sj c
exact aZ [.bool false] results89 (rc z ai) ⟨z, b.bU⟩
}
{
intro U c
refine ak (cvb U) (wp_skip (bF (tn (wrl (mi z (mi z (mi z (ab (tn ?_)))))))))
replace b := b.ag.ag.ck
obtain rfl := sj c
exact ⟨_, nls, (i64.wrap (G + 1)), S, fy z, b⟩
}
}
{
intro T c
refine ak (cvb T) (wp_exit (aV (aV ?_)))
replace c := bo c S
refine de (tn (wp_seq (wrl (mb z (ab (tn (wp_ret ?_)))))))
obtain rfl := sj c
exact aZ [.bool true] results89 (rc z ai) ⟨z, b.bU⟩
}
}
}
}
}
}
}
}
}
}
theorem tj {a0 : (List Nat)} {d : Value} {a1 : Nat} (g : Rd bY R I d a0) (c : St w0 w I [] R) {r : (Bool)} (b : po a0 a1 = some r) :
  Calls prog 220 #[d, F6 a1] w fun e w' => e = .returned (.bool r) ∧ St w0 w' I [] R := by {
unfold po at b
refine c0 func220 z ntmps220 (wp_seq (wrl (mb z (ab (tn (wp_seq (wp_seq (wrl (mi z (ab (tn (wp_block ?_))))))))))))
obtain ⟨k, b⟩ := aX b
refine bm (fun n a w => ∃ (f : Int), cT (ma a0 a1) n f = some r ∧ fz 18 [0, 1, 5] [d, F6 a1, I6 f] a ∧ St w0 w I [] R) k ⟨0, b, fy z, c⟩ ?_
rintro t _ u ⟨f, b, ⟨v, rfl⟩, c⟩
obtain ⟨x, y, rfl, b, h⟩ := ba b
dsimp only [ma] at b
refine wp_seq (wp_seq (wrl (mi z (mv (d) z (mz (bZ z underlying43 (ax g)) (mb z (ab (tn (bs b ?_ ?_)))))))))
{
intro i b
refine ar (cvb i) (wp_skip (tn (wp_seq (wp_block (wp_seq (wrl (mv (d) z (mi z ?_))))))))
obtain ⟨l, m, b⟩ := bn b
obtain ⟨o, p, q⟩ := aP m
refine mz (aC z z underlying43 sizeOf37 (ax g) o p) (ml z isAgg37 (dU g lr c q (by rintro _ rfl; rfl)) (mv (F6 _) z ?_))
obtain ⟨A, s, b⟩ := bn b
refine wc call20 [F6 l, F6 a1] z z z ((ez c.to0 s).mono ?_)
rintro _ B ⟨rfl, c⟩
refine ⟨_, z, ?_⟩
replace c := c.of0
refine ab (tn (bs b ?_ ?_))
{
intro j b
refine ar (cvb j) (wp_seq (wrl (mb z (ab (tn (wp_ret (dm (aN (aN ?_)))))))))
replace b := bo b h
refine dm (aN ?_)
obtain rfl := sj b
exact aZ [.bool true] results220 (rc z ai) ⟨z, c.bU⟩
}
{
intro j b
refine ak (cvb j) (wp_skip (bF (tn (wrl (mi z (mi z (mi z (ab (tn ?_)))))))))
replace c := c.bU
obtain rfl := sj b
exact ⟨_, nls, (i64.wrap (f + 1)), h, fy z, c⟩
}
}
{
intro i b
refine ak (cvb i) (wp_exit (aV (aV ?_)))
replace b := bo b h
refine de (tn (wp_seq (wrl (mb z (ab (tn (wp_ret ?_)))))))
obtain rfl := sj b
exact aZ [.bool false] results220 (rc z ai) ⟨z, c.bU⟩
}
}
theorem qv {a0 a1 a2 : Nat} (b : St w0 w I [] R) {r : (Bool)} (c : jB a0 a1 a2 = some r) :
  Calls prog 153 #[F6 a0, F6 a1, F6 a2] w fun e w' => e = .returned (.bool r) ∧ St w0 w' I [] R := by {
unfold jB at c
refine c0 func153 z ntmps153 (wp_seq (wrl (mb z (ab (tn (wp_seq (wrl (mv (F6 _) z (mv (F6 _) z ?_)))))))))
obtain ⟨h, d, c⟩ := bn c
refine wc call59 [F6 a0, F6 a1] z z z ((kQ b.to0 d).mono ?_)
rintro _ i ⟨rfl, b⟩
refine ⟨_, z, ?_⟩
replace b := b.of0
refine mb z (mb z (bs c ?_ ?_))
{
intro a c
refine gv (F6 _) a z (gv (F6 _) a z ?_)
obtain ⟨f, g, c⟩ := bn c
refine dj ((aw z z z (cvb a)).trans z) z (jv call59 z (vs := [F6 a2, F6 a0]) z) ((kQ b.to0 g).mono ?_)
rintro _ j ⟨rfl, b⟩
refine ⟨_, z, ?_⟩
replace b := b.of0
refine gb a z (mb (aS a z z) (mb z (ab (tn (wp_ret ?_)))))
obtain rfl := sj c
exact aZ [.bool (!f)] results153 (rc z ai) ⟨z, b.bU⟩
}
{
intro a c
refine go a (go a (go a (go a (mb (aJ a z z) (mb z (ab (tn (wp_ret ?_))))))))
obtain rfl := sj c
exact aZ [.bool false] results153 (rc z ai) ⟨z, b.bU⟩
}
}
theorem rm {a0 : ap} {d f g h : Value} {a1 : Nat} (x : Rd bY R I d a0.Gets) (j : Rd gB R I f a0.Scans) (H : Rd bY R I g a0.Puts) (J : Rd (cp .u8) R I h a0.Data) (b : St w0 w I [] R) {r : (Bool)} (c : nr a0 a1 = some r) :
  Calls prog 221 #[.agg #[U6 a0.ID.Session, U6 a0.ID.Seq, U6 a0.Epoch, d, f, g, h], F6 a1] w fun e w' => e = .returned (.bool r) ∧ St w0 w' I [] R := by {
unfold nr at c
refine c0 func221 z ntmps221 (wp_seq (wrl ?_))
obtain ⟨k, K, y, A, b⟩ := b.box [U6 a0.ID.Session, U6 a0.ID.Seq, U6 a0.Epoch, d, f, g, h] 46
refine wa y A (mb z (ab (tn ?_)))
obtain ⟨B, c, q⟩ := ec c
refine cU (fun a w =>(lR a0 a1) () = some r ∧ fz 31 [1, 2] [F6 a1, Pt k 0] a ∧ St w0 w I [cells k [U6 a0.ID.Session, U6 a0.ID.Seq, U6 a0.Epoch, d, f, g, h]] R) ?_ ?_
{
refine wp_seq (wrl (mi z (ab (tn (wp_block ?_)))))
obtain ⟨C, c⟩ := aX c
refine bm (fun n a w => ∃ (l : Int), cT (kg a0 a1) n l = some B ∧ fz 31 [1, 2, 5] [F6 a1, Pt k 0, I6 l] a ∧ St w0 w I [cells k [U6 a0.ID.Session, U6 a0.ID.Seq, U6 a0.Epoch, d, f, g, h]] R) C ⟨0, c, fy z, b⟩ ?_
rintro L _ M ⟨l, c, ⟨N, rfl⟩, b⟩
obtain ⟨O, P, rfl, c, m⟩ := ba c
dsimp only [kg] at c
refine wp_seq (wp_seq (wrl (mi z (mf z underlying46 z sizeOf44 (ml z isAgg44 (b.bc0 z) (mz (bZ z underlying44 (ax j)) (mb z (ab (tn (bs c ?_ ?_))))))))))
{
intro o c
refine ar (cvb o) (wp_skip (tn (wp_seq (wp_block (wp_seq (rg b 14 [0, 0, 2, 0, 14, 30, 62, 0, 128, 0, 896, 1920, 3968, 8191] [] mixed (sz (F6 _) 0 z z (sf 1 z z underlying46 z sizeOf44 (sl 2 z z isAgg44 (fun w b => b.bc0 z) (si 3 z z ?_))))))))))
obtain ⟨s, D, c⟩ := bn c
obtain ⟨t, u, v⟩ := aP D
refine sh _ 4 z (fun w b => aC z z underlying44 sizeOf80 (ax j) t u) (sh (.pointer (some _)) 5 z (fun w b => iP (i := 0) z z underlying80 sizeOf37 (by decide) (by decide) z) (sl 6 z z isAgg37 (fun w b => dU j lr b v (by rintro _ rfl; rfl)) (sf 7 z z underlying46 z sizeOf44 (sl 8 z z isAgg44 (fun w b => b.bc0 z) (si 9 z z (sh _ 10 z (fun w b => aC z z underlying44 sizeOf80 (ax j) t u) (sh (.pointer (some _)) 11 z (fun w b => iP (i := 1) z z underlying80 sizeOf37 (by decide) (by decide) z) (sl 12 z z isAgg37 (fun w b => dU j lr b v (by rintro _ rfl; rfl)) (e1 13 z z fun w b => ?_)))))))))
obtain ⟨Q, E, c⟩ := bn c
refine wec call153 [F6 a1, F6 s.1, F6 s.2] z z ((qv b.to0 E).mono ?_)
rintro _ S ⟨rfl, b⟩
refine ⟨_, z, ?_⟩
replace b := b.of0
refine w0n b (bp ?_)
intro w b
refine tn (bs c ?_ ?_)
{
intro p c
refine ar (cvb p) (wp_seq (wrl (mb z (ab (tn (wp_ret (dm (aN (aN ?_)))))))))
replace c := bo c m
refine dm (aN ?_)
replace c := bo c q
obtain rfl := sj c
exact aZ [.bool true] results221 (rc z ai) ⟨z, b.bU⟩
}
{
intro p c
refine ak (cvb p) (wp_skip (bF (tn (wrl (mi z (mi z (mi z (ab (tn ?_)))))))))
replace b := b.bu
obtain rfl := sj c
exact ⟨_, nls, (i64.wrap (l + 1)), m, fy z, b⟩
}
}
{
intro o c
refine ak (cvb o) (wp_exit (aV (aV ?_)))
replace c := bo c m
refine de (tn ?_)
replace b := b.bu
obtain rfl := sj c
exact ⟨q, fy z, b⟩
}
}
{
rintro _ T ⟨c, ⟨U, rfl⟩, b⟩
dsimp only [lR] at c
refine wp_seq (wrl (mf z underlying46 z sizeOf43 (ml z isAgg43 (b.bc0 z) (mv (F6 _) z ?_))))
obtain ⟨F, G, c⟩ := bn c
refine wc call220 [d, F6 a1] z z z ((tj (x.mono (cC _)) b.to0 G).mono ?_)
rintro _ V ⟨rfl, b⟩
refine ⟨_, z, ?_⟩
replace b := b.of0
refine mb z (ab (tn (wp_ret ?_)))
obtain rfl := sj c
exact aZ [.bool F] results221 (rc z ai) ⟨z, b.bU⟩
}
}
theorem vp {a0 : ap} {g h i j : Value} {a1 : ap} {k l f m : Value} (J : Rd bY R I g a0.Gets) (K : Rd gB R I h a0.Scans) (o : Rd bY R I i a0.Puts) (L : Rd (cp .u8) R I j a0.Data) (M : Rd bY R I k a1.Gets) (N : Rd gB R I l a1.Scans) (s : Rd bY R I f a1.Puts) (O : Rd (cp .u8) R I m a1.Data) (b : St w0 w I [] R) {r : (Bool)} (c : pQ a0 a1 = some r) :
  Calls prog 202 #[.agg #[U6 a0.ID.Session, U6 a0.ID.Seq, U6 a0.Epoch, g, h, i, j], .agg #[U6 a1.ID.Session, U6 a1.ID.Seq, U6 a1.Epoch, k, l, f, m]] w fun e w' => e = .returned (.bool r) ∧ St w0 w' I [] R := by {
unfold pQ at c
refine c0 func202 z ntmps202 (wp_seq (wrl ?_))
obtain ⟨p, b6, P, Q, b⟩ := b.box [U6 a0.ID.Session, U6 a0.ID.Seq, U6 a0.Epoch, g, h, i, j] 46
refine wa P Q ?_
obtain ⟨q, b7, S, T, b⟩ := b.box [U6 a1.ID.Session, U6 a1.ID.Seq, U6 a1.Epoch, k, l, f, m] 46
refine wa S T (mb z (ab (tn ?_)))
obtain ⟨U, c, x⟩ := ec c
refine cU (fun a w =>(mN a1 a0) () = some r ∧ fz 45 [2, 3] [Pt p 0, Pt q 0] a ∧ St w0 w I [cells p [U6 a0.ID.Session, U6 a0.ID.Seq, U6 a0.Epoch, g, h, i, j], cells q [U6 a1.ID.Session, U6 a1.ID.Seq, U6 a1.Epoch, k, l, f, m]] R) ?_ ?_
{
refine wp_seq (wrl (mi z (ab (tn (wp_block ?_)))))
obtain ⟨V, c⟩ := aX c
refine bm (fun n a w => ∃ (t : Int), cT (lm a0 a1) n t = some U ∧ fz 45 [2, 3, 5] [Pt p 0, Pt q 0, I6 t] a ∧ St w0 w I [cells q [U6 a1.ID.Session, U6 a1.ID.Seq, U6 a1.Epoch, k, l, f, m], cells p [U6 a0.ID.Session, U6 a0.ID.Seq, U6 a0.Epoch, g, h, i, j]] R) V ⟨0, c, fy z, b⟩ ?_
rintro b8 _ b9 ⟨t, c, ⟨c1, rfl⟩, b⟩
obtain ⟨c2, c3, rfl, c, u⟩ := ba c
dsimp only [lm] at c
refine wp_seq (wp_seq (wrl (mi z (mf z underlying46 z sizeOf43 (ml z isAgg43 (b.bc1 z) (mz (bZ z underlying43 (ax o)) (mb z (ab (tn (bs c ?_ ?_))))))))))
{
intro y c
refine ar (cvb y) (wp_skip (tn (wp_seq (wp_block (wp_seq (rg b 17 [0, 1, 0, 4, 0, 28, 60, 127, 255, 511, 511, 1535, 511, 7679, 15871, 32767, 65535] [] mixed (sf 0 z z underlying46 z sizeOf43 (sl 1 z z isAgg43 (fun w b => b.bc0 z) (sf 2 z z underlying46 z sizeOf43 (sl 3 z z isAgg43 (fun w b => b.bc1 z) (si 4 z z ?_)))))))))))
obtain ⟨E, W, c⟩ := bn c
obtain ⟨F, G, H⟩ := aP W
refine sh _ 5 z (fun w b => aC z z underlying43 sizeOf37 (ax o) F G) (sl 6 z z isAgg37 (fun w b => dU o lr b H (by rintro _ rfl; rfl)) (e1 7 z z fun w b => ?_))
obtain ⟨c4, X, c⟩ := bn c
refine wec call220 [f, F6 E] z z ((tj (s.mono (cC _)) b.to0 X).mono ?_)
rintro _ c5 ⟨rfl, b⟩
refine ⟨_, z, ?_⟩
replace b := b.of0
refine w0n b (sb 8 z z (bs c ?_ ?_))
{
intro d c
refine so 9 z d (so 10 z d (so 11 z d (so 12 z d (so 13 z d (so 14 z d (so 15 z d (sh (.bool _) 16 z (fun w b => aS d z z) (bp ?_))))))))
intro w b
refine tn (ar z (wp_seq (wrl (mb z (ab (tn (wp_ret (dm (aN (aN ?_))))))))))
replace c := bo c u
refine dm (aN ?_)
replace c := bo c x
obtain rfl := sj c
exact aZ [.bool true] results202 (rc z ai) ⟨z, b.bU⟩
}
{
intro d c
refine sg _ 9 z d (fun w b => ay (cs := [U6 a1.ID.Session, U6 a1.ID.Seq, U6 a1.Epoch, k, l, f, m]) z isAgg46 sizeOf46 (b.eF 0 z)) (sg _ 10 z d (fun w b => aT z underlying46 z sizeOf43 z) (sg _ 11 z d (fun w b => aq z isAgg43 (b.bc1 z)) (sgz (I6 _) 12 z d z (sg _ 13 z d (fun w b => aC z z underlying43 sizeOf37 (ax o) F G) (sg _ 14 z d (fun w b => aq z isAgg37 (dU o lr b H (by rintro _ rfl; rfl))) (hJ 15 (by kernel_rfl) (nxe [16] (by kernel_rfl) z ((aw z z z (cvb d)).trans z) ?_)))))))
clear b
intro w b
obtain ⟨c6, Y, c⟩ := bn c
refine wec call221 [.agg #[U6 a1.ID.Session, U6 a1.ID.Seq, U6 a1.Epoch, k, l, f, m], F6 E] z z ((rm (M.mono (cC _)) (N.mono (cC _)) (s.mono (cC _)) (O.mono (cC _)) b.to0 Y).mono ?_)
rintro _ c7 ⟨rfl, b⟩
refine ⟨_, z, ?_⟩
replace b := b.of0
refine w0n b (sh (.bool _) 16 z (fun w b => aJ d z z) (bp ?_))
intro w b
refine tn (bs c ?_ ?_)
{
intro A c
refine ar (cvb A) (wp_seq (wrl (mb z (ab (tn (wp_ret (dm (aN (aN ?_)))))))))
replace c := bo c u
refine dm (aN ?_)
replace c := bo c x
obtain rfl := sj c
exact aZ [.bool true] results202 (rc z ai) ⟨z, b.bU⟩
}
{
intro A c
refine ak (cvb A) (wp_skip (bF (tn (wrl (mi z (mi z (mi z (ab (tn ?_)))))))))
replace b := b.ag.ag.ck
obtain rfl := sj c
exact ⟨_, nls, (i64.wrap (t + 1)), u, fy z, b⟩
}
}
}
{
intro y c
refine ak (cvb y) (wp_exit (aV (aV ?_)))
replace c := bo c u
refine de (tn ?_)
replace b := b.ag.ck
obtain rfl := sj c
exact ⟨x, fy z, b⟩
}
}
{
rintro _ c8 ⟨c, ⟨c9, rfl⟩, b⟩
dsimp only [mN] at c
refine wp_seq (wp_seq (wrl (mi z (ab (tn (wp_block ?_))))))
obtain ⟨Z, c⟩ := aX c
refine bm (fun n a w => ∃ (v : Int), cT (lq a1 a0) n v = some r ∧ fz 45 [2, 3, 6] [Pt p 0, Pt q 0, I6 v] a ∧ St w0 w I [cells p [U6 a0.ID.Session, U6 a0.ID.Seq, U6 a0.Epoch, g, h, i, j], cells q [U6 a1.ID.Session, U6 a1.ID.Seq, U6 a1.Epoch, k, l, f, m]] R) Z ⟨0, c, fy z, b⟩ ?_
rintro d0 _ d1 ⟨v, c, ⟨d2, rfl⟩, b⟩
obtain ⟨d3, d4, rfl, c, B⟩ := ba c
dsimp only [lq] at c
refine wp_seq (wp_seq (wrl (mi z (mf z underlying46 z sizeOf43 (ml z isAgg43 (b.bc1 z) (mz (bZ z underlying43 (ax s)) (mb z (ab (tn (bs c ?_ ?_))))))))))
{
intro C c
refine ar (cvb C) (wp_skip (tn (wp_seq (wp_block (wp_seq (rg b 7 [0, 0, 2, 0, 14, 30, 63] [] mixed (sh _ 0 z (fun w b => ay (cs := [U6 a0.ID.Session, U6 a0.ID.Seq, U6 a0.Epoch, g, h, i, j]) z isAgg46 sizeOf46 (b.eF 0 z)) (sf 1 z z underlying46 z sizeOf43 (sl 2 z z isAgg43 (fun w b => b.bc1 z) (si 3 z z ?_))))))))))
obtain ⟨b0, b1, c⟩ := bn c
obtain ⟨b2, b3, b4⟩ := aP b1
refine sh _ 4 z (fun w b => aC z z underlying43 sizeOf37 (ax s) b2 b3) (sl 5 z z isAgg37 (fun w b => dU s lr b b4 (by rintro _ rfl; rfl)) (e1 6 z z fun w b => ?_))
obtain ⟨d5, b5, c⟩ := bn c
refine wec call221 [.agg #[U6 a0.ID.Session, U6 a0.ID.Seq, U6 a0.Epoch, g, h, i, j], F6 b0] z z ((rm (J.mono (cC _)) (K.mono (cC _)) (o.mono (cC _)) (L.mono (cC _)) b.to0 b5).mono ?_)
rintro _ d6 ⟨rfl, b⟩
refine ⟨_, z, ?_⟩
replace b := b.of0
refine w0n b (bp ?_)
intro w b
refine tn (bs c ?_ ?_)
{
intro D c
refine ar (cvb D) (wp_seq (wrl (mb z (ab (tn (wp_ret (dm (aN (aN ?_)))))))))
replace c := bo c B
refine dm (aN ?_)
obtain rfl := sj c
exact aZ [.bool true] results202 (rc z ai) ⟨z, b.bU⟩
}
{
intro D c
refine ak (cvb D) (wp_skip (bF (tn (wrl (mi z (mi z (mi z (ab (tn ?_)))))))))
replace b := b.ag.ag.ck
obtain rfl := sj c
exact ⟨_, nls, (i64.wrap (v + 1)), B, fy z, b⟩
}
}
{
intro C c
refine ak (cvb C) (wp_exit (aV (aV ?_)))
replace c := bo c B
refine de (tn (wp_seq (wrl (mb z (ab (tn (wp_ret ?_)))))))
obtain rfl := sj c
exact aZ [.bool false] results202 (rc z ai) ⟨z, b.bU⟩
}
}
}
theorem py {a0 : (List ap)} {g : Value} {a1 : bO} (j : Ro bt I g a0) (b : St w0 w I [] R) {r : ((List ap))} (c : oa a0 a1 = some r) :
  Calls prog 71 #[g, .agg #[U6 a1.Session, U6 a1.Seq]] w fun e w' => ∃ (q : Value), e = .returned (q) ∧ St w0 w' I [bg bt q r] R := by {
unfold oa at c
refine c0 func71 z ntmps71 (wp_seq (wrl ?_))
obtain ⟨s, X, J, K, b⟩ := b.box [U6 a1.Session, U6 a1.Seq] 28
refine wa J K (mv ((.slice none 0 0)) z (ab (tn (wp_seq (wrl (mv ((.slice none 0 0)) z (ab (tn (wp_seq (wp_seq (wrl (mi z (ab (tn (wp_block ?_)))))))))))))))
replace b := b.bd bt
obtain ⟨L, c⟩ := aX c
refine bm (fun n a w => ∃ (h : (List ap)) (i : Int) (f : Value), cT (ll a0 a1) n (h, i) = some r ∧ fz 28 [0, 3, 5, 6] [g, Pt s 0, f, I6 i] a ∧ St w0 w I [bg bt f h, cells s [U6 a1.Session, U6 a1.Seq]] R) L ⟨[], 0, Zs, c, fy z, b⟩ ?_
rintro Y _ Z ⟨h, i, f, c, ⟨b0, rfl⟩, b⟩
obtain ⟨b1, b2, rfl, c, k⟩ := ba c
dsimp only [ll] at c
refine wp_seq (wp_seq (wrl (mi z (mv (g) z (mz (bZ z underlying125 (ah j)) (mb z (ab (tn (bs c ?_ ?_)))))))))
{
intro l c
refine ar (cvb l) (wp_skip (tn (wp_seq (wp_block (wp_seq (dO b mixed (by kernel_rfl) (qz g z (qz (I6 _) z ?_))))))))
obtain ⟨d, M, c⟩ := bn c
obtain ⟨t, u, N⟩ := aP M
refine qh _ (fun w b => aC z z underlying125 sizeOf46 (ah j) t u) (qh _ (fun w b => aW z underlying46 z sizeOf28 z) ?_)
obtain ⟨b3, O, x⟩ := Ro.jZ j N
obtain ⟨y, A, B, C, rfl, D, F, G, H, -⟩ := O
refine qh _ (fun w b => ay (cs := [U6 d.ID.Session, U6 d.ID.Seq]) z isAgg28 sizeOf28 (dS (o := 0) (x lr b) z)) (qh _ (fun w b => ay (cs := [U6 a1.Session, U6 a1.Seq]) z isAgg28 sizeOf28 (b.eK 0 z)) (qh (.bool _) (fun w b => rM z z (by kernel_rfl) underlying28 (by kernel_rfl) (by kernel_rfl) (by kernel_rfl) underlying26 underlying26 (fun _ _ _ => by kernel_rfl) (fun _ _ _ => by kernel_rfl)) (fO ?_)))
intro w b
refine tn (bs c ?_ ?_)
{
intro m c
refine ar (cvb m) (wrl (mv (f) z (mv (g) z (mi z (mz (aC z z underlying125 sizeOf46 (ah j) t u) (mz (ay (cs := [U6 d.ID.Session, U6 d.ID.Seq, U6 d.Epoch, y, A, B, C]) z isAgg46 sizeOf46 (dS (o := 0) (x lr b) z)) ?_))))))
obtain ⟨P, Q, S, T, b⟩ := b.ey (E := bt) (xs := [d]) [[U6 d.ID.Session, U6 d.ID.Seq, U6 d.Epoch, y, A, B, C]] 46 1 z (bE.cons ⟨_, _, _, _, z, D, F, G, H, oS (ah D), oS (ah F), oS (ah G), oS (ah H)⟩ bE.nil)
refine cb (v := (.slice (some ⟨P, 0, none⟩) 1 1)) (w' := Q) z z (dn (by kernel_rfl) S T) ?_
obtain ⟨U, c⟩ := cz c
replace b := b.ag
obtain ⟨p, V, W, b⟩ := bI qw underlying125 b b.ju (cK U z) 125
refine cb (v := p) (w' := V) z z (bX z z W) (mv (p) z (ab (bF (tn (wrl (mi z (mi z (mi z (ab (tn ?_))))))))))
replace b := b.aA.ag.ck
obtain rfl := sj c
exact ⟨_, nls, (h ++ ([d])), (i64.wrap (i + 1)), p, k, fy z, b⟩
}
{
intro m c
refine ak (cvb m) (wp_skip (bF (tn (wrl (mi z (mi z (mi z (ab (tn ?_)))))))))
replace b := b.ag.ag.ck
obtain rfl := sj c
exact ⟨_, nls, h, (i64.wrap (i + 1)), f, k, fy z, b⟩
}
}
{
intro l c
refine ak (cvb l) (wp_exit (aV (aV ?_)))
replace c := bo c k
refine de (tn (wp_seq (wrl (mv (f) z (mv (f) z (ab (tn (wp_ret ?_))))))))
obtain rfl := sj c
exact aZ [f] results71 (rc z ai) ⟨f, z, b.bu⟩
}
}
end Go.Proofs.YtgnkkopjkgdieaaGreat
