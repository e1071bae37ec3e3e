/- A part of the proof. -/
import Derived.Test.YtgnkkopjkgdieaaGreatLanePlaysM
import Derived.Test.YtgnkkopjkgdieaaGreatProg
import Derived.Test.YtgnkkopjkgdieaaGreatLanePlaysGw
set_option linter.unusedVariables false
set_option linter.unusedSimpArgs false
set_option maxRecDepth 100000
set_option maxHeartbeats 4000000
namespace Go.Proofs.YtgnkkopjkgdieaaGreat
open Go Go.V
theorem mixed : Tryz.prog.follows .mixedOrders = true := by kernel_rfl
def cr : Ty aY where
 sz := 4
 rep := fun ρ x cs => ∃ v3 : Value, cs = [.int .u64 x.Epoch, .int .u64 x.Index, .bool x.Del, v3] ∧ Sl (cp .u8) ρ v3 x.Val ∧ (v3.oneCell' = true)
 len := by rintro ρ x cs ⟨v3, rfl, h⟩; rfl
 mono := by rintro ρ ρ' x cs f ⟨v3, rfl, h3, h⟩; exact ⟨v3, rfl, h3.mono f, h⟩
 one := by rintro ρ x cs ⟨v3, rfl, h3, o3⟩; exact (bP rfl (bP rfl (bP rfl (bP o3 jO))))
def yU : Ty bV where
 sz := 2
 rep := fun ρ x cs => ∃ v1 : Value, cs = [.int .u64 x.rank, v1] ∧ Sl cr ρ v1 x.l ∧ (v1.oneCell' = true)
 len := by rintro ρ x cs ⟨v1, rfl, h⟩; rfl
 mono := by rintro ρ ρ' x cs f ⟨v1, rfl, h1, h⟩; exact ⟨v1, rfl, h1.mono f, h⟩
 one := by rintro ρ x cs ⟨v1, rfl, h1, o1⟩; exact (bP rfl (bP o1 jO))
def cq : sX bV where
 β := aY
 E := cr
 f := fun x => x.l
 mc := fun x u => [.int .u64 x.rank, u]
 sz := 2
 fo := 1
 upd := fun x ys => { x with l := ys }
 hfo := by decide
 len := fun _ _ => rfl
 one := fun x u h => (bP rfl (bP h jO))
 hset := fun _ _ _ => rfl
 fu := fun _ _ => rfl
 mu := fun _ _ _ => rfl
 uu := fun _ => rfl
theorem Bs (ρ : Rho) (x : bV) (u : Value) (h : Sl cr ρ u x.l) (o : u.oneCell' = true) : yU.rep ρ x (cq.mc x u) := ⟨u, rfl, h, o⟩
def bt : Ty ap where
 sz := 7
 rep := fun ρ x cs => ∃ v3 v4 v5 v6 : Value, cs = [.int .u64 x.ID.Session, .int .u64 x.ID.Seq, .int .u64 x.Epoch, v3, v4, v5, v6] ∧ Sl bY ρ v3 x.Gets ∧ Sl gB ρ v4 x.Scans ∧ Sl bY ρ v5 x.Puts ∧ Sl (cp .u8) ρ v6 x.Data ∧ (v3.oneCell' = true ∧ v4.oneCell' = true ∧ v5.oneCell' = true ∧ v6.oneCell' = true)
 len := by rintro ρ x cs ⟨v3, v4, v5, v6, rfl, h⟩; rfl
 mono := by rintro ρ ρ' x cs f ⟨v3, v4, v5, v6, rfl, h3, h4, h5, h6, h⟩; exact ⟨v3, v4, v5, v6, rfl, h3.mono f, h4.mono f, h5.mono f, h6.mono f, h⟩
 one := by rintro ρ x cs ⟨v3, v4, v5, v6, rfl, h3, h4, h5, h6, o3, o4, o5, o6⟩; exact (bP rfl (bP rfl (bP rfl (bP o3 (bP o4 (bP o5 (bP o6 jO)))))))
def aD : Ty ct where
 sz := 2
 rep := fun ρ x cs => ∃ v1 : Value, cs = [.bool x.Has, v1] ∧ Sl (cp .u8) ρ v1 x.Val ∧ (v1.oneCell' = true)
 len := by rintro ρ x cs ⟨v1, rfl, h⟩; rfl
 mono := by rintro ρ ρ' x cs f ⟨v1, rfl, h1, h⟩; exact ⟨v1, rfl, h1.mono f, h⟩
 one := by rintro ρ x cs ⟨v1, rfl, h1, o1⟩; exact (bP rfl (bP o1 jO))
def az : Ty bQ where
 sz := 2
 rep := fun ρ x cs => ∃ v1 : Value, cs = [.float .f64 x.At, v1] ∧ Sl (cp .u8) ρ v1 x.Val ∧ (v1.oneCell' = true)
 len := by rintro ρ x cs ⟨v1, rfl, h⟩; rfl
 mono := by rintro ρ ρ' x cs f ⟨v1, rfl, h1, h⟩; exact ⟨v1, rfl, h1.mono f, h⟩
 one := by rintro ρ x cs ⟨v1, rfl, h1, o1⟩; exact (bP rfl (bP o1 jO))
def cS : Ty aQ where
 sz := 7
 rep := fun ρ x cs => ∃ v5 v6 : Value, cs = [.int .u64 x.session, .int .u64 x.seq, .int .i64 x.r.E, .int .u64 x.r.Epoch, .int .u64 x.r.Index, v5, v6] ∧ Sl aD ρ v5 x.r.Gots ∧ Sl (dJ az) ρ v6 x.r.Scans ∧ (v5.oneCell' = true ∧ v6.oneCell' = true)
 len := by rintro ρ x cs ⟨v5, v6, rfl, h⟩; rfl
 mono := by rintro ρ ρ' x cs f ⟨v5, v6, rfl, h5, h6, h⟩; exact ⟨v5, v6, rfl, h5.mono f, h6.mono f, h⟩
 one := by rintro ρ x cs ⟨v5, v6, rfl, h5, h6, o5, o6⟩; exact (bP rfl (bP rfl (bP rfl (bP rfl (bP rfl (bP o5 (bP o6 jO)))))))
def jk : Ty dg where
 sz := 9
 rep := fun _ x cs => cs = [.int .u64 x.r.ID, .int .i64 x.r.From, .int .i64 x.r.To, .float .f64 x.r.Lo, .float .f64 x.r.Hi, .int .u64 x.r.Authority, .int .i64 x.r.Quota, .int .u64 x.from_, .int .u64 x.to_]
 len := by intro ρ x cs h; subst h; rfl
 mono := fun _ h => h
 one := by intro ρ x cs h; subst h; exact nH rfl
theorem By : jk.Flat := fun h => h
def cI : Ty bR where
 sz := 3
 rep := fun ρ x cs => ∃ v2 : Value, cs = [.float .f64 x.At, .bool x.Del, v2] ∧ Sl (cp .u8) ρ v2 x.Val ∧ (v2.oneCell' = true)
 len := by rintro ρ x cs ⟨v2, rfl, h⟩; rfl
 mono := by rintro ρ ρ' x cs f ⟨v2, rfl, h2, h⟩; exact ⟨v2, rfl, h2.mono f, h⟩
 one := by rintro ρ x cs ⟨v2, rfl, h2, o2⟩; exact (bP rfl (bP rfl (bP o2 jO)))
def cM : Ty ee where
 sz := 2
 rep := fun ρ x cs => ∃ v1 : Value, cs = [.int .i64 x.Shard, v1] ∧ Sl cI ρ v1 x.Writes ∧ (v1.oneCell' = true)
 len := by rintro ρ x cs ⟨v1, rfl, h⟩; rfl
 mono := by rintro ρ ρ' x cs f ⟨v1, rfl, h1, h⟩; exact ⟨v1, rfl, h1.mono f, h⟩
 one := by rintro ρ x cs ⟨v1, rfl, h1, o1⟩; exact (bP rfl (bP o1 jO))
def aM : Ty bC where
 sz := 7
 rep := fun ρ x cs => ∃ v6 : Value, cs = [.int .u64 x.ID.Session, .int .u64 x.ID.Seq, .int .i64 x.E, .int .u64 x.Epoch, .int .u64 x.Index, .int .u64 x.Shards, v6] ∧ Sl cM ρ v6 x.Parts ∧ (v6.oneCell' = true)
 len := by rintro ρ x cs ⟨v6, rfl, h⟩; rfl
 mono := by rintro ρ ρ' x cs f ⟨v6, rfl, h6, h⟩; exact ⟨v6, rfl, h6.mono f, h⟩
 one := by rintro ρ x cs ⟨v6, rfl, h6, o6⟩; exact (bP rfl (bP rfl (bP rfl (bP rfl (bP rfl (bP rfl (bP o6 jO)))))))
def cj : Ty cR where
 sz := 7
 rep := fun ρ x cs => ∃ v6 : Value, cs = [.int .i64 x.To, .int .u64 x.N, .int .u64 x.Rule, .int .u64 x.Epoch, .float .f64 x.W.At, .bool x.W.Del, v6] ∧ Sl (cp .u8) ρ v6 x.W.Val ∧ (v6.oneCell' = true)
 len := by rintro ρ x cs ⟨v6, rfl, h⟩; rfl
 mono := by rintro ρ ρ' x cs f ⟨v6, rfl, h6, h⟩; exact ⟨v6, rfl, h6.mono f, h⟩
 one := by rintro ρ x cs ⟨v6, rfl, h6, o6⟩; exact (bP rfl (bP rfl (bP rfl (bP rfl (bP rfl (bP rfl (bP o6 jO)))))))
def cJ : Ty cn where
 sz := 3
 rep := fun _ x cs => cs = [.int .u64 x.jT, .int .u64 x.epoch, .int .i64 x.n]
 len := by intro ρ x cs h; subst h; rfl
 mono := fun _ h => h
 one := by intro ρ x cs h; subst h; exact nH rfl
theorem BU : cJ.Flat := fun h => h
def cX : Ty aF where
 sz := 5
 rep := fun ρ x cs => ∃ v4 : Value, cs = [.float .f64 x.At, .int .u64 x.Epoch, .int .u64 x.Index, .bool x.Del, v4] ∧ Sl (cp .u8) ρ v4 x.Val ∧ (v4.oneCell' = true)
 len := by rintro ρ x cs ⟨v4, rfl, h⟩; rfl
 mono := by rintro ρ ρ' x cs f ⟨v4, rfl, h4, h⟩; exact ⟨v4, rfl, h4.mono f, h⟩
 one := by rintro ρ x cs ⟨v4, rfl, h4, o4⟩; exact (bP rfl (bP rfl (bP rfl (bP rfl (bP o4 jO)))))
def eC : Ty cw where
 sz := 7
 rep := fun ρ x cs => ∃ v5 v6 : Value, cs = [.int .u64 x.Session, .int .u64 x.Seq, .int .i64 x.R.E, .int .u64 x.R.Epoch, .int .u64 x.R.Index, v5, v6] ∧ Sl aD ρ v5 x.R.Gots ∧ Sl (dJ az) ρ v6 x.R.Scans ∧ (v5.oneCell' = true ∧ v6.oneCell' = true)
 len := by rintro ρ x cs ⟨v5, v6, rfl, h⟩; rfl
 mono := by rintro ρ ρ' x cs f ⟨v5, v6, rfl, h5, h6, h⟩; exact ⟨v5, v6, rfl, h5.mono f, h6.mono f, h⟩
 one := by rintro ρ x cs ⟨v5, v6, rfl, h5, h6, o5, o6⟩; exact (bP rfl (bP rfl (bP rfl (bP rfl (bP rfl (bP o5 (bP o6 jO)))))))
def dR : Ty cH where
 sz := 9
 rep := fun _ x cs => cs = [.int .u64 x.R.ID, .int .i64 x.R.From, .int .i64 x.R.To, .float .f64 x.R.Lo, .float .f64 x.R.Hi, .int .u64 x.R.Authority, .int .i64 x.R.Quota, .int .u64 x.From, .int .u64 x.To]
 len := by intro ρ x cs h; subst h; rfl
 mono := fun _ h => h
 one := by intro ρ x cs h; subst h; exact nH rfl
theorem Bz : dR.Flat := fun h => h
def dA : Ty dv where
 sz := 3
 rep := fun _ x cs => cs = [.int .u64 x.Rule, .int .u64 x.Epoch, .int .i64 x.N]
 len := by intro ρ x cs h; subst h; rfl
 mono := fun _ h => h
 one := by intro ρ x cs h; subst h; exact nH rfl
theorem BA : dA.Flat := fun h => h
def mg : Ty bO where
 sz := 2
 rep := fun _ x cs => cs = [.int .u64 x.Session, .int .u64 x.Seq]
 len := by intro ρ x cs h; subst h; rfl
 mono := fun _ h => h
 one := by intro ρ x cs h; subst h; exact nH rfl
theorem En : mg.Flat := fun h => h
def cL (pv : Value) (x : cP) : SP := exS fun b : Nat => exS fun v0 : Value => tv (fun I => pv = .pointer (some ⟨b, 0, none⟩)) (fun _ _ hI h => h) (star (cells b [v0]) (ql cq v0 x.rows))
theorem er {w0 w : World} {I : HL} {L : List SP} {R : SP} {pv : Value} {x : cP} (h : St w0 w I (cL pv x :: L) R) : ∃ (b : Nat) (v0 : Value), (pv = .pointer (some ⟨b, 0, none⟩)) ∧ St w0 w I (cells b [v0] :: ql cq v0 x.rows :: L) R := by
 obtain ⟨b, h⟩ := h.ex
 obtain ⟨v0, h⟩ := h.ex
 obtain ⟨h1, h⟩ := h.and
 replace h := h.merge.ag
 replace h := h.ag
 exact ⟨b, v0, h1, h⟩
theorem cQ {w0 w : World} {I : HL} {L : List SP} {R : SP} (pv : Value) (x : cP) {b : Nat} {v0 : Value} (h : St w0 w I (cells b [v0] :: ql cq v0 x.rows :: L) R) (h1 : pv = .pointer (some ⟨b, 0, none⟩)) : St w0 w I (cL pv x :: L) R := by
 replace h := h.ag
 replace h := h.ag.join
 exact St.nR b (St.nR v0 (h.uI h1))
theorem zb {w0 w : World} {I : HL} {L : List SP} {R : SP} {pv : Value} {x : Option cP} (h : St w0 w I (cF cL pv x :: L) R) : ∃ a : Option Addr, pv = .pointer a ∧ a.isNone = x.isNone := by
 cases x with
 | none => obtain ⟨e, _⟩ := nn h; exact ⟨none, e, rfl⟩
 | some y =>
  obtain ⟨b, v0, h1, _⟩ := er (bH h)
  exact ⟨_, h1, rfl⟩
def bT (pv : Value) (x : cg) : SP := exS fun b : Nat => exS fun v0 : Value => tv (fun I => pv = .pointer (some ⟨b, 0, none⟩)) (fun _ _ hI h => h) (star (cells b [v0]) (bg bt v0 x.l))
theorem dE {w0 w : World} {I : HL} {L : List SP} {R : SP} {pv : Value} {x : cg} (h : St w0 w I (bT pv x :: L) R) : ∃ (b : Nat) (v0 : Value), (pv = .pointer (some ⟨b, 0, none⟩)) ∧ St w0 w I (cells b [v0] :: bg bt v0 x.l :: L) R := by
 obtain ⟨b, h⟩ := h.ex
 obtain ⟨v0, h⟩ := h.ex
 obtain ⟨h1, h⟩ := h.and
 replace h := h.merge.ag
 replace h := h.ag
 exact ⟨b, v0, h1, h⟩
theorem dq {w0 w : World} {I : HL} {L : List SP} {R : SP} (pv : Value) (x : cg) {b : Nat} {v0 : Value} (h : St w0 w I (cells b [v0] :: bg bt v0 x.l :: L) R) (h1 : pv = .pointer (some ⟨b, 0, none⟩)) : St w0 w I (bT pv x :: L) R := by
 replace h := h.ag
 replace h := h.ag.join
 exact St.nR b (St.nR v0 (h.uI h1))
theorem yX {w0 w : World} {I : HL} {L : List SP} {R : SP} {pv : Value} {x : Option cg} (h : St w0 w I (cF bT pv x :: L) R) : ∃ a : Option Addr, pv = .pointer a ∧ a.isNone = x.isNone := by
 cases x with
 | none => obtain ⟨e, _⟩ := nn h; exact ⟨none, e, rfl⟩
 | some y =>
  obtain ⟨b, v0, h1, _⟩ := dE (bH h)
  exact ⟨_, h1, rfl⟩
def cd (pv : Value) (x : cm) : SP := exS fun b : Nat => exS fun v0 : Value => tv (fun I => pv = .pointer (some ⟨b, 0, none⟩)) (fun _ _ hI h => h) (star (cells b [v0]) (bg cS v0 x.l))
theorem dK {w0 w : World} {I : HL} {L : List SP} {R : SP} {pv : Value} {x : cm} (h : St w0 w I (cd pv x :: L) R) : ∃ (b : Nat) (v0 : Value), (pv = .pointer (some ⟨b, 0, none⟩)) ∧ St w0 w I (cells b [v0] :: bg cS v0 x.l :: L) R := by
 obtain ⟨b, h⟩ := h.ex
 obtain ⟨v0, h⟩ := h.ex
 obtain ⟨h1, h⟩ := h.and
 replace h := h.merge.ag
 replace h := h.ag
 exact ⟨b, v0, h1, h⟩
theorem cZ {w0 w : World} {I : HL} {L : List SP} {R : SP} (pv : Value) (x : cm) {b : Nat} {v0 : Value} (h : St w0 w I (cells b [v0] :: bg cS v0 x.l :: L) R) (h1 : pv = .pointer (some ⟨b, 0, none⟩)) : St w0 w I (cd pv x :: L) R := by
 replace h := h.ag
 replace h := h.ag.join
 exact St.nR b (St.nR v0 (h.uI h1))
theorem xx {w0 w : World} {I : HL} {L : List SP} {R : SP} {pv : Value} {x : Option cm} (h : St w0 w I (cF cd pv x :: L) R) : ∃ a : Option Addr, pv = .pointer a ∧ a.isNone = x.isNone := by
 cases x with
 | none => obtain ⟨e, _⟩ := nn h; exact ⟨none, e, rfl⟩
 | some y =>
  obtain ⟨b, v0, h1, _⟩ := dK (bH h)
  exact ⟨_, h1, rfl⟩
def cO (pv : Value) (x : cA) : SP := exS fun b : Nat => exS fun v0 : Value => tv (fun I => pv = .pointer (some ⟨b, 0, none⟩)) (fun _ _ hI h => h) (star (cells b [v0]) (bg jk v0 x.l))
theorem eH {w0 w : World} {I : HL} {L : List SP} {R : SP} {pv : Value} {x : cA} (h : St w0 w I (cO pv x :: L) R) : ∃ (b : Nat) (v0 : Value), (pv = .pointer (some ⟨b, 0, none⟩)) ∧ St w0 w I (cells b [v0] :: bg jk v0 x.l :: L) R := by
 obtain ⟨b, h⟩ := h.ex
 obtain ⟨v0, h⟩ := h.ex
 obtain ⟨h1, h⟩ := h.and
 replace h := h.merge.ag
 replace h := h.ag
 exact ⟨b, v0, h1, h⟩
theorem dc {w0 w : World} {I : HL} {L : List SP} {R : SP} (pv : Value) (x : cA) {b : Nat} {v0 : Value} (h : St w0 w I (cells b [v0] :: bg jk v0 x.l :: L) R) (h1 : pv = .pointer (some ⟨b, 0, none⟩)) : St w0 w I (cO pv x :: L) R := by
 replace h := h.ag
 replace h := h.ag.join
 exact St.nR b (St.nR v0 (h.uI h1))
theorem yV {w0 w : World} {I : HL} {L : List SP} {R : SP} {pv : Value} {x : Option cA} (h : St w0 w I (cF cO pv x :: L) R) : ∃ a : Option Addr, pv = .pointer a ∧ a.isNone = x.isNone := by
 cases x with
 | none => obtain ⟨e, _⟩ := nn h; exact ⟨none, e, rfl⟩
 | some y =>
  obtain ⟨b, v0, h1, _⟩ := eH (bH h)
  exact ⟨_, h1, rfl⟩
def aI (pv : Value) (x : ae) : SP := exS fun b : Nat => exS fun v2 : Value => exS fun v3 : Value => exS fun v4 : Value => exS fun v5 : Value => exS fun v6 : Value => exS fun v7 : Value => exS fun v8 : Value => tv (fun I => pv = .pointer (some ⟨b, 0, none⟩)) (fun _ _ hI h => h) (star (cells b [.int .i64 x.wide, .int .u64 x.epoch, v2, v3, v4, v5, v6, v7, v8]) (star (cF cL v2 x.store) ( star (cF bT v3 x.locks) ( star (cF cd v4 x.last) ( star (cF cO v5 x.book) ( star (bg aM v6 x.open_) ( star (bg cj v7 x.out) (bg cJ v8 x.used))))))))
theorem bi {w0 w : World} {I : HL} {L : List SP} {R : SP} {pv : Value} {x : ae} (h : St w0 w I (aI pv x :: L) R) : ∃ (b : Nat) (v2 : Value) (v3 : Value) (v4 : Value) (v5 : Value) (v6 : Value) (v7 : Value) (v8 : Value), (pv = .pointer (some ⟨b, 0, none⟩)) ∧ St w0 w I (cells b [.int .i64 x.wide, .int .u64 x.epoch, v2, v3, v4, v5, v6, v7, v8] :: cF cL v2 x.store :: cF bT v3 x.locks :: cF cd v4 x.last :: cF cO v5 x.book :: bg aM v6 x.open_ :: bg cj v7 x.out :: bg cJ v8 x.used :: L) R := by
 obtain ⟨b, h⟩ := h.ex
 obtain ⟨v2, h⟩ := h.ex
 obtain ⟨v3, h⟩ := h.ex
 obtain ⟨v4, h⟩ := h.ex
 obtain ⟨v5, h⟩ := h.ex
 obtain ⟨v6, h⟩ := h.ex
 obtain ⟨v7, h⟩ := h.ex
 obtain ⟨v8, h⟩ := h.ex
 obtain ⟨h1, h⟩ := h.and
 replace h := h.merge.ag
 replace h := h.merge.ag
 replace h := h.merge.ag
 replace h := h.merge.ag
 replace h := h.merge.ag
 replace h := h.merge.ag
 replace h := h.merge.ag
 replace h := h.ag
 replace h := h.aA
 replace h := h.au
 replace h := h.bf
 replace h := h.bc
 replace h := h.da
 replace h := h.aL
 exact ⟨b, v2, v3, v4, v5, v6, v7, v8, h1, h⟩
theorem av {w0 w : World} {I : HL} {L : List SP} {R : SP} (pv : Value) (x : ae) {b : Nat} {v2 : Value} {v3 : Value} {v4 : Value} {v5 : Value} {v6 : Value} {v7 : Value} {v8 : Value} (h : St w0 w I (cells b [.int .i64 x.wide, .int .u64 x.epoch, v2, v3, v4, v5, v6, v7, v8] :: cF cL v2 x.store :: cF bT v3 x.locks :: cF cd v4 x.last :: cF cO v5 x.book :: bg aM v6 x.open_ :: bg cj v7 x.out :: bg cJ v8 x.used :: L) R) (h1 : pv = .pointer (some ⟨b, 0, none⟩)) : St w0 w I (aI pv x :: L) R := by
 replace h := h.ag
 replace h := h.aA
 replace h := h.au
 replace h := h.bf
 replace h := h.bc
 replace h := h.da
 replace h := h.aL
 replace h := h.ag.join
 replace h := h.ag.join
 replace h := h.ag.join
 replace h := h.ag.join
 replace h := h.ag.join
 replace h := h.ag.join
 replace h := h.ag.join
 exact St.nR b (St.nR v2 (St.nR v3 (St.nR v4 (St.nR v5 (St.nR v6 (St.nR v7 (St.nR v8 (h.uI h1))))))))
theorem yZ {w0 w : World} {I : HL} {L : List SP} {R : SP} {pv : Value} {x : Option ae} (h : St w0 w I (cF aI pv x :: L) R) : ∃ a : Option Addr, pv = .pointer a ∧ a.isNone = x.isNone := by
 cases x with
 | none => obtain ⟨e, _⟩ := nn h; exact ⟨none, e, rfl⟩
 | some y =>
  obtain ⟨b, v2, v3, v4, v5, v6, v7, v8, h1, _⟩ := bi (bH h)
  exact ⟨_, h1, rfl⟩
def aR (pv : Value) (x : aj) : SP := exS fun b : Nat => exS fun v2 : Value => exS fun v3 : Value => exS fun v4 : Value => exS fun v5 : Value => exS fun v6 : Value => exS fun v7 : Value => exS fun v8 : Value => tv (fun I => pv = .pointer (some ⟨b, 0, none⟩) ∧ Ro cX I v2 x.V ∧ Ro bt I v3 x.H ∧ Ro eC I v4 x.A ∧ Ro dR I v5 x.B) (fun _ _ hI h => ⟨h.1, h.2.1.mono (ro_le hI), h.2.2.1.mono (ro_le hI), h.2.2.2.1.mono (ro_le hI), h.2.2.2.2.mono (ro_le hI)⟩) (star (cells b [.int .i64 x.Wide, .int .u64 x.Epoch, v2, v3, v4, v5, v6, v7, v8]) (star (bg aM v6 x.Open) ( star (bg cj v7 x.Out) (bg dA v8 x.Used))))
theorem bl {w0 w : World} {I : HL} {L : List SP} {R : SP} {pv : Value} {x : aj} (h : St w0 w I (aR pv x :: L) R) : ∃ (b : Nat) (v2 : Value) (v3 : Value) (v4 : Value) (v5 : Value) (v6 : Value) (v7 : Value) (v8 : Value), (pv = .pointer (some ⟨b, 0, none⟩) ∧ Ro cX I v2 x.V ∧ Ro bt I v3 x.H ∧ Ro eC I v4 x.A ∧ Ro dR I v5 x.B) ∧ St w0 w I (cells b [.int .i64 x.Wide, .int .u64 x.Epoch, v2, v3, v4, v5, v6, v7, v8] :: bg aM v6 x.Open :: bg cj v7 x.Out :: bg dA v8 x.Used :: L) R := by
 obtain ⟨b, h⟩ := h.ex
 obtain ⟨v2, h⟩ := h.ex
 obtain ⟨v3, h⟩ := h.ex
 obtain ⟨v4, h⟩ := h.ex
 obtain ⟨v5, h⟩ := h.ex
 obtain ⟨v6, h⟩ := h.ex
 obtain ⟨v7, h⟩ := h.ex
 obtain ⟨v8, h⟩ := h.ex
 obtain ⟨h1, h⟩ := h.and
 replace h := h.merge.ag
 replace h := h.merge.ag
 replace h := h.merge.ag
 replace h := h.ag
 replace h := h.aA
 replace h := h.au
 exact ⟨b, v2, v3, v4, v5, v6, v7, v8, h1, h⟩
theorem al {w0 w : World} {I : HL} {L : List SP} {R : SP} (pv : Value) (x : aj) {b : Nat} {v2 : Value} {v3 : Value} {v4 : Value} {v5 : Value} {v6 : Value} {v7 : Value} {v8 : Value} (h : St w0 w I (cells b [.int .i64 x.Wide, .int .u64 x.Epoch, v2, v3, v4, v5, v6, v7, v8] :: bg aM v6 x.Open :: bg cj v7 x.Out :: bg dA v8 x.Used :: L) R) (h1 : pv = .pointer (some ⟨b, 0, none⟩) ∧ Ro cX I v2 x.V ∧ Ro bt I v3 x.H ∧ Ro eC I v4 x.A ∧ Ro dR I v5 x.B) : St w0 w I (aR pv x :: L) R := by
 replace h := h.ag
 replace h := h.aA
 replace h := h.au
 replace h := h.ag.join
 replace h := h.ag.join
 replace h := h.ag.join
 exact St.nR b (St.nR v2 (St.nR v3 (St.nR v4 (St.nR v5 (St.nR v6 (St.nR v7 (St.nR v8 (h.uI h1))))))))
theorem ye {w0 w : World} {I : HL} {L : List SP} {R : SP} {pv : Value} {x : Option aj} (h : St w0 w I (cF aR pv x :: L) R) : ∃ a : Option Addr, pv = .pointer a ∧ a.isNone = x.isNone := by
 cases x with
 | none => obtain ⟨e, _⟩ := nn h; exact ⟨none, e, rfl⟩
 | some y =>
  obtain ⟨b, v2, v3, v4, v5, v6, v7, v8, h1, _⟩ := bl (bH h)
  exact ⟨_, h1.1, rfl⟩
def bG (pv : Value) (x : ao) : SP := exS fun b : Nat => exS fun v0 : Value => tv (fun I => pv = .pointer (some ⟨b, 0, none⟩) ∧ Ro (cp .u8) I v0 x.L) (fun _ _ hI h => ⟨h.1, h.2.mono (ro_le hI)⟩) (cells b [v0, .int .i64 x.I])
theorem pN {w0 w : World} {I : HL} {L : List SP} {R : SP} {pv : Value} {x : ao} (h : St w0 w I (bG pv x :: L) R) : ∃ (b : Nat) (v0 : Value), (pv = .pointer (some ⟨b, 0, none⟩) ∧ Ro (cp .u8) I v0 x.L) ∧ St w0 w I (cells b [v0, .int .i64 x.I] :: L) R := by
 obtain ⟨b, h⟩ := h.ex
 obtain ⟨v0, h⟩ := h.ex
 obtain ⟨h1, h⟩ := h.and
 exact ⟨b, v0, h1, h⟩
theorem mE {w0 w : World} {I : HL} {L : List SP} {R : SP} (pv : Value) (x : ao) {b : Nat} {v0 : Value} (h : St w0 w I (cells b [v0, .int .i64 x.I] :: L) R) (h1 : pv = .pointer (some ⟨b, 0, none⟩) ∧ Ro (cp .u8) I v0 x.L) : St w0 w I (bG pv x :: L) R := by
 exact St.nR b (St.nR v0 (h.uI h1))
theorem za {w0 w : World} {I : HL} {L : List SP} {R : SP} {pv : Value} {x : Option ao} (h : St w0 w I (cF bG pv x :: L) R) : ∃ a : Option Addr, pv = .pointer a ∧ a.isNone = x.isNone := by
 cases x with
 | none => obtain ⟨e, _⟩ := nn h; exact ⟨none, e, rfl⟩
 | some y =>
  obtain ⟨b, v0, h1, _⟩ := pN (bH h)
  exact ⟨_, h1.1, rfl⟩
def oL (pv : Value) (x : ca) : SP := exS fun b : Nat => exS fun v0 : Value => tv (fun I => pv = .pointer (some ⟨b, 0, none⟩) ∧ Ro (cp .u8) I v0 x.p) (fun _ _ hI h => ⟨h.1, h.2.mono (ro_le hI)⟩) (cells b [v0, .bool x.bad])
theorem rY {w0 w : World} {I : HL} {L : List SP} {R : SP} {pv : Value} {x : ca} (h : St w0 w I (oL pv x :: L) R) : ∃ (b : Nat) (v0 : Value), (pv = .pointer (some ⟨b, 0, none⟩) ∧ Ro (cp .u8) I v0 x.p) ∧ St w0 w I (cells b [v0, .bool x.bad] :: L) R := by
 obtain ⟨b, h⟩ := h.ex
 obtain ⟨v0, h⟩ := h.ex
 obtain ⟨h1, h⟩ := h.and
 exact ⟨b, v0, h1, h⟩
theorem ya {w0 w : World} {I : HL} {L : List SP} {R : SP} (pv : Value) (x : ca) {b : Nat} {v0 : Value} (h : St w0 w I (cells b [v0, .bool x.bad] :: L) R) (h1 : pv = .pointer (some ⟨b, 0, none⟩) ∧ Ro (cp .u8) I v0 x.p) : St w0 w I (oL pv x :: L) R := by
 exact St.nR b (St.nR v0 (h.uI h1))
theorem yb {w0 w : World} {I : HL} {L : List SP} {R : SP} {pv : Value} {x : Option ca} (h : St w0 w I (cF oL pv x :: L) R) : ∃ a : Option Addr, pv = .pointer a ∧ a.isNone = x.isNone := by
 cases x with
 | none => obtain ⟨e, _⟩ := nn h; exact ⟨none, e, rfl⟩
 | some y =>
  obtain ⟨b, v0, h1, _⟩ := rY (bH h)
  exact ⟨_, h1.1, rfl⟩
theorem oZ : oP Tryz.prog bY 43 37 Tryz.t37 (.float .f64 0) := ⟨Tryz.underlying43, by kernel_rfl, rfl, rfl, rfl, by decide⟩
theorem AB : oP Tryz.prog gB 44 80 Tryz.t80 (.agg #[.float .f64 0, .float .f64 0]) := ⟨Tryz.underlying44, by kernel_rfl, rfl, rfl, rfl, by decide⟩
theorem uV : oP Tryz.prog (cp .u8) 22 5 Tryz.t5 (.int .u8 0) := ⟨Tryz.underlying22, by kernel_rfl, rfl, rfl, rfl, by decide⟩
theorem qw : oP Tryz.prog bt 125 46 Tryz.t46 (.agg #[.int .u64 0, .int .u64 0, .int .u64 0, .slice none 0 0, .slice none 0 0, .slice none 0 0, .slice none 0 0]) := ⟨Tryz.underlying125, by kernel_rfl, rfl, rfl, rfl, by decide⟩
theorem xX : oP Tryz.prog aD 30 61 Tryz.t61 (.agg #[.bool false, .slice none 0 0]) := ⟨Tryz.underlying30, by kernel_rfl, rfl, rfl, rfl, by decide⟩
theorem xv : oP Tryz.prog az 81 152 Tryz.t152 (.agg #[.float .f64 0, .slice none 0 0]) := ⟨Tryz.underlying81, by kernel_rfl, rfl, rfl, rfl, by decide⟩
theorem xI : oP Tryz.prog (dJ az) 31 81 Tryz.t81 (.slice none 0 0) := ⟨Tryz.underlying31, by kernel_rfl, rfl, rfl, rfl, by decide⟩
theorem xe : oP Tryz.prog (lL 2) 199 240 Tryz.t240 (.agg #[.int .u64 0, .slice none 0 0]) := ⟨Tryz.underlying199, by kernel_rfl, rfl, rfl, rfl, by decide⟩
theorem yH : oP Tryz.prog cr 238 214 Tryz.t214 (.agg #[.int .u64 0, .int .u64 0, .bool false, .slice none 0 0]) := ⟨Tryz.underlying238, by kernel_rfl, rfl, rfl, rfl, by decide⟩
theorem yu : oP Tryz.prog cS 204 242 Tryz.t242 (.agg #[.int .u64 0, .int .u64 0, .int .i64 0, .int .u64 0, .int .u64 0, .slice none 0 0, .slice none 0 0]) := ⟨Tryz.underlying204, by kernel_rfl, rfl, rfl, rfl, by decide⟩
theorem zW : oP Tryz.prog cM 47 156 Tryz.t156 (.agg #[.int .i64 0, .slice none 0 0]) := ⟨Tryz.underlying47, by kernel_rfl, rfl, rfl, rfl, by decide⟩
theorem sE : oP Tryz.prog aM 65 89 Tryz.t89 (.agg #[.int .u64 0, .int .u64 0, .int .i64 0, .int .u64 0, .int .u64 0, .int .u64 0, .slice none 0 0]) := ⟨Tryz.underlying65, by kernel_rfl, rfl, rfl, rfl, by decide⟩
theorem Ct : oP Tryz.prog jk 207 224 Tryz.t224 (.agg #[.int .u64 0, .int .i64 0, .int .i64 0, .float .f64 0, .float .f64 0, .int .u64 0, .int .i64 0, .int .u64 0, .int .u64 0]) := ⟨Tryz.underlying207, by kernel_rfl, rfl, rfl, rfl, by decide⟩
theorem yW : oP Tryz.prog cJ 109 189 Tryz.t189 (.agg #[.int .u64 0, .int .u64 0, .int .i64 0]) := ⟨Tryz.underlying109, by kernel_rfl, rfl, rfl, rfl, by decide⟩
theorem sH : oP Tryz.prog cj 50 53 Tryz.t53 (.agg #[.int .i64 0, .int .u64 0, .int .u64 0, .int .u64 0, .float .f64 0, .bool false, .slice none 0 0]) := ⟨Tryz.underlying50, by kernel_rfl, rfl, rfl, rfl, by decide⟩
theorem DK : oP Tryz.prog cI 42 41 Tryz.t41 (.agg #[.float .f64 0, .bool false, .slice none 0 0]) := ⟨Tryz.underlying42, by kernel_rfl, rfl, rfl, rfl, by decide⟩
theorem uc : oP Tryz.prog cX 124 139 Tryz.t139 (.agg #[.float .f64 0, .int .u64 0, .int .u64 0, .bool false, .slice none 0 0]) := ⟨Tryz.underlying124, by kernel_rfl, rfl, rfl, rfl, by decide⟩
theorem CP : oP Tryz.prog eC 126 164 Tryz.t164 (.agg #[.int .u64 0, .int .u64 0, .int .i64 0, .int .u64 0, .int .u64 0, .slice none 0 0, .slice none 0 0]) := ⟨Tryz.underlying126, by kernel_rfl, rfl, rfl, rfl, by decide⟩
theorem yD : oP Tryz.prog dR 127 144 Tryz.t144 (.agg #[.int .u64 0, .int .i64 0, .int .i64 0, .float .f64 0, .float .f64 0, .int .u64 0, .int .i64 0, .int .u64 0, .int .u64 0]) := ⟨Tryz.underlying127, by kernel_rfl, rfl, rfl, rfl, by decide⟩
theorem yN : oP Tryz.prog dA 128 249 Tryz.t249 (.agg #[.int .u64 0, .int .u64 0, .int .i64 0]) := ⟨Tryz.underlying128, by kernel_rfl, rfl, rfl, rfl, by decide⟩
theorem Dg : oP Tryz.prog mg 159 28 Tryz.t28 (.agg #[.int .u64 0, .int .u64 0]) := ⟨Tryz.underlying159, by kernel_rfl, rfl, rfl, rfl, by decide⟩
end Go.Proofs.YtgnkkopjkgdieaaGreat
