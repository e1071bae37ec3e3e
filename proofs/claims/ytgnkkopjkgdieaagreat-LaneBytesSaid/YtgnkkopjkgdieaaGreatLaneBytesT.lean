/- A part of the proof. -/
import Derived.Test.YtgnkkopjkgdieaaGreatLaneBytesM
import Derived.Test.YtgnkkopjkgdieaaGreatProg
import Derived.Test.YtgnkkopjkgdieaaGreatLaneBytesGw
set_option linter.unusedVariables false
set_option linter.unusedSimpArgs false
set_option maxRecDepth 100000
set_option maxHeartbeats 4000000
namespace Go.Proofs.YtgnkkopjkgdieaaGreat
open Go Go.V
theorem mixed:Tryz.prog.follows .mixedOrders=true:=by kernel_rfl
def cD:Ty bf where
 sz := 4
 rep := fun ρ x cs=>∃ v3:Value,cs=[.int .u64 x.ae,.int .u64 x.Index,.bool x.Del,v3]∧Sl (cr .u8) ρ v3 x.Val∧(v3.oneCell'=true)
 len := by rintro ρ x cs ⟨v3,rfl,h⟩; rfl
 mono := by rintro ρ ρ' x cs f ⟨v3,rfl,h3,h⟩; exact ⟨v3,rfl,h3.mono f,h⟩
 one := by rintro ρ x cs ⟨v3,rfl,h3,o3⟩; exact (cM rfl (cM rfl (cM rfl (cM o3 lZ))))
def DO:Ty bW where
 sz := 2
 rep := fun ρ x cs=>∃ v1:Value,cs=[.int .u64 x.eW,v1]∧Sl cD ρ v1 x.l∧(v1.oneCell'=true)
 len := by rintro ρ x cs ⟨v1,rfl,h⟩; rfl
 mono := by rintro ρ ρ' x cs f ⟨v1,rfl,h1,h⟩; exact ⟨v1,rfl,h1.mono f,h⟩
 one := by rintro ρ x cs ⟨v1,rfl,h1,o1⟩; exact (cM rfl (cM o1 lZ))
def cq:xC bW where
 β := bf
 E := cD
 f := fun x=>x.l
 mc := fun x u=>[.int .u64 x.eW,u]
 sz := 2
 fo := 1
 upd := fun x ys=>{x with l:=ys}
 hfo := by decide
 len := fun _ _=>rfl
 one := fun x u h=>(cM rfl (cM h lZ))
 Dd := fun _ _ _=>rfl
 fu := fun _ _=>rfl
 mu := fun _ _ _=>rfl
 uu := fun _=>rfl
theorem Ho (ρ:Rho) (x:bW) (u:Value) (h:Sl cD ρ u x.l) (o:u.oneCell'=true):DO.rep ρ x (cq.mc x u):=⟨u,rfl,h,o⟩
def bZ:Ty aw where
 sz := 7
 rep := fun ρ x cs=>∃ v3 v4 v5 v6:Value,cs=[.int .u64 x.ID.ab,.int .u64 x.ID.Seq,.int .u64 x.ae,v3,v4,v5,v6]∧Sl cp ρ v3 x.dO∧Sl fU ρ v4 x.aX∧Sl cp ρ v5 x.dD∧Sl (cr .u8) ρ v6 x.Data∧(v3.oneCell'=true∧v4.oneCell'=true∧v5.oneCell'=true∧v6.oneCell'=true)
 len := by rintro ρ x cs ⟨v3,v4,v5,v6,rfl,h⟩; rfl
 mono := by rintro ρ ρ' x cs f ⟨v3,v4,v5,v6,rfl,h3,h4,h5,h6,h⟩; exact ⟨v3,v4,v5,v6,rfl,h3.mono f,h4.mono f,h5.mono f,h6.mono f,h⟩
 one := by rintro ρ x cs ⟨v3,v4,v5,v6,rfl,h3,h4,h5,h6,o3,o4,o5,o6⟩; exact (cM rfl (cM rfl (cM rfl (cM o3 (cM o4 (cM o5 (cM o6 lZ)))))))
def aK:Ty cC where
 sz := 2
 rep := fun ρ x cs=>∃ v1:Value,cs=[.bool x.Has,v1]∧Sl (cr .u8) ρ v1 x.Val∧(v1.oneCell'=true)
 len := by rintro ρ x cs ⟨v1,rfl,h⟩; rfl
 mono := by rintro ρ ρ' x cs f ⟨v1,rfl,h1,h⟩; exact ⟨v1,rfl,h1.mono f,h⟩
 one := by rintro ρ x cs ⟨v1,rfl,h1,o1⟩; exact (cM rfl (cM o1 lZ))
def aH:Ty bP where
 sz := 2
 rep := fun ρ x cs=>∃ v1:Value,cs=[.float .f64 x.At,v1]∧Sl (cr .u8) ρ v1 x.Val∧(v1.oneCell'=true)
 len := by rintro ρ x cs ⟨v1,rfl,h⟩; rfl
 mono := by rintro ρ ρ' x cs f ⟨v1,rfl,h1,h⟩; exact ⟨v1,rfl,h1.mono f,h⟩
 one := by rintro ρ x cs ⟨v1,rfl,h1,o1⟩; exact (cM rfl (cM o1 lZ))
def dF:Ty aZ where
 sz := 7
 rep := fun ρ x cs=>∃ v5 v6:Value,cs=[.int .u64 x.cV,.int .u64 x.seq,.int .i64 x.r.E,.int .u64 x.r.ae,.int .u64 x.r.Index,v5,v6]∧Sl aK ρ v5 x.r.dT∧Sl (eC aH) ρ v6 x.r.aX∧(v5.oneCell'=true∧v6.oneCell'=true)
 len := by rintro ρ x cs ⟨v5,v6,rfl,h⟩; rfl
 mono := by rintro ρ ρ' x cs f ⟨v5,v6,rfl,h5,h6,h⟩; exact ⟨v5,v6,rfl,h5.mono f,h6.mono f,h⟩
 one := by rintro ρ x cs ⟨v5,v6,rfl,h5,h6,o5,o6⟩; exact (cM rfl (cM rfl (cM rfl (cM rfl (cM rfl (cM o5 (cM o6 lZ)))))))
def jR:Ty dj where
 sz := 9
 rep := fun _ x cs=>cs=[.int .u64 x.r.ID,.int .i64 x.r.dn,.int .i64 x.r.To,.float .f64 x.r.Lo,.float .f64 x.r.Hi,.int .u64 x.r.Authority,.int .i64 x.r.cx,.int .u64 x.from_,.int .u64 x.to_]
 len := by intro ρ x cs h; subst h; rfl
 mono := fun _ h=>h
 one := by intro ρ x cs h; subst h; exact qR rfl
theorem Hb:jR.Flat:=fun h=>h
def cG:Ty bK where
 sz := 3
 rep := fun ρ x cs=>∃ v2:Value,cs=[.float .f64 x.At,.bool x.Del,v2]∧Sl (cr .u8) ρ v2 x.Val∧(v2.oneCell'=true)
 len := by rintro ρ x cs ⟨v2,rfl,h⟩; rfl
 mono := by rintro ρ ρ' x cs f ⟨v2,rfl,h2,h⟩; exact ⟨v2,rfl,h2.mono f,h⟩
 one := by rintro ρ x cs ⟨v2,rfl,h2,o2⟩; exact (cM rfl (cM rfl (cM o2 lZ)))
def cN:Ty dN where
 sz := 2
 rep := fun ρ x cs=>∃ v1:Value,cs=[.int .i64 x.oD,v1]∧Sl cG ρ v1 x.cw∧(v1.oneCell'=true)
 len := by rintro ρ x cs ⟨v1,rfl,h⟩; rfl
 mono := by rintro ρ ρ' x cs f ⟨v1,rfl,h1,h⟩; exact ⟨v1,rfl,h1.mono f,h⟩
 one := by rintro ρ x cs ⟨v1,rfl,h1,o1⟩; exact (cM rfl (cM o1 lZ))
def bc:Ty bI where
 sz := 7
 rep := fun ρ x cs=>∃ v6:Value,cs=[.int .u64 x.ID.ab,.int .u64 x.ID.Seq,.int .i64 x.E,.int .u64 x.ae,.int .u64 x.Index,.int .u64 x.bY,v6]∧Sl cN ρ v6 x.dM∧(v6.oneCell'=true)
 len := by rintro ρ x cs ⟨v6,rfl,h⟩; rfl
 mono := by rintro ρ ρ' x cs f ⟨v6,rfl,h6,h⟩; exact ⟨v6,rfl,h6.mono f,h⟩
 one := by rintro ρ x cs ⟨v6,rfl,h6,o6⟩; exact (cM rfl (cM rfl (cM rfl (cM rfl (cM rfl (cM rfl (cM o6 lZ)))))))
def cL:Ty dw where
 sz := 7
 rep := fun ρ x cs=>∃ v6:Value,cs=[.int .i64 x.To,.int .u64 x.N,.int .u64 x.ap,.int .u64 x.ae,.float .f64 x.W.At,.bool x.W.Del,v6]∧Sl (cr .u8) ρ v6 x.W.Val∧(v6.oneCell'=true)
 len := by rintro ρ x cs ⟨v6,rfl,h⟩; rfl
 mono := by rintro ρ ρ' x cs f ⟨v6,rfl,h6,h⟩; exact ⟨v6,rfl,h6.mono f,h⟩
 one := by rintro ρ x cs ⟨v6,rfl,h6,o6⟩; exact (cM rfl (cM rfl (cM rfl (cM rfl (cM rfl (cM rfl (cM o6 lZ)))))))
def db:Ty da where
 sz := 3
 rep := fun _ x cs=>cs=[.int .u64 x.jW,.int .u64 x.cI,.int .i64 x.n]
 len := by intro ρ x cs h; subst h; rfl
 mono := fun _ h=>h
 one := by intro ρ x cs h; subst h; exact qR rfl
theorem Jk:db.Flat:=fun h=>h
def dK:Ty aP where
 sz := 5
 rep := fun ρ x cs=>∃ v4:Value,cs=[.float .f64 x.At,.int .u64 x.ae,.int .u64 x.Index,.bool x.Del,v4]∧Sl (cr .u8) ρ v4 x.Val∧(v4.oneCell'=true)
 len := by rintro ρ x cs ⟨v4,rfl,h⟩; rfl
 mono := by rintro ρ ρ' x cs f ⟨v4,rfl,h4,h⟩; exact ⟨v4,rfl,h4.mono f,h⟩
 one := by rintro ρ x cs ⟨v4,rfl,h4,o4⟩; exact (cM rfl (cM rfl (cM rfl (cM rfl (cM o4 lZ)))))
def fK:Ty dg where
 sz := 7
 rep := fun ρ x cs=>∃ v5 v6:Value,cs=[.int .u64 x.ab,.int .u64 x.Seq,.int .i64 x.R.E,.int .u64 x.R.ae,.int .u64 x.R.Index,v5,v6]∧Sl aK ρ v5 x.R.dT∧Sl (eC aH) ρ v6 x.R.aX∧(v5.oneCell'=true∧v6.oneCell'=true)
 len := by rintro ρ x cs ⟨v5,v6,rfl,h⟩; rfl
 mono := by rintro ρ ρ' x cs f ⟨v5,v6,rfl,h5,h6,h⟩; exact ⟨v5,v6,rfl,h5.mono f,h6.mono f,h⟩
 one := by rintro ρ x cs ⟨v5,v6,rfl,h5,h6,o5,o6⟩; exact (cM rfl (cM rfl (cM rfl (cM rfl (cM rfl (cM o5 (cM o6 lZ)))))))
def fi:Ty dz where
 sz := 9
 rep := fun _ x cs=>cs=[.int .u64 x.R.ID,.int .i64 x.R.dn,.int .i64 x.R.To,.float .f64 x.R.Lo,.float .f64 x.R.Hi,.int .u64 x.R.Authority,.int .i64 x.R.cx,.int .u64 x.dn,.int .u64 x.To]
 len := by intro ρ x cs h; subst h; rfl
 mono := fun _ h=>h
 one := by intro ρ x cs h; subst h; exact qR rfl
theorem HJ:fi.Flat:=fun h=>h
def eL:Ty eO where
 sz := 3
 rep := fun _ x cs=>cs=[.int .u64 x.ap,.int .u64 x.ae,.int .i64 x.N]
 len := by intro ρ x cs h; subst h; rfl
 mono := fun _ h=>h
 one := by intro ρ x cs h; subst h; exact qR rfl
theorem HI:eL.Flat:=fun h=>h
def pA:Ty cy where
 sz := 2
 rep := fun _ x cs=>cs=[.int .u64 x.ab,.int .u64 x.Seq]
 len := by intro ρ x cs h; subst h; rfl
 mono := fun _ h=>h
 one := by intro ρ x cs h; subst h; exact qR rfl
theorem Lg:pA.Flat:=fun h=>h
def cA (pv:Value) (x:cn):SP:=exS fun b:Nat=>exS fun v0:Value=>xy (fun I=>pv = .pointer (some ⟨b,0,none⟩)) (fun _ _ hI h=>h) (star (cells b [v0]) (sR cq v0 x.rows))
theorem ec {w0 w:World} {I:HL} {L:List SP} {R:SP} {pv:Value} {x:cn} (h:St w0 w I (cA pv x::L) R):∃ (b:Nat) (v0:Value),(pv = .pointer (some ⟨b,0,none⟩))∧St w0 w I (cells b [v0]::sR cq v0 x.rows::L) R:=by
 obtain ⟨b,h⟩:=h.ex
 obtain ⟨v0,h⟩:=h.ex
 obtain ⟨h1,h⟩:=h.and
 replace h:=h.merge.ah
 replace h:=h.ah
 exact ⟨b,v0,h1,h⟩
theorem cY {w0 w:World} {I:HL} {L:List SP} {R:SP} (pv:Value) (x:cn) {b:Nat} {v0:Value} (h:St w0 w I (cells b [v0]::sR cq v0 x.rows::L) R) (h1:pv = .pointer (some ⟨b,0,none⟩)):St w0 w I (cA pv x::L) R:=by
 replace h:=h.ah
 replace h:=h.ah.join
 exact St.qN b (St.qN v0 (h.yU h1))
theorem EA {w0 w:World} {I:HL} {L:List SP} {R:SP} {pv:Value} {x:Option cn} (h:St w0 w I (cX cA pv x::L) R):∃ a:Option Addr,pv = .pointer a∧a.isNone=x.isNone:=by
 cases x with
 | none=>obtain ⟨e,_⟩:=pG h; exact ⟨none,e,rfl⟩
 | some y =>
  obtain ⟨b,v0,h1,_⟩:=ec (bQ h)
  exact ⟨_,h1,rfl⟩
def cb (pv:Value) (x:bN):SP:=exS fun b:Nat=>exS fun v0:Value=>xy (fun I=>pv = .pointer (some ⟨b,0,none⟩)) (fun _ _ hI h=>h) (star (cells b [v0]) (bp bZ v0 x.l))
theorem dP {w0 w:World} {I:HL} {L:List SP} {R:SP} {pv:Value} {x:bN} (h:St w0 w I (cb pv x::L) R):∃ (b:Nat) (v0:Value),(pv = .pointer (some ⟨b,0,none⟩))∧St w0 w I (cells b [v0]::bp bZ v0 x.l::L) R:=by
 obtain ⟨b,h⟩:=h.ex
 obtain ⟨v0,h⟩:=h.ex
 obtain ⟨h1,h⟩:=h.and
 replace h:=h.merge.ah
 replace h:=h.ah
 exact ⟨b,v0,h1,h⟩
theorem dt {w0 w:World} {I:HL} {L:List SP} {R:SP} (pv:Value) (x:bN) {b:Nat} {v0:Value} (h:St w0 w I (cells b [v0]::bp bZ v0 x.l::L) R) (h1:pv = .pointer (some ⟨b,0,none⟩)):St w0 w I (cb pv x::L) R:=by
 replace h:=h.ah
 replace h:=h.ah.join
 exact St.qN b (St.qN v0 (h.yU h1))
theorem DW {w0 w:World} {I:HL} {L:List SP} {R:SP} {pv:Value} {x:Option bN} (h:St w0 w I (cX cb pv x::L) R):∃ a:Option Addr,pv = .pointer a∧a.isNone=x.isNone:=by
 cases x with
 | none=>obtain ⟨e,_⟩:=pG h; exact ⟨none,e,rfl⟩
 | some y =>
  obtain ⟨b,v0,h1,_⟩:=dP (bQ h)
  exact ⟨_,h1,rfl⟩
def bV (pv:Value) (x:bE):SP:=exS fun b:Nat=>exS fun v0:Value=>xy (fun I=>pv = .pointer (some ⟨b,0,none⟩)) (fun _ _ hI h=>h) (star (cells b [v0]) (bp dF v0 x.l))
theorem dJ {w0 w:World} {I:HL} {L:List SP} {R:SP} {pv:Value} {x:bE} (h:St w0 w I (bV pv x::L) R):∃ (b:Nat) (v0:Value),(pv = .pointer (some ⟨b,0,none⟩))∧St w0 w I (cells b [v0]::bp dF v0 x.l::L) R:=by
 obtain ⟨b,h⟩:=h.ex
 obtain ⟨v0,h⟩:=h.ex
 obtain ⟨h1,h⟩:=h.and
 replace h:=h.merge.ah
 replace h:=h.ah
 exact ⟨b,v0,h1,h⟩
theorem cQ {w0 w:World} {I:HL} {L:List SP} {R:SP} (pv:Value) (x:bE) {b:Nat} {v0:Value} (h:St w0 w I (cells b [v0]::bp dF v0 x.l::L) R) (h1:pv = .pointer (some ⟨b,0,none⟩)):St w0 w I (bV pv x::L) R:=by
 replace h:=h.ah
 replace h:=h.ah.join
 exact St.qN b (St.qN v0 (h.yU h1))
theorem CU {w0 w:World} {I:HL} {L:List SP} {R:SP} {pv:Value} {x:Option bE} (h:St w0 w I (cX bV pv x::L) R):∃ a:Option Addr,pv = .pointer a∧a.isNone=x.isNone:=by
 cases x with
 | none=>obtain ⟨e,_⟩:=pG h; exact ⟨none,e,rfl⟩
 | some y =>
  obtain ⟨b,v0,h1,_⟩:=dJ (bQ h)
  exact ⟨_,h1,rfl⟩
def cH (pv:Value) (x:cg):SP:=exS fun b:Nat=>exS fun v0:Value=>xy (fun I=>pv = .pointer (some ⟨b,0,none⟩)) (fun _ _ hI h=>h) (star (cells b [v0]) (bp jR v0 x.l))
theorem eF {w0 w:World} {I:HL} {L:List SP} {R:SP} {pv:Value} {x:cg} (h:St w0 w I (cH pv x::L) R):∃ (b:Nat) (v0:Value),(pv = .pointer (some ⟨b,0,none⟩))∧St w0 w I (cells b [v0]::bp jR v0 x.l::L) R:=by
 obtain ⟨b,h⟩:=h.ex
 obtain ⟨v0,h⟩:=h.ex
 obtain ⟨h1,h⟩:=h.and
 replace h:=h.merge.ah
 replace h:=h.ah
 exact ⟨b,v0,h1,h⟩
theorem dk {w0 w:World} {I:HL} {L:List SP} {R:SP} (pv:Value) (x:cg) {b:Nat} {v0:Value} (h:St w0 w I (cells b [v0]::bp jR v0 x.l::L) R) (h1:pv = .pointer (some ⟨b,0,none⟩)):St w0 w I (cH pv x::L) R:=by
 replace h:=h.ah
 replace h:=h.ah.join
 exact St.qN b (St.qN v0 (h.yU h1))
theorem Dq {w0 w:World} {I:HL} {L:List SP} {R:SP} {pv:Value} {x:Option cg} (h:St w0 w I (cX cH pv x::L) R):∃ a:Option Addr,pv = .pointer a∧a.isNone=x.isNone:=by
 cases x with
 | none=>obtain ⟨e,_⟩:=pG h; exact ⟨none,e,rfl⟩
 | some y =>
  obtain ⟨b,v0,h1,_⟩:=eF (bQ h)
  exact ⟨_,h1,rfl⟩
def aM (pv:Value) (x:ai):SP:=exS fun b:Nat=>exS fun v2:Value=>exS fun v3:Value=>exS fun v4:Value=>exS fun v5:Value=>exS fun v6:Value=>exS fun v7:Value=>exS fun v8:Value=>xy (fun I=>pv = .pointer (some ⟨b,0,none⟩)) (fun _ _ hI h=>h) (star (cells b [.int .i64 x.wide,.int .u64 x.cI,v2,v3,v4,v5,v6,v7,v8]) (star (cX cA v2 x.store) ( star (cX cb v3 x.ft) ( star (cX bV v4 x.last) ( star (cX cH v5 x.book) ( star (bp bc v6 x.open_) ( star (bp cL v7 x.out) (bp db v8 x.used))))))))
theorem bC {w0 w:World} {I:HL} {L:List SP} {R:SP} {pv:Value} {x:ai} (h:St w0 w I (aM pv x::L) R):∃ (b:Nat) (v2:Value) (v3:Value) (v4:Value) (v5:Value) (v6:Value) (v7:Value) (v8:Value),(pv = .pointer (some ⟨b,0,none⟩))∧St w0 w I (cells b [.int .i64 x.wide,.int .u64 x.cI,v2,v3,v4,v5,v6,v7,v8]::cX cA v2 x.store::cX cb v3 x.ft::cX bV v4 x.last::cX cH v5 x.book::bp bc v6 x.open_::bp cL v7 x.out::bp db v8 x.used::L) R:=by
 obtain ⟨b,h⟩:=h.ex
 obtain ⟨v2,h⟩:=h.ex
 obtain ⟨v3,h⟩:=h.ex
 obtain ⟨v4,h⟩:=h.ex
 obtain ⟨v5,h⟩:=h.ex
 obtain ⟨v6,h⟩:=h.ex
 obtain ⟨v7,h⟩:=h.ex
 obtain ⟨v8,h⟩:=h.ex
 obtain ⟨h1,h⟩:=h.and
 replace h:=h.merge.ah
 replace h:=h.merge.ah
 replace h:=h.merge.ah
 replace h:=h.merge.ah
 replace h:=h.merge.ah
 replace h:=h.merge.ah
 replace h:=h.merge.ah
 replace h:=h.ah
 replace h:=h.aD
 replace h:=h.aA
 replace h:=h.bj
 replace h:=h.bq
 replace h:=h.de
 replace h:=h.aW
 exact ⟨b,v2,v3,v4,v5,v6,v7,v8,h1,h⟩
theorem aF {w0 w:World} {I:HL} {L:List SP} {R:SP} (pv:Value) (x:ai) {b:Nat} {v2:Value} {v3:Value} {v4:Value} {v5:Value} {v6:Value} {v7:Value} {v8:Value} (h:St w0 w I (cells b [.int .i64 x.wide,.int .u64 x.cI,v2,v3,v4,v5,v6,v7,v8]::cX cA v2 x.store::cX cb v3 x.ft::cX bV v4 x.last::cX cH v5 x.book::bp bc v6 x.open_::bp cL v7 x.out::bp db v8 x.used::L) R) (h1:pv = .pointer (some ⟨b,0,none⟩)):St w0 w I (aM pv x::L) R:=by
 replace h:=h.ah
 replace h:=h.aD
 replace h:=h.aA
 replace h:=h.bj
 replace h:=h.bq
 replace h:=h.de
 replace h:=h.aW
 replace h:=h.ah.join
 replace h:=h.ah.join
 replace h:=h.ah.join
 replace h:=h.ah.join
 replace h:=h.ah.join
 replace h:=h.ah.join
 replace h:=h.ah.join
 exact St.qN b (St.qN v2 (St.qN v3 (St.qN v4 (St.qN v5 (St.qN v6 (St.qN v7 (St.qN v8 (h.yU h1))))))))
theorem EB {w0 w:World} {I:HL} {L:List SP} {R:SP} {pv:Value} {x:Option ai} (h:St w0 w I (cX aM pv x::L) R):∃ a:Option Addr,pv = .pointer a∧a.isNone=x.isNone:=by
 cases x with
 | none=>obtain ⟨e,_⟩:=pG h; exact ⟨none,e,rfl⟩
 | some y =>
  obtain ⟨b,v2,v3,v4,v5,v6,v7,v8,h1,_⟩:=bC (bQ h)
  exact ⟨_,h1,rfl⟩
def bm (pv:Value) (x:aq):SP:=exS fun b:Nat=>exS fun v2:Value=>exS fun v3:Value=>exS fun v4:Value=>exS fun v5:Value=>exS fun v6:Value=>exS fun v7:Value=>exS fun v8:Value=>xy (fun I=>pv = .pointer (some ⟨b,0,none⟩)∧Ro dK I v2 x.V∧Ro bZ I v3 x.H∧Ro fK I v4 x.A∧Ro fi I v5 x.B) (fun _ _ hI h=>⟨h.1,h.2.1.mono (ro_le hI),h.2.2.1.mono (ro_le hI),h.2.2.2.1.mono (ro_le hI),h.2.2.2.2.mono (ro_le hI)⟩) (star (cells b [.int .i64 x.zJ,.int .u64 x.ae,v2,v3,v4,v5,v6,v7,v8]) (star (bp bc v6 x.Open) ( star (bp cL v7 x.Out) (bp eL v8 x.pT))))
theorem bS {w0 w:World} {I:HL} {L:List SP} {R:SP} {pv:Value} {x:aq} (h:St w0 w I (bm pv x::L) R):∃ (b:Nat) (v2:Value) (v3:Value) (v4:Value) (v5:Value) (v6:Value) (v7:Value) (v8:Value),(pv = .pointer (some ⟨b,0,none⟩)∧Ro dK I v2 x.V∧Ro bZ I v3 x.H∧Ro fK I v4 x.A∧Ro fi I v5 x.B)∧St w0 w I (cells b [.int .i64 x.zJ,.int .u64 x.ae,v2,v3,v4,v5,v6,v7,v8]::bp bc v6 x.Open::bp cL v7 x.Out::bp eL v8 x.pT::L) R:=by
 obtain ⟨b,h⟩:=h.ex
 obtain ⟨v2,h⟩:=h.ex
 obtain ⟨v3,h⟩:=h.ex
 obtain ⟨v4,h⟩:=h.ex
 obtain ⟨v5,h⟩:=h.ex
 obtain ⟨v6,h⟩:=h.ex
 obtain ⟨v7,h⟩:=h.ex
 obtain ⟨v8,h⟩:=h.ex
 obtain ⟨h1,h⟩:=h.and
 replace h:=h.merge.ah
 replace h:=h.merge.ah
 replace h:=h.merge.ah
 replace h:=h.ah
 replace h:=h.aD
 replace h:=h.aA
 exact ⟨b,v2,v3,v4,v5,v6,v7,v8,h1,h⟩
theorem aC {w0 w:World} {I:HL} {L:List SP} {R:SP} (pv:Value) (x:aq) {b:Nat} {v2:Value} {v3:Value} {v4:Value} {v5:Value} {v6:Value} {v7:Value} {v8:Value} (h:St w0 w I (cells b [.int .i64 x.zJ,.int .u64 x.ae,v2,v3,v4,v5,v6,v7,v8]::bp bc v6 x.Open::bp cL v7 x.Out::bp eL v8 x.pT::L) R) (h1:pv = .pointer (some ⟨b,0,none⟩)∧Ro dK I v2 x.V∧Ro bZ I v3 x.H∧Ro fK I v4 x.A∧Ro fi I v5 x.B):St w0 w I (bm pv x::L) R:=by
 replace h:=h.ah
 replace h:=h.aD
 replace h:=h.aA
 replace h:=h.ah.join
 replace h:=h.ah.join
 replace h:=h.ah.join
 exact St.qN b (St.qN v2 (St.qN v3 (St.qN v4 (St.qN v5 (St.qN v6 (St.qN v7 (St.qN v8 (h.yU h1))))))))
theorem Dx {w0 w:World} {I:HL} {L:List SP} {R:SP} {pv:Value} {x:Option aq} (h:St w0 w I (cX bm pv x::L) R):∃ a:Option Addr,pv = .pointer a∧a.isNone=x.isNone:=by
 cases x with
 | none=>obtain ⟨e,_⟩:=pG h; exact ⟨none,e,rfl⟩
 | some y =>
  obtain ⟨b,v2,v3,v4,v5,v6,v7,v8,h1,_⟩:=bS (bQ h)
  exact ⟨_,h1.1,rfl⟩
def cB (pv:Value) (x:aB):SP:=exS fun b:Nat=>exS fun v0:Value=>xy (fun I=>pv = .pointer (some ⟨b,0,none⟩)∧Ro (cr .u8) I v0 x.L) (fun _ _ hI h=>⟨h.1,h.2.mono (ro_le hI)⟩) (cells b [v0,.int .i64 x.I])
theorem uj {w0 w:World} {I:HL} {L:List SP} {R:SP} {pv:Value} {x:aB} (h:St w0 w I (cB pv x::L) R):∃ (b:Nat) (v0:Value),(pv = .pointer (some ⟨b,0,none⟩)∧Ro (cr .u8) I v0 x.L)∧St w0 w I (cells b [v0,.int .i64 x.I]::L) R:=by
 obtain ⟨b,h⟩:=h.ex
 obtain ⟨v0,h⟩:=h.ex
 obtain ⟨h1,h⟩:=h.and
 exact ⟨b,v0,h1,h⟩
theorem pQ {w0 w:World} {I:HL} {L:List SP} {R:SP} (pv:Value) (x:aB) {b:Nat} {v0:Value} (h:St w0 w I (cells b [v0,.int .i64 x.I]::L) R) (h1:pv = .pointer (some ⟨b,0,none⟩)∧Ro (cr .u8) I v0 x.L):St w0 w I (cB pv x::L) R:=by
 exact St.qN b (St.qN v0 (h.yU h1))
theorem EC {w0 w:World} {I:HL} {L:List SP} {R:SP} {pv:Value} {x:Option aB} (h:St w0 w I (cX cB pv x::L) R):∃ a:Option Addr,pv = .pointer a∧a.isNone=x.isNone:=by
 cases x with
 | none=>obtain ⟨e,_⟩:=pG h; exact ⟨none,e,rfl⟩
 | some y =>
  obtain ⟨b,v0,h1,_⟩:=uj (bQ h)
  exact ⟨_,h1.1,rfl⟩
def bL (pv:Value) (x:ao):SP:=exS fun b:Nat=>exS fun v0:Value=>xy (fun I=>pv = .pointer (some ⟨b,0,none⟩)) (fun _ _ hI h=>h) (star (cells b [v0]) (bp (cr .u8) v0 x.p))
theorem oQ {w0 w:World} {I:HL} {L:List SP} {R:SP} {pv:Value} {x:ao} (h:St w0 w I (bL pv x::L) R):∃ (b:Nat) (v0:Value),(pv = .pointer (some ⟨b,0,none⟩))∧St w0 w I (cells b [v0]::bp (cr .u8) v0 x.p::L) R:=by
 obtain ⟨b,h⟩:=h.ex
 obtain ⟨v0,h⟩:=h.ex
 obtain ⟨h1,h⟩:=h.and
 replace h:=h.merge.ah
 replace h:=h.ah
 exact ⟨b,v0,h1,h⟩
theorem fQ {w0 w:World} {I:HL} {L:List SP} {R:SP} (pv:Value) (x:ao) {b:Nat} {v0:Value} (h:St w0 w I (cells b [v0]::bp (cr .u8) v0 x.p::L) R) (h1:pv = .pointer (some ⟨b,0,none⟩)):St w0 w I (bL pv x::L) R:=by
 replace h:=h.ah
 replace h:=h.ah.join
 exact St.qN b (St.qN v0 (h.yU h1))
theorem Dn {w0 w:World} {I:HL} {L:List SP} {R:SP} {pv:Value} {x:Option ao} (h:St w0 w I (cX bL pv x::L) R):∃ a:Option Addr,pv = .pointer a∧a.isNone=x.isNone:=by
 cases x with
 | none=>obtain ⟨e,_⟩:=pG h; exact ⟨none,e,rfl⟩
 | some y =>
  obtain ⟨b,v0,h1,_⟩:=oQ (bQ h)
  exact ⟨_,h1,rfl⟩
def bd (pv:Value) (x:ag):SP:=exS fun b:Nat=>exS fun v0:Value=>xy (fun I=>pv = .pointer (some ⟨b,0,none⟩)∧Ro (cr .u8) I v0 x.p) (fun _ _ hI h=>⟨h.1,h.2.mono (ro_le hI)⟩) (cells b [v0,.bool x.bad])
theorem ff {w0 w:World} {I:HL} {L:List SP} {R:SP} {pv:Value} {x:ag} (h:St w0 w I (bd pv x::L) R):∃ (b:Nat) (v0:Value),(pv = .pointer (some ⟨b,0,none⟩)∧Ro (cr .u8) I v0 x.p)∧St w0 w I (cells b [v0,.bool x.bad]::L) R:=by
 obtain ⟨b,h⟩:=h.ex
 obtain ⟨v0,h⟩:=h.ex
 obtain ⟨h1,h⟩:=h.and
 exact ⟨b,v0,h1,h⟩
theorem eX {w0 w:World} {I:HL} {L:List SP} {R:SP} (pv:Value) (x:ag) {b:Nat} {v0:Value} (h:St w0 w I (cells b [v0,.bool x.bad]::L) R) (h1:pv = .pointer (some ⟨b,0,none⟩)∧Ro (cr .u8) I v0 x.p):St w0 w I (bd pv x::L) R:=by
 exact St.qN b (St.qN v0 (h.yU h1))
theorem Dp {w0 w:World} {I:HL} {L:List SP} {R:SP} {pv:Value} {x:Option ag} (h:St w0 w I (cX bd pv x::L) R):∃ a:Option Addr,pv = .pointer a∧a.isNone=x.isNone:=by
 cases x with
 | none=>obtain ⟨e,_⟩:=pG h; exact ⟨none,e,rfl⟩
 | some y =>
  obtain ⟨b,v0,h1,_⟩:=ff (bQ h)
  exact ⟨_,h1.1,rfl⟩
theorem ru:sE Tryz.prog cp 43 37 Tryz.t37 (.float .f64 0):=⟨Tryz.underlying43,by kernel_rfl,rfl,rfl,rfl,by decide⟩
theorem CH:sE Tryz.prog fU 44 80 Tryz.t80 (.agg #[.float .f64 0,.float .f64 0]):=⟨Tryz.underlying44,by kernel_rfl,rfl,rfl,rfl,by decide⟩
theorem xh:sE Tryz.prog (cr .u8) 22 5 Tryz.t5 (.int .u8 0):=⟨Tryz.underlying22,by kernel_rfl,rfl,rfl,rfl,by decide⟩
theorem ua:sE Tryz.prog bZ 125 46 Tryz.t46 (.agg #[.int .u64 0,.int .u64 0,.int .u64 0,.slice none 0 0,.slice none 0 0,.slice none 0 0,.slice none 0 0]):=⟨Tryz.underlying125,by kernel_rfl,rfl,rfl,rfl,by decide⟩
theorem Af:sE Tryz.prog aK 30 61 Tryz.t61 (.agg #[.bool false,.slice none 0 0]):=⟨Tryz.underlying30,by kernel_rfl,rfl,rfl,rfl,by decide⟩
theorem Ak:sE Tryz.prog aH 81 152 Tryz.t152 (.agg #[.float .f64 0,.slice none 0 0]):=⟨Tryz.underlying81,by kernel_rfl,rfl,rfl,rfl,by decide⟩
theorem Ai:sE Tryz.prog (eC aH) 31 81 Tryz.t81 (.slice none 0 0):=⟨Tryz.underlying31,by kernel_rfl,rfl,rfl,rfl,by decide⟩
theorem zw:sE Tryz.prog (nR 2) 199 240 Tryz.t240 (.agg #[.int .u64 0,.slice none 0 0]):=⟨Tryz.underlying199,by kernel_rfl,rfl,rfl,rfl,by decide⟩
theorem Bp:sE Tryz.prog cD 238 214 Tryz.t214 (.agg #[.int .u64 0,.int .u64 0,.bool false,.slice none 0 0]):=⟨Tryz.underlying238,by kernel_rfl,rfl,rfl,rfl,by decide⟩
theorem AG:sE Tryz.prog dF 204 242 Tryz.t242 (.agg #[.int .u64 0,.int .u64 0,.int .i64 0,.int .u64 0,.int .u64 0,.slice none 0 0,.slice none 0 0]):=⟨Tryz.underlying204,by kernel_rfl,rfl,rfl,rfl,by decide⟩
theorem Cw:sE Tryz.prog cN 47 156 Tryz.t156 (.agg #[.int .i64 0,.slice none 0 0]):=⟨Tryz.underlying47,by kernel_rfl,rfl,rfl,rfl,by decide⟩
theorem vC:sE Tryz.prog bc 65 89 Tryz.t89 (.agg #[.int .u64 0,.int .u64 0,.int .i64 0,.int .u64 0,.int .u64 0,.int .u64 0,.slice none 0 0]):=⟨Tryz.underlying65,by kernel_rfl,rfl,rfl,rfl,by decide⟩
theorem DZ:sE Tryz.prog jR 207 224 Tryz.t224 (.agg #[.int .u64 0,.int .i64 0,.int .i64 0,.float .f64 0,.float .f64 0,.int .u64 0,.int .i64 0,.int .u64 0,.int .u64 0]):=⟨Tryz.underlying207,by kernel_rfl,rfl,rfl,rfl,by decide⟩
theorem AM:sE Tryz.prog db 109 189 Tryz.t189 (.agg #[.int .u64 0,.int .u64 0,.int .i64 0]):=⟨Tryz.underlying109,by kernel_rfl,rfl,rfl,rfl,by decide⟩
theorem vu:sE Tryz.prog cL 50 53 Tryz.t53 (.agg #[.int .i64 0,.int .u64 0,.int .u64 0,.int .u64 0,.float .f64 0,.bool false,.slice none 0 0]):=⟨Tryz.underlying50,by kernel_rfl,rfl,rfl,rfl,by decide⟩
theorem Gx:sE Tryz.prog cG 42 41 Tryz.t41 (.agg #[.float .f64 0,.bool false,.slice none 0 0]):=⟨Tryz.underlying42,by kernel_rfl,rfl,rfl,rfl,by decide⟩
theorem yK:sE Tryz.prog dK 124 139 Tryz.t139 (.agg #[.float .f64 0,.int .u64 0,.int .u64 0,.bool false,.slice none 0 0]):=⟨Tryz.underlying124,by kernel_rfl,rfl,rfl,rfl,by decide⟩
theorem HO:sE Tryz.prog fK 126 164 Tryz.t164 (.agg #[.int .u64 0,.int .u64 0,.int .i64 0,.int .u64 0,.int .u64 0,.slice none 0 0,.slice none 0 0]):=⟨Tryz.underlying126,by kernel_rfl,rfl,rfl,rfl,by decide⟩
theorem Eg:sE Tryz.prog fi 127 144 Tryz.t144 (.agg #[.int .u64 0,.int .i64 0,.int .i64 0,.float .f64 0,.float .f64 0,.int .u64 0,.int .i64 0,.int .u64 0,.int .u64 0]):=⟨Tryz.underlying127,by kernel_rfl,rfl,rfl,rfl,by decide⟩
theorem DD:sE Tryz.prog eL 128 249 Tryz.t249 (.agg #[.int .u64 0,.int .u64 0,.int .i64 0]):=⟨Tryz.underlying128,by kernel_rfl,rfl,rfl,rfl,by decide⟩
theorem Ic:sE Tryz.prog pA 159 28 Tryz.t28 (.agg #[.int .u64 0,.int .u64 0]):=⟨Tryz.underlying159,by kernel_rfl,rfl,rfl,rfl,by decide⟩
section
open _root_.Go.Proofs.Tryz
instance : FoC prog 28 0 0:=fd underlying28 z sizeOf26
instance : FoC prog 28 1 1:=fd underlying28 z sizeOf26
instance : FoC prog 33 0 0:=fd underlying33 z sizeOf29
instance : FoC prog 33 1 1:=fd underlying33 z sizeOf26
instance : FoC prog 33 2 2:=fd underlying33 z sizeOf26
instance : FoC prog 33 3 3:=fd underlying33 z sizeOf30
instance : FoC prog 33 4 4:=fd underlying33 z sizeOf31
instance : FoC prog 35 0 0:=fd underlying35 z sizeOf5
instance : FoC prog 35 1 1:=fd underlying35 z sizeOf28
instance : FoC prog 35 2 3:=fd underlying35 z sizeOf33
instance : FoC prog 39 0 0:=fd underlying39 z sizeOf26
instance : FoC prog 39 1 1:=fd underlying39 z sizeOf3
instance : FoC prog 39 2 2:=fd underlying39 z sizeOf3
instance : FoC prog 39 3 3:=fd underlying39 z sizeOf37
instance : FoC prog 39 4 4:=fd underlying39 z sizeOf37
instance : FoC prog 39 5 5:=fd underlying39 z sizeOf26
instance : FoC prog 39 6 6:=fd underlying39 z sizeOf3
instance : FoC prog 41 0 0:=fd underlying41 z sizeOf37
instance : FoC prog 41 1 1:=fd underlying41 z sizeOf4
instance : FoC prog 41 2 2:=fd underlying41 z sizeOf22
instance : FoC prog 46 0 0:=fd underlying46 z sizeOf28
instance : FoC prog 46 1 2:=fd underlying46 z sizeOf26
instance : FoC prog 46 2 3:=fd underlying46 z sizeOf43
instance : FoC prog 46 3 4:=fd underlying46 z sizeOf44
instance : FoC prog 46 4 5:=fd underlying46 z sizeOf43
instance : FoC prog 46 5 6:=fd underlying46 z sizeOf22
instance : FoC prog 49 0 0:=fd underlying49 z sizeOf5
instance : FoC prog 49 1 1:=fd underlying49 z sizeOf28
instance : FoC prog 49 2 3:=fd underlying49 z sizeOf26
instance : FoC prog 49 3 4:=fd underlying49 z sizeOf26
instance : FoC prog 49 4 5:=fd underlying49 z sizeOf29
instance : FoC prog 49 5 6:=fd underlying49 z sizeOf46
instance : FoC prog 49 6 13:=fd underlying49 z sizeOf42
instance : FoC prog 49 7 14:=fd underlying49 z sizeOf33
instance : FoC prog 49 8 19:=fd underlying49 z sizeOf26
instance : FoC prog 49 9 20:=fd underlying49 z sizeOf47
instance : FoC prog 49 10 21:=fd underlying49 z sizeOf39
instance : FoC prog 49 11 28:=fd underlying49 z sizeOf4
instance : FoC prog 53 0 0:=fd underlying53 z sizeOf3
instance : FoC prog 53 1 1:=fd underlying53 z sizeOf26
instance : FoC prog 53 2 2:=fd underlying53 z sizeOf26
instance : FoC prog 53 3 3:=fd underlying53 z sizeOf26
instance : FoC prog 53 4 4:=fd underlying53 z sizeOf41
instance : FoC prog 61 0 0:=fd underlying61 z sizeOf4
instance : FoC prog 61 1 1:=fd underlying61 z sizeOf22
instance : FoC prog 74 0 0:=fd underlying74 z sizeOf22
instance : FoC prog 74 1 1:=fd underlying74 z sizeOf3
instance : FoC prog 89 0 0:=fd underlying89 z sizeOf28
instance : FoC prog 89 1 2:=fd underlying89 z sizeOf29
instance : FoC prog 89 2 3:=fd underlying89 z sizeOf26
instance : FoC prog 89 3 4:=fd underlying89 z sizeOf26
instance : FoC prog 89 4 5:=fd underlying89 z sizeOf26
instance : FoC prog 89 5 6:=fd underlying89 z sizeOf47
instance : FoC prog 111 0 0:=fd underlying111 z sizeOf3
instance : FoC prog 111 1 1:=fd underlying111 z sizeOf26
instance : FoC prog 111 2 2:=fd underlying111 z sizeOf101
instance : FoC prog 111 3 3:=fd underlying111 z sizeOf103
instance : FoC prog 111 4 4:=fd underlying111 z sizeOf105
instance : FoC prog 111 5 5:=fd underlying111 z sizeOf107
instance : FoC prog 111 6 6:=fd underlying111 z sizeOf65
instance : FoC prog 111 7 7:=fd underlying111 z sizeOf50
instance : FoC prog 111 8 8:=fd underlying111 z sizeOf109
instance : FoC prog 130 0 0:=fd underlying130 z sizeOf3
instance : FoC prog 130 1 1:=fd underlying130 z sizeOf26
instance : FoC prog 130 2 2:=fd underlying130 z sizeOf124
instance : FoC prog 130 3 3:=fd underlying130 z sizeOf125
instance : FoC prog 130 4 4:=fd underlying130 z sizeOf126
instance : FoC prog 130 5 5:=fd underlying130 z sizeOf127
instance : FoC prog 130 6 6:=fd underlying130 z sizeOf65
instance : FoC prog 130 7 7:=fd underlying130 z sizeOf50
instance : FoC prog 130 8 8:=fd underlying130 z sizeOf128
instance : FoC prog 139 0 0:=fd underlying139 z sizeOf37
instance : FoC prog 139 1 1:=fd underlying139 z sizeOf26
instance : FoC prog 139 2 2:=fd underlying139 z sizeOf26
instance : FoC prog 139 3 3:=fd underlying139 z sizeOf4
instance : FoC prog 139 4 4:=fd underlying139 z sizeOf22
instance : FoC prog 144 0 0:=fd underlying144 z sizeOf39
instance : FoC prog 144 1 7:=fd underlying144 z sizeOf26
instance : FoC prog 144 2 8:=fd underlying144 z sizeOf26
instance : FoC prog 152 0 0:=fd underlying152 z sizeOf37
instance : FoC prog 152 1 1:=fd underlying152 z sizeOf22
instance : FoC prog 156 0 0:=fd underlying156 z sizeOf3
instance : FoC prog 156 1 1:=fd underlying156 z sizeOf42
instance : FoC prog 164 0 0:=fd underlying164 z sizeOf26
instance : FoC prog 164 1 1:=fd underlying164 z sizeOf26
instance : FoC prog 164 2 2:=fd underlying164 z sizeOf33
instance : FoC prog 189 0 0:=fd underlying189 z sizeOf26
instance : FoC prog 189 1 1:=fd underlying189 z sizeOf26
instance : FoC prog 189 2 2:=fd underlying189 z sizeOf3
instance : FoC prog 193 0 0:=fd underlying193 z sizeOf22
instance : FoC prog 201 0 0:=fd underlying201 z sizeOf199
instance : FoC prog 203 0 0:=fd underlying203 z sizeOf125
instance : FoC prog 206 0 0:=fd underlying206 z sizeOf204
instance : FoC prog 209 0 0:=fd underlying209 z sizeOf207
instance : FoC prog 214 0 0:=fd underlying214 z sizeOf26
instance : FoC prog 214 1 1:=fd underlying214 z sizeOf26
instance : FoC prog 214 2 2:=fd underlying214 z sizeOf4
instance : FoC prog 214 3 3:=fd underlying214 z sizeOf22
instance : FoC prog 224 0 0:=fd underlying224 z sizeOf39
instance : FoC prog 224 1 7:=fd underlying224 z sizeOf26
instance : FoC prog 224 2 8:=fd underlying224 z sizeOf26
instance : FoC prog 240 0 0:=fd underlying240 z sizeOf26
instance : FoC prog 240 1 1:=fd underlying240 z sizeOf238
instance : FoC prog 242 0 0:=fd underlying242 z sizeOf26
instance : FoC prog 242 1 1:=fd underlying242 z sizeOf26
instance : FoC prog 242 2 2:=fd underlying242 z sizeOf33
instance : FoC prog 249 0 0:=fd underlying249 z sizeOf26
instance : FoC prog 249 1 1:=fd underlying249 z sizeOf26
instance : FoC prog 249 2 2:=fd underlying249 z sizeOf3
instance : FoC prog 255 0 0:=fd underlying255 z sizeOf22
instance : FoC prog 255 1 1:=fd underlying255 z sizeOf4
instance : Un prog 3:=⟨_,underlying3⟩
instance : Un prog 5:=⟨_,underlying5⟩
instance : Un prog 9:=⟨_,underlying9⟩
instance : Un prog 22:=⟨_,underlying22⟩
instance : Un prog 26:=⟨_,underlying26⟩
instance : Un prog 28:=⟨_,underlying28⟩
instance : Un prog 29:=⟨_,underlying29⟩
instance : Un prog 30:=⟨_,underlying30⟩
instance : Un prog 31:=⟨_,underlying31⟩
instance : Un prog 42:=⟨_,underlying42⟩
instance : Un prog 43:=⟨_,underlying43⟩
instance : Un prog 44:=⟨_,underlying44⟩
instance : Un prog 47:=⟨_,underlying47⟩
instance : Un prog 50:=⟨_,underlying50⟩
instance : Un prog 65:=⟨_,underlying65⟩
instance : Un prog 80:=⟨_,underlying80⟩
instance : Un prog 81:=⟨_,underlying81⟩
instance : Un prog 109:=⟨_,underlying109⟩
instance : Un prog 124:=⟨_,underlying124⟩
instance : Un prog 125:=⟨_,underlying125⟩
instance : Un prog 126:=⟨_,underlying126⟩
instance : Un prog 127:=⟨_,underlying127⟩
instance : Un prog 128:=⟨_,underlying128⟩
instance : Un prog 150:=⟨_,underlying150⟩
instance : Un prog 159:=⟨_,underlying159⟩
instance : Un prog 174:=⟨_,underlying174⟩
instance : Un prog 199:=⟨_,underlying199⟩
instance : Un prog 204:=⟨_,underlying204⟩
instance : Un prog 207:=⟨_,underlying207⟩
instance : Un prog 238:=⟨_,underlying238⟩
instance : Un prog 276:=⟨_,underlying276⟩
instance : Sz prog 3 1:=⟨sizeOf3⟩
instance : Sz prog 4 1:=⟨sizeOf4⟩
instance : Sz prog 5 1:=⟨sizeOf5⟩
instance : Sz prog 22 1:=⟨sizeOf22⟩
instance : Sz prog 26 1:=⟨sizeOf26⟩
instance : Sz prog 28 2:=⟨sizeOf28⟩
instance : Sz prog 29 1:=⟨sizeOf29⟩
instance : Sz prog 30 1:=⟨sizeOf30⟩
instance : Sz prog 31 1:=⟨sizeOf31⟩
instance : Sz prog 33 5:=⟨sizeOf33⟩
instance : Sz prog 35 8:=⟨sizeOf35⟩
instance : Sz prog 37 1:=⟨sizeOf37⟩
instance : Sz prog 39 7:=⟨sizeOf39⟩
instance : Sz prog 41 3:=⟨sizeOf41⟩
instance : Sz prog 42 1:=⟨sizeOf42⟩
instance : Sz prog 43 1:=⟨sizeOf43⟩
instance : Sz prog 44 1:=⟨sizeOf44⟩
instance : Sz prog 46 7:=⟨sizeOf46⟩
instance : Sz prog 47 1:=⟨sizeOf47⟩
instance : Sz prog 49 29:=⟨sizeOf49⟩
instance : Sz prog 50 1:=⟨sizeOf50⟩
instance : Sz prog 53 7:=⟨sizeOf53⟩
instance : Sz prog 61 2:=⟨sizeOf61⟩
instance : Sz prog 65 1:=⟨sizeOf65⟩
instance : Sz prog 80 2:=⟨sizeOf80⟩
instance : Sz prog 81 1:=⟨sizeOf81⟩
instance : Sz prog 89 7:=⟨sizeOf89⟩
instance : Sz prog 101 1:=⟨sizeOf101⟩
instance : Sz prog 103 1:=⟨sizeOf103⟩
instance : Sz prog 105 1:=⟨sizeOf105⟩
instance : Sz prog 107 1:=⟨sizeOf107⟩
instance : Sz prog 109 1:=⟨sizeOf109⟩
instance : Sz prog 124 1:=⟨sizeOf124⟩
instance : Sz prog 125 1:=⟨sizeOf125⟩
instance : Sz prog 126 1:=⟨sizeOf126⟩
instance : Sz prog 127 1:=⟨sizeOf127⟩
instance : Sz prog 128 1:=⟨sizeOf128⟩
instance : Sz prog 139 5:=⟨sizeOf139⟩
instance : Sz prog 144 9:=⟨sizeOf144⟩
instance : Sz prog 152 2:=⟨sizeOf152⟩
instance : Sz prog 156 2:=⟨sizeOf156⟩
instance : Sz prog 164 7:=⟨sizeOf164⟩
instance : Sz prog 171 1:=⟨sizeOf171⟩
instance : Sz prog 174 4:=⟨sizeOf174⟩
instance : Sz prog 189 3:=⟨sizeOf189⟩
instance : Sz prog 191 1:=⟨sizeOf191⟩
instance : Sz prog 199 1:=⟨sizeOf199⟩
instance : Sz prog 204 1:=⟨sizeOf204⟩
instance : Sz prog 207 1:=⟨sizeOf207⟩
instance : Sz prog 214 4:=⟨sizeOf214⟩
instance : Sz prog 224 9:=⟨sizeOf224⟩
instance : Sz prog 238 1:=⟨sizeOf238⟩
instance : Sz prog 240 2:=⟨sizeOf240⟩
instance : Sz prog 242 7:=⟨sizeOf242⟩
instance : Sz prog 249 3:=⟨sizeOf249⟩
instance : Ag prog 3 false:=⟨isAgg3⟩
instance : Ag prog 4 false:=⟨isAgg4⟩
instance : Ag prog 5 false:=⟨isAgg5⟩
instance : Ag prog 22 false:=⟨isAgg22⟩
instance : Ag prog 26 false:=⟨isAgg26⟩
instance : Ag prog 28 true:=⟨isAgg28⟩
instance : Ag prog 29 false:=⟨isAgg29⟩
instance : Ag prog 30 false:=⟨isAgg30⟩
instance : Ag prog 31 false:=⟨isAgg31⟩
instance : Ag prog 33 true:=⟨isAgg33⟩
instance : Ag prog 35 true:=⟨isAgg35⟩
instance : Ag prog 37 false:=⟨isAgg37⟩
instance : Ag prog 39 true:=⟨isAgg39⟩
instance : Ag prog 41 true:=⟨isAgg41⟩
instance : Ag prog 42 false:=⟨isAgg42⟩
instance : Ag prog 43 false:=⟨isAgg43⟩
instance : Ag prog 44 false:=⟨isAgg44⟩
instance : Ag prog 46 true:=⟨isAgg46⟩
instance : Ag prog 47 false:=⟨isAgg47⟩
instance : Ag prog 49 true:=⟨isAgg49⟩
instance : Ag prog 50 false:=⟨isAgg50⟩
instance : Ag prog 53 true:=⟨isAgg53⟩
instance : Ag prog 61 true:=⟨isAgg61⟩
instance : Ag prog 65 false:=⟨isAgg65⟩
instance : Ag prog 80 true:=⟨isAgg80⟩
instance : Ag prog 81 false:=⟨isAgg81⟩
instance : Ag prog 89 true:=⟨isAgg89⟩
instance : Ag prog 101 false:=⟨isAgg101⟩
instance : Ag prog 103 false:=⟨isAgg103⟩
instance : Ag prog 105 false:=⟨isAgg105⟩
instance : Ag prog 107 false:=⟨isAgg107⟩
instance : Ag prog 109 false:=⟨isAgg109⟩
instance : Ag prog 124 false:=⟨isAgg124⟩
instance : Ag prog 125 false:=⟨isAgg125⟩
instance : Ag prog 126 false:=⟨isAgg126⟩
instance : Ag prog 127 false:=⟨isAgg127⟩
instance : Ag prog 128 false:=⟨isAgg128⟩
instance : Ag prog 139 true:=⟨isAgg139⟩
instance : Ag prog 144 true:=⟨isAgg144⟩
instance : Ag prog 152 true:=⟨isAgg152⟩
instance : Ag prog 156 true:=⟨isAgg156⟩
instance : Ag prog 164 true:=⟨isAgg164⟩
instance : Ag prog 171 false:=⟨isAgg171⟩
instance : Ag prog 174 true:=⟨isAgg174⟩
instance : Ag prog 189 true:=⟨isAgg189⟩
instance : Ag prog 191 false:=⟨isAgg191⟩
instance : Ag prog 199 false:=⟨isAgg199⟩
instance : Ag prog 204 false:=⟨isAgg204⟩
instance : Ag prog 207 false:=⟨isAgg207⟩
instance : Ag prog 214 true:=⟨isAgg214⟩
instance : Ag prog 224 true:=⟨isAgg224⟩
instance : Ag prog 238 false:=⟨isAgg238⟩
instance : Ag prog 240 true:=⟨isAgg240⟩
instance : Ag prog 242 true:=⟨isAgg242⟩
instance : Ag prog 249 true:=⟨isAgg249⟩
end
end Go.Proofs.YtgnkkopjkgdieaaGreat
