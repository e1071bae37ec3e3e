/- A part of the proof. -/
import Derived.Test.YtgnkkopjkgdieaaGreatLanePlaysM
import Derived.Test.YtgnkkopjkgdieaaGreatProg
import Derived.Test.YtgnkkopjkgdieaaGreatLanePlaysGw
set_option linter.unusedVariables false
set_option linter.unusedSimpArgs false
set_option maxRecDepth 100000
set_option maxHeartbeats 4000000
namespace Go.Proofs.YtgnkkopjkgdieaaGreat
open Go Go.V
theorem mixed:Tryz.prog.follows .mixedOrders=true:=by kernel_rfl
def cm:Ty aT where
 sz := 4
 rep := fun ρ x cs=>∃ v3:Value,cs=[.int .u64 x.Epoch,.int .u64 x.Index,.bool x.Del,v3]∧Sl (cg .u8) ρ v3 x.Val∧(v3.oneCell'=true)
 len := by rintro ρ x cs ⟨v3,rfl,h⟩; rfl
 mono := by rintro ρ ρ' x cs f ⟨v3,rfl,h3,h⟩; exact ⟨v3,rfl,h3.mono f,h⟩
 one := by rintro ρ x cs ⟨v3,rfl,h3,o3⟩; exact (bL rfl (bL rfl (bL rfl (bL o3 jL))))
def yA:Ty bR where
 sz := 2
 rep := fun ρ x cs=>∃ v1:Value,cs=[.int .u64 x.rank,v1]∧Sl cm ρ v1 x.l∧(v1.oneCell'=true)
 len := by rintro ρ x cs ⟨v1,rfl,h⟩; rfl
 mono := by rintro ρ ρ' x cs f ⟨v1,rfl,h1,h⟩; exact ⟨v1,rfl,h1.mono f,h⟩
 one := by rintro ρ x cs ⟨v1,rfl,h1,o1⟩; exact (bL rfl (bL o1 jL))
def cj:sQ bR where
 β := aT
 E := cm
 f := fun x=>x.l
 mc := fun x u=>[.int .u64 x.rank,u]
 sz := 2
 fo := 1
 upd := fun x ys=>{x with l:=ys}
 hfo := by decide
 len := fun _ _=>rfl
 one := fun x u h=>(bL rfl (bL h jL))
 hset := fun _ _ _=>rfl
 fu := fun _ _=>rfl
 mu := fun _ _ _=>rfl
 uu := fun _=>rfl
theorem Bs (ρ:Rho) (x:bR) (u:Value) (h:Sl cm ρ u x.l) (o:u.oneCell'=true):yA.rep ρ x (cj.mc x u):=⟨u,rfl,h,o⟩
def bm:Ty al where
 sz := 7
 rep := fun ρ x cs=>∃ v3 v4 v5 v6:Value,cs=[.int .u64 x.ID.Session,.int .u64 x.ID.Seq,.int .u64 x.Epoch,v3,v4,v5,v6]∧Sl bV ρ v3 x.Gets∧Sl gn ρ v4 x.Scans∧Sl bV ρ v5 x.Puts∧Sl (cg .u8) ρ v6 x.Data∧(v3.oneCell'=true∧v4.oneCell'=true∧v5.oneCell'=true∧v6.oneCell'=true)
 len := by rintro ρ x cs ⟨v3,v4,v5,v6,rfl,h⟩; rfl
 mono := by rintro ρ ρ' x cs f ⟨v3,v4,v5,v6,rfl,h3,h4,h5,h6,h⟩; exact ⟨v3,v4,v5,v6,rfl,h3.mono f,h4.mono f,h5.mono f,h6.mono f,h⟩
 one := by rintro ρ x cs ⟨v3,v4,v5,v6,rfl,h3,h4,h5,h6,o3,o4,o5,o6⟩; exact (bL rfl (bL rfl (bL rfl (bL o3 (bL o4 (bL o5 (bL o6 jL)))))))
def aA:Ty cp where
 sz := 2
 rep := fun ρ x cs=>∃ v1:Value,cs=[.bool x.Has,v1]∧Sl (cg .u8) ρ v1 x.Val∧(v1.oneCell'=true)
 len := by rintro ρ x cs ⟨v1,rfl,h⟩; rfl
 mono := by rintro ρ ρ' x cs f ⟨v1,rfl,h1,h⟩; exact ⟨v1,rfl,h1.mono f,h⟩
 one := by rintro ρ x cs ⟨v1,rfl,h1,o1⟩; exact (bL rfl (bL o1 jL))
def aw:Ty bM where
 sz := 2
 rep := fun ρ x cs=>∃ v1:Value,cs=[.float .f64 x.At,v1]∧Sl (cg .u8) ρ v1 x.Val∧(v1.oneCell'=true)
 len := by rintro ρ x cs ⟨v1,rfl,h⟩; rfl
 mono := by rintro ρ ρ' x cs f ⟨v1,rfl,h1,h⟩; exact ⟨v1,rfl,h1.mono f,h⟩
 one := by rintro ρ x cs ⟨v1,rfl,h1,o1⟩; exact (bL rfl (bL o1 jL))
def cN:Ty aN where
 sz := 7
 rep := fun ρ x cs=>∃ v5 v6:Value,cs=[.int .u64 x.session,.int .u64 x.seq,.int .i64 x.r.E,.int .u64 x.r.Epoch,.int .u64 x.r.Index,v5,v6]∧Sl aA ρ v5 x.r.Gots∧Sl (dG aw) ρ v6 x.r.Scans∧(v5.oneCell'=true∧v6.oneCell'=true)
 len := by rintro ρ x cs ⟨v5,v6,rfl,h⟩; rfl
 mono := by rintro ρ ρ' x cs f ⟨v5,v6,rfl,h5,h6,h⟩; exact ⟨v5,v6,rfl,h5.mono f,h6.mono f,h⟩
 one := by rintro ρ x cs ⟨v5,v6,rfl,h5,h6,o5,o6⟩; exact (bL rfl (bL rfl (bL rfl (bL rfl (bL rfl (bL o5 (bL o6 jL)))))))
def jb:Ty df where
 sz := 9
 rep := fun _ x cs=>cs=[.int .u64 x.r.ID,.int .i64 x.r.From,.int .i64 x.r.To,.float .f64 x.r.Lo,.float .f64 x.r.Hi,.int .u64 x.r.Authority,.int .i64 x.r.Quota,.int .u64 x.from_,.int .u64 x.to_]
 len := by intro ρ x cs h; subst h; rfl
 mono := fun _ h=>h
 one := by intro ρ x cs h; subst h; exact nv rfl
theorem Bl:jb.Flat:=fun h=>h
def cG:Ty bN where
 sz := 3
 rep := fun ρ x cs=>∃ v2:Value,cs=[.float .f64 x.At,.bool x.Del,v2]∧Sl (cg .u8) ρ v2 x.Val∧(v2.oneCell'=true)
 len := by rintro ρ x cs ⟨v2,rfl,h⟩; rfl
 mono := by rintro ρ ρ' x cs f ⟨v2,rfl,h2,h⟩; exact ⟨v2,rfl,h2.mono f,h⟩
 one := by rintro ρ x cs ⟨v2,rfl,h2,o2⟩; exact (bL rfl (bL rfl (bL o2 jL)))
def cJ:Ty dX where
 sz := 2
 rep := fun ρ x cs=>∃ v1:Value,cs=[.int .i64 x.Shard,v1]∧Sl cG ρ v1 x.Writes∧(v1.oneCell'=true)
 len := by rintro ρ x cs ⟨v1,rfl,h⟩; rfl
 mono := by rintro ρ ρ' x cs f ⟨v1,rfl,h1,h⟩; exact ⟨v1,rfl,h1.mono f,h⟩
 one := by rintro ρ x cs ⟨v1,rfl,h1,o1⟩; exact (bL rfl (bL o1 jL))
def aH:Ty bA where
 sz := 7
 rep := fun ρ x cs=>∃ v6:Value,cs=[.int .u64 x.ID.Session,.int .u64 x.ID.Seq,.int .i64 x.E,.int .u64 x.Epoch,.int .u64 x.Index,.int .u64 x.Shards,v6]∧Sl cJ ρ v6 x.Parts∧(v6.oneCell'=true)
 len := by rintro ρ x cs ⟨v6,rfl,h⟩; rfl
 mono := by rintro ρ ρ' x cs f ⟨v6,rfl,h6,h⟩; exact ⟨v6,rfl,h6.mono f,h⟩
 one := by rintro ρ x cs ⟨v6,rfl,h6,o6⟩; exact (bL rfl (bL rfl (bL rfl (bL rfl (bL rfl (bL rfl (bL o6 jL)))))))
def cb:Ty cW where
 sz := 7
 rep := fun ρ x cs=>∃ v6:Value,cs=[.int .i64 x.To,.int .u64 x.N,.int .u64 x.Rule,.int .u64 x.Epoch,.float .f64 x.W.At,.bool x.W.Del,v6]∧Sl (cg .u8) ρ v6 x.W.Val∧(v6.oneCell'=true)
 len := by rintro ρ x cs ⟨v6,rfl,h⟩; rfl
 mono := by rintro ρ ρ' x cs f ⟨v6,rfl,h6,h⟩; exact ⟨v6,rfl,h6.mono f,h⟩
 one := by rintro ρ x cs ⟨v6,rfl,h6,o6⟩; exact (bL rfl (bL rfl (bL rfl (bL rfl (bL rfl (bL rfl (bL o6 jL)))))))
def cH:Ty ct where
 sz := 3
 rep := fun _ x cs=>cs=[.int .u64 x.kj,.int .u64 x.epoch,.int .i64 x.n]
 len := by intro ρ x cs h; subst h; rfl
 mono := fun _ h=>h
 one := by intro ρ x cs h; subst h; exact nv rfl
theorem BF:cH.Flat:=fun h=>h
def cS:Ty aB where
 sz := 5
 rep := fun ρ x cs=>∃ v4:Value,cs=[.float .f64 x.At,.int .u64 x.Epoch,.int .u64 x.Index,.bool x.Del,v4]∧Sl (cg .u8) ρ v4 x.Val∧(v4.oneCell'=true)
 len := by rintro ρ x cs ⟨v4,rfl,h⟩; rfl
 mono := by rintro ρ ρ' x cs f ⟨v4,rfl,h4,h⟩; exact ⟨v4,rfl,h4.mono f,h⟩
 one := by rintro ρ x cs ⟨v4,rfl,h4,o4⟩; exact (bL rfl (bL rfl (bL rfl (bL rfl (bL o4 jL)))))
def ey:Ty cq where
 sz := 7
 rep := fun ρ x cs=>∃ v5 v6:Value,cs=[.int .u64 x.Session,.int .u64 x.Seq,.int .i64 x.R.E,.int .u64 x.R.Epoch,.int .u64 x.R.Index,v5,v6]∧Sl aA ρ v5 x.R.Gots∧Sl (dG aw) ρ v6 x.R.Scans∧(v5.oneCell'=true∧v6.oneCell'=true)
 len := by rintro ρ x cs ⟨v5,v6,rfl,h⟩; rfl
 mono := by rintro ρ ρ' x cs f ⟨v5,v6,rfl,h5,h6,h⟩; exact ⟨v5,v6,rfl,h5.mono f,h6.mono f,h⟩
 one := by rintro ρ x cs ⟨v5,v6,rfl,h5,h6,o5,o6⟩; exact (bL rfl (bL rfl (bL rfl (bL rfl (bL rfl (bL o5 (bL o6 jL)))))))
def dQ:Ty cD where
 sz := 9
 rep := fun _ x cs=>cs=[.int .u64 x.R.ID,.int .i64 x.R.From,.int .i64 x.R.To,.float .f64 x.R.Lo,.float .f64 x.R.Hi,.int .u64 x.R.Authority,.int .i64 x.R.Quota,.int .u64 x.From,.int .u64 x.To]
 len := by intro ρ x cs h; subst h; rfl
 mono := fun _ h=>h
 one := by intro ρ x cs h; subst h; exact nv rfl
theorem BB:dQ.Flat:=fun h=>h
def dw:Ty dy where
 sz := 3
 rep := fun _ x cs=>cs=[.int .u64 x.Rule,.int .u64 x.Epoch,.int .i64 x.N]
 len := by intro ρ x cs h; subst h; rfl
 mono := fun _ h=>h
 one := by intro ρ x cs h; subst h; exact nv rfl
theorem BC:dw.Flat:=fun h=>h
def lW:Ty bK where
 sz := 2
 rep := fun _ x cs=>cs=[.int .u64 x.Session,.int .u64 x.Seq]
 len := by intro ρ x cs h; subst h; rfl
 mono := fun _ h=>h
 one := by intro ρ x cs h; subst h; exact nv rfl
theorem Ex:lW.Flat:=fun h=>h
def cI (pv:Value) (x:cO):SP:=exS fun b:Nat=>exS fun v0:Value=>tG (fun I=>pv = .pointer (some ⟨b,0,none⟩)) (fun _ _ hI h=>h) (star (cells b [v0]) (ql cj v0 x.rows))
theorem ef {w0 w:World} {I:HL} {L:List SP} {R:SP} {pv:Value} {x:cO} (h:St w0 w I (cI pv x::L) R):∃ (b:Nat) (v0:Value),(pv = .pointer (some ⟨b,0,none⟩))∧St w0 w I (cells b [v0]::ql cj v0 x.rows::L) R:=by
 obtain ⟨b,h⟩:=h.ex
 obtain ⟨v0,h⟩:=h.ex
 obtain ⟨h1,h⟩:=h.and
 replace h:=h.merge.ab
 replace h:=h.ab
 exact ⟨b,v0,h1,h⟩
theorem cM {w0 w:World} {I:HL} {L:List SP} {R:SP} (pv:Value) (x:cO) {b:Nat} {v0:Value} (h:St w0 w I (cells b [v0]::ql cj v0 x.rows::L) R) (h1:pv = .pointer (some ⟨b,0,none⟩)):St w0 w I (cI pv x::L) R:=by
 replace h:=h.ab
 replace h:=h.ab.join
 exact St.nP b (St.nP v0 (h.uP h1))
theorem ze {w0 w:World} {I:HL} {L:List SP} {R:SP} {pv:Value} {x:Option cO} (h:St w0 w I (cE cI pv x::L) R):∃ a:Option Addr,pv = .pointer a∧a.isNone=x.isNone:=by
 cases x with
 | none=>obtain ⟨e,_⟩:=np h; exact ⟨none,e,rfl⟩
 | some y =>
  obtain ⟨b,v0,h1,_⟩:=ef (bD h)
  exact ⟨_,h1,rfl⟩
def bP (pv:Value) (x:bZ):SP:=exS fun b:Nat=>exS fun v0:Value=>tG (fun I=>pv = .pointer (some ⟨b,0,none⟩)) (fun _ _ hI h=>h) (star (cells b [v0]) (aZ bm v0 x.l))
theorem dB {w0 w:World} {I:HL} {L:List SP} {R:SP} {pv:Value} {x:bZ} (h:St w0 w I (bP pv x::L) R):∃ (b:Nat) (v0:Value),(pv = .pointer (some ⟨b,0,none⟩))∧St w0 w I (cells b [v0]::aZ bm v0 x.l::L) R:=by
 obtain ⟨b,h⟩:=h.ex
 obtain ⟨v0,h⟩:=h.ex
 obtain ⟨h1,h⟩:=h.and
 replace h:=h.merge.ab
 replace h:=h.ab
 exact ⟨b,v0,h1,h⟩
theorem dl {w0 w:World} {I:HL} {L:List SP} {R:SP} (pv:Value) (x:bZ) {b:Nat} {v0:Value} (h:St w0 w I (cells b [v0]::aZ bm v0 x.l::L) R) (h1:pv = .pointer (some ⟨b,0,none⟩)):St w0 w I (bP pv x::L) R:=by
 replace h:=h.ab
 replace h:=h.ab.join
 exact St.nP b (St.nP v0 (h.uP h1))
theorem yv {w0 w:World} {I:HL} {L:List SP} {R:SP} {pv:Value} {x:Option bZ} (h:St w0 w I (cE bP pv x::L) R):∃ a:Option Addr,pv = .pointer a∧a.isNone=x.isNone:=by
 cases x with
 | none=>obtain ⟨e,_⟩:=np h; exact ⟨none,e,rfl⟩
 | some y =>
  obtain ⟨b,v0,h1,_⟩:=dB (bD h)
  exact ⟨_,h1,rfl⟩
def ca (pv:Value) (x:ck):SP:=exS fun b:Nat=>exS fun v0:Value=>tG (fun I=>pv = .pointer (some ⟨b,0,none⟩)) (fun _ _ hI h=>h) (star (cells b [v0]) (aZ cN v0 x.l))
theorem dH {w0 w:World} {I:HL} {L:List SP} {R:SP} {pv:Value} {x:ck} (h:St w0 w I (ca pv x::L) R):∃ (b:Nat) (v0:Value),(pv = .pointer (some ⟨b,0,none⟩))∧St w0 w I (cells b [v0]::aZ cN v0 x.l::L) R:=by
 obtain ⟨b,h⟩:=h.ex
 obtain ⟨v0,h⟩:=h.ex
 obtain ⟨h1,h⟩:=h.and
 replace h:=h.merge.ab
 replace h:=h.ab
 exact ⟨b,v0,h1,h⟩
theorem cR {w0 w:World} {I:HL} {L:List SP} {R:SP} (pv:Value) (x:ck) {b:Nat} {v0:Value} (h:St w0 w I (cells b [v0]::aZ cN v0 x.l::L) R) (h1:pv = .pointer (some ⟨b,0,none⟩)):St w0 w I (ca pv x::L) R:=by
 replace h:=h.ab
 replace h:=h.ab.join
 exact St.nP b (St.nP v0 (h.uP h1))
theorem xK {w0 w:World} {I:HL} {L:List SP} {R:SP} {pv:Value} {x:Option ck} (h:St w0 w I (cE ca pv x::L) R):∃ a:Option Addr,pv = .pointer a∧a.isNone=x.isNone:=by
 cases x with
 | none=>obtain ⟨e,_⟩:=np h; exact ⟨none,e,rfl⟩
 | some y =>
  obtain ⟨b,v0,h1,_⟩:=dH (bD h)
  exact ⟨_,h1,rfl⟩
def cL (pv:Value) (x:cB):SP:=exS fun b:Nat=>exS fun v0:Value=>tG (fun I=>pv = .pointer (some ⟨b,0,none⟩)) (fun _ _ hI h=>h) (star (cells b [v0]) (aZ jb v0 x.l))
theorem eE {w0 w:World} {I:HL} {L:List SP} {R:SP} {pv:Value} {x:cB} (h:St w0 w I (cL pv x::L) R):∃ (b:Nat) (v0:Value),(pv = .pointer (some ⟨b,0,none⟩))∧St w0 w I (cells b [v0]::aZ jb v0 x.l::L) R:=by
 obtain ⟨b,h⟩:=h.ex
 obtain ⟨v0,h⟩:=h.ex
 obtain ⟨h1,h⟩:=h.and
 replace h:=h.merge.ab
 replace h:=h.ab
 exact ⟨b,v0,h1,h⟩
theorem cY {w0 w:World} {I:HL} {L:List SP} {R:SP} (pv:Value) (x:cB) {b:Nat} {v0:Value} (h:St w0 w I (cells b [v0]::aZ jb v0 x.l::L) R) (h1:pv = .pointer (some ⟨b,0,none⟩)):St w0 w I (cL pv x::L) R:=by
 replace h:=h.ab
 replace h:=h.ab.join
 exact St.nP b (St.nP v0 (h.uP h1))
theorem yw {w0 w:World} {I:HL} {L:List SP} {R:SP} {pv:Value} {x:Option cB} (h:St w0 w I (cE cL pv x::L) R):∃ a:Option Addr,pv = .pointer a∧a.isNone=x.isNone:=by
 cases x with
 | none=>obtain ⟨e,_⟩:=np h; exact ⟨none,e,rfl⟩
 | some y =>
  obtain ⟨b,v0,h1,_⟩:=eE (bD h)
  exact ⟨_,h1,rfl⟩
def aD (pv:Value) (x:ae):SP:=exS fun b:Nat=>exS fun v2:Value=>exS fun v3:Value=>exS fun v4:Value=>exS fun v5:Value=>exS fun v6:Value=>exS fun v7:Value=>exS fun v8:Value=>tG (fun I=>pv = .pointer (some ⟨b,0,none⟩)) (fun _ _ hI h=>h) (star (cells b [.int .i64 x.wide,.int .u64 x.epoch,v2,v3,v4,v5,v6,v7,v8]) (star (cE cI v2 x.store) ( star (cE bP v3 x.locks) ( star (cE ca v4 x.last) ( star (cE cL v5 x.book) ( star (aZ aH v6 x.open_) ( star (aZ cb v7 x.out) (aZ cH v8 x.used))))))))
theorem bc {w0 w:World} {I:HL} {L:List SP} {R:SP} {pv:Value} {x:ae} (h:St w0 w I (aD pv x::L) R):∃ (b:Nat) (v2:Value) (v3:Value) (v4:Value) (v5:Value) (v6:Value) (v7:Value) (v8:Value),(pv = .pointer (some ⟨b,0,none⟩))∧St w0 w I (cells b [.int .i64 x.wide,.int .u64 x.epoch,v2,v3,v4,v5,v6,v7,v8]::cE cI v2 x.store::cE bP v3 x.locks::cE ca v4 x.last::cE cL v5 x.book::aZ aH v6 x.open_::aZ cb v7 x.out::aZ cH v8 x.used::L) R:=by
 obtain ⟨b,h⟩:=h.ex
 obtain ⟨v2,h⟩:=h.ex
 obtain ⟨v3,h⟩:=h.ex
 obtain ⟨v4,h⟩:=h.ex
 obtain ⟨v5,h⟩:=h.ex
 obtain ⟨v6,h⟩:=h.ex
 obtain ⟨v7,h⟩:=h.ex
 obtain ⟨v8,h⟩:=h.ex
 obtain ⟨h1,h⟩:=h.and
 replace h:=h.merge.ab
 replace h:=h.merge.ab
 replace h:=h.merge.ab
 replace h:=h.merge.ab
 replace h:=h.merge.ab
 replace h:=h.merge.ab
 replace h:=h.merge.ab
 replace h:=h.ab
 replace h:=h.ay
 replace h:=h.ap
 replace h:=h.aY
 replace h:=h.aW
 replace h:=h.cV
 replace h:=h.aG
 exact ⟨b,v2,v3,v4,v5,v6,v7,v8,h1,h⟩
theorem aq {w0 w:World} {I:HL} {L:List SP} {R:SP} (pv:Value) (x:ae) {b:Nat} {v2:Value} {v3:Value} {v4:Value} {v5:Value} {v6:Value} {v7:Value} {v8:Value} (h:St w0 w I (cells b [.int .i64 x.wide,.int .u64 x.epoch,v2,v3,v4,v5,v6,v7,v8]::cE cI v2 x.store::cE bP v3 x.locks::cE ca v4 x.last::cE cL v5 x.book::aZ aH v6 x.open_::aZ cb v7 x.out::aZ cH v8 x.used::L) R) (h1:pv = .pointer (some ⟨b,0,none⟩)):St w0 w I (aD pv x::L) R:=by
 replace h:=h.ab
 replace h:=h.ay
 replace h:=h.ap
 replace h:=h.aY
 replace h:=h.aW
 replace h:=h.cV
 replace h:=h.aG
 replace h:=h.ab.join
 replace h:=h.ab.join
 replace h:=h.ab.join
 replace h:=h.ab.join
 replace h:=h.ab.join
 replace h:=h.ab.join
 replace h:=h.ab.join
 exact St.nP b (St.nP v2 (St.nP v3 (St.nP v4 (St.nP v5 (St.nP v6 (St.nP v7 (St.nP v8 (h.uP h1))))))))
theorem zd {w0 w:World} {I:HL} {L:List SP} {R:SP} {pv:Value} {x:Option ae} (h:St w0 w I (cE aD pv x::L) R):∃ a:Option Addr,pv = .pointer a∧a.isNone=x.isNone:=by
 cases x with
 | none=>obtain ⟨e,_⟩:=np h; exact ⟨none,e,rfl⟩
 | some y =>
  obtain ⟨b,v2,v3,v4,v5,v6,v7,v8,h1,_⟩:=bc (bD h)
  exact ⟨_,h1,rfl⟩
def aL (pv:Value) (x:ai):SP:=exS fun b:Nat=>exS fun v2:Value=>exS fun v3:Value=>exS fun v4:Value=>exS fun v5:Value=>exS fun v6:Value=>exS fun v7:Value=>exS fun v8:Value=>tG (fun I=>pv = .pointer (some ⟨b,0,none⟩)∧Ro cS I v2 x.V∧Ro bm I v3 x.H∧Ro ey I v4 x.A∧Ro dQ I v5 x.B) (fun _ _ hI h=>⟨h.1,h.2.1.mono (ro_le hI),h.2.2.1.mono (ro_le hI),h.2.2.2.1.mono (ro_le hI),h.2.2.2.2.mono (ro_le hI)⟩) (star (cells b [.int .i64 x.Wide,.int .u64 x.Epoch,v2,v3,v4,v5,v6,v7,v8]) (star (aZ aH v6 x.Open) ( star (aZ cb v7 x.Out) (aZ dw v8 x.Used))))
theorem bd {w0 w:World} {I:HL} {L:List SP} {R:SP} {pv:Value} {x:ai} (h:St w0 w I (aL pv x::L) R):∃ (b:Nat) (v2:Value) (v3:Value) (v4:Value) (v5:Value) (v6:Value) (v7:Value) (v8:Value),(pv = .pointer (some ⟨b,0,none⟩)∧Ro cS I v2 x.V∧Ro bm I v3 x.H∧Ro ey I v4 x.A∧Ro dQ I v5 x.B)∧St w0 w I (cells b [.int .i64 x.Wide,.int .u64 x.Epoch,v2,v3,v4,v5,v6,v7,v8]::aZ aH v6 x.Open::aZ cb v7 x.Out::aZ dw v8 x.Used::L) R:=by
 obtain ⟨b,h⟩:=h.ex
 obtain ⟨v2,h⟩:=h.ex
 obtain ⟨v3,h⟩:=h.ex
 obtain ⟨v4,h⟩:=h.ex
 obtain ⟨v5,h⟩:=h.ex
 obtain ⟨v6,h⟩:=h.ex
 obtain ⟨v7,h⟩:=h.ex
 obtain ⟨v8,h⟩:=h.ex
 obtain ⟨h1,h⟩:=h.and
 replace h:=h.merge.ab
 replace h:=h.merge.ab
 replace h:=h.merge.ab
 replace h:=h.ab
 replace h:=h.ay
 replace h:=h.ap
 exact ⟨b,v2,v3,v4,v5,v6,v7,v8,h1,h⟩
theorem aj {w0 w:World} {I:HL} {L:List SP} {R:SP} (pv:Value) (x:ai) {b:Nat} {v2:Value} {v3:Value} {v4:Value} {v5:Value} {v6:Value} {v7:Value} {v8:Value} (h:St w0 w I (cells b [.int .i64 x.Wide,.int .u64 x.Epoch,v2,v3,v4,v5,v6,v7,v8]::aZ aH v6 x.Open::aZ cb v7 x.Out::aZ dw v8 x.Used::L) R) (h1:pv = .pointer (some ⟨b,0,none⟩)∧Ro cS I v2 x.V∧Ro bm I v3 x.H∧Ro ey I v4 x.A∧Ro dQ I v5 x.B):St w0 w I (aL pv x::L) R:=by
 replace h:=h.ab
 replace h:=h.ay
 replace h:=h.ap
 replace h:=h.ab.join
 replace h:=h.ab.join
 replace h:=h.ab.join
 exact St.nP b (St.nP v2 (St.nP v3 (St.nP v4 (St.nP v5 (St.nP v6 (St.nP v7 (St.nP v8 (h.uP h1))))))))
theorem yC {w0 w:World} {I:HL} {L:List SP} {R:SP} {pv:Value} {x:Option ai} (h:St w0 w I (cE aL pv x::L) R):∃ a:Option Addr,pv = .pointer a∧a.isNone=x.isNone:=by
 cases x with
 | none=>obtain ⟨e,_⟩:=np h; exact ⟨none,e,rfl⟩
 | some y =>
  obtain ⟨b,v2,v3,v4,v5,v6,v7,v8,h1,_⟩:=bd (bD h)
  exact ⟨_,h1.1,rfl⟩
def bC (pv:Value) (x:ak):SP:=exS fun b:Nat=>exS fun v0:Value=>tG (fun I=>pv = .pointer (some ⟨b,0,none⟩)∧Ro (cg .u8) I v0 x.L) (fun _ _ hI h=>⟨h.1,h.2.mono (ro_le hI)⟩) (cells b [v0,.int .i64 x.I])
theorem pP {w0 w:World} {I:HL} {L:List SP} {R:SP} {pv:Value} {x:ak} (h:St w0 w I (bC pv x::L) R):∃ (b:Nat) (v0:Value),(pv = .pointer (some ⟨b,0,none⟩)∧Ro (cg .u8) I v0 x.L)∧St w0 w I (cells b [v0,.int .i64 x.I]::L) R:=by
 obtain ⟨b,h⟩:=h.ex
 obtain ⟨v0,h⟩:=h.ex
 obtain ⟨h1,h⟩:=h.and
 exact ⟨b,v0,h1,h⟩
theorem mn {w0 w:World} {I:HL} {L:List SP} {R:SP} (pv:Value) (x:ak) {b:Nat} {v0:Value} (h:St w0 w I (cells b [v0,.int .i64 x.I]::L) R) (h1:pv = .pointer (some ⟨b,0,none⟩)∧Ro (cg .u8) I v0 x.L):St w0 w I (bC pv x::L) R:=by
 exact St.nP b (St.nP v0 (h.uP h1))
theorem zb {w0 w:World} {I:HL} {L:List SP} {R:SP} {pv:Value} {x:Option ak} (h:St w0 w I (cE bC pv x::L) R):∃ a:Option Addr,pv = .pointer a∧a.isNone=x.isNone:=by
 cases x with
 | none=>obtain ⟨e,_⟩:=np h; exact ⟨none,e,rfl⟩
 | some y =>
  obtain ⟨b,v0,h1,_⟩:=pP (bD h)
  exact ⟨_,h1.1,rfl⟩
def oM (pv:Value) (x:bX):SP:=exS fun b:Nat=>exS fun v0:Value=>tG (fun I=>pv = .pointer (some ⟨b,0,none⟩)∧Ro (cg .u8) I v0 x.p) (fun _ _ hI h=>⟨h.1,h.2.mono (ro_le hI)⟩) (cells b [v0,.bool x.bad])
theorem ss {w0 w:World} {I:HL} {L:List SP} {R:SP} {pv:Value} {x:bX} (h:St w0 w I (oM pv x::L) R):∃ (b:Nat) (v0:Value),(pv = .pointer (some ⟨b,0,none⟩)∧Ro (cg .u8) I v0 x.p)∧St w0 w I (cells b [v0,.bool x.bad]::L) R:=by
 obtain ⟨b,h⟩:=h.ex
 obtain ⟨v0,h⟩:=h.ex
 obtain ⟨h1,h⟩:=h.and
 exact ⟨b,v0,h1,h⟩
theorem yd {w0 w:World} {I:HL} {L:List SP} {R:SP} (pv:Value) (x:bX) {b:Nat} {v0:Value} (h:St w0 w I (cells b [v0,.bool x.bad]::L) R) (h1:pv = .pointer (some ⟨b,0,none⟩)∧Ro (cg .u8) I v0 x.p):St w0 w I (oM pv x::L) R:=by
 exact St.nP b (St.nP v0 (h.uP h1))
theorem yc {w0 w:World} {I:HL} {L:List SP} {R:SP} {pv:Value} {x:Option bX} (h:St w0 w I (cE oM pv x::L) R):∃ a:Option Addr,pv = .pointer a∧a.isNone=x.isNone:=by
 cases x with
 | none=>obtain ⟨e,_⟩:=np h; exact ⟨none,e,rfl⟩
 | some y =>
  obtain ⟨b,v0,h1,_⟩:=ss (bD h)
  exact ⟨_,h1.1,rfl⟩
theorem pe:oO Tryz.prog bV 43 37 Tryz.t37 (.float .f64 0):=⟨Tryz.underlying43,by kernel_rfl,rfl,rfl,rfl,by decide⟩
theorem AE:oO Tryz.prog gn 44 80 Tryz.t80 (.agg #[.float .f64 0,.float .f64 0]):=⟨Tryz.underlying44,by kernel_rfl,rfl,rfl,rfl,by decide⟩
theorem uZ:oO Tryz.prog (cg .u8) 22 5 Tryz.t5 (.int .u8 0):=⟨Tryz.underlying22,by kernel_rfl,rfl,rfl,rfl,by decide⟩
theorem qx:oO Tryz.prog bm 125 46 Tryz.t46 (.agg #[.int .u64 0,.int .u64 0,.int .u64 0,.slice none 0 0,.slice none 0 0,.slice none 0 0,.slice none 0 0]):=⟨Tryz.underlying125,by kernel_rfl,rfl,rfl,rfl,by decide⟩
theorem xM:oO Tryz.prog aA 30 61 Tryz.t61 (.agg #[.bool false,.slice none 0 0]):=⟨Tryz.underlying30,by kernel_rfl,rfl,rfl,rfl,by decide⟩
theorem ya:oO Tryz.prog aw 81 152 Tryz.t152 (.agg #[.float .f64 0,.slice none 0 0]):=⟨Tryz.underlying81,by kernel_rfl,rfl,rfl,rfl,by decide⟩
theorem xU:oO Tryz.prog (dG aw) 31 81 Tryz.t81 (.slice none 0 0):=⟨Tryz.underlying31,by kernel_rfl,rfl,rfl,rfl,by decide⟩
theorem wN:oO Tryz.prog (lT 2) 199 240 Tryz.t240 (.agg #[.int .u64 0,.slice none 0 0]):=⟨Tryz.underlying199,by kernel_rfl,rfl,rfl,rfl,by decide⟩
theorem yG:oO Tryz.prog cm 238 214 Tryz.t214 (.agg #[.int .u64 0,.int .u64 0,.bool false,.slice none 0 0]):=⟨Tryz.underlying238,by kernel_rfl,rfl,rfl,rfl,by decide⟩
theorem yr:oO Tryz.prog cN 204 242 Tryz.t242 (.agg #[.int .u64 0,.int .u64 0,.int .i64 0,.int .u64 0,.int .u64 0,.slice none 0 0,.slice none 0 0]):=⟨Tryz.underlying204,by kernel_rfl,rfl,rfl,rfl,by decide⟩
theorem Ae:oO Tryz.prog cJ 47 156 Tryz.t156 (.agg #[.int .i64 0,.slice none 0 0]):=⟨Tryz.underlying47,by kernel_rfl,rfl,rfl,rfl,by decide⟩
theorem sx:oO Tryz.prog aH 65 89 Tryz.t89 (.agg #[.int .u64 0,.int .u64 0,.int .i64 0,.int .u64 0,.int .u64 0,.int .u64 0,.slice none 0 0]):=⟨Tryz.underlying65,by kernel_rfl,rfl,rfl,rfl,by decide⟩
theorem Dn:oO Tryz.prog jb 207 224 Tryz.t224 (.agg #[.int .u64 0,.int .i64 0,.int .i64 0,.float .f64 0,.float .f64 0,.int .u64 0,.int .i64 0,.int .u64 0,.int .u64 0]):=⟨Tryz.underlying207,by kernel_rfl,rfl,rfl,rfl,by decide⟩
theorem yR:oO Tryz.prog cH 109 189 Tryz.t189 (.agg #[.int .u64 0,.int .u64 0,.int .i64 0]):=⟨Tryz.underlying109,by kernel_rfl,rfl,rfl,rfl,by decide⟩
theorem sD:oO Tryz.prog cb 50 53 Tryz.t53 (.agg #[.int .i64 0,.int .u64 0,.int .u64 0,.int .u64 0,.float .f64 0,.bool false,.slice none 0 0]):=⟨Tryz.underlying50,by kernel_rfl,rfl,rfl,rfl,by decide⟩
theorem DM:oO Tryz.prog cG 42 41 Tryz.t41 (.agg #[.float .f64 0,.bool false,.slice none 0 0]):=⟨Tryz.underlying42,by kernel_rfl,rfl,rfl,rfl,by decide⟩
theorem tN:oO Tryz.prog cS 124 139 Tryz.t139 (.agg #[.float .f64 0,.int .u64 0,.int .u64 0,.bool false,.slice none 0 0]):=⟨Tryz.underlying124,by kernel_rfl,rfl,rfl,rfl,by decide⟩
theorem Dp:oO Tryz.prog ey 126 164 Tryz.t164 (.agg #[.int .u64 0,.int .u64 0,.int .i64 0,.int .u64 0,.int .u64 0,.slice none 0 0,.slice none 0 0]):=⟨Tryz.underlying126,by kernel_rfl,rfl,rfl,rfl,by decide⟩
theorem za:oO Tryz.prog dQ 127 144 Tryz.t144 (.agg #[.int .u64 0,.int .i64 0,.int .i64 0,.float .f64 0,.float .f64 0,.int .u64 0,.int .i64 0,.int .u64 0,.int .u64 0]):=⟨Tryz.underlying127,by kernel_rfl,rfl,rfl,rfl,by decide⟩
theorem yE:oO Tryz.prog dw 128 249 Tryz.t249 (.agg #[.int .u64 0,.int .u64 0,.int .i64 0]):=⟨Tryz.underlying128,by kernel_rfl,rfl,rfl,rfl,by decide⟩
theorem CA:oO Tryz.prog lW 159 28 Tryz.t28 (.agg #[.int .u64 0,.int .u64 0]):=⟨Tryz.underlying159,by kernel_rfl,rfl,rfl,rfl,by decide⟩
end Go.Proofs.YtgnkkopjkgdieaaGreat
