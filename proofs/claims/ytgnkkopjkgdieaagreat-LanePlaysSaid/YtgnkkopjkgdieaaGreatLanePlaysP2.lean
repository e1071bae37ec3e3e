/- A part of the proof. -/
import Derived.Test.YtgnkkopjkgdieaaGreatLanePlaysGw
import Derived.Test.YtgnkkopjkgdieaaGreatLanePlaysP1
section
set_option linter.unusedVariables false
set_option linter.unusedSimpArgs false
set_option maxRecDepth 100000
namespace Go.Proofs.YtgnkkopjkgdieaaGreat
open Go Go.V
def dD (x : dg) : cH := { R := x.r, From := x.from_, To := x.to_ }
theorem uH (id e : Int) (he : 0 ≤ e) (x : dg) : dD (fZ id e x) = bif nm id x then { R := x.r, From := x.from_, To := bif e == 0 then 1 else e } else dD x := by
 unfold fZ
 cases nm id x with
 | false => rfl
 | true =>
  simp only [cond_true, dD, cH.mk.injEq, true_and]
  by_cases h : e = 0
  ·subst h; rfl
  ·have h1 : ¬ (1:Int) > e := by omega
   have h2 : (e == 0) = false := by simpa using h
   rw [if_neg h1, h2]; rfl
theorem vB (l : List dg) (id e : Int) (he : 0 ≤ e) (hl : l.length ≤ 1000000) : mq (l.map dD) id e = some ((l.map (fZ id e)).map dD, l.any (nm id)) := by
 have key : ∀ z : Int, (bif e == 0 then (1:Int) else e) = z → lf (l.map dD) id z = some ((l.map (fZ id e)).map dD, l.any (nm id)) := by
  intro z hz
  unfold lf
  have h := dC (body := iD (l.map dD) id z) (fun i => ((i : Int), ((l.take i).map (fZ id e)).map dD, (l.take i).any (nm id))) l.length (((l.map (fZ id e)).map dD, l.any (nm id))) ?_ ?_
  ·have h0 : bA (iD (l.map dD) id z) ((0:Int), [], false) = some ((l.map (fZ id e)).map dD, l.any (nm id)) := by simpa using h
   rw [h0]; rfl
  ·intro i hi
   have e1 : decide ((i : Int) < ((l.map dD).length : Int)) = true := by simpa using hi
   have e2 : IntKind.i64.wrap ((i : Int) + 1) = ((i + 1 : Nat) : Int) := by rw [wrap_i64] <;> omega
   have hg : df (l.map dD) (i : Int) = some (dD l[i]) := by rw [br (by simpa using hi)]; simp
   have hroom : ∀ y : cH, room (((l.take i).map (fZ id e)).map dD) [y] = true := fun y => jF (by simp; omega)
   have hset : ∀ y : cH, y = dD (fZ id e l[i]) → ((l.take i).map (fZ id e)).map dD ++ [y] = ((l.take (i + 1)).map (fZ id e)).map dD := by
    intro y hy
    rw [List.take_succ_eq_append_getElem hi, List.map_append, List.map_append, hy]
    rfl
   simp only [iD, e1, cond_true, hg, Option.bind_some, vT _ _ _ hi]
   cases hh : nm id l[i] with
   | true =>
    have hh2 := hh
    simp only [nm, Bool.and_eq_true] at hh2
    have c1 : ((dD l[i]).R.ID == id) = true := hh2.1
    have c2 : ((dD l[i]).To == 0) = true := hh2.2
    simp only [c1, c2, cond_true, Option.bind_some, jw, e2, dh (hroom _), Bool.or_true]
    rw [hset]
    rw [uH _ _ he, hh, ← hz]; rfl
   | false =>
    have hx : dD (fZ id e l[i]) = dD l[i] := by rw [uH _ _ he, hh]; rfl
    have hs := hset (dD l[i]) hx.symm
    have fin : jw (((l.take i).map (fZ id e)).map dD) (dD l[i]) (i : Int) ((l.take i).any (nm id), (dD l[i]).To) = some (Sum.inl (((i + 1 : Nat) : Int), ((l.take (i + 1)).map (fZ id e)).map dD, (l.take i).any (nm id))) := by
     simp only [jw, e2, dh (hroom _)]
     rw [← hs]
    rw [Bool.or_false]
    cases h1 : ((dD l[i]).R.ID == id) with
    | false => exact fin
    | true =>
     have h2 : ((dD l[i]).To == 0) = false := by
      have : nm id l[i] = (((dD l[i]).R.ID == id) && ((dD l[i]).To == 0)) := rfl
      rw [this, h1, Bool.true_and] at hh
      exact hh
     rw [h2]; exact fin
  ·have e1 : decide ((l.length : Int) < ((l.map dD).length : Int)) = false := by simp
   simp only [iD, e1, cond_false, bB, Option.map_some, List.take_length]
 unfold mq
 cases h : (e == 0) with
 | true => exact key 1 (by rw [h]; rfl)
 | false => exact key e (by rw [h]; rfl)
theorem zy (l : List dg) (id e : Int) (hl : l.length ≤ 1000000) : rC (l.map dD) id e = some (tK (ld (nN id e) l)) := by
 unfold rC
 let st : Nat → Int × Int × Int × Nat × Nat × Int × Int × Int × Bool := fun i =>
  let r := tK (ld (nN id e) (l.take i))
  (r.1.ID, r.1.From, r.1.To, r.1.Lo, r.1.Hi, r.1.Authority, r.1.Quota, (i : Int), r.2)
 let fin : Int × Int × Int × Nat × Nat × Int × Int × Bool :=
  let r := tK (ld (nN id e) l)
  (r.1.ID, r.1.From, r.1.To, r.1.Lo, r.1.Hi, r.1.Authority, r.1.Quota, r.2)
 have h := dC (body := lJ (l.map dD) id e) st l.length fin ?_ ?_
 ·have h0 : bA (lJ (l.map dD) id e) ((0:Int), (0:Int), (0:Int), (0:Nat), (0:Nat), (0:Int), (0:Int), (0:Int), false) = some fin := h
  rw [h0]; rfl
 ·intro i hi
  have e1 : decide ((i : Int) < ((l.map dD).length : Int)) = true := by simpa using hi
  have e2 : IntKind.i64.wrap ((i : Int) + 1) = ((i + 1 : Nat) : Int) := by rw [wrap_i64] <;> omega
  have hg : df (l.map dD) (i : Int) = some (dD l[i]) := by rw [br (by simpa using hi)]; simp
  simp only [st, lJ, e1, cond_true, hg, Option.bind_some, e2, List.take_succ_eq_append_getElem hi, wD]
  have ht : nN id e l[i] = (((dD l[i]).R.ID == id) && (decide ((dD l[i]).From ≤ e) && (((dD l[i]).To == 0) || decide (e < (dD l[i]).To)))) := rfl
  rw [ht]
  cases ((dD l[i]).R.ID == id) <;> cases decide ((dD l[i]).From ≤ e) <;> cases ((dD l[i]).To == 0) <;> cases decide (e < (dD l[i]).To) <;> rfl
 ·have e1 : decide ((l.length : Int) < ((l.map dD).length : Int)) = false := by simp
  simp only [st, fin, lJ, e1, cond_false, bB, Option.map_some, List.take_length]
theorem Bq {l : List dg} (h : ∀ x ∈ l, rB x.r) (p : dg → Bool) : rB (tK (ld p l)).1 := by
 cases hf : ld p l with
 | none => exact ⟨by decide, by decide⟩
 | some x => exact h x (List.mem_reverse.1 (List.mem_of_find?_eq_some hf))
end Go.Proofs.YtgnkkopjkgdieaaGreat

end
section
set_option linter.unusedVariables false
set_option linter.unusedSimpArgs false
set_option maxRecDepth 100000
namespace Go.Proofs.YtgnkkopjkgdieaaGreat
open Go Go.V
theorem Cb (e : Int) : eM (some { l := [] }) e = some false := by
 have h : bA (eW { l := [] } e) (0:Int) = some (-1) := by rw [eD]; rfl
 simp only [eM, h, Option.bind_some]; rfl
theorem Cr : lV = some true := by
 unfold lV
 simp only [qE, tS, sx, qe, qW, Option.bind_some]
 unfold cv
 unfold iy jh
 simp only [Cb]
 rfl
def vx (n : Nat) (v : List Int) : List Int := (List.range n).map fun i => (v[i]?).getD 0
theorem DS (n : Nat) (v : List Int) : cpy (List.replicate n (0:Int)) v = vx n v := by
 unfold cpy vx
 rw [List.length_replicate]
 apply List.ext_getElem
 ·simp only [List.length_append, List.length_take, List.length_drop, List.length_replicate, List.length_map, List.length_range]; omega
 ·intro i h1 h2
  rw [List.getElem_map, List.getElem_range]
  rw [List.length_map, List.length_range] at h2
  by_cases hv : i < v.length
  ·rw [List.getElem_append_left (by rw [List.length_take]; omega), List.getElem_take, List.getElem?_eq_getElem hv, Option.getD_some]
  ·rw [List.getElem_append_right (by rw [List.length_take]; omega), List.getElem_drop, List.getElem_replicate, List.getElem?_eq_none (by omega), Option.getD_none]
theorem ET (w : bR) {n : Int} (hn : n ≤ 1000000) : rU w n = some { w with Val := if w.Del then [] else vx n.toNat w.Val } := by
 have e0 : (if (0:Int) > n then (0:Int) else n) = ((n.toNat : Nat) : Int) := by split <;> omega
 unfold rU
 rw [e0, dh (by simp [Co]; omega), Int.toNat_natCast, DS]
 cases hd : w.Del <;> simp [qi, hd]
theorem AV (w : bR) {n : Int} (hn : n ≤ 1000000) : qy w n = some { w with Val := if w.Del then [] else vx n.toNat w.Val } := by
 unfold qy
 cases hd : w.Del with
 | true =>
  have h : bA (jE n w) ([], (0:Int)) = some [] := by
   rw [eD]
   simp only [jE, hd, Bool.not_true, cond_false]
   cases decide ((0:Int) < n) <;> rfl
  rw [h, Option.bind_some]
  simp only [nG, hd, if_true]
 | false =>
  have h := dC (body := jE n w) (fun i => (vx i w.Val, (i : Int))) n.toNat (vx n.toNat w.Val) (fun i hi => by
   have e1 : decide ((i : Int) < n) = true := by simp; omega
   have e2 : (bif decide ((i : Int) < ((w.Val.length : Nat) : Int)) then (df w.Val (i : Int)).bind fun x => some x else some (0:Int)) = some ((w.Val[i]?).getD 0) := by
    by_cases hv : i < w.Val.length
    ·rw [gZ hv, cond_true, br hv, Option.bind_some, List.getElem?_eq_getElem hv, Option.getD_some]
    ·have : decide ((i : Int) < ((w.Val.length : Nat) : Int)) = false := by simp; omega
     rw [this, cond_false, List.getElem?_eq_none (by omega), Option.getD_none]
   have hl : (vx i w.Val).length = i := by simp [vx]
   simp only [jE, e1, cond_true, hd, Bool.not_false, e2, Option.bind_some, pg, bN (show i ≤ 4294967295 by omega)]
   rw [dh (fe (by omega))]
   simp [vx, List.range_succ]) (by
   have e1 : decide (((n.toNat : Nat) : Int) < n) = false := by simp; omega
   simp only [jE, e1, cond_false, bB, Option.map_some])
  have h0 : vx 0 w.Val = [] := rfl
  rw [h0] at h
  rw [show (((0:Nat)):Int) = (0:Int) from rfl] at h
  rw [h, Option.bind_some]
  simp only [nG, hd, Bool.false_eq_true, if_false]
theorem zp {a b : bR} (ha : a.At < 18446744073709551616) (hb : b.At < 18446744073709551616) (h1 : aB a.At = aB b.At) (h2 : a.Del = b.Del) (h3 : a.Val = b.Val) : fM [a] [b] = some true := by
 have e : ((([a] : List bR).length : Int) != (([b] : List bR).length : Int)) = false := by simp
 unfold fM
 rw [e, cond_false]
 refine dC (fun i => (i : Int)) 1 true (fun i hi => ?_) (by simp [fg, bB])
 have : i = 0 := by omega
 subst this
 have d0 : decide (((0 : Nat) : Int) < ((([a] : List bR).length : Nat) : Int)) = true := by simp
 have g0 : df [a] (((0 : Nat)) : Int) = some a := rfl
 have g1 : df [b] (((0 : Nat)) : Int) = some b := rfl
 simp only [fg, d0, cond_true, g0, g1, Option.bind_some, nO ha hb, h1, decide_true, Bool.not_true, cond_false, h2, h3, BEq.rfl, nZ, bN (i := 0) (by omega)]
end Go.Proofs.YtgnkkopjkgdieaaGreat

end
section
set_option linter.unusedVariables false
set_option linter.unusedSimpArgs false
set_option maxRecDepth 100000
namespace Go.Proofs.YtgnkkopjkgdieaaGreat
open Go Go.V
theorem xE {α : Type} (l : List α) : l.filter (fun _ => true) = l := List.filter_eq_self.2 fun _ _ => rfl
noncomputable def rD (rows : List bV) (h : ap) : bw := { E := 0, Epoch := 0, Index := 0, Gots := h.Gets.map fun x => (ea (some { rows := rows }) x 18446744073709551615).getD { Has := false, Val := [] }, Scans := h.Scans.map fun x => (fx (some { rows := rows }) x.1 x.2 18446744073709551615 64).getD [] }
noncomputable def nq (V : List aF) (h : ap) : bw := { E := 0, Epoch := 0, Index := 0, Gots := h.Gets.map fun x => (iS V x 18446744073709551615).getD { Has := false, Val := [] }, Scans := h.Scans.map fun x => (lO V x.1 x.2 18446744073709551615 64).getD [] }
structure asks (h : ap) : Prop where
 g : ∀ x ∈ h.Gets, isF x
 s : ∀ x ∈ h.Scans, isF x.1 ∧ isF x.2
 lg : h.Gets.length ≤ 1000
 ls : h.Scans.length ≤ 1000
theorem EO {s : ae} {rows : List bV} {V : List aF} {n : Nat} (hs : s.store = some { rows := rows }) (hi : Inv n rows V) (hn : n ≤ 10000) {h : ap} (g : asks h) : jy (some s) h = some (rD rows h) := by
 have l1 := g.lg
 have l2 := g.ls
 have e1 := lz (body := gY h s) h.Gets (fun _ => true) (fun x => (ea (some { rows := rows }) x 18446744073709551615).getD { Has := false, Val := [] }) (fun out => out) (fun i hi' out ho => by
  obtain ⟨o, _, h2, _⟩ := qx hi hn (g.g _ (List.getElem_mem hi')) 18446744073709551615
  simp only [gY, gZ hi', cond_true, br hi', Option.bind_some, hs, h2, Option.getD_some]
  rw [dh (fe (by omega)), bN (show i ≤ 4294967295 by omega)]) (fun out _ => by simp [gY, bB])
 have e2 : ∀ G, bA (fD h s G) ([], (0:Int)) = some { E := 0, Epoch := 0, Index := 0, Gots := G, Scans := (h.Scans.filter (fun _ => true)).map fun x => (fx (some { rows := rows }) x.1 x.2 18446744073709551615 64).getD [] } := fun G => by
  refine lz (body := fD h s G) h.Scans (fun _ => true) (fun x => (fx (some { rows := rows }) x.1 x.2 18446744073709551615 64).getD []) (fun out => { E := 0, Epoch := 0, Index := 0, Gots := G, Scans := out }) (fun i hi' out ho => ?_) (fun out _ => by simp [fD, bB])
  have hf := g.s _ (List.getElem_mem hi')
  obtain ⟨P, Q, h2, _, _⟩ := uB hi hn hf.1 hf.2 18446744073709551615 64
  simp only [fD, gZ hi', cond_true, br hi', Option.bind_some, hs, h2, Option.getD_some]
  rw [dh (fe (by omega)), bN (show i ≤ 4294967295 by omega)]
 unfold jy
 dsimp only
 rw [e1, Option.bind_some, kH, e2, xE, xE]
 rfl
theorem Fo {m : aj} {rows : List bV} {n : Nat} (hi : Inv n rows m.V) (hn : n ≤ 10000) {h : ap} (g : asks h) : iR m h = some (nq m.V h) := by
 have l1 := g.lg
 have l2 := g.ls
 have e1 := lz (body := gq h m) h.Gets (fun _ => true) (fun x => (iS m.V x 18446744073709551615).getD { Has := false, Val := [] }) (fun out => out) (fun i hi' out ho => by
  obtain ⟨o, _, _, h2⟩ := qx hi hn (g.g _ (List.getElem_mem hi')) 18446744073709551615
  simp only [gq, gZ hi', cond_true, br hi', Option.bind_some, h2, Option.getD_some]
  rw [dh (fe (by omega)), bN (show i ≤ 4294967295 by omega)]) (fun out _ => by simp [gq, bB])
 have e2 : ∀ G, bA (fi h m G) ([], (0:Int)) = some { E := 0, Epoch := 0, Index := 0, Gots := G, Scans := (h.Scans.filter (fun _ => true)).map fun x => (lO m.V x.1 x.2 18446744073709551615 64).getD [] } := fun G => by
  refine lz (body := fi h m G) h.Scans (fun _ => true) (fun x => (lO m.V x.1 x.2 18446744073709551615 64).getD []) (fun out => { E := 0, Epoch := 0, Index := 0, Gots := G, Scans := out }) (fun i hi' out ho => ?_) (fun out _ => by simp [fi, bB])
  have hf := g.s _ (List.getElem_mem hi')
  obtain ⟨P, Q, _, h2, _⟩ := uB hi hn hf.1 hf.2 18446744073709551615 64
  simp only [fi, gZ hi', cond_true, br hi', Option.bind_some, h2, Option.getD_some]
  rw [dh (fe (by omega)), bN (show i ≤ 4294967295 by omega)]
 unfold iR
 rw [e1, Option.bind_some, ka, e2, xE, xE]
 rfl
theorem AQ {rows : List bV} {V : List aF} {n : Nat} (hi : Inv n rows V) (hn : n ≤ 10000) {h : ap} (g : asks h) : eX (rD rows h) (nq V h) = some true := by
 have l1 := g.lg
 have l2 := g.ls
 have eg : (rD rows h).Gots = (nq V h).Gots := by
  refine List.map_congr_left fun x hx => ?_
  obtain ⟨o, _, h1, h2⟩ := qx hi hn (g.g _ hx) 18446744073709551615
  rw [h1, h2]
 have s1 : (rD rows h).Scans.length = h.Scans.length := List.length_map _
 have s2 : (nq V h).Scans.length = h.Scans.length := List.length_map _
 have e0 : ∀ x : Int, (x != x) = false := fun x => by simp
 have sg := wH (nq V h).Gots (by show (h.Gets.map _).length ≤ _; rw [List.length_map]; omega)
 unfold eX
 rw [show (rD rows h).E = 0 from rfl, show (nq V h).E = 0 from rfl, show (rD rows h).Epoch = 0 from rfl, show (nq V h).Epoch = 0 from rfl, show (rD rows h).Index = 0 from rfl, show (nq V h).Index = 0 from rfl, eg, s1, s2, sg]
 simp only [e0, cond_false, Option.bind_some, Bool.not_true]
 refine dC (fun i => (i : Int)) h.Scans.length true (fun i hi' => ?_) ?_
 ·have hf := g.s _ (List.getElem_mem hi')
  obtain ⟨P, Q, h1, h2, h3⟩ := uB hi hn hf.1 hf.2 18446744073709551615 64
  have i1 : i < (rD rows h).Scans.length := by omega
  have i2 : i < (nq V h).Scans.length := by omega
  have p1 : (rD rows h).Scans[i] = P := (List.getElem?_eq_some_iff.1 (show (rD rows h).Scans[i]? = some P by show (h.Scans.map _)[i]? = _; rw [List.getElem?_map, List.getElem?_eq_getElem hi', Option.map_some, h1]; rfl)).2
  have p2 : (nq V h).Scans[i] = Q := (List.getElem?_eq_some_iff.1 (show (nq V h).Scans[i]? = some Q by show (h.Scans.map _)[i]? = _; rw [List.getElem?_map, List.getElem?_eq_getElem hi', Option.map_some, h2]; rfl)).2
  simp only [fH, gZ i1, cond_true, br i1, br i2, p1, p2, Option.bind_some, h3, Bool.not_true, cond_false, bN (show i ≤ 4294967295 by omega)]
 ·rw [← s1]
  simp [fH, bB]
noncomputable def tO (E : Int) (l : List ap) (x : ap) : Int × List ap :=
 match hY kid (kid x) l with
 | some y => bif tr (mR y = mR x) then (0, l) else bif decide (x.ID.Session < 9223372036854775808) then (8, l) else bif decide (x.Epoch ≤ y.Epoch) then (8, l) else bif l.any (bars x) then (8, l) else (0, kz kid l x)
 | none => bif x.Epoch != E then (9, l) else bif l.any (bars x) then (8, l) else (0, kz kid l x)
noncomputable def tf (E : Int) (H : List ap) (x : ap) : Int × List ap :=
 match H.find? (fun z => kid z == kid x) with
 | some y => bif tr (mR y = mR x) then (0, H) else bif decide (x.ID.Session < 9223372036854775808) then (8, H) else bif decide (x.Epoch ≤ y.Epoch) then (8, H) else bif H.any (bars x) then (8, H) else (0, (H.filter fun y => kid y != kid x) ++ [x])
 | none => bif x.Epoch != E then (9, H) else bif H.any (bars x) then (8, H) else (0, (H.filter fun y => kid y != kid x) ++ [x])
def ti (s : ae) (l : List ap) : ae := { s with locks := some { l := l } }
def yo (m : aj) (H : List ap) : aj := { m with H := H }
theorem Dp {s : ae} {l : List ap} (hs : s.locks = some { l := l }) : ti s l = s := by
 obtain ⟨w, e, st, lk, la, bk, op, o, u⟩ := s
 dsimp only at hs
 subst hs; rfl
theorem EL {l : List ap} (h : qX l) (hn : l.length ≤ 999) {x : ap} (hx : ia x) : gT (some { l := l }) x = some (bif l.any (bars x) then (8, some { l := l }) else (0, some { l := kz kid l x })) := by
 rw [DB h hn hx]; cases l.any (bars x) <;> rfl
theorem DV {m : List ap} (hn : m.length ≤ 999) (hg : ∀ x ∈ m, ia x) {x : ap} (hx : ia x) : oq m x = some (bif m.any (bars x) then (m, false) else ((m.filter fun y => kid y != kid x) ++ [x], true)) := by
 rw [CK hn hg hx]; cases m.any (bars x) <;> rfl
theorem EF {s : ae} {l : List ap} (hs : s.locks = some { l := l }) (h : qX l) (hn : l.length ≤ 900) {x : ap} (hx : ia x) : jz (some s) x = some ((tO s.epoch l x).1, some (ti s (tO s.epoch l x).2)) := by
 have hg := get_eq h hx.id
 rw [show idk x.ID = kid x from rfl] at hg
 have ht := EL h (by omega) hx
 have hj : en s x () = some (bif l.any (bars x) then ((8:Int), some (ti s l)) else (0, some (ti s (kz kid l x)))) := by
  unfold en
  rw [hs, ht, Option.bind_some]
  cases l.any (bars x) <;> rfl
 have hw := Dp hs
 unfold jz
 dsimp only
 rw [hs, hg, Option.bind_some]
 unfold tO
 cases e : hY kid (kid x) l with
 | some y =>
  have hy := h.2.2 y ((kt h.1).1 e).1
  have hsm := BI hy hx
  dsimp only
  rw [Option.bind_some]
  show iL ((oe y x).bind fun t415 => (bif t415 then (bB (some ((0:Int), (some s)))) else (bif (decide (x.ID.Session < (9223372036854775808:Int))) then (bB (some ((8:Int), (some s)))) else (bif (decide (x.Epoch ≤ y.Epoch)) then (bB (some ((8:Int), (some s)))) else (some (Sum.inl ())))))) (en s x) = _
  rw [hsm, Option.bind_some]
  cases tr (mR y = mR x) with
  | true => show some ((0:Int), some s) = some (0, some (ti s l)); rw [hw]
  | false =>
  cases decide (x.ID.Session < 9223372036854775808) with
  | true => show some ((8:Int), some s) = some (8, some (ti s l)); rw [hw]
  | false =>
  cases decide (x.Epoch ≤ y.Epoch) with
  | true => show some ((8:Int), some s) = some (8, some (ti s l)); rw [hw]
  | false =>
   show en s x () = _
   rw [hj]
   cases l.any (bars x) <;> rfl
 | none =>
  dsimp only
  rw [Option.bind_some]
  show iL (bif x.Epoch != s.epoch then bB (some ((9:Int), some s)) else some (Sum.inl ())) (en s x) = _
  cases x.Epoch != s.epoch with
  | true => show some ((9:Int), some s) = some (9, some (ti s l)); rw [hw]
  | false =>
   show en s x () = _
   rw [hj]
   cases l.any (bars x) <;> rfl
theorem Fm {m : aj} (hn : m.H.length ≤ 900) (hg : ∀ y ∈ m.H, ia y) {x : ap} (hx : ia x) : iV m x = some ((tf m.Epoch m.H x).1, yo m (tf m.Epoch m.H x).2) := by
 have hh := xN (m := m.H) (by omega) hg hx.id
 rw [show idk x.ID = kid x from rfl] at hh
 have ht := DV (m := m.H) (by omega) hg hx
 have hj : dY m x () = some (bif m.H.any (bars x) then ((8:Int), yo m m.H) else (0, yo m ((m.H.filter fun y => kid y != kid x) ++ [x]))) := by
  unfold dY
  rw [ht, Option.bind_some]
  cases m.H.any (bars x) <;> rfl
 unfold iV
 rw [hh, Option.bind_some]
 unfold tf
 cases e : m.H.find? (fun z => kid z == kid x) with
 | some y =>
  have hy := hg y (List.mem_of_find?_eq_some e)
  have hsm := xn hy hx
  dsimp only
  rw [Option.bind_some]
  show iL (((ji y x).bind fun t676 => (bif t676 then (bB (some ((0:Int), m))) else (some (Sum.inl ()))))) (fun u => iL (bif (decide (x.ID.Session < (9223372036854775808:Int))) then (bB (some ((8:Int), m))) else (bif (decide (x.Epoch ≤ y.Epoch)) then (bB (some ((8:Int), m))) else (some (Sum.inl ())))) (fun u => dY m x u)) = _
  rw [hsm, Option.bind_some]
  cases tr (mR y = mR x) with
  | true => rfl
  | false =>
  cases decide (x.ID.Session < 9223372036854775808) with
  | true => rfl
  | false =>
  cases decide (x.Epoch ≤ y.Epoch) with
  | true => rfl
  | false =>
   show dY m x () = _
   rw [hj]
   cases m.H.any (bars x) <;> rfl
 | none =>
  dsimp only
  rw [Option.bind_some]
  show iL (bif x.Epoch != m.Epoch then bB (some ((9:Int), m)) else some (Sum.inl ())) (fun u => dY m x u) = _
  cases x.Epoch != m.Epoch with
  | true => rfl
  | false =>
   show dY m x () = _
   rw [hj]
   cases m.H.any (bars x) <;> rfl
theorem Ds {l H : List ap} (h : qX l) (hp : l.Perm H) (E : Int) (hn : l.length ≤ 900) {x : ap} (hx : ia x) : (tO E l x).1 = (tf E H x).1 ∧ (tO E l x).2.Perm (tf E H x).2 ∧ qX (tO E l x).2 ∧ (tO E l x).2.length ≤ l.length + 1 := by
 have hput := Ea h hp x
 have tput := Dm h hx (by omega)
 have lput := se h.1 x
 unfold tO tf
 rw [ur h.1 hp, vv hp (bars x)]
 cases hY kid (kid x) l with
 | some y =>
  dsimp only
  cases tr (mR y = mR x) with
  | true => exact ⟨rfl, hp, h, Nat.le_succ _⟩
  | false =>
  cases decide (x.ID.Session < 9223372036854775808) with
  | true => exact ⟨rfl, hp, h, Nat.le_succ _⟩
  | false =>
  cases decide (x.Epoch ≤ y.Epoch) with
  | true => exact ⟨rfl, hp, h, Nat.le_succ _⟩
  | false =>
  cases H.any (bars x) with
  | true => exact ⟨rfl, hp, h, Nat.le_succ _⟩
  | false => exact ⟨rfl, hput, tput, lput⟩
 | none =>
  dsimp only
  cases x.Epoch != E with
  | true => exact ⟨rfl, hp, h, Nat.le_succ _⟩
  | false =>
  cases H.any (bars x) with
  | true => exact ⟨rfl, hp, h, Nat.le_succ _⟩
  | false => exact ⟨rfl, hput, tput, lput⟩
def yB (a b : bj) : Prop := a.Kind = b.Kind ∧ a.ID = b.ID ∧ eX a.R b.R = some true
theorem gO {a : bj} (h : okR a.R) : yB a a := ⟨rfl, rfl, tt h⟩
theorem vo (e p i : Int) : okR { E := e, Epoch := p, Index := i, Gots := [], Scans := [] } := ⟨by show (0:Nat) ≤ _; omega, by show (0:Nat) ≤ _; omega, fun l hl => (by cases hl)⟩
theorem Eb {s : ae} {c : aH} (hk : c.Kind = 2) (n : Int) : cv (some s) n c = (jf (some s) c).bind fun t => match t.2 with | none => none | some y => some (t.1, some y) := by
 unfold cv
 dsimp only
 rw [hk]; rfl
theorem Fl {s : ae} {c : aH} (hk : c.Kind = 3) (n : Int) : cv (some s) n c = (ir (some s) c).bind fun t => match t.2 with | none => none | some y => some (t.1, some y) := by
 unfold cv
 dsimp only
 rw [hk]; rfl
theorem Ci {m : aj} {c : aH} (hk : c.Kind = 2) (n : Int) : cx m n c = (iV m c.Hold).bind fun t921 => (((bif (t921.1 == (0:Int)) then ((iR t921.2 c.Hold).bind fun t927 => (some ({ Kind := (2:Int), ID := c.Hold.ID, R := t927 } : bj))) else (some ({ Kind := (2:Int), ID := c.Hold.ID, R := bK } : bj)))).bind (jR t921)) := by
 unfold cx
 rw [hk]; rfl
theorem Ec {m : aj} {c : aH} (hk : c.Kind = 3) (n : Int) : cx m n c = (((kO m.H c.ID).bind fun t980 => (some t980.2))).bind (ig m c) := by
 unfold cx
 rw [hk]; rfl
theorem AW {s : ae} {m : aj} {rows : List bV} {l : List ap} {k : Nat} (hs : s.store = some { rows := rows }) (hl : s.locks = some { l := l }) (he : s.epoch = m.Epoch) (hi : Inv k rows m.V) (hk : k ≤ 10000) (h : qX l) (hn : l.length ≤ 900) (hp : l.Perm m.H) {c : aH} (hc : c.Kind = 2) (hx : ia c.Hold) (n : Int) :
  ∃ e e' l' H', cv (some s) n c = some (e, some (ti s l')) ∧ cx m n c = some (e', yo m H') ∧ yB e e' ∧ qX l' ∧ l'.length ≤ l.length + 1 ∧ l'.Perm H' := by
 have hg : ∀ y ∈ m.H, ia y := fun y hy => h.2.2 y (hp.mem_iff.2 hy)
 have hm : m.H.length = l.length := hp.length_eq.symm
 obtain ⟨r1, r2, r3, r4⟩ := Ds h hp m.Epoch hn hx
 have q1 := EF hl h hn hx
 have q2 := Fm (m := m) (by omega) hg hx
 rw [he, r1] at q1
 have gx : asks c.Hold := by
  obtain ⟨_, _, _, g4, g5, g6, l1, l2, _⟩ := hx
  exact ⟨g4, g5, by omega, by omega⟩
 have t1 := EO (s := ti s (tO m.Epoch l c.Hold).2) (rows := rows) hs hi hk gx
 have t2 := Fo (m := yo m (tf m.Epoch m.H c.Hold).2) (rows := rows) hi hk gx
 have ts := AQ hi hk gx
 rw [Eb hc, Ci hc]
 unfold jf
 rw [q1, q2]
 simp only [Option.bind_some]
 cases hz : (tf m.Epoch m.H c.Hold).1 == (0:Int) with
 | true =>
  have hz0 := eq_of_beq hz
  rw [t1, t2]
  simp only [cond_true, Option.bind_some]
  refine ⟨_, _, _, _, rfl, rfl, ⟨rfl, rfl, ?_⟩, r3, r4, r2⟩
  show eX (rD rows c.Hold) { E := (tf m.Epoch m.H c.Hold).1, Epoch := (nq m.V c.Hold).Epoch, Index := (nq m.V c.Hold).Index, Gots := (nq m.V c.Hold).Gots, Scans := (nq m.V c.Hold).Scans } = _
  rw [show ({ E := (tf m.Epoch m.H c.Hold).1, Epoch := (nq m.V c.Hold).Epoch, Index := (nq m.V c.Hold).Index, Gots := (nq m.V c.Hold).Gots, Scans := (nq m.V c.Hold).Scans } : bw) = nq m.V c.Hold by rw [hz0]; rfl]
  exact ts
 | false =>
  simp only [cond_false, Option.bind_some]
  exact ⟨_, _, _, _, rfl, rfl, ⟨rfl, rfl, tt (vo _ _ _)⟩, r3, r4, r2⟩
def yn (c : aH) (w : bR) : aF := { w with Epoch := c.Epoch, Index := c.Index }
def yv (c : aH) (rows : List bV) (w : bR) : List bV := yc rows (aB w.At) (clr (ver (yn c w)))
def xO (c : aH) (V : List aF) (w : bR) : List aF := V.filter (fun y => tF (ky (qR (yn c w))) (qR y)) ++ [clx (yn c w)]
theorem yj {n : Nat} {c : aH} {V : List aF} {rows : List bV} (h : Inv n rows V) : ∀ (ws : List bR), (∀ w ∈ ws, xG (yn c w)) → n + ws.length ≤ 10000 → Inv (n + ws.length) (ws.foldl (yv c) rows) (ws.foldl (xO c) V) := by
 intro ws
 induction ws generalizing n V rows with
 | nil => intro _ _; exact h
 | cons w ws ih =>
  intro hg hn
  rw [List.length_cons] at hn
  have gx := hg w (by simp)
  obtain ⟨_, m', h2, h3⟩ := Ap h (by omega) gx
  have h4 := ud (fun y hy => (h.xg y hy).1) gx.1 (by have := h.mlen; omega) (fun y hy => (h.xg y hy).2.1) gx.2.1
  rw [h2] at h4
  have h5 := some_inj h4
  rw [h5] at h3
  have := ih (n := n + 1) (rows := yv c rows w) (V := xO c V w) h3 (fun y hy => hg y (by simp [hy])) (by omega)
  rw [List.length_cons, List.foldl_cons, List.foldl_cons]
  rw [show n + (ws.length + 1) = n + 1 + ws.length by omega]
  exact this
theorem CC {c : aH} {V : List aF} : ∀ (ws : List bR) {y : aF}, y ∈ ws.foldl (xO c) V → y ∈ V ∨ (y.Epoch = c.Epoch ∧ y.Index = c.Index) := by
 intro ws
 induction ws generalizing V with
 | nil => intro y hy; exact .inl hy
 | cons w ws ih =>
  intro y hy
  rw [List.foldl_cons] at hy
  rcases ih hy with h | h
  ·rcases List.mem_append.1 h with h | h
   ·exact .inl (List.mem_filter.1 h).1
   ·rw [List.mem_singleton.1 h]; exact .inr ⟨rfl, rfl⟩
  ·exact .inr h
theorem rX {α β : Type} (f : β → α → β) (l : List α) {i : Nat} (hi : i < l.length) (b : β) : (l.take (i + 1)).foldl f b = f ((l.take i).foldl f b) l[i] := by
 rw [List.take_succ_eq_append_getElem hi, List.foldl_append]; rfl
def tE (s : ae) (rows : List bV) (l : List ap) : ae := { s with store := some { rows := rows }, locks := some { l := l } }
def qU (m : aj) (V : List aF) (H : List ap) : aj := { m with V := V, H := H }
theorem BX {s : ae} {m : aj} {rows : List bV} {l : List ap} {k : Nat} (hs : s.store = some { rows := rows }) (hl : s.locks = some { l := l }) (hi : Inv k rows m.V) (h : qX l) (hp : l.Perm m.H) {c : aH} (hc : c.Kind = 3) (hid : idG c.ID) (hw : ∀ w ∈ c.Writes, xG (yn c w)) (hk : k + c.Writes.length ≤ 10000) (n : Int) :
  ∃ rows' V' l' H', cv (some s) n c = some ({ Kind := 3, ID := c.ID, R := bK }, some (tE s rows' l')) ∧ cx m n c = some ({ Kind := 3, ID := c.ID, R := bK }, qU m V' H') ∧ Inv (k + c.Writes.length) rows' V' ∧ qX l' ∧ l'.length ≤ l.length ∧ l'.Perm H' ∧ ∀ y ∈ V', y ∈ m.V ∨ (y.Epoch = c.Epoch ∧ y.Index = c.Index) := by
 have hg : ∀ y ∈ m.H, ia y := fun y hy => h.2.2 y (hp.mem_iff.2 hy)
 have hm : m.H.length = l.length := hp.length_eq.symm
 have hn := h.2.1
 have t' := Dq h (idk c.ID)
 have p' : (oG kid (idk c.ID) l).Perm (m.H.filter fun y => kid y != idk c.ID) := by rw [← kA h.1]; exact hp.filter _
 have l' := vW h.1 (idk c.ID)
 obtain ⟨w, e3, e4⟩ : ∃ w, kO m.H c.ID = some w ∧ w.2 = hit kid (idk c.ID) l := ⟨_, xN (by omega) hg hid, by
  rw [ur h.1 hp, CG]
  cases hY kid (idk c.ID) l <;> rfl⟩
 have d1 := drop_eq h hid
 have d2 := yC (m := m.H) (by omega) hg hid
 rw [Fl hc, Ec hc, e3]
 unfold ir
 dsimp only
 rw [hl, d1]
 simp only [Option.bind_some, e4, ig, d2]
 cases hh : hit kid (idk c.ID) l with
 | false =>
  have hr : bA (dx false c) (({ m with H := (m.H.filter fun x => kid x != idk c.ID) } : aj), (0:Int)) = some (qU m m.V (m.H.filter fun x => kid x != idk c.ID)) := by
   rw [eD]; rfl
  rw [hr]
  refine ⟨rows, m.V, _, _, ?_, rfl, hi.up (Nat.le_add_right _ _), t', l', p', fun y hy => .inl hy⟩
  rw [hs]; rfl
 | true =>
  cases hE : c.E == (0:Int) with
  | false =>
   have hr : bA (dx true c) (({ m with H := (m.H.filter fun x => kid x != idk c.ID) } : aj), (0:Int)) = some (qU m m.V (m.H.filter fun x => kid x != idk c.ID)) := by
    rw [eD]; simp only [dx, hE]; rfl
   rw [hr]
   refine ⟨rows, m.V, _, _, ?_, rfl, hi.up (Nat.le_add_right _ _), t', l', p', fun y hy => .inl hy⟩
   rw [hs]; rfl
  | true =>
   have hpart : ∀ i, i ≤ c.Writes.length → Inv (k + i) ((c.Writes.take i).foldl (yv c) rows) ((c.Writes.take i).foldl (xO c) m.V) := fun i hi' => by
    have := yj (c := c) hi (c.Writes.take i) (fun w hw' => hw w (List.mem_of_mem_take hw')) (by rw [List.length_take]; omega)
    rw [List.length_take, Nat.min_eq_left hi'] at this
    exact this
   have h1 : bA (eV c) (tE s rows (oG kid (idk c.ID) l), (0:Int)) = some (tE s (c.Writes.foldl (yv c) rows) (oG kid (idk c.ID) l)) := by
    have := dC (body := eV c) (fun i => (tE s ((c.Writes.take i).foldl (yv c) rows) (oG kid (idk c.ID) l), (i : Int))) c.Writes.length (tE s (c.Writes.foldl (yv c) rows) (oG kid (idk c.ID) l)) (fun i hi' => by
     obtain ⟨h2, _⟩ := Ap (hpart i (by omega)) (by omega) (hw _ (List.getElem_mem hi'))
     have h2 : ie (tE s ((c.Writes.take i).foldl (yv c) rows) (oG kid (idk c.ID) l)).store c.Writes[i].At { c with Del := c.Writes[i].Del, Val := c.Writes[i].Val } = _ := h2
     simp only [eV, gZ hi', cond_true, br hi', Option.bind_some, h2, bN (show i ≤ 4294967295 by omega), rX _ _ hi']
     rfl) (by simp [eV, bB])
    simpa using this
   have h3 : bA (dx true c) (qU m m.V (m.H.filter fun x => kid x != idk c.ID), (0:Int)) = some (qU m (c.Writes.foldl (xO c) m.V) (m.H.filter fun x => kid x != idk c.ID)) := by
    have := dC (body := dx true c) (fun i => (qU m ((c.Writes.take i).foldl (xO c) m.V) (m.H.filter fun x => kid x != idk c.ID), (i : Int))) c.Writes.length (qU m (c.Writes.foldl (xO c) m.V) (m.H.filter fun x => kid x != idk c.ID)) (fun i hi' => by
     have hI := hpart i (by omega)
     have gx := hw _ (List.getElem_mem hi')
     have h4 := ud (fun y hy => (hI.xg y hy).1) gx.1 (by have := hI.mlen; omega) (fun y hy => (hI.xg y hy).2.1) gx.2.1
     have h4 : nX (qU m ((c.Writes.take i).foldl (xO c) m.V) (m.H.filter fun x => kid x != idk c.ID)).V { At := c.Writes[i].At, Epoch := c.Epoch, Index := c.Index, Del := c.Writes[i].Del, Val := c.Writes[i].Val } = _ := h4
     simp only [dx, hE, gZ hi', cond_true, br hi', Option.bind_some, h4, bN (show i ≤ 4294967295 by omega), rX _ _ hi']
     rfl) (by simp [dx, bB, hE])
    simpa using this
   have h3' : bA (dx true c) (({ m with H := (m.H.filter fun x => kid x != idk c.ID) } : aj), (0:Int)) = some (qU m (c.Writes.foldl (xO c) m.V) (m.H.filter fun x => kid x != idk c.ID)) := h3
   rw [h3']
   refine ⟨c.Writes.foldl (yv c) rows, _, oG kid (idk c.ID) l, _, ?_, rfl, yj (c := c) hi c.Writes hw hk, t', l', p', fun y hy => CC c.Writes hy⟩
   simp only [cond_true]
   rw [hs]
   rw [show ({ s with store := some { rows := rows }, locks := some { l := oG kid (idk c.ID) l } } : ae) = tE s rows (oG kid (idk c.ID) l) from rfl, h1]
   rfl
end Go.Proofs.YtgnkkopjkgdieaaGreat

end
section
set_option linter.unusedVariables false
set_option linter.unusedSimpArgs false
set_option maxRecDepth 100000
namespace Go.Proofs.YtgnkkopjkgdieaaGreat
open Go Go.V
def dkk (d : bC) : Int := idk d.ID
theorem BJ (d : bC) (i : bO) : ij d i = some (wF d.ID i) := by
 simp only [ij, xZ, CR, Option.bind_some, wF]
theorem Em {s : ae} (hr : fN dkk s.open_) (hn : s.open_.length ≤ 1000) (hg : ∀ d ∈ s.open_, idG d.ID) {i : bO} (hi : idG i) : gG (some s) i = some (((pl dkk (idk i) s.open_ : Nat) : Int), hit dkk (idk i) s.open_) := by
 have hs : bA (gN s i) (((s.open_.length : Nat) : Int), (0:Int)) = some ((lb (lo dkk (idk i)) s.open_ : Nat) : Int) := by
  refine pY (R := Int) s.open_ (lo dkk (idk i)) (by omega) (hr.ahd (idk i)) (fun a j k hk hij hke hj => ?_) (fun a j hij => ?_)
  ·have e1 : decide ((a : Int) < (j : Int)) = true := by simpa using hij
   have e2 := tI (i := a) (j := j) (by omega)
   rw [← hke] at e2
   simp only [gN, e1, cond_true, e2, br hk, Option.bind_some, BJ]
   have e4 : decide (wF s.open_[k].ID i < 0) = lo dkk (idk i) s.open_[k] := by
    unfold lo
    rw [decide_eq_decide]
    exact Ad (hg _ (List.getElem_mem hk)) hi
   rw [e4, bN (show k ≤ 4294967295 by omega)]
   cases lo dkk (idk i) s.open_[k] <;> rfl
  ·have e1 : decide ((a : Int) < (j : Int)) = false := by simpa using hij
   simp only [gN, e1, cond_false, bB, Option.map_some]
 unfold gG
 dsimp only
 rw [hs]
 simp only [Option.bind_some, kC]
 rw [show lb (lo dkk (idk i)) s.open_ = pl dkk (idk i) s.open_ from rfl]
 unfold hit
 by_cases hk : pl dkk (idk i) s.open_ < s.open_.length
 ·rw [gZ hk, cond_true, br hk, Option.bind_some]
  simp only [BJ, Option.bind_some, List.getElem?_eq_getElem hk]
  congr 2
  rw [Bool.eq_iff_iff]
  simp only [beq_iff_eq]
  exact CQ (hg _ (List.getElem_mem hk)) hi
 ·have e1 : decide (((pl dkk (idk i) s.open_ : Nat) : Int) < (s.open_.length : Int)) = false := by simpa using hk
  rw [e1, cond_false, List.getElem?_eq_none (by omega)]
  rfl
theorem zX {m : aj} (hn : m.Open.length ≤ 1000) (hg : ∀ d ∈ m.Open, idG d.ID) {i : bO} (hi : idG i) : fI m i = some { m with Open := m.Open.filter (fun d => dkk d != idk i) } := by
 have h := lz (body := fm m i) m.Open (fun d => dkk d != idk i) (fun d => d) (fun out => out) (fun a ha out ho => by
  have g := hg _ (List.getElem_mem ha)
  simp only [fm, gZ ha, cond_true, br ha, Option.bind_some, sB g hi, dh (fe (x := m.Open[a]) (show out.length ≤ 1073741823 by omega)), bN (show a ≤ 4294967295 by omega)]
  show (bif !(dkk m.Open[a] == idk i) then _ else _) = _
  simp only [bne]
  cases dkk m.Open[a] == idk i <;> rfl) (fun out _ => by simp [fm, bB])
 rw [List.map_id'] at h
 rw [fI, h, Option.bind_some, js]
def uk (u : cn) : Int := u.jT
def cu (u : cn) : dv := { Rule := u.jT, Epoch := u.epoch, N := u.n }
theorem Cz (u : cn) (r : Int) : ik u r = some (sg u.jT r) := by simp only [ik, xZ, Option.bind_some]
theorem FA {s : ae} (hr : fN uk s.used) (hn : s.used.length ≤ 1000) (c : aH) : (bA (fJ s c) (((s.used.length : Nat) : Int), (0:Int))).bind (jd s c) = some (((pl uk c.Rule.ID s.used : Nat) : Int), hit uk c.Rule.ID s.used) := by
 have hs : bA (fJ s c) (((s.used.length : Nat) : Int), (0:Int)) = some ((lb (lo uk c.Rule.ID) s.used : Nat) : Int) := by
  refine pY (R := Int) s.used (lo uk c.Rule.ID) (by omega) (hr.ahd c.Rule.ID) (fun a j k hk hij hke hj => ?_) (fun a j hij => ?_)
  ·have e1 : decide ((a : Int) < (j : Int)) = true := by simpa using hij
   have e2 := tI (i := a) (j := j) (by omega)
   rw [← hke] at e2
   simp only [fJ, e1, cond_true, e2, br hk, Option.bind_some, Cz]
   have e4 : decide (sg s.used[k].jT c.Rule.ID < 0) = lo uk c.Rule.ID s.used[k] := by
    unfold lo
    rw [decide_eq_decide]
    exact BM
   rw [e4, bN (show k ≤ 4294967295 by omega)]
   cases lo uk c.Rule.ID s.used[k] <;> rfl
  ·have e1 : decide ((a : Int) < (j : Int)) = false := by simpa using hij
   simp only [fJ, e1, cond_false, bB, Option.map_some]
 rw [hs]
 simp only [Option.bind_some, jd]
 rw [show lb (lo uk c.Rule.ID) s.used = pl uk c.Rule.ID s.used from rfl]
 unfold hit
 by_cases hk : pl uk c.Rule.ID s.used < s.used.length
 ·rw [gZ hk, cond_true, br hk, Option.bind_some]
  simp only [Cz, Option.bind_some, List.getElem?_eq_getElem hk]
  congr 2
  rw [Bool.eq_iff_iff]
  simp only [beq_iff_eq]
  exact Bf
 ·have e1 : decide (((pl uk c.Rule.ID s.used : Nat) : Int) < (s.used.length : Int)) = false := by simpa using hk
  rw [e1, cond_false, List.getElem?_eq_none (by omega)]
def rn (id ep acc : Int) (u : dv) : Int := bif u.Rule != id then acc else bif u.Epoch == ep then u.N else acc
theorem sI {id ep : Int} : ∀ {l : List dv} {acc : Int}, (∀ u ∈ l, u.Rule ≠ id) → l.foldl (rn id ep) acc = acc
 | [], _, _ => rfl
 | u :: l, acc, h => by
  have h1 : (u.Rule != id) = true := by simpa using h u (by simp)
  rw [List.foldl_cons, show rn id ep acc u = acc by unfold rn; rw [h1]; rfl]
  exact sI fun v hv => h v (by simp [hv])
theorem Fs {m : aj} (hn : m.Used.length ≤ 1000) (c : aH) : bA (ff m c) ((0:Int), (0:Int), []) = some (m.Used.foldl (rn c.Rule.ID c.Epoch) 0, m.Used.filter fun u => u.Rule != c.Rule.ID) := by
 have h := dC (body := ff m c) (fun i => ((m.Used.take i).foldl (rn c.Rule.ID c.Epoch) 0, (i : Int), (m.Used.take i).filter fun u => u.Rule != c.Rule.ID)) m.Used.length (m.Used.foldl (rn c.Rule.ID c.Epoch) 0, m.Used.filter fun u => u.Rule != c.Rule.ID) (fun i hi => by
  have hl := List.length_filter_le (fun u : dv => u.Rule != c.Rule.ID) (m.Used.take i)
  rw [List.length_take] at hl
  simp only [ff, gZ hi, cond_true, br hi, Option.bind_some, bN (show i ≤ 4294967295 by omega), rX _ _ hi]
  rw [List.take_succ_eq_append_getElem hi, List.filter_append, List.filter_cons, List.filter_nil, dh (fe (by omega))]
  unfold rn
  cases m.Used[i].Rule != c.Rule.ID with
  | true => rfl
  | false => cases m.Used[i].Epoch == c.Epoch <;> simp) (by simp [ff, bB])
 simpa using h
def rN (l : List cn) (id ep : Int) : Int := match hY uk id l with | some u => bif u.epoch == ep then u.n else 0 | none => 0
theorem CN {l : List cn} {U : List dv} (hr : fN uk l) (hp : (l.map cu).Perm U) (id ep : Int) : U.foldl (rn id ep) 0 = rN l id ep := by
 unfold rN
 cases e : hY uk id l with
 | none =>
  refine sI fun u hu => ?_
  obtain ⟨x, hx, rfl⟩ := List.mem_map.1 (hp.mem_iff.2 hu)
  exact (ux hr).1 e x hx
 | some x =>
  obtain ⟨h1, h2⟩ := (kt hr).1 e
  have hxU : cu x ∈ U := hp.mem_iff.1 (List.mem_map_of_mem h1)
  have hnd : (U.map (·.Rule)).Nodup := by
   have h3 : ((l.map cu).map (·.Rule)).Nodup := by
    rw [List.map_map]
    exact List.pairwise_map.2 (List.Pairwise.imp (fun {a b} h => fun e => by have : uk a = uk b := e; omega) hr)
   exact ((hp.map (·.Rule)).nodup_iff).1 h3
  obtain ⟨A, B, rfl⟩ := List.append_of_mem hxU
  rw [List.map_append, List.map_cons] at hnd
  have hA : ∀ u ∈ A, u.Rule ≠ id := fun u hu e => by
   have := (List.nodup_append.1 hnd).2.2 u.Rule (List.mem_map_of_mem hu) (cu x).Rule (by simp)
   exact this (e.trans h2.symm)
  have hB : ∀ u ∈ B, u.Rule ≠ id := fun u hu e => by
   have h5 := (List.nodup_cons.1 (List.nodup_append.1 hnd).2.1).1
   exact h5 (List.mem_map.2 ⟨u, hu, e.trans h2.symm⟩)
  have h2' : ((cu x).Rule != id) = false := by
   have : (cu x).Rule = id := h2
   simp [this]
  rw [List.foldl_append, List.foldl_cons, sI hA, sI hB]
  unfold rn
  rw [h2']
  rfl
def Fu (d : bC) : Prop := idG d.ID ∧ d.Parts.length ≤ 8 ∧ ∀ p ∈ d.Parts, qQ p.Writes
structure LP (k : Nat) (s : ae) (m : aj) : Prop where
 wd : s.wide = m.Wide
 wb : s.wide ≤ 1000000
 ep : s.epoch = m.Epoch
 e1 : 1 ≤ s.epoch
 e2 : s.epoch ≤ 5
 st : ∃ rows, s.store = some { rows := rows } ∧ Inv (32 * k) rows m.V
 lk : ∃ l, s.locks = some { l := l } ∧ qX l ∧ l.length ≤ k ∧ l.Perm m.H
 la : ∃ t, s.last = some { l := t } ∧ fj t ∧ t.length ≤ k ∧ Rel t m.A ∧ Cj t ∧ ∀ d ∈ s.open_, d.ID.Seq ≤ dG d.ID.Session t
 bk : ∃ b, s.book = some b ∧ m.B = b.l.map dD ∧ b.l.length ≤ k ∧ ∀ x ∈ b.l, rB x.r
 op : fN dkk s.open_ ∧ s.open_.length ≤ k ∧ s.open_.Perm m.Open ∧ ∀ d ∈ s.open_, Fu d
 ou : m.Out = s.out ∧ s.out.length ≤ k ∧ ∀ x ∈ s.out, isF x.W.At
 us : fN uk s.used ∧ s.used.length ≤ k ∧ (s.used.map cu).Perm m.Used ∧ ∀ u ∈ s.used, 0 ≤ u.n ∧ u.n ≤ k
theorem LP.up {k : Nat} {s : ae} {m : aj} (h : LP k s m) : LP (k + 1) s m := by
 obtain ⟨wd, wb, ep, e1, e2, ⟨rows, a1, a2⟩, ⟨l, b1, b2, b3, b4⟩, ⟨t, c1, c2, c3, c4⟩, ⟨b, d1, d2, d3, d4⟩, ⟨o1, o2, o3⟩, ⟨p1, p2, p3⟩, ⟨u1, u2, u3, u4⟩⟩ := h
 exact ⟨wd, wb, ep, e1, e2, ⟨rows, a1, a2.up (by omega)⟩, ⟨l, b1, b2, by omega, b4⟩, ⟨t, c1, c2, by omega, c4⟩, ⟨b, d1, d2, by omega, d4⟩, ⟨o1, by omega, o3⟩, ⟨p1, by omega, p3⟩, ⟨u1, by omega, u3, fun u hu => by have := u4 u hu; omega⟩⟩
def Step (k : Nat) (s : ae) (m : aj) (n : Int) (c : aH) : Prop := ∃ e e' s' m', cv (some s) n c = some (e, some s') ∧ cx m n c = some (e', m') ∧ yB e e' ∧ LP (k + 1) s' m'
theorem vZ : okR bL.R := vo 0 0 0
theorem Ex {s : ae} {l : List ap} (hl : s.locks = some { l := l }) (hn : l.length ≤ 1000) : jh (some s) = some (!(l.any fun x => decide (x.Epoch ≤ s.epoch))) := by
 show (eM s.locks s.epoch).bind _ = _
 rw [hl, BG hn]; rfl
theorem Ej {m : aj} (hn : m.H.length ≤ 1000) : iz m = some (!(m.H.any fun x => decide (x.Epoch ≤ m.Epoch))) := by
 have h := nJ (body := gQ m) m.H (fun x => decide (x.Epoch ≤ m.Epoch)) false true (fun i hi => by
  simp only [gQ, gZ hi, cond_true, br hi, Option.bind_some, bN (show i ≤ 4294967295 by omega)]
  cases decide (m.H[i].Epoch ≤ m.Epoch) <;> rfl) (by simp [gQ, bB])
 rw [iz, h]
 cases m.H.any fun x => decide (x.Epoch ≤ m.Epoch) <;> rfl
theorem zE {k : Nat} {s : ae} {m : aj} (h : LP k s m) (hk : k ≤ 100) {c : aH} (hc : c.Kind = 1) (he : c.Epoch ≤ 4) (n : Int) : Step k s m n c := by
 obtain ⟨l, b1, b2, b3, b4⟩ := h.lk
 have q1 := Ex b1 (by omega)
 have q2 := Ej (m := m) (by have := b4.length_eq; omega)
 rw [vv b4, h.ep] at q1
 have hA : cv (some s) n c = (iy (some s) c).bind fun t => match t.2 with | none => none | some y => some (t.1, some y) := by
  unfold cv
  dsimp only
  rw [hc]; rfl
 have hM : cx m n c = (bif (c.Epoch != m.Epoch) then (some (bL, m)) else ((iz m).bind fun t850 => (bif (!t850) then (some (bL, m)) else (bif (decide ((IntKind.u64.wrap (m.Epoch + (1:Int))) > (9:Int))) then none else (some (({ Kind := (1:Int), ID := ({ Session := (0:Int), Seq := (0:Int) } : bO), R := bK } : bj), ({ m with Epoch := (IntKind.u64.wrap (m.Epoch + (1:Int))) } : aj))))))) := by
  unfold cx
  rw [hc]; rfl
 unfold Step
 rw [hA, hM]
 unfold iy
 dsimp only
 rw [h.ep]
 cases hE : c.Epoch != m.Epoch with
 | true => exact ⟨_, _, _, _, rfl, rfl, gO vZ, h.up⟩
 | false =>
  have hEq : c.Epoch = m.Epoch := by simpa using hE
  rw [q1, q2]
  simp only [cond_false, Option.bind_some]
  cases m.H.any fun x => decide (x.Epoch ≤ m.Epoch) with
  | true => exact ⟨_, _, _, _, rfl, rfl, gO vZ, h.up⟩
  | false =>
   have w : IntKind.u64.wrap (m.Epoch + (1:Int)) = m.Epoch + 1 := by
    have := h.e1; have := h.e2; have := h.ep
    rw [mP] <;> omega
   have d : decide (m.Epoch + 1 > (9:Int)) = false := decide_eq_false (by omega)
   rw [w, d]
   refine ⟨_, _, _, _, rfl, rfl, gO (vo 0 0 0), ?_⟩
   obtain ⟨wd, wb, ep, e1, e2, a, b, cc, dd, o, p, u⟩ := h.up
   exact ⟨wd, wb, rfl, by show 1 ≤ m.Epoch + 1; omega, by show m.Epoch + 1 ≤ 5; omega, a, b, cc, dd, o, p, u⟩
theorem Bo {k : Nat} {s : ae} {m : aj} (h : LP k s m) (hk : k ≤ 100) {c : aH} (hc : c.Kind = 2) (hx : ia c.Hold) (n : Int) : Step k s m n c := by
 obtain ⟨rows, a1, a2⟩ := h.st
 obtain ⟨l, b1, b2, b3, b4⟩ := h.lk
 obtain ⟨e, e', l', H', q1, q2, q3, q4, q5, q6⟩ := AW a1 b1 h.ep a2 (by omega) b2 (by omega) b4 hc hx n
 obtain ⟨wd, wb, ep, e1, e2, a, b, cc, dd, o, p, u⟩ := h.up
 exact ⟨e, e', _, _, q1, q2, q3, wd, wb, ep, e1, e2, a, ⟨l', rfl, q4, by omega, q6⟩, cc, dd, o, p, u⟩
theorem xL {x : Int} (h : isU 8 x) : 0 ≤ x ∧ x < 18446744073709551616 := by
 obtain ⟨a, b⟩ := h
 rw [pw8] at b
 exact ⟨a, by omega⟩
theorem Cn {k : Nat} {s : ae} {m : aj} (h : LP k s m) (hk : k ≤ 100) {c : aH} (hc : c.Kind = 3) (g : BB c) (n : Int) : Step k s m n c := by
 obtain ⟨rows, a1, a2⟩ := h.st
 obtain ⟨l, b1, b2, b3, b4⟩ := h.lk
 obtain ⟨_, gid, ge, gi, _, _, gw, _⟩ := g
 have hep := xL ge
 have hix := xL gi
 have hwl := gw.1
 obtain ⟨rows', V', l', H', q1, q2, q3, q4, q5, q6, _⟩ := BX a1 b1 a2 b2 b4 hc gid (fun w hw => by
  have g := gw.2 w hw
  exact ⟨g.1, ⟨hep.1, hep.2, hix.1, hix.2⟩, g.2.1, g.2.2⟩) (by omega) n
 obtain ⟨wd, wb, ep, e1, e2, a, b, cc, dd, o, p, u⟩ := h.up
 exact ⟨_, _, _, _, q1, q2, gO (vo 0 0 0), wd, wb, ep, e1, e2, ⟨rows', rfl, q3.up (by omega)⟩, ⟨l', rfl, q4, by omega, q6⟩, cc, dd, o, p, u⟩
theorem yT {k : Nat} {s : ae} {m : aj} (h : LP k s m) (hk : k ≤ 100) {c : aH} (hc : c.Kind = 5) (hi : idG c.ID) (n : Int) : Step k s m n c := by
 obtain ⟨o1, o2, o3, o4⟩ := h.op
 obtain ⟨t, c1, c2, c3, c4, c5, c6⟩ := h.la
 have hf := Em o1 (by omega) (fun d hd => (o4 d hd).1) hi
 have hm := zX (m := m) (by have := o3.length_eq; omega) (fun d hd => (o4 d (o3.mem_iff.2 hd)).1) hi
 have hA : cv (some s) n c = (gG (some s) c.ID).bind fun t304 => (bif t304.2 then ((dt s.open_ t304.1 (IntKind.i64.wrap (t304.1 + (1:Int)))).bind fun t326 => (some (bL, (some ({ s with open_ := t326 } : ae))))) else (some (bL, (some s)))) := by
  unfold cv
  dsimp only
  rw [hc]; rfl
 have hM : cx m n c = (fI m c.ID).bind fun t => some (bL, t) := by
  unfold cx
  rw [hc]; rfl
 have hdel : ∃ s', cv (some s) n c = some (bL, some s') ∧ s' = { s with open_ := oG dkk (idk c.ID) s.open_ } := by
  rw [hA, hf, Option.bind_some]
  dsimp only
  cases hh : hit dkk (idk c.ID) s.open_ with
  | false =>
   have e : oG dkk (idk c.ID) s.open_ = s.open_ := by unfold oG pr; rw [hh, cond_false, List.take_append_drop]
   rw [e]
   exact ⟨s, rfl, rfl⟩
  | true =>
   obtain ⟨hk2, h3, h4⟩ := jL hh
   have hfit : fits s.open_ ((pl dkk (idk c.ID) s.open_ : Nat) : Int) ((pl dkk (idk c.ID) s.open_ + 1 : Nat) : Int) = true := by simp [fits]; omega
   rw [cond_true, bN (show pl dkk (idk c.ID) s.open_ ≤ 4294967295 by omega), dt, dh hfit, Option.bind_some, Aj hh]
   exact ⟨_, rfl, rfl⟩
 obtain ⟨s', hs1, hs2⟩ := hdel
 subst hs2
 have hmem : ∀ d ∈ oG dkk (idk c.ID) s.open_, d ∈ s.open_ := fun d hd => by
  rw [← kA o1] at hd
  exact (List.mem_filter.1 hd).1
 have hlen := vW o1 (idk c.ID)
 obtain ⟨wd, wb, ep, e1, e2, a, b, cc, dd, o, p, u⟩ := h.up
 have hs2 : cx m n c = some (bL, { m with Open := m.Open.filter (fun d => dkk d != idk c.ID) }) := by rw [hM, hm]; rfl
 refine ⟨_, _, _, _, hs1, hs2, gO vZ, wd, wb, ep, e1, e2, a, b, ⟨t, c1, c2, by omega, c4, c5, fun d hd => c6 d (hmem d hd)⟩, dd, ⟨wS o1 _, by show (oG dkk (idk c.ID) s.open_).length ≤ _; omega, ?_, fun d hd => o4 d (hmem d hd)⟩, p, u⟩
 show (oG dkk (idk c.ID) s.open_).Perm (m.Open.filter fun d => dkk d != idk c.ID)
 rw [← kA o1]; exact o3.filter _
theorem zj {k : Nat} {s : ae} {m : aj} (h : LP k s m) (hk : k ≤ 100) {c : aH} (hc : c.Kind = 6) (hr : Ae c.Rule) (n : Int) : Step k s m n c := by
 obtain ⟨b, d1, d2, d3, d4⟩ := h.bk
 have he0 : 0 ≤ s.epoch := by have := h.e1; omega
 have q1 := uK b c.Rule.ID s.epoch (by omega)
 have q2 := zw b c.Rule s.epoch (by omega)
 have q3 := vB b.l c.Rule.ID s.epoch he0 (by omega)
 rw [← d2, h.ep] at q3
 rw [h.ep] at q1 q2
 have hA : cv (some s) n c = (bif c.On then ((fT s.book c.Rule s.epoch).bind fun t349 => (some (bL, (some ({ s with book := t349 } : ae))))) else ((eS s.book c.Rule.ID s.epoch).bind fun t360 => (some (bL, (some ({ s with book := t360.2 } : ae)))))) := by
  unfold cv
  dsimp only
  rw [hc]; rfl
 have hM : cx m n c = (mq m.B c.Rule.ID m.Epoch).bind fun t1281 => (bif c.On then (gd (room t1281.1 ([({ R := c.Rule, From := m.Epoch, To := (0:Int) } : cH)])) (some (bL, ({ m with B := (t1281.1 ++ ([({ R := c.Rule, From := m.Epoch, To := (0:Int) } : cH)])) } : aj)))) else (some (bL, ({ m with B := t1281.1 } : aj)))) := by
  unfold cx
  rw [hc]; rfl
 have hrv : ∀ x ∈ b.l.map (fZ c.Rule.ID m.Epoch), rB x.r := fun x hx => by
  obtain ⟨y, hy, rfl⟩ := List.mem_map.1 hx
  have : (fZ c.Rule.ID m.Epoch y).r = y.r := by unfold fZ; cases nm c.Rule.ID y <;> rfl
  rw [this]; exact d4 y hy
 unfold Step
 rw [hA, hM, q3, d1, h.ep, q1, q2]
 obtain ⟨wd, wb, ep, e1, e2, a, bb, cc, dd, o, p, u⟩ := h.up
 cases c.On with
 | false =>
  refine ⟨_, _, _, _, rfl, rfl, gO vZ, wd, wb, rfl, by rw [← h.ep]; exact e1, by rw [← h.ep]; exact e2, a, bb, cc, ⟨_, rfl, rfl, ?_, hrv⟩, o, p, u⟩
  show (b.l.map (fZ c.Rule.ID m.Epoch)).length ≤ _
  rw [List.length_map]; omega
 | true =>
  have hroom : room ((b.l.map (fZ c.Rule.ID m.Epoch)).map dD) [({ R := c.Rule, From := m.Epoch, To := (0:Int) } : cH)] = true := fe (by rw [List.length_map, List.length_map]; omega)
  simp only [Option.bind_some, cond_true, dh hroom]
  refine ⟨_, _, _, _, rfl, rfl, gO vZ, wd, wb, rfl, by rw [← h.ep]; exact e1, by rw [← h.ep]; exact e2, a, bb, cc, ⟨_, rfl, ?_, ?_, fun x hx => ?_⟩, o, p, u⟩
  ·show _ = (b.l.map (fZ c.Rule.ID m.Epoch) ++ [({ r := c.Rule, from_ := m.Epoch, to_ := 0 } : dg)]).map dD
   rw [List.map_append]; rfl
  ·show (b.l.map (fZ c.Rule.ID m.Epoch) ++ [_]).length ≤ _
   rw [List.length_append, List.length_map, List.length_singleton]; omega
  ·rcases List.mem_append.1 hx with hx | hx
   ·exact hrv x hx
   ·rw [List.mem_singleton.1 hx]; exact ⟨hr.2.2.2.1, hr.2.2.2.2.1⟩
theorem xi {t : List aQ} (h : fj t) (s q : Int) (r : bw) (x : Int) : dG x (mC t (nQ s q r)) = if x = s then q else dG x t := by
 unfold dG
 rw [zk h]
 by_cases hx : x = s
 ·rw [if_pos (show x = (nQ s q r).session from hx), if_pos hx]; rfl
 ·rw [if_neg (show ¬ x = (nQ s q r).session from hx), if_neg hx]
def qP (t : List aQ) (i : bO) : Int := if i.Seq = 0 then 1 else if dG i.Session t ≥ i.Seq then 10 else 0
theorem wL {t : List aQ} {A : List cw} (hr : fj t) (hn : t.length ≤ 1000) (hrel : Rel t A) {i : bO} (hi : 0 ≤ i.Seq) (r : bw) :
  fk (some { l := t }) i.Session i.Seq r = some (qP t i, some { l := if qP t i = 0 then mC t (nQ i.Session i.Seq r) else t }) ∧ nh A i.Session i.Seq r = some (if qP t i = 0 then an (nQ i.Session i.Seq r) :: A.filter (fun a => a.Session != i.Session) else A, qP t i) := by
 have h1 := BS hr (by omega) i.Session i.Seq r hi
 have h2 := DH hr hrel (by omega) i.Session i.Seq r
 rw [h1, h2]
 unfold qP
 by_cases h0 : i.Seq = 0
 ·simp [h0]
 ·by_cases h5 : dG i.Session t ≥ i.Seq
  ·simp [h0, h5]
  ·simp [h0, h5]
theorem Bj {s : ae} {t : List aQ} {A : List cw} (hs : s.last = some { l := t }) (hr : fj t) (hn : t.length ≤ 1000) (hrel : Rel t A) (i : bO) :
  iG (some s) i = some (if dG i.Session t > i.Seq then { Kind := 4, ID := i, R := { E := 10, Epoch := 0, Index := 0, Gots := [], Scans := [] } } else bL) ∧ ∃ a, iE A i.Session = some a ∧ a.Seq = dG i.Session t := by
 refine ⟨?_, _, vK hr hrel (by omega) i.Session, by unfold dG; cases fB i.Session t <;> rfl⟩
 show (eu s.last i.Session).bind _ = _
 rw [hs, wI hr (by omega), Option.bind_some]
 by_cases h : dG i.Session t > i.Seq
 ·have : decide (dG i.Session t ≤ i.Seq) = false := decide_eq_false (by omega)
  rw [this, if_pos h]; rfl
 ·have : decide (dG i.Session t ≤ i.Seq) = true := decide_eq_true (by omega)
  rw [this, if_neg h]; rfl
theorem Dr (n : Int) (i : bO) (p : Prop) [Decidable p] : okR (if p then ({ Kind := 4, ID := i, R := { E := 10, Epoch := 0, Index := 0, Gots := [], Scans := [] } } : bj) else bL).R := by
 split
 ·exact vo 10 0 0
 ·exact vZ
end Go.Proofs.YtgnkkopjkgdieaaGreat

end
section
set_option linter.unusedVariables false
set_option linter.unusedSimpArgs false
set_option maxRecDepth 100000
namespace Go.Proofs.YtgnkkopjkgdieaaGreat
open Go Go.V
theorem BE {R : Type} (x y : Bool) (A : Option R) (f : Unit → Option R) : iL (bif x then (bif y then bB A else some (Sum.inl ())) else some (Sum.inl ())) f = bif (x && y) then A else f () := by
 cases x <;> cases y <;> cases A <;> rfl
def xt (E : Int) (c : aH) : Int × List ct × List (List bQ) := bif c.R.E == (0:Int) then (bif c.Epoch != E then (9, [], []) else (c.R.E, c.R.Gots, c.R.Scans)) else (c.R.E, c.R.Gots, c.R.Scans)
theorem DF (E : Int) {c : aH} (h : vm c.R) (n : Int) : okR { E := (xt E c).1, Epoch := c.Epoch, Index := n, Gots := (xt E c).2.1, Scans := (xt E c).2.2 } := by
 have h1 := EY h
 have h2 : okR { c.R with Epoch := c.Epoch, Index := n } := ⟨h1.1, h1.2.1, h1.2.2⟩
 unfold xt
 cases c.R.E == (0:Int) with
 | false => exact h2
 | true =>
  cases c.Epoch != E with
  | false => exact h2
  | true => exact vo _ _ _
theorem vP {s : ae} {t : List aQ} (h : s.last = some { l := t }) : ({ s with last := some { l := t } } : ae) = s := by
 obtain ⟨w, e, st, lk, la, bk, op, o, u⟩ := s
 dsimp only at h
 subst h; rfl
theorem wN {k : Nat} {s : ae} {m : aj} (h : LP k s m) {t : List aQ} (c1 : s.last = some { l := t }) (c2 : fj t) (c3 : t.length ≤ 1000) (c4 : Rel t m.A) (i : bO) :
  ∃ e, iG (some s) i = some e ∧ ((iE m.A i.Session).bind fun a => (bif (decide (a.Seq > i.Seq)) then (some (({ Kind := (4:Int), ID := i, R := ({ E := (10:Int), Epoch := (0:Int), Index := (0:Int), Gots := [], Scans := [] } : bw) } : bj), m)) else (some (bL, m)))) = some (e, m) ∧ yB e e := by
 obtain ⟨h1, a, h2, h3⟩ := Bj c1 c2 c3 c4 i
 refine ⟨_, h1, ?_, gO (Dr 0 i _)⟩
 rw [h2, Option.bind_some, h3]
 by_cases hx : dG i.Session t > i.Seq
 ·rw [decide_eq_true hx, if_pos hx]; rfl
 ·rw [decide_eq_false hx, if_neg hx]; rfl
theorem yl {k : Nat} {s : ae} {m : aj} (h : LP k s m) (hk : k ≤ 100) {c : aH} (hc : c.Kind = 4) (g : BB c) (n : Int) : Step k s m n c := by
 obtain ⟨t, c1, c2, c3, c4, c5, c6⟩ := h.la
 obtain ⟨o1, o2, o3, o4⟩ := h.op
 obtain ⟨_, gid, _, _, _, _, _, gr, _, gp, gps, _⟩ := g
 have hseq := (xL gid.2).1
 have hA : cv (some s) n c = (fX (some s) n c).bind fun t => match t.2 with | none => none | some y => some (t.1, some y) := by
  unfold cv
  dsimp only
  rw [hc]; rfl
 have hM : cx m n c = (gS m n c).bind fun t => some (t.1, t.2) := by
  unfold cx
  rw [hc]; rfl
 have hdA : fX (some s) n c = ic c s n (xt s.epoch c) := by
  unfold fX xt
  dsimp only
  cases c.R.E == (0:Int) with
  | false => rfl
  | true => cases c.Epoch != s.epoch <;> rfl
 have hdM : gS m n c = gJ c m n (xt m.Epoch c) := by
  unfold gS xt
  cases c.R.E == (0:Int) with
  | false => rfl
  | true => cases c.Epoch != m.Epoch <;> rfl
 have hok := DF m.Epoch gr n
 unfold Step
 rw [hA, hM, hdA, hdM, h.ep]
 generalize xt m.Epoch c = q at hok
 obtain ⟨E', G, S⟩ := q
 dsimp only at hok
 simp only [ic, gJ, BE]
 cases hb : (E' != (0:Int)) && decide (c.ID.Session ≥ (9223372036854775808:Int)) with
 | true => exact ⟨_, _, _, _, rfl, rfl, gO vZ, h.up⟩
 | false =>
  simp only [cond_false]
  obtain ⟨p1, p2⟩ := wL c2 (by omega) c4 hseq ({ E := E', Epoch := c.Epoch, Index := n, Gots := G, Scans := S } : bw)
  have hsl := vP c1
  simp only [jG, jr, c1, p1, p2, Option.bind_some]
  by_cases hz : qP t c.ID = 0
  ·have b0 : (qP t c.ID != (0:Int)) = false := by simpa using hz
   rw [b0, if_pos hz, if_pos hz]
   simp only [cond_false]
   have hlt : c.ID.Seq ≠ 0 ∧ dG c.ID.Session t < c.ID.Seq := by
    unfold qP at hz
    by_cases h0 : c.ID.Seq = 0
    ·rw [if_pos h0] at hz; cases hz
    ·rw [if_neg h0] at hz
     by_cases h1 : dG c.ID.Session t ≥ c.ID.Seq
     ·rw [if_pos h1] at hz; cases hz
     ·omega
   obtain ⟨T, hT⟩ : ∃ T, T = mC t (nQ c.ID.Session c.ID.Seq { E := E', Epoch := c.Epoch, Index := n, Gots := G, Scans := S }) := ⟨_, rfl⟩
   obtain ⟨A', hA'⟩ : ∃ A', A' = an (nQ c.ID.Session c.ID.Seq { E := E', Epoch := c.Epoch, Index := n, Gots := G, Scans := S }) :: m.A.filter (fun a => a.Session != c.ID.Session) := ⟨_, rfl⟩
   rw [← hT, ← hA']
   have r1 : fj T := by rw [hT]; exact oF c2 _
   have r2 : T.length ≤ k + 1 := by rw [hT]; have := vt c2 (nQ c.ID.Session c.ID.Seq { E := E', Epoch := c.Epoch, Index := n, Gots := G, Scans := S }); omega
   have r3 : Rel T A' := by rw [hT, hA']; exact xk c2 c4 _
   have r4 : Cj T := by rw [hT]; exact yI c2 c5 ⟨hok, by show 0 < c.ID.Seq; omega⟩
   have r5 : ∀ x, dG x T = if x = c.ID.Session then c.ID.Seq else dG x t := fun x => by rw [hT]; exact xi c2 _ _ _ x
   have r6 : ∀ d ∈ s.open_, d.ID.Seq ≤ dG d.ID.Session T := fun d hd => by
    have := c6 d hd
    rw [r5]
    split
    ·rename_i e; rw [e] at this; omega
    ·exact this
   obtain ⟨wd, wb, ep, e1, e2, a, b, cc, dd, o, p, u⟩ := h.up
   cases hs : c.Shards != (0:Int) with
   | false => exact ⟨_, _, _, _, rfl, rfl, gO hok, wd, wb, ep, e1, e2, a, b, ⟨T, rfl, r1, r2, r3, r4, r6⟩, dd, o, p, u⟩
   | true =>
    simp only [cond_true]
    obtain ⟨P, hP⟩ : ∃ P, P = bif E' == (0:Int) then c.Parts else [] := ⟨_, rfl⟩
    have hp1 : (bif E' == (0:Int) then (dZ c.Parts).bind fun t416 => some t416 else some []) = some P := by
     rw [hP]
     cases E' == (0:Int) with
     | false => rfl
     | true =>
      have : dZ c.Parts = some c.Parts := dh (jF (by simp only [List.length_nil]; omega))
      rw [this]; rfl
    have hp2 : (bif E' == (0:Int) then some c.Parts else some []) = some P := by rw [hP]; cases E' == (0:Int) <;> rfl
    have gP : P.length ≤ 8 ∧ ∀ p ∈ P, qQ p.Writes := by
     rw [hP]
     cases E' == (0:Int) with
     | false => exact ⟨Nat.zero_le _, fun p hp => by cases hp⟩
     | true => exact ⟨gp, fun p hp => (gps p hp).2⟩
    have hmiss : hit dkk (idk c.ID) s.open_ = false := by
     cases hh : hit dkk (idk c.ID) s.open_ with
     | false => rfl
     | true =>
      obtain ⟨hk2, h3, _⟩ := jL hh
      have hm2 := List.getElem_mem hk2
      have h4 : s.open_[pl dkk (idk c.ID) s.open_].ID = c.ID := (zI (o4 _ hm2).1 gid).1 h3
      have h5 := c6 _ hm2
      rw [h4] at h5
      omega
    obtain ⟨D, hD⟩ : ∃ D : bC, D = { c with E := E', Index := n, Parts := P } := ⟨_, rfl⟩
    have hDk : dkk D = idk c.ID := by rw [hD]; rfl
    have hf := Em (s := { s with last := some { l := T } }) o1 (by show s.open_.length ≤ _; omega) (fun d hd => (o4 d hd).1) gid
    have hins : dr s.open_ ((pl dkk (idk c.ID) s.open_ : Nat) : Int) [D] = some (kz dkk s.open_ D) := by
     have h1 := rS (k := dkk) (l := s.open_) (x := D) (by rw [hDk]; exact hmiss)
     rw [hDk] at h1
     unfold dr
     rw [dh (rH (x := D) (idk c.ID) (by omega)), h1]
    have hfo := zX (m := { m with A := A' }) (by show m.Open.length ≤ _; have := o3.length_eq; omega) (fun d hd => (o4 d (o3.mem_iff.2 hd)).1) gid
    have hl := List.length_filter_le (fun d : bC => dkk d != idk c.ID) m.Open
    have hlen := o3.length_eq
    rw [hp1, hp2]
    simp only [Option.bind_some, jM, hf, hfo, ← hD, hins, jn, jA, jo]
    rw [dh (fe (by omega))]
    have hpl := se o1 D
    refine ⟨_, _, _, _, rfl, rfl, gO hok, wd, wb, ep, e1, e2, a, b, ⟨T, rfl, r1, r2, r3, r4, fun d hd => ?_⟩, dd, ⟨pt o1 D, by show (kz dkk s.open_ D).length ≤ _; omega, ?_, fun d hd => ?_⟩, p, u⟩
    ·rcases (kR o1 D d).1 hd with rfl | ⟨h1, _⟩
     ·show d.ID.Seq ≤ dG d.ID.Session T
      rw [r5, hD, if_pos rfl]; exact Int.le_refl _
     ·exact r6 d h1
    ·show (kz dkk s.open_ D).Perm (m.Open.filter (fun d => dkk d != idk c.ID) ++ [D])
     refine (oo o1 D).trans ?_
     rw [hDk]
     exact ((o3.filter _).cons D).trans (List.perm_append_comm (l₁ := [D]))
    ·rcases (kR o1 D d).1 hd with rfl | ⟨h1, _⟩
     ·rw [hD]; exact ⟨gid, gP⟩
     ·exact o4 d h1
  ·have b0 : (qP t c.ID != (0:Int)) = true := by simpa using hz
   rw [b0, if_neg hz]
   simp only [cond_true, hsl]
   obtain ⟨e, q1, q2, q3⟩ := wN h c1 c2 (by omega) c4 c.ID
   rw [q1, q2]
   exact ⟨_, _, _, _, rfl, rfl, q3, h.up⟩
theorem yM {l : List cR} {body : Int × List cR → Option ((Int × List cR) ⊕ List cR)} (to : Int) (hn : l.length ≤ 1000)
  (h1 : ∀ (i : Nat) (hi : i < l.length) (acc : List cR), acc.length ≤ i → body ((i : Int), acc) = (bif (l[i].To == to) then (gd (room acc ([l[i]])) (some (Sum.inl ((IntKind.i64.wrap ((i : Int) + (1:Int))), (acc ++ ([l[i]])))))) else (some (Sum.inl ((IntKind.i64.wrap ((i : Int) + (1:Int))), acc)))))
  (h2 : ∀ acc, body ((l.length : Int), acc) = some (Sum.inr acc)) : bA body ((0:Int), []) = some (l.filter fun x => x.To == to) := by
 have h := dC (body := body) (fun i => ((i : Int), (l.take i).filter fun x => x.To == to)) l.length (l.filter fun x => x.To == to) (fun i hi => by
  have hl := List.length_filter_le (fun x : cR => x.To == to) (l.take i)
  rw [List.length_take] at hl
  rw [h1 i hi _ (by omega), bN (show i ≤ 4294967295 by omega), List.take_succ_eq_append_getElem hi, List.filter_append, List.filter_cons, List.filter_nil, dh (fe (by omega))]
  cases l[i].To == to <;> simp) (by rw [h2, List.take_length])
 simpa using h
def vI (E n0 : Int) (c : aH) : Int := bif c.R.E != (0:Int) then c.R.E else bif c.Epoch != E then 9 else bif ((c.Writes.length : Int) != (1:Int)) then 1 else bif decide (n0 ≥ c.Rule.Quota) then 13 else c.R.E
theorem DA {E n0 : Int} {c : aH} (h : vI E n0 c = 0) : c.Epoch = E ∧ ∃ w, c.Writes = [w] := by
 unfold vI at h
 cases h1 : c.R.E != (0:Int) with
 | true =>
  rw [h1, cond_true] at h
  rw [h] at h1; cases h1
 | false =>
  rw [h1, cond_false] at h
  cases h2 : c.Epoch != E with
  | true => rw [h2] at h; cases h
  | false =>
   rw [h2, cond_false] at h
   cases h3 : ((c.Writes.length : Int) != (1:Int)) with
   | true => rw [h3] at h; cases h
   | false =>
    have h4 : c.Writes.length = 1 := by
     have : (c.Writes.length : Int) = 1 := by simpa using h3
     omega
    exact ⟨by simpa using h2, List.length_eq_one_iff.1 h4⟩
theorem Fk {s : ae} (hr : fN uk s.used) (hn : s.used.length ≤ 1000) (c : aH) (n : Int) : iC (some s) n c = jm s c n (hit uk c.Rule.ID s.used) ((pl uk c.Rule.ID s.used : Nat) : Int) (rN s.used c.Rule.ID c.Epoch) (vI s.epoch (rN s.used c.Rule.ID c.Epoch) c) := by
 have hu := FA hr hn c
 unfold iC
 dsimp only
 rw [hu, Option.bind_some]
 dsimp only
 have h1 : (bif hit uk c.Rule.ID s.used then ((df s.used ((pl uk c.Rule.ID s.used : Nat) : Int)).bind fun x740 => (bif (x740.epoch == c.Epoch) then (some x740.n) else (some (0:Int)))) else (some (0:Int))) = some (rN s.used c.Rule.ID c.Epoch) := by
  unfold rN
  cases hh : hit uk c.Rule.ID s.used with
  | false => simp [hY, hh]
  | true =>
   obtain ⟨hk, h3, h4⟩ := jL hh
   rw [h4, cond_true, br hk, Option.bind_some]
   dsimp only
   cases s.used[pl uk c.Rule.ID s.used].epoch == c.Epoch <;> rfl
 rw [h1, Option.bind_some]
 unfold kN vI
 cases c.R.E != (0:Int) with
 | true => rfl
 | false =>
  cases c.Epoch != s.epoch with
  | true => rfl
  | false =>
   cases ((c.Writes.length : Int) != (1:Int)) with
   | true => rfl
   | false => cases decide (rN s.used c.Rule.ID c.Epoch ≥ c.Rule.Quota) <;> rfl
theorem EK {m : aj} (hn : m.Used.length ≤ 1000) (c : aH) (n : Int) : iT m n c = dL m c n (m.Used.filter fun u => u.Rule != c.Rule.ID) (m.Used.foldl (rn c.Rule.ID c.Epoch) 0) (vI m.Epoch (m.Used.foldl (rn c.Rule.ID c.Epoch) 0) c) := by
 unfold iT
 rw [Fs hn c, Option.bind_some]
 generalize m.Used.foldl (rn c.Rule.ID c.Epoch) 0 = n0
 generalize (m.Used.filter fun u => u.Rule != c.Rule.ID) = rest
 have key : ∀ z : Int, z ≠ 0 → iK c n0 m n rest z = dL m c n rest n0 z := fun z hz => by
  have b : (z == (0:Int)) = false := by simpa using hz
  simp only [iK, iI, b, cond_false, Option.bind_some]
 have key2 : iI n0 c m n rest 1 = dL m c n rest n0 1 := rfl
 unfold kc vI
 dsimp only
 cases hE : c.R.E == (0:Int) with
 | false =>
  have h0 : c.R.E ≠ 0 := by simpa using hE
  have h1 : (c.R.E != (0:Int)) = true := by simpa using h0
  rw [h1]
  exact key _ h0
 | true =>
  have h0 : c.R.E = 0 := by simpa using hE
  rw [h0]
  show ((bif c.Epoch != m.Epoch then some (9:Int) else some (0:Int)).bind _) = dL m c n rest n0 (bif c.Epoch != m.Epoch then 9 else _)
  cases c.Epoch != m.Epoch with
  | true => exact key 9 (by decide)
  | false =>
   show ((bif ((c.Writes.length : Int) != (1:Int)) then some (1:Int) else some (0:Int)).bind _) = dL m c n rest n0 (bif ((c.Writes.length : Int) != (1:Int)) then 1 else _)
   cases ((c.Writes.length : Int) != (1:Int)) with
   | true => exact key2
   | false =>
    show ((bif (decide (n0 ≥ c.Rule.Quota)) then some (13:Int) else some (0:Int)).bind _) = dL m c n rest n0 (bif (decide (n0 ≥ c.Rule.Quota)) then 13 else 0)
    cases decide (n0 ≥ c.Rule.Quota) <;> rfl
theorem DD {l : List cn} {k : Nat} (hr : fN uk l) (h : ∀ u ∈ l, 0 ≤ u.n ∧ u.n ≤ k) (id ep : Int) : 0 ≤ rN l id ep ∧ rN l id ep ≤ k := by
 unfold rN
 cases e : hY uk id l with
 | none => dsimp only; omega
 | some u =>
  have := h u ((kt hr).1 e).1
  dsimp only
  cases u.epoch == ep with
  | true => exact this
  | false => show (0:Int) ≤ 0 ∧ (0:Int) ≤ k; omega
theorem AT {k : Nat} {s : ae} {m : aj} (h : LP k s m) (hk : k ≤ 100) {c : aH} (hc : c.Kind = 7) (g : BB c) (n : Int) : Step k s m n c := by
 obtain ⟨t, c1, c2, c3, c4, c5, c6⟩ := h.la
 obtain ⟨u1, u2, u3, u4⟩ := h.us
 obtain ⟨x1, x2, x3⟩ := h.ou
 obtain ⟨_, gid, _, _, _, _, gw, _, _⟩ := g
 have hseq := (xL gid.2).1
 have hUl : m.Used.length = s.used.length := by have := u3.length_eq; rw [List.length_map] at this; omega
 have hN := CN u1 u3 c.Rule.ID c.Epoch
 have hNb := DD u1 u4 c.Rule.ID c.Epoch
 have hA : cv (some s) n c = (iC (some s) n c).bind fun t => match t.2 with | none => none | some y => some (t.1, some y) := by
  unfold cv
  dsimp only
  rw [hc]; rfl
 have hM : cx m n c = (iT m n c).bind fun t => some (t.1, t.2) := by
  unfold cx
  rw [hc]; rfl
 unfold Step
 rw [hA, hM, Fk u1 (by omega) c n, EK (by omega) c n, hN, h.ep]
 generalize hn0 : rN s.used c.Rule.ID c.Epoch = n0 at hNb
 generalize hE' : vI m.Epoch n0 c = E'
 obtain ⟨p1, p2⟩ := wL c2 (by omega) c4 hseq ({ E := E', Epoch := c.Epoch, Index := n, Gots := [], Scans := [] } : bw)
 have hok : okR { E := E', Epoch := c.Epoch, Index := n, Gots := [], Scans := [] } := vo _ _ _
 have hsl := vP c1
 simp only [jm, dL, c1, p1, p2, Option.bind_some]
 by_cases hz : qP t c.ID = 0
 ·have b0 : (qP t c.ID != (0:Int)) = false := by simpa using hz
  rw [b0, if_pos hz, if_pos hz]
  simp only [cond_false]
  have hlt : c.ID.Seq ≠ 0 ∧ dG c.ID.Session t < c.ID.Seq := by
   unfold qP at hz
   by_cases h0 : c.ID.Seq = 0
   ·rw [if_pos h0] at hz; cases hz
   ·rw [if_neg h0] at hz
    by_cases h1 : dG c.ID.Session t ≥ c.ID.Seq
    ·rw [if_pos h1] at hz; cases hz
    ·omega
  obtain ⟨T, hT⟩ : ∃ T, T = mC t (nQ c.ID.Session c.ID.Seq { E := E', Epoch := c.Epoch, Index := n, Gots := [], Scans := [] }) := ⟨_, rfl⟩
  obtain ⟨A', hA'⟩ : ∃ A', A' = an (nQ c.ID.Session c.ID.Seq { E := E', Epoch := c.Epoch, Index := n, Gots := [], Scans := [] }) :: m.A.filter (fun a => a.Session != c.ID.Session) := ⟨_, rfl⟩
  rw [← hT, ← hA']
  have r1 : fj T := by rw [hT]; exact oF c2 _
  have r2 : T.length ≤ k + 1 := by rw [hT]; have := vt c2 (nQ c.ID.Session c.ID.Seq { E := E', Epoch := c.Epoch, Index := n, Gots := [], Scans := [] }); omega
  have r3 : Rel T A' := by rw [hT, hA']; exact xk c2 c4 _
  have r4 : Cj T := by rw [hT]; exact yI c2 c5 ⟨hok, by show 0 < c.ID.Seq; omega⟩
  have r5 : ∀ x, dG x T = if x = c.ID.Session then c.ID.Seq else dG x t := fun x => by rw [hT]; exact xi c2 _ _ _ x
  have r6 : ∀ d ∈ s.open_, d.ID.Seq ≤ dG d.ID.Session T := fun d hd => by
   have := c6 d hd
   rw [r5]
   split
   ·rename_i e; rw [e] at this; omega
   ·exact this
  obtain ⟨wd, wb, ep, e1, e2, a, b, cc, dd, o, p, u⟩ := h.up
  cases hz2 : E' == (0:Int) with
  | false => exact ⟨_, _, _, _, rfl, rfl, gO hok, wd, wb, ep, e1, e2, a, b, ⟨T, rfl, r1, r2, r3, r4, r6⟩, dd, o, p, u⟩
  | true =>
   have hE0 : E' = 0 := by simpa using hz2
   rw [hE0] at hE'
   obtain ⟨hce, w, hw⟩ := DA hE'
   have gw1 := gw.2 w (by rw [hw]; simp)
   obtain ⟨X, hX⟩ : ∃ X : cn, X = { jT := c.Rule.ID, epoch := c.Epoch, n := n0 + 1 } := ⟨_, rfl⟩
   have hwn : IntKind.i64.wrap (n0 + (1:Int)) = n0 + 1 := by rw [wrap_i64] <;> omega
   have g0 : df c.Writes (0:Int) = some w := by rw [hw]; rfl
   have hle := tT uk c.Rule.ID s.used
   -- the table of uses
   have hused : ∃ U1 : List cn, ∃ x : cn, (bif (!(hit uk c.Rule.ID s.used)) then ((dM s.used ((pl uk c.Rule.ID s.used : Nat) : Int) ([({ jT := c.Rule.ID, epoch := (0:Int), n := (0:Int) } : cn)])).bind fun t832 => (some ({ s with last := some { l := T }, used := t832 } : ae))) else (some ({ s with last := some { l := T } } : ae))) = some ({ s with last := some { l := T }, used := U1 } : ae) ∧ df U1 ((pl uk c.Rule.ID s.used : Nat) : Int) = some x ∧ x.jT = c.Rule.ID ∧ U1.set (pl uk c.Rule.ID s.used) X = kz uk s.used X := by
    have hXk : uk X = c.Rule.ID := by rw [hX]; rfl
    cases hh : hit uk c.Rule.ID s.used with
    | true =>
     obtain ⟨hk2, h3, h4⟩ := jL hh
     have hs := uW (k := uk) (l := s.used) (x := X) (by rw [hXk]; exact hh)
     rw [hXk] at hs
     exact ⟨s.used, _, rfl, br hk2, h3, hs⟩
    | false =>
     have hm1 := rS (k := uk) (l := s.used) (x := { jT := c.Rule.ID, epoch := (0:Int), n := (0:Int) }) hh
     have hp := Ca (k := uk) (l := s.used) (x := { jT := c.Rule.ID, epoch := (0:Int), n := (0:Int) })
     have hs := AM (k := uk) (l := s.used) (x := { jT := c.Rule.ID, epoch := (0:Int), n := (0:Int) }) (y := X) (by rw [hXk]; rfl)
     refine ⟨kz uk s.used { jT := c.Rule.ID, epoch := (0:Int), n := (0:Int) }, { jT := c.Rule.ID, epoch := (0:Int), n := (0:Int) }, ?_, ?_, rfl, hs⟩
     ·simp only [Bool.not_false, cond_true, dM]
      rw [dh (rH (x := ({ jT := c.Rule.ID, epoch := (0:Int), n := (0:Int) } : cn)) c.Rule.ID (by omega)), Option.bind_some]
      rw [← hm1]; rfl
     ·rw [rR]; exact hp
   obtain ⟨U1, x, k1, k2, k3, k4⟩ := hused
   obtain ⟨O, hO⟩ : ∃ O, O = s.out.filter fun y => y.To == c.Rule.To := ⟨_, rfl⟩
   have l1 : bA (gX ({ s with last := some { l := T }, used := U1 } : ae) c) ((0:Int), []) = some O := by
    rw [hO]
    refine yM (l := s.out) c.Rule.To (by omega) (fun i hi acc ha => ?_) (fun acc => ?_)
    ·simp only [gX, gZ hi, cond_true, br hi, Option.bind_some]
    ·simp [gX, bB]
   have l2 : bA (fh m c) ([], (0:Int)) = some O := by
    rw [hO, ← x1]
    have hol : m.Out.length ≤ 1000 := by rw [x1]; omega
    have := lz (body := fh m c) m.Out (fun y => y.To == c.Rule.To) (fun y => y) (fun out => out) (fun i hi out ho => by
     simp only [fh, gZ hi, cond_true, br hi, Option.bind_some, dh (fe (x := m.Out[i]) (show out.length ≤ 1073741823 by omega)), bN (show i ≤ 4294967295 by omega)]
     cases m.Out[i].To == c.Rule.To <;> rfl) (fun out _ => by simp [fh, bB])
    rw [List.map_id'] at this
    exact this
   have f1 := ET w (n := s.wide) h.wb
   have f2 := AV w (n := m.Wide) (by rw [← h.wd]; exact h.wb)
   rw [← h.wd] at f2
   obtain ⟨W, hW⟩ : ∃ W : bR, W = { w with Val := if w.Del then [] else vx s.wide.toNat w.Val } := ⟨_, rfl⟩
   rw [← hW] at f1 f2
   have hrl := List.length_filter_le (fun u : dv => u.Rule != c.Rule.ID) m.Used
   have hol : m.Out.length ≤ 1000 := by rw [x1]; omega
   rw [k1]
   simp only [cond_true, Option.bind_some, kE, k2, g0, l1, l2, f1, ← h.wd, f2, hwn, Int.toNat_natCast, List.set_set]
   rw [dh (fe (by omega)), dh (fe (by omega)), dh (fe (by omega))]
   simp only [Option.bind_some, kL, kb]
   rw [show ({ jT := x.jT, epoch := c.Epoch, n := n0 + 1 } : cn) = X by rw [hX, k3], k4]
   have hpl := se u1 X
   refine ⟨_, _, _, _, rfl, rfl, gO hok, rfl, wb, ep, e1, e2, a, b, ⟨T, rfl, r1, r2, r3, r4, r6⟩, dd, o, ⟨by show m.Out ++ _ = s.out ++ _; rw [x1], by show (s.out ++ _).length ≤ _; rw [List.length_append, List.length_singleton]; omega, fun y hy => ?_⟩, ⟨pt u1 X, by show (kz uk s.used X).length ≤ _; omega, ?_, fun y hy => ?_⟩⟩
   ·rcases List.mem_append.1 hy with hy | hy
    ·exact x3 y hy
    ·rw [List.mem_singleton.1 hy]
     show isF W.At
     rw [hW]; exact gw1.1
   ·show ((kz uk s.used X).map cu).Perm (m.Used.filter (fun u => u.Rule != c.Rule.ID) ++ [{ Rule := c.Rule.ID, Epoch := c.Epoch, N := n0 + 1 }])
    refine ((oo u1 X).map cu).trans ?_
    rw [List.map_cons]
    have hf : ((s.used.filter fun y => uk y != uk X).map cu).Perm (m.Used.filter fun u => u.Rule != c.Rule.ID) := by
     have := u3.filter (fun u => u.Rule != c.Rule.ID)
     rw [List.filter_map] at this
     rw [hX]
     exact this
    rw [show cu X = { Rule := c.Rule.ID, Epoch := c.Epoch, N := n0 + 1 } by rw [hX]; rfl]
    exact (hf.cons _).trans (List.perm_append_comm (l₁ := [_]))
   ·rcases (kR u1 X y).1 hy with rfl | ⟨h1, _⟩
    ·rw [hX]; exact ⟨by show 0 ≤ n0 + 1; omega, by show n0 + 1 ≤ ((k + 1 : Nat) : Int); omega⟩
    ·have := u4 y h1; omega
 ·have b0 : (qP t c.ID != (0:Int)) = true := by simpa using hz
  rw [b0, if_neg hz]
  simp only [cond_true, hsl]
  obtain ⟨e, q1, q2, q3⟩ := wN h c1 c2 (by omega) c4 c.ID
  rw [q1, q2]
  exact ⟨_, _, _, _, rfl, rfl, q3, h.up⟩
end Go.Proofs.YtgnkkopjkgdieaaGreat

end
