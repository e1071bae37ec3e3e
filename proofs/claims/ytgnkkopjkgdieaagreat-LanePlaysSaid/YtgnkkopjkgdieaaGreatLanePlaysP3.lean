/- A part of the proof. -/
import Derived.Test.YtgnkkopjkgdieaaGreatLanePlaysA
import Derived.Test.YtgnkkopjkgdieaaGreatLanePlaysP2
section
set_option linter.unusedVariables false
set_option linter.unusedSimpArgs false
set_option maxRecDepth 100000
namespace Go.Proofs.YtgnkkopjkgdieaaGreat
open Go Go.V
theorem DW {a : List bR} (h : qQ a) : fM a a = some true := by
 obtain ⟨h1, h2⟩ := h
 have e : (((a.length : Nat) : Int) != ((a.length : Nat) : Int)) = false := by simp
 unfold fM
 rw [e, cond_false]
 refine dC (fun i => (i : Int)) a.length true (fun i hi => ?_) (by simp [fg, bB])
 have ha := (h2 _ (List.getElem_mem hi)).1
 simp only [fg, gZ hi, cond_true, br hi, Option.bind_some, nO ha ha, decide_true, Bool.not_true, cond_false, BEq.rfl, nZ, bN (show i ≤ 4294967295 by omega)]
theorem Eg {a : du} (h : rB a) : lS a a = some true := by
 simp only [lS, BEq.rfl, cond_true, nO h.1 h.1, nO h.2 h.2, decide_true, Option.bind_some]
theorem FD {a b : List bC} (hr : fN dkk a) (hp : a.Perm b) (hn : a.length ≤ 1000) (hg : ∀ d ∈ a, Fu d) : iJ a b = some true := by
 have hl := hp.length_eq
 have e : (((a.length : Nat) : Int) != ((b.length : Nat) : Int)) = false := by rw [hl]; simp
 unfold iJ
 rw [e, cond_false]
 refine dC (fun i => (i : Int)) a.length true (fun i hi => ?_) (by simp [gl, bB])
 have hai := List.getElem_mem hi
 have gi := hg _ hai
 have h3 : bA (eo a[i] a[i]) (true, (0:Int)) = some true := by
  refine dC (body := eo a[i] a[i]) (fun j => (true, (j : Int))) a[i].Parts.length true (fun j hj => ?_) (by simp [eo, bB])
  have := gi.2.1
  simp only [eo, gZ hj, cond_true, br hj, Option.bind_some, BEq.rfl, DW (gi.2.2 _ (List.getElem_mem hj)), bN (show j ≤ 4294967295 by omega)]
 have key := nz (body := fb b a (i : Int)) (fun s => ∃ k : Nat, s.2 = (k : Int) ∧ k ≤ b.length ∧ (s.1 = true ∨ ∀ j (hj : j < b.length), j < k → dkk b[j] ≠ dkk a[i])) (fun s => (b.length - s.2).toNat) (fun r => r = Sum.inl ((i + 1 : Nat) : Int)) (fun s hs => by
  obtain ⟨hh, z⟩ := s
  obtain ⟨k, hk, hkb, hor⟩ := hs
  dsimp only at hk hor
  subst hk
  by_cases hlt : k < b.length
  ·left
   have hbk := List.getElem_mem hlt
   have hbm := hp.mem_iff.2 hbk
   simp only [fb, gZ hlt, cond_true, br hi, br hlt, Option.bind_some, sB gi.1 (hg _ hbm).1, bN (show k ≤ 4294967295 by omega)]
   show ∃ s', (bif dkk a[i] == dkk b[k] then _ else _) = _ ∧ _
   cases hq : dkk a[i] == dkk b[k] with
   | true =>
    have hab : a[i] = b[k] := yy hr hai hbm (eq_of_beq hq)
    rw [← hab]
    simp only [BEq.rfl, cond_true, h3, Option.bind_some]
    cases hh with
    | true => exact ⟨_, rfl, ⟨k + 1, by simp [bN (show k ≤ 4294967295 by omega)], by omega, .inl rfl⟩, by simp only [bN (show k ≤ 4294967295 by omega)]; omega⟩
    | false => exact ⟨_, rfl, ⟨k + 1, by simp [bN (show k ≤ 4294967295 by omega)], by omega, .inl rfl⟩, by simp only [bN (show k ≤ 4294967295 by omega)]; omega⟩
   | false =>
    have hne : dkk a[i] ≠ dkk b[k] := by simpa using hq
    refine ⟨_, rfl, ⟨k + 1, rfl, by omega, hor.imp id fun h j hj hjk => ?_⟩, by dsimp only; omega⟩
    rcases Nat.lt_or_ge j k with h1 | h1
    ·exact h j hj h1
    ·have : j = k := by omega
     subst this; exact fun e => hne e.symm
  ·right
   have ek : k = b.length := by omega
   subst ek
   have hT : hh = true := by
    rcases hor with h | h
    ·exact h
    ·obtain ⟨j, hj, ej⟩ := List.mem_iff_getElem.1 (hp.mem_iff.1 hai)
     exact absurd (by rw [ej]) (h j hj hj)
   subst hT
   exact ⟨_, by simp only [fb, FJ, cond_false, Bool.not_true, bN (show i ≤ 4294967295 by omega)]; rfl, rfl⟩) (s := (false, (0:Int))) ⟨0, rfl, Nat.zero_le _, .inr fun j _ h => by omega⟩
 obtain ⟨r, q1, q2⟩ := key
 subst q2
 simp only [gl, gZ hi, cond_true, q1]
theorem Eh {a : List cR} (hn : a.length ≤ 1000) (h : ∀ x ∈ a, isF x.W.At) : kZ a a = some true := by
 have e : (((a.length : Nat) : Int) != ((a.length : Nat) : Int)) = false := by simp
 have e0 : ∀ x : Int, (x != x) = false := fun x => by simp
 unfold kZ
 rw [e, cond_false]
 refine dC (fun i => (i : Int)) a.length true (fun i hi => ?_) (by simp [jl, bB])
 have hf := h _ (List.getElem_mem hi)
 simp only [jl, gZ hi, cond_true, br hi, Option.bind_some, e0, cond_false, zp hf hf rfl rfl rfl, Bool.not_true, kF, bN (show i ≤ 4294967295 by omega)]
def Dl : List Nat := [(0:Nat), (4607182418800017408:Nat), (13830554455654793216:Nat), (4612811918334230528:Nat), (9094988921128908188:Nat), (18318360957983683996:Nat), (4602678819172646912:Nat), (4613937818241073152:Nat)]
theorem EJ {k : Nat} (hk : k < 8) : ∃ x, nk (k : Int) = some x ∧ isF x := by
 have h : ∀ x ∈ Dl, isF x := by
  intro x hx
  have : Dl.all (fun x => decide (x < 18446744073709551616)) = true := by decide
  show x < 18446744073709551616
  exact of_decide_eq_true (List.all_eq_true.1 this x hx)
 have hm : Int.tmod (k : Int) (8:Int) = (k : Int) := by rw [Int.tmod_eq_emod_of_nonneg (by omega)]; omega
 have hl : k < Dl.length := hk
 refine ⟨Dl[k], ?_, h _ (List.getElem_mem hl)⟩
 unfold nk
 rw [hm]
 show (df Dl (k : Int)).bind _ = _
 rw [br hl]; rfl
theorem CW {s : ae} (h1 : 1 ≤ s.epoch) (h2 : s.epoch ≤ 5) {e : Nat} (he : e < 10) : fA (some s) (e : Int) = some (bif decide ((e : Int) ≥ s.epoch) then 2 else 0) := by
 have w : IntKind.u64.wrap ((IntKind.u64.wrap ((e : Int) + (1:Int))) + (8:Int)) = (e : Int) + 9 := by
  rw [lM, lM]; omega
 unfold fA
 dsimp only
 rw [w, decide_eq_false (show ¬ (e : Int) + 9 < s.epoch by omega)]
 cases decide ((e : Int) ≥ s.epoch) <;> rfl
theorem Fe {l : List ap} (hn : l.length ≤ 1000) : iB (some { l := l }) = some (l.map (·.ID)) := by
 have h := lz (body := gM (l.length : Int) { l := l }) l (fun _ => true) (·.ID) (fun out => out) (fun i hi out ho => by
  simp only [gM, gZ hi, cond_true, br hi, Option.bind_some, dh (fe (x := l[i].ID) (show out.length ≤ 1073741823 by omega)), bN (show i ≤ 4294967295 by omega)]) (fun out _ => by simp [gM, bB])
 rw [List.filter_eq_self.2 (fun _ _ => rfl)] at h
 simp only [iB, EV, Option.bind_some, h]
theorem DZ {k : Nat} {s : ae} {m : aj} (h : LP k s m) (hk : k ≤ 100) : pF (some s) m = some true := by
 obtain ⟨l, b1, b2, b3, b4⟩ := h.lk
 obtain ⟨rows, a1, a2⟩ := h.st
 obtain ⟨t, c1, c2, c3, c4, c5, c6⟩ := h.la
 obtain ⟨b, d1, d2, d3, d4⟩ := h.bk
 obtain ⟨o1, o2, o3, o4⟩ := h.op
 obtain ⟨x1, x2, x3⟩ := h.ou
 have he := h.ep
 have he1 := h.e1
 have he2 := h.e2
 have hgH : ∀ y ∈ m.H, ia y := fun y hy => b2.2.2 y (b4.mem_iff.2 hy)
 have hHl : m.H.length = l.length := b4.length_eq.symm
 have q1 := Ex b1 (by omega)
 have q2 := Ej (m := m) (by omega)
 rw [vv b4, he] at q1
 have e0 : ∀ x : Int, (x != x) = false := fun x => by simp
 have hop : kX (some s) = some s.open_ := by
  show (dw s.open_).bind _ = _
  have : dw s.open_ = some s.open_ := dh (jF (by simp only [List.length_nil]; omega))
  rw [this]; rfl
 have hsd := FD o1 o3 (by omega) o4
 have hho : ja (some s) = some (l.map (·.ID)) := by
  show (iB s.locks).bind _ = _
  rw [b1, Fe (by omega)]; rfl
 have hl : (l.map (·.ID)).length = l.length := List.length_map _
 -- the holds
 have L1 : bA (jW (l.map (·.ID)) (some s) m) (0:Int) = some (Sum.inl ()) := by
  have := dC (body := jW (l.map (·.ID)) (some s) m) (fun i => (i : Int)) l.length (Sum.inl () : Unit ⊕ Bool) (fun i hi => by
   have g := b2.2.2 _ (List.getElem_mem hi)
   have hi' : i < (l.map (·.ID)).length := by rw [hl]; exact hi
   have e0 : (l.map (·.ID))[i] = l[i].ID := List.getElem_map _
   have e1 : hY kid (idk l[i].ID) l = some l[i] := (kt b2.1).2 ⟨List.getElem_mem hi, rfl⟩
   have e2 : m.H.find? (fun z => kid z == idk l[i].ID) = some l[i] := by rw [ur b2.1 b4]; exact e1
   have hh : kW (some s) l[i].ID = some (l[i], true) := by
    show (gC s.locks l[i].ID).bind _ = _
    rw [b1, get_eq b2 g.id, e1]; rfl
   have hr := xN (m := m.H) (by omega) hgH g.id
   rw [e2] at hr
   simp only [jW, gZ hi', cond_true, br hi', e0, Option.bind_some, hh, hr, ow, Bool.not_true, cond_false]
   rw [show ({ ID := ({ Session := l[i].ID.Session, Seq := l[i].ID.Seq } : bO), Epoch := l[i].Epoch, Gets := l[i].Gets, Scans := l[i].Scans, Puts := l[i].Puts, Data := l[i].Data } : ap) = l[i] from rfl, xn g g, DE, Option.bind_some]
   rw [bN (show i ≤ 4294967295 by omega)]; rfl) (by
   have : decide (((l.length : Nat) : Int) < (((l.map (·.ID)).length : Nat) : Int)) = false := by rw [hl]; simp
   simp only [jW, this, cond_false]; rfl)
  exact this
 -- what stands at the numbers
 have L4 : bA (lu (some s) m) (0:Int) = some (Sum.inl ()) := by
  refine dC (body := lu (some s) m) (fun i => (i : Int)) 8 (Sum.inl () : Unit ⊕ Bool) (fun i hi => ?_) rfl
  obtain ⟨x, n1, n2⟩ := EJ hi
  obtain ⟨o, _, g1, g2⟩ := qx a2 (by omega) n2 18446744073709551615
  have hnow : lU (some s) x = some (tp o) := by
   show (ea s.store x 18446744073709551615).bind _ = _
   rw [a1, g1]; rfl
  have ed : decide ((i : Int) < (8:Int)) = true := decide_eq_true (by omega)
  have L6 : bA (jV (i : Int) (some s) m) (0:Int) = some (Sum.inl ((i + 1 : Nat) : Int)) := by
   refine dC (body := jV (i : Int) (some s) m) (fun e => (e : Int)) 6 (Sum.inl ((i + 1 : Nat) : Int) : Int ⊕ (Unit ⊕ Bool)) (fun e hee => ?_) ?_
   ·obtain ⟨o', _, g3, g4⟩ := qx a2 (by omega) n2 (e : Int)
    have ed2 : decide ((e : Int) < (6:Int)) = true := decide_eq_true (by omega)
    have wu : IntKind.u64.wrap ((e : Int) + (1:Int)) = ((e + 1 : Nat) : Int) := by rw [lM]; omega
    have w9 : IntKind.u64.wrap ((e : Int) + (9:Int)) = (e : Int) + 9 := by rw [lM]; omega
    have d9 : decide ((e : Int) + 9 < m.Epoch) = false := decide_eq_false (by omega)
    have ht := CW he1 he2 (show e < 10 by omega)
    rw [he] at ht
    simp only [jV, ed2, cond_true, n1, Option.bind_some, w9, d9, cond_false]
    have hget : lY (some s) x (e : Int) = some (bif decide ((e : Int) ≥ m.Epoch) then ({ Has := false, Val := [] }, 2) else (tp o', 0)) := by
     show (fA (some s) (e : Int)).bind _ = _
     rw [ht, Option.bind_some]
     cases decide ((e : Int) ≥ m.Epoch) with
     | true => rfl
     | false =>
      show (ea s.store x (e : Int)).bind _ = _
      rw [a1, g3]; rfl
    rw [hget, Option.bind_some]
    cases decide ((e : Int) ≥ m.Epoch) with
    | true =>
     simp only [cond_true, Option.bind_some, mH, e0, cond_false, show ((2:Int) == (0:Int)) = false from rfl, mQ, wu]
    | false =>
     simp only [cond_false, Option.bind_some, mH, e0, BEq.rfl, cond_true, n1, g4, Ag, Bool.not_true, mQ, wu]
   ·have ed2 : decide (((6 : Nat) : Int) < (6:Int)) = false := by decide
    simp only [jV, ed2, cond_false, bN (show i ≤ 4294967295 by omega)]; rfl
  simp only [lu, ed, cond_true, n1, Option.bind_some, hnow, g2, Ag, Bool.not_true, ov, cond_false, L6]
 -- labels, sessions, rules
 have L9 : bA (lx (some s) m) (0:Int) = some true := by
  refine dC (body := lx (some s) m) (fun i => (i : Int)) 4 true (fun i hi => ?_) rfl
  have ed : decide ((i : Int) < (4:Int)) = true := decide_eq_true (by omega)
  have wu : IntKind.u64.wrap (i : Int) = (i : Int) := by rw [mP] <;> omega
  have hout : lK (some s) (i : Int) = some (s.out.filter fun y => y.To == (i : Int)) := by
   show bA (iv s (i : Int)) ((0:Int), []) = _
   refine yM (l := s.out) (i : Int) (by omega) (fun j hj acc ha => ?_) (fun acc => ?_)
   ·simp only [iv, gZ hj, cond_true, br hj, Option.bind_some]
   ·simp [iv, bB]
  have hto : nF m (i : Int) = some (s.out.filter fun y => y.To == (i : Int)) := by
   rw [← x1]
   have hol : m.Out.length ≤ 1000 := by rw [x1]; omega
   have := lz (body := iq m (i : Int)) m.Out (fun y => y.To == (i : Int)) (fun y => y) (fun out => out) (fun j hj out ho => by
    simp only [iq, gZ hj, cond_true, br hj, Option.bind_some, dh (fe (x := m.Out[j]) (show out.length ≤ 1073741823 by omega)), bN (show j ≤ 4294967295 by omega)]
    cases m.Out[j].To == (i : Int) <;> rfl) (fun out _ => by simp [iq, bB])
   rw [List.map_id'] at this
   exact this
  have hfl := List.length_filter_le (fun y : cR => y.To == (i : Int)) s.out
  have hsi := Eh (a := s.out.filter fun y => y.To == (i : Int)) (by omega) (fun x hx => x3 x (List.mem_filter.1 hx).1)
  have hla : kT (some s) (i : Int) = some (dG (i : Int) t) := by
   show (eu s.last (i : Int)).bind _ = _
   rw [c1, wI c2 (by omega)]; rfl
  obtain ⟨a, ha⟩ : ∃ a, a = (match fB (i : Int) t with | some x => an x | none => dfl (i : Int)) := ⟨_, rfl⟩
  have hrl : iE m.A (i : Int) = some a := by
   have := vK c2 c4 (by omega) (i : Int)
   rw [this, ha]
   cases fB (i : Int) t <;> rfl
  have hseq : a.Seq = dG (i : Int) t := by rw [ha]; unfold dG; cases fB (i : Int) t <;> rfl
  have hans : jD (some s) { Session := (i : Int), Seq := a.Seq } = some (match fB (i : Int) t with | some x => (x.r, 0) | none => (bK, 2)) := by
   show (fY s.last (i : Int) a.Seq).bind _ = _
   rw [c1, BN c2 (by omega), Option.bind_some, ha]
   cases fB (i : Int) t with
   | none => rfl
   | some x =>
    show some ((if x.seq < x.seq then (bK, (2:Int)) else if x.seq > x.seq then (bK, (10:Int)) else (x.r, (0:Int)))) = some (x.r, (0:Int))
    rw [if_neg (Int.lt_irrefl x.seq), if_neg (Int.lt_irrefl x.seq)]
  have L11 : bA (jc (some s) (i : Int) m) (0:Int) = some (Sum.inl ((i + 1 : Nat) : Int)) := by
   refine dC (body := jc (some s) (i : Int) m) (fun e => (e : Int)) 4 (Sum.inl ((i + 1 : Nat) : Int) : Int ⊕ Bool) (fun e hee => ?_) ?_
   ·have ed2 : decide ((e : Int) < (4:Int)) = true := decide_eq_true (by omega)
    have wu2 : IntKind.u64.wrap ((e : Int) + (1:Int)) = ((e + 1 : Nat) : Int) := by rw [lM]; omega
    have ht := CW he1 he2 (show e < 10 by omega)
    rw [he] at ht
    have r1 := Du b (i : Int) (e : Int) (by omega)
    have r2 := zy b.l (i : Int) (e : Int) (by omega)
    rw [← d2] at r2
    have r3 := Bq d4 (nN (i : Int) (e : Int))
    generalize tK (ld (nN (i : Int) (e : Int)) b.l) = R at r1 r2 r3
    obtain ⟨R1, R2⟩ := R
    have hru : kS (some s) (i : Int) (e : Int) = some (bif decide ((e : Int) ≥ m.Epoch) then (eE, 2) else bif !R2 then (eE, 12) else (R1, 0)) := by
     show iL ((fA (some s) (e : Int)).bind _) (gW s (i : Int) (e : Int)) = _
     rw [ht, Option.bind_some]
     cases decide ((e : Int) ≥ m.Epoch) with
     | true => rfl
     | false =>
      show gW s (i : Int) (e : Int) () = _
      unfold gW
      rw [d1, r1, Option.bind_some]
      cases R2 <;> rfl
    simp only [jc, ed2, cond_true, wu, hru, r2, Option.bind_some]
    cases hd : decide ((e : Int) ≥ m.Epoch) with
    | true =>
     cases R2 <;> simp only [Bool.not_true, Bool.not_false, cond_true, cond_false, Option.bind_some, kl, hd, km, e0, show ((2:Int) == (0:Int)) = false from rfl, wu2]
    | false =>
     cases R2 with
     | true => simp only [Bool.not_true, Bool.not_false, cond_true, cond_false, Option.bind_some, kl, hd, km, e0, BEq.rfl, Eg r3, wu2]
     | false => simp only [Bool.not_true, Bool.not_false, cond_true, cond_false, Option.bind_some, kl, hd, km, e0, show ((12:Int) == (0:Int)) = false from rfl, wu2]
   ·have ed2 : decide (((4 : Nat) : Int) < (4:Int)) = false := by decide
    simp only [jc, ed2, cond_false, bN (show i ≤ 4294967295 by omega)]; rfl
  simp only [lx, ed, cond_true, hout, hto, hsi, Option.bind_some, Bool.not_true, cond_false, wu, hla, hrl, hseq, e0]
  rw [← hseq, hans, Option.bind_some]
  have hj : nM (some s) (i : Int) m () = some (Sum.inl ((i + 1 : Nat) : Int)) := L11
  cases hlk : fB (i : Int) t with
  | none =>
   have hs0 : a.Seq = 0 := by rw [ha, hlk]; rfl
   rw [hs0]
   exact hj
  | some x =>
   have hx := c5 x ((jN c2).1 hlk).1
   have hs0 : a.Seq = x.seq := by rw [ha, hlk]; rfl
   have hR : a.R = x.r := by rw [ha, hlk]; rfl
   have dp : decide (a.Seq > (0:Int)) = true := decide_eq_true (by rw [hs0]; exact hx.2)
   simp only [dp, cond_true, e0, cond_false, hR, tt hx.1, Option.bind_some, Bool.not_true]
   exact hj
 unfold pF
 rw [show iQ (some s) = some s.epoch from rfl, Option.bind_some, he, e0, cond_false, q1, q2]
 simp only [Option.bind_some, BEq.rfl, Bool.not_true, cond_false, hop, hsd, hho, hl, hHl, e0, L1]
 show mI (some s) m () = _
 unfold mI
 rw [L4]
 exact L9
end Go.Proofs.YtgnkkopjkgdieaaGreat

end
section
set_option linter.unusedVariables false
set_option linter.unusedSimpArgs false
set_option maxRecDepth 100000
namespace Go.Proofs.YtgnkkopjkgdieaaGreat
open Go Go.V
def qn (c : aH) : Prop := c.Kind = 1 → c.Epoch ≤ 4
theorem TP.early : TP (fun t => eY t) qn := by
 refine TP.of zS ?_
 refine TP.bind (TP.next 7) fun a ha => ?_
 dsimp only
 have ek : IntKind.u8.wrap (IntKind.i64.wrap ((1:Int) + a)) = 1 + a := by
  rw [wrap_i64 (by omega) (by omega), wrap_u8] <;> omega
 rw [ek]
 have : a = 0 ∨ a = 1 ∨ a = 2 ∨ a = 3 ∨ a = 4 ∨ a = 5 ∨ a = 6 := by omega
 rcases this with rfl | rfl | rfl | rfl | rfl | rfl | rfl
 ·refine TP.bind (TP.next 4) fun p hp => ?_
  dsimp only
  refine TP.ret (P := qn) fun _ => ?_
  show IntKind.u64.wrap (IntKind.i64.wrap ((1:Int) + p)) ≤ 4
  rw [wrap_i64 (by omega) (by omega), mP] <;> omega
 ·refine TP.bind TP.hold fun h hh => ?_
  dsimp only
  exact TP.ret (P := qn) fun h => absurd h (show ¬ (1:Int) + 1 = 1 by decide)
 ·refine TP.bind TP.of_ fun i hi => ?_
  dsimp only
  refine TP.bind (TP.next 3) fun e he => ?_
  dsimp only
  have hg : ∃ x : Int, df ([(0:Int), (0:Int), (8:Int)]) e = some x := by
   have : e = 0 ∨ e = 1 ∨ e = 2 := by omega
   rcases this with rfl | rfl | rfl <;> exact ⟨_, rfl⟩
  obtain ⟨x, hx⟩ := hg
  simp only [hx, Option.bind_some]
  refine TP.bind (TP.next 4) fun p hp => ?_
  dsimp only
  refine TP.bind (TP.next 20) fun q hq => ?_
  dsimp only
  refine TP.bind TP.writes fun w hw => ?_
  dsimp only
  exact TP.ret (P := qn) fun h => absurd h (show ¬ (1:Int) + 2 = 1 by decide)
 ·refine TP.bind TP.of_ fun i hi => ?_
  dsimp only
  refine TP.bind (TP.next 6) fun b hb => ?_
  dsimp only
  refine TP.bind (TP.next 4) fun p hp => ?_
  dsimp only
  refine TP.bind (TP.next 4) fun q hq => ?_
  dsimp only
  refine TP.bind (TP.next 3) fun n hn => ?_
  dsimp only
  refine TP.tg (P := fun _ => True) (body := dT (n, rt)) (F := fun i t => (fv t).bind fun w => some (({ Shard := i, Writes := w.1 } : ee), w.2)) (fun t acc i => (acc, t, i)) (fun t acc => (t, acc)) n (by omega) hn.1 (fun j j0 j1 => ?_) (fun t acc i hi => ?_) (fun t acc i hi => ?_) (fun parts p1 p2 => ?_)
  ·refine TP.bind TP.writes fun w hw => ?_
   dsimp only
   exact TP.ret trivial
  ·have e : decide (i < n) = true := by simpa using hi
   simp only [dT, e, cond_true, Option.bind_assoc, Option.bind_some]
  ·have e : decide (i < n) = false := by simpa using hi
   simp only [dT, e, cond_false, bB, Option.map_some]
  dsimp only
  refine TP.bind TP.Ar fun x hx => ?_
  dsimp only
  exact TP.ret (P := qn) fun h => absurd h (show ¬ (1:Int) + 3 = 1 by decide)
 ·refine TP.bind TP.of_ fun i hi => ?_
  dsimp only
  exact TP.ret (P := qn) fun h => absurd h (show ¬ (1:Int) + 4 = 1 by decide)
 ·refine TP.bind TP.jT fun r hr => ?_
  dsimp only
  refine TP.bind (TP.next 3) fun o ho => ?_
  dsimp only
  show TP (fun t => some (({ zC with Kind := 1 + 5, Rule := r, On := decide (o > (0:Int)) } : aH), t)) qn
  exact TP.ret (P := qn) fun h => absurd h (show ¬ (1:Int) + 5 = 1 by decide)
 ·refine TP.bind TP.of_ fun i hi => ?_
  dsimp only
  refine TP.bind (TP.next 4) fun p hp => ?_
  dsimp only
  refine TP.bind TP.jT fun r hr => ?_
  dsimp only
  refine TP.bind TP.writes fun w hw => ?_
  dsimp only
  refine TP.bind TP.Ar fun x hx => ?_
  dsimp only
  exact TP.ret (P := qn) fun h => absurd h (show ¬ (1:Int) + 6 = 1 by decide)
theorem BK {k : Nat} {s : ae} {m : aj} (h : LP k s m) (hk : k ≤ 100) {c : aH} (g : BB c) (he : qn c) (n : Int) : Step k s m n c := by
 rcases kinds g.1 with hc | hc | hc | hc | hc | hc | hc
 ·exact zE h hk hc (he hc) n
 ·exact Bo h hk hc g.2.2.2.2.2.1 n
 ·exact Cn h hk hc g n
 ·exact yl h hk hc g n
 ·exact yT h hk hc g.2.1 n
 ·exact zj h hk hc g.2.2.2.2.2.2.2.2.2.2.2 n
 ·exact AT h hk hc g n
theorem Dk {a b : bj} (h : yB a b) : kq a b = some true := by
 obtain ⟨h1, h2, h3⟩ := h
 unfold kq
 rw [h1, h2, h3]
 simp only [BEq.rfl, cond_true, Bool.and_self, Option.bind_some]
theorem uT {a0 : List Int} {a1 : Int} (o0 : a0.length ≤ maxLen ∧ ∀ x ∈ a0, (Lit.int .u8 x).wf = true) (o1 : (Lit.int .u8 a1).wf = true) : mV a0 a1 = some true := by
 unfold mV
 simp only [Cr, Option.bind_some, Bool.not_true, cond_false]
 cases h0 : decide ((a0.length : Int) > (600:Int)) with
 | true => rfl
 | false =>
 have l0 : a0.length ≤ 600 := by have := of_decide_eq_false h0; omega
 obtain ⟨W, hW, hW2⟩ : ∃ W, W = Int.tmod (IntKind.i64.wrap a1) (6:Int) ∧ W ≤ 1000000 := ⟨_, rfl, by
  have := Int.tmod_lt_of_pos (IntKind.i64.wrap a1) (show (0:Int) < 6 by decide)
  omega⟩
 rw [← hW]
 have hN : qE W = some { wide := W, epoch := 1, store := some { rows := [] }, locks := some { l := [] }, last := some { l := [] }, book := some { l := [] }, open_ := [], out := [], used := [] } := rfl
 have hM : sv W = some { Wide := W, Epoch := 1, V := [], H := [], A := [], B := [], Open := [], Out := [], Used := [] } := rfl
 simp only [cond_false, hN, hM, Option.bind_some]
 have hLP : LP 0 { wide := W, epoch := 1, store := some { rows := [] }, locks := some { l := [] }, last := some { l := [] }, book := some { l := [] }, open_ := [], out := [], used := [] } { Wide := W, Epoch := 1, V := [], H := [], A := [], B := [], Open := [], Out := [], Used := [] } :=
  ⟨rfl, hW2, rfl, Int.le_refl _, by show (1:Int) ≤ 5; decide, ⟨[], rfl, DO⟩, ⟨[], rfl, DR, Nat.le_refl _, List.Perm.refl _⟩, ⟨[], rfl, zK, Nat.le_refl _, List.Perm.refl _, fun x hx => (by cases hx), fun x hx => (by cases hx)⟩, ⟨{ l := [] }, rfl, rfl, Nat.le_refl _, fun x hx => (by cases hx)⟩, ⟨pJ, Nat.le_refl _, List.Perm.refl _, fun x hx => (by cases hx)⟩, ⟨rfl, Nat.le_refl _, fun x hx => (by cases hx)⟩, ⟨pJ, Nat.le_refl _, List.Perm.refl _, fun x hx => (by cases hx)⟩⟩
 refine Bk (body := jb) (fun s => ∃ i : Nat, s.2.2.2 = (i : Int) ∧ i ≤ 30 ∧ pE s.1 ∧ LP i s.2.1 s.2.2.1) (fun s => (30 - s.2.2.2).toNat) ?_ ⟨0, rfl, by omega, ⟨Int.le_refl _, by show a0.length ≤ 1000000; omega, fun x hx => EZ.1 (o0.2 x hx)⟩, hLP⟩
 rintro ⟨t, s, m, j⟩ ⟨i, hj, hi, ht, hL⟩
 dsimp only at hj ht hL
 subst hj
 by_cases hlt : i < 30
 ·left
  have ed : decide ((i : Int) < (30:Int)) = true := decide_eq_true (by omega)
  obtain ⟨c, t1, e1, hc, ht1⟩ := TP.command t ht
  obtain ⟨c', t1', e1', hc', _⟩ := TP.early t ht
  have hcc : c' = c := by
   have e1 : eY t = some (c, t1) := e1
   have e1' : eY t = some (c', t1') := e1'
   rw [e1] at e1'
   exact (Prod.mk.inj (some_inj e1')).1.symm
  rw [hcc] at hc'
  obtain ⟨e, e', s', m', q1, q2, q3, q4⟩ := BK hL (by omega) hc.1 hc' (IntKind.u64.wrap ((i + 1 : Nat) : Int))
  have e1 : eY t = some (c, t1) := e1
  simp only [jb, ed, cond_true, e1, Option.bind_some, q1, q2, Dk q3, Bool.not_true, cond_false, DZ q4 (by omega), bN (show i ≤ 4294967295 by omega)]
  exact ⟨(t1, s', m', ((i + 1 : Nat) : Int)), rfl, ⟨i + 1, rfl, by omega, ht1, q4⟩, by dsimp only; omega⟩
 ·right
  have : i = 30 := by omega
  subst this
  rfl
end Go.Proofs.YtgnkkopjkgdieaaGreat

end
