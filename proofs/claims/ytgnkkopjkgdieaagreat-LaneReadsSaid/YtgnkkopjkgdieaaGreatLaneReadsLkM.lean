/- Holds that meet, and holds that are one; plainly. -/
import Derived.Test.YtgnkkopjkgdieaaGreatLaneReadsCodT
import Derived.Test.YtgnkkopjkgdieaaGreatLaneReadsCodS
import Derived.Test.YtgnkkopjkgdieaaGreatLaneReadsGv
set_option linter.unusedVariables false
set_option linter.unusedSimpArgs false
set_option maxRecDepth 100000
namespace Go.Proofs.YtgnkkopjkgdieaaGreat
open Go Go.V
theorem within_n {x a b : Nat} (hx : isF x) (ha : isF a) (hb : isF b) : number_Within x a b = some (decide (fRank a ≤ fRank x) && decide (fRank x ≤ fRank b)) := by
  simp only [number_Within, rank_eq ha, rank_eq hx, rank_eq hb, Option.bind_some]
  cases decide (fRank a ≤ fRank x) <;> rfl
theorem same_n {x y : Nat} (hx : isF x) (hy : isF y) : number_Same x y = some (fRank x == fRank y) := by simp only [number_Same, rank_eq hx, rank_eq hy, Option.bind_some]
theorem within_r {x a b : Nat} (hx : isF x) (ha : isF a) (hb : isF b) : ref01_Within x a b = some (decide (fRank a ≤ fRank x) && decide (fRank x ≤ fRank b)) := by
  simp only [ref01_Within, ahead_eq hx ha, ahead_eq hb hx, Option.bind_some]
  by_cases h1 : fRank x < fRank a
  · have : ¬ fRank a ≤ fRank x := by omega
    simp [h1, this]
  · by_cases h2 : fRank b < fRank x
    · have : ¬ fRank x ≤ fRank b := by omega
      have h3 : fRank a ≤ fRank x := by omega
      simp [h1, h2, this]
    · have h3 : fRank x ≤ fRank b := by omega
      have h4 : fRank a ≤ fRank x := by omega
      simp [h1, h2, h3, h4]
def wrtB (h : api_Hold) (x : Nat) : Bool := h.Puts.any fun y => fRank x == fRank y
def rdsB (h : api_Hold) (x : Nat) : Bool := (h.Gets.any fun y => fRank x == fRank y) || h.Scans.any fun s => decide (fRank s.1 ≤ fRank x) && decide (fRank x ≤ fRank s.2)
def mtB (a b : api_Hold) : Bool := (a.Puts.any fun x => wrtB b x || rdsB b x) || b.Puts.any fun x => rdsB a x
theorem writes_eq {h : api_Hold} (g : holdG h) {x : Nat} (hx : isF x) : locks_writes h x x = some (wrtB h x) := by
  obtain ⟨_, _, _, g4, g5, g6, l1, l2, l3, _⟩ := g
  obtain ⟨z, h1, h2⟩ := loop_idx (body := locks_writes_l0 h x x) h.Puts (fun y => fRank x == fRank y) (fun i hi => by
    have hy := g6 _ (List.getElem_mem hi)
    have e : (decide (fRank x ≤ fRank h.Puts[i]) && decide (fRank h.Puts[i] ≤ fRank x)) = (fRank x == fRank h.Puts[i]) := by
      rw [Bool.eq_iff_iff]
      simp only [Bool.and_eq_true, decide_eq_true_eq, beq_iff_eq]
      omega
    simp only [locks_writes_l0, lt_t hi, cond_true, geto_lt hi, Option.bind_some, within_n hy hx hx, e, wrap_succ (show i ≤ 4294967295 by omega)]
    cases fRank x == fRank h.Puts[i] <;> rfl) (by simp [locks_writes_l0, inrO])
  simp only [locks_writes, h1, Option.bind_some, h2]; rfl
theorem reads_eq {h : api_Hold} (g : holdG h) {x : Nat} (hx : isF x) : locks_reads h x = some (rdsB h x) := by
  obtain ⟨_, _, _, g4, g5, g6, l1, l2, l3, _⟩ := g
  obtain ⟨z, h1, h2⟩ := loop_idx (body := locks_reads_l0 h x) h.Gets (fun y => fRank x == fRank y) (fun i hi => by
    have hy := g4 _ (List.getElem_mem hi)
    simp only [locks_reads_l0, lt_t hi, cond_true, geto_lt hi, Option.bind_some, same_n hx hy, wrap_succ (show i ≤ 4294967295 by omega)]
    cases fRank x == fRank h.Gets[i] <;> rfl) (by simp [locks_reads_l0, inrO])
  obtain ⟨z', h3, h4⟩ := loop_idx (body := locks_reads_l1 h x) h.Scans (fun s => decide (fRank s.1 ≤ fRank x) && decide (fRank x ≤ fRank s.2)) (fun i hi => by
    have hy := g5 _ (List.getElem_mem hi)
    simp only [locks_reads_l1, lt_t hi, cond_true, geto_lt hi, Option.bind_some, within_n hx hy.1 hy.2, wrap_succ (show i ≤ 4294967295 by omega)]
    cases (decide (fRank h.Scans[i].1 ≤ fRank x) && decide (fRank x ≤ fRank h.Scans[i].2)) <;> rfl) (by simp [locks_reads_l1, inrO])
  simp only [locks_reads, h1, h3, Option.bind_some, h2, h4, rdsB]
  cases h.Gets.any fun y => fRank x == fRank y <;> rfl
theorem meet_eq {a b : api_Hold} (ga : holdG a) (gb : holdG b) : locks_Meet a b = some (mtB a b) := by
  have h1 := loop_any (body := locks_Meet_l1 a b) a.Puts (fun x => wrtB b x || rdsB b x) (Sum.inr true) (Sum.inl ()) (fun i hi => by
    have hx := ga.2.2.2.2.2.1 _ (List.getElem_mem hi)
    simp only [locks_Meet_l1, lt_t hi, cond_true, geto_lt hi, Option.bind_some, writes_eq gb hx, reads_eq gb hx, wrap_succ (show i ≤ 4294967295 by have := ga.2.2.2.2.2.2.2.2.1; omega)]
    cases wrtB b a.Puts[i] <;> cases rdsB b a.Puts[i] <;> rfl) (by simp [locks_Meet_l1, inrO])
  have h2 := loop_any (body := locks_Meet_l2 b a) b.Puts (fun x => rdsB a x) true false (fun i hi => by
    have hx := gb.2.2.2.2.2.1 _ (List.getElem_mem hi)
    simp only [locks_Meet_l2, lt_t hi, cond_true, geto_lt hi, Option.bind_some, reads_eq ga hx, wrap_succ (show i ≤ 4294967295 by have := gb.2.2.2.2.2.2.2.2.1; omega)]
    cases rdsB a b.Puts[i] <;> rfl) (by simp [locks_Meet_l2, inrO])
  simp only [locks_Meet, h1, mtB]
  cases a.Puts.any fun x => wrtB b x || rdsB b x with
  | true => rfl
  | false =>
    show locks_Meet_j0 b a () = _
    simp only [locks_Meet_j0, h2]
    cases b.Puts.any fun x => rdsB a x <;> rfl
theorem has_eq {l : List Nat} (g : ∀ x ∈ l, isF x) (hl : l.length ≤ 1000) {x : Nat} (hx : isF x) : ref11_has l x = some (l.any fun y => fRank x == fRank y) := by
  have h1 := loop_any (body := ref11_has_l0 l x) l (fun y => fRank x == fRank y) true false (fun i hi => by
    have hy := g _ (List.getElem_mem hi)
    have e : decide (fRank l[i] = fRank x) = (fRank x == fRank l[i]) := by
      by_cases e1 : fRank x = fRank l[i]
      · simp [e1]
      · have : ¬ fRank l[i] = fRank x := fun h => e1 h.symm
        simp [e1, this]
    simp only [ref11_has_l0, lt_t hi, cond_true, geto_lt hi, Option.bind_some, same_eq hy hx, e, wrap_succ (show i ≤ 4294967295 by omega)]
    cases fRank x == fRank l[i] <;> rfl) (by simp [ref11_has_l0, inrO])
  rw [ref11_has, h1]
  cases l.any fun y => fRank x == fRank y <;> rfl
theorem reads_req {h : api_Hold} (g : holdG h) {x : Nat} (hx : isF x) : ref11_reads h x = some (rdsB h x) := by
  have g' := g
  obtain ⟨_, _, _, g4, g5, g6, l1, l2, l3, _⟩ := g
  have h1 := loop_any (body := ref11_reads_l1 h x) h.Scans (fun s => decide (fRank s.1 ≤ fRank x) && decide (fRank x ≤ fRank s.2)) (Sum.inr true) (Sum.inl ()) (fun i hi => by
    have hy := g5 _ (List.getElem_mem hi)
    simp only [ref11_reads_l1, lt_t hi, cond_true, geto_lt hi, Option.bind_some, within_r hx hy.1 hy.2, wrap_succ (show i ≤ 4294967295 by omega)]
    cases (decide (fRank h.Scans[i].1 ≤ fRank x) && decide (fRank x ≤ fRank h.Scans[i].2)) <;> rfl) (by simp [ref11_reads_l1, inrO])
  simp only [ref11_reads, h1, rdsB]
  cases h.Scans.any fun s => decide (fRank s.1 ≤ fRank x) && decide (fRank x ≤ fRank s.2) with
  | true => simp [joinO]
  | false =>
    show ref11_reads_j0 h x () = _
    simp only [ref11_reads_j0, has_eq g4 (by omega) hx, Option.bind_some, Bool.or_false]
theorem meet_req {a b : api_Hold} (ga : holdG a) (gb : holdG b) : ref11_Meet a b = some (mtB a b) := by
  have h1 := loop_any (body := ref11_Meet_l1 a b) a.Puts (fun x => wrtB b x || rdsB b x) (Sum.inr true) (Sum.inl ()) (fun i hi => by
    have hx := ga.2.2.2.2.2.1 _ (List.getElem_mem hi)
    simp only [ref11_Meet_l1, lt_t hi, cond_true, geto_lt hi, Option.bind_some, has_eq gb.2.2.2.2.2.1 (by have := gb.2.2.2.2.2.2.2.2.1; omega) hx, reads_req gb hx, wrap_succ (show i ≤ 4294967295 by have := ga.2.2.2.2.2.2.2.2.1; omega)]
    show (bif wrtB b a.Puts[i] then _ else _) = _
    cases wrtB b a.Puts[i] <;> cases rdsB b a.Puts[i] <;> rfl) (by simp [ref11_Meet_l1, inrO])
  have h2 := loop_any (body := ref11_Meet_l2 b a) b.Puts (fun x => rdsB a x) true false (fun i hi => by
    have hx := gb.2.2.2.2.2.1 _ (List.getElem_mem hi)
    simp only [ref11_Meet_l2, lt_t hi, cond_true, geto_lt hi, Option.bind_some, reads_req ga hx, wrap_succ (show i ≤ 4294967295 by have := gb.2.2.2.2.2.2.2.2.1; omega)]
    cases rdsB a b.Puts[i] <;> rfl) (by simp [ref11_Meet_l2, inrO])
  simp only [ref11_Meet, h1, mtB]
  cases a.Puts.any fun x => wrtB b x || rdsB b x with
  | true => rfl
  | false =>
    show ref11_Meet_j0 b a () = _
    simp only [ref11_Meet_j0, h2]
    cases b.Puts.any fun x => rdsB a x <;> rfl
theorem and_stepT {p q : Prop} {b : Bool} {X : Option Bool} (hb : b = tr p) (h : p → X = some (tr q)) : (bif b then X else some false) = some (tr (p ∧ q)) := by
  have := and_step (p := p) (q := q) (b := !b) (X := X) (by rw [hb]) h
  rw [← this]; cases b <;> rfl
theorem same_nt {x y : Nat} (hx : isF x) (hy : isF y) : number_Same x y = some (tr (cf x = cf y)) := by
  rw [same_n hx hy]; exact congrArg some (tr_eq (by rw [cf_eq hx hy]; simp))
theorem lsame_eq {a b : api_Hold} (ha : holdG a) (hb : holdG b) : locks_Same a b = some (tr (cHold a = cHold b)) := by
  obtain ⟨_, _, _, a4, a5, a6, a7, a8, a9, a11, a10⟩ := ha
  obtain ⟨_, _, _, b4, b5, b6, b7, b8, b9, _, b10⟩ := hb
  have e1 : (bif ((a.Gets.length : Nat) : Int) != ((b.Gets.length : Nat) : Int) then some false else loopO (locks_Same_l0 a b) (0:Int)) = some (tr (a.Gets.map cf = b.Gets.map cf)) := by
    refine cmp_len fun hl => (cmp_loop (body := locks_Same_l0 a b) true false cf a.Gets b.Gets hl (by omega) (fun i hi => ?_) ?_).trans (congrArg some bif_tf)
    · have hi' : i < b.Gets.length := hl ▸ hi
      simp only [locks_Same_l0, lt_t hi, cond_true, geto_lt hi, geto_lt hi', Option.bind_some, same_nt (a4 _ (List.getElem_mem hi)) (b4 _ (List.getElem_mem hi')), inrO, Option.map_some]
      exact stp1
    · simp [locks_Same_l0, inrO]
  have e2 : (bif ((a.Scans.length : Nat) : Int) != ((b.Scans.length : Nat) : Int) then some false else loopO (locks_Same_l1 a b) (0:Int)) = some (tr (a.Scans.map cSpan = b.Scans.map cSpan)) := by
    refine cmp_len fun hl => (cmp_loop (body := locks_Same_l1 a b) true false cSpan a.Scans b.Scans hl (by omega) (fun i hi => ?_) ?_).trans (congrArg some bif_tf)
    · have hi' : i < b.Scans.length := hl ▸ hi
      have g1 := a5 _ (List.getElem_mem hi)
      have g2 := b5 _ (List.getElem_mem hi')
      have e : locks_Same_1 a.Scans[i] b.Scans[i] = some (tr (cSpan a.Scans[i] = cSpan b.Scans[i])) := by
        simp only [locks_Same_1, same_nt g1.1 g2.1, same_nt g1.2 g2.2, Option.bind_some]
        rw [and_stepT rfl fun _ => rfl]
        exact congrArg some (tr_congr (by simp [cSpan]))
      simp only [locks_Same_l1, lt_t hi, cond_true, geto_lt hi, geto_lt hi', Option.bind_some, e, inrO, Option.map_some]
      exact stp1
    · simp [locks_Same_l1, inrO]
  have e3 : (bif ((a.Puts.length : Nat) : Int) != ((b.Puts.length : Nat) : Int) then some false else loopO (locks_Same_l2 a b) (0:Int)) = some (tr (a.Puts.map cf = b.Puts.map cf)) := by
    refine cmp_len fun hl => (cmp_loop (body := locks_Same_l2 a b) true false cf a.Puts b.Puts hl (by omega) (fun i hi => ?_) ?_).trans (congrArg some bif_tf)
    · have hi' : i < b.Puts.length := hl ▸ hi
      simp only [locks_Same_l2, lt_t hi, cond_true, geto_lt hi, geto_lt hi', Option.bind_some, same_nt (a6 _ (List.getElem_mem hi)) (b6 _ (List.getElem_mem hi')), inrO, Option.map_some]
      exact stp1
    · simp [locks_Same_l2, inrO]
  have e4 : slices_Equal_byte_byte a.Data b.Data = some (tr (a.Data = b.Data)) := by rw [slEq_eq _ _ (by omega)]; exact congrArg some (tr_eq (by simp))
  simp only [locks_Same, e1, e2, e3, e4, Option.bind_some]
  rw [and_stepT (p := a.ID.Session = b.ID.Session ∧ a.ID.Seq = b.ID.Seq) (q := a.Epoch = b.Epoch ∧ a.Gets.map cf = b.Gets.map cf ∧ a.Scans.map cSpan = b.Scans.map cSpan ∧ a.Puts.map cf = b.Puts.map cf ∧ a.Data = b.Data) (tr_eq (by simp)) fun _ => and_stepT (eqi_tr _ _) fun _ => and_stepT rfl fun _ => and_stepT rfl fun _ => and_stepT rfl fun _ => rfl]
  refine congrArg _ (tr_congr ?_)
  simp only [cHold, api_Hold.mk.injEq, api_ID.mk.injEq]
  constructor
  · rintro ⟨h1, h2, h3, h4, h5, h6⟩
    exact ⟨(id_eq _ _).1 h1, h2, h3, h4, h5, h6⟩
  · rintro ⟨h1, h2, h3, h4, h5, h6⟩
    exact ⟨(id_eq _ _).2 h1, h2, h3, h4, h5, h6⟩
end Go.Proofs.YtgnkkopjkgdieaaGreat
