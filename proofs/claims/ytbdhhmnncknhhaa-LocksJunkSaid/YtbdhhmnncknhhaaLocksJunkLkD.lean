/- A table of holds as bytes, and any bytes as a table; plainly. -/
import Derived.Test.YtbdhhmnncknhhaaLocksJunkLkG
import Derived.Test.YtbdhhmnncknhhaaLocksJunkSlEq
import Derived.Test.YtbdhhmnncknhhaaLocksJunkGv
set_option linter.unusedVariables false
set_option linter.unusedSimpArgs false
set_option maxRecDepth 100000
namespace Go.Proofs.Ytbdhhmnncknhhaa
open Go Go.V
theorem jn_inl {S R : Type} (x : S) (f : S → Option R) : joinO (some (Sum.inl x)) f = f x := rfl
def tabB (l : List api_Hold) : List Int := leB 4 l.length ++ (l.map holdB).flatten
theorem tabB_len {l : List api_Hold} (h : ∀ x ∈ l, holdG x) : (tabB l).length ≤ 4 + l.length * 2000 := by
  have := flat_len (l := l) (e := holdB) (m := 2000) fun x hx => holdB_len (h x hx)
  simp only [tabB, List.length_append, leB_length]
  omega
theorem encode_eqL {l : List api_Hold} (h : ∀ x ∈ l, holdG x) (hn : l.length ≤ 400000) : locks_Table_Encode (some { l := l }) = some (tabB l) := by
  have hl : (tabB l).length ≤ 1000000000 := by have := tabB_len h; omega
  have hl' : 4 + (l.map holdB).flatten.length ≤ 1000000000 := by simpa only [tabB, List.length_append, leB_length] using hl
  have h1 : octet_Writer_Num { p := [] } (IntKind.u64.wrap (l.length : Int)) (4:Int) = some { p := [] ++ leB 4 l.length } := WR.cnt l.length (by omega) [] (by simp only [List.length_nil, leB_length]; omega)
  simp only [locks_Table_Encode, locks_Table_Len, Option.bind_some, h1]
  rw [List.nil_append]
  have := WR.loop (body := locks_Table_Encode_l1 (l.length : Int) { l := l }) (fun w => w.p) (l.map holdB) (by rw [List.length_map]; omega) (fun i hi => ?_) (fun w => ?_) (leB 4 l.length) (by rw [leB_length]; omega)
  · rw [this]; rfl
  · rw [List.length_map] at hi
    have hx := h _ (List.getElem_mem hi)
    refine ⟨fun w => locks_Lay w l[i], ?_, fun w => ?_⟩
    · rw [List.getElem_map]
      exact lay_hold hx.ok
    · simp only [locks_Table_Encode_l1, lt_t hi, cond_true, geto_lt hi, Option.bind_some, Option.bind_assoc]
  · have e : decide ((((l.map holdB).length : Nat) : Int) < (l.length : Int)) = false := by simp
    simp only [locks_Table_Encode_l1, e, cond_false, octet_Writer_Done, Option.bind_some, inrO, Option.map_some]
theorem holdB_u8 {x : api_Hold} (h : holdG x) : U8s (holdB x) := (RD.hold h).1
theorem tabB_u8 {l : List api_Hold} (h : ∀ x ∈ l, holdG x) : U8s (tabB l) := U8s.le.app (U8s.flat fun x hx => holdB_u8 (h x hx))
theorem rise_snoc {l : List api_Hold} (hr : Rise kid l) (x : api_Hold) (h : ∀ (h : 0 < l.length), kid l[l.length - 1] < kid x) : Rise kid (l ++ [x]) := by
  refine List.pairwise_append.2 ⟨hr, List.pairwise_singleton _ _, fun a ha b hb => ?_⟩
  cases List.mem_singleton.1 hb
  obtain ⟨i, hi, rfl⟩ := List.mem_iff_getElem.1 ha
  have hl := h (by omega)
  rcases Nat.lt_or_ge i (l.length - 1) with h1 | h1
  · have := hr.lt hi (by omega : l.length - 1 < l.length) h1; omega
  · have e : i = l.length - 1 := by omega
    subst e; exact hl
/-- What is read row after row. -/
def decS (l : List api_Hold) (n : Int) : Prop := Rise kid l ∧ (∀ x ∈ l, holdG x) ∧ (l.length : Int) ≤ n
theorem step_ok {l : List api_Hold} (hg : ∀ x ∈ l, holdG x) (hn : l.length ≤ 1000000) {x : api_Hold} {r : octet_Reader} (gx : holdG x) (cnt : Int × octet_Reader) (r0 : octet_Reader) (hlt : (l.length : Int) < cnt.1) (hx : locks_Read r0 = some (x, r)) :
    locks_Decode_l1 cnt (r0, ({ l := l } : locks_Table), (l.length : Int)) = if (∀ (h : 0 < l.length), kid l[l.length - 1] < kid x) then some (Sum.inl (r, ({ l := l ++ [x] } : locks_Table), ((l.length + 1 : Nat) : Int))) else some (Sum.inr (Sum.inr (none, (5:Int)))) := by
  have e : decide ((l.length : Int) < cnt.1) = true := decide_eq_true hlt
  simp only [locks_Decode_l1, e, cond_true, hx, Option.bind_some]
  have hgo : joinO (some (Sum.inl ())) (locks_Decode_j2 ({ l := l } : locks_Table) (x, r) (l.length : Int)) = some (Sum.inl (r, ({ l := l ++ [x] } : locks_Table), ((l.length + 1 : Nat) : Int))) := by
    rw [jn_inl]
    simp only [locks_Decode_j2, gd_true (room_one (x := x) (show l.length ≤ 1073741823 by omega)), wrap_succ (show l.length ≤ 4294967295 by omega)]
  by_cases h0 : l.length = 0
  · have d2 : decide ((l.length : Int) > (0:Int)) = false := decide_eq_false (by omega)
    rw [d2, cond_false, hgo, if_pos fun h => by omega]
  · have d2 : decide ((l.length : Int) > (0:Int)) = true := decide_eq_true (by omega)
    have d3 : IntKind.i64.wrap ((l.length : Int) - (1:Int)) = ((l.length - 1 : Nat) : Int) := wrap_sub (a := l.length) (b := 1) (by omega) (by omega)
    have hlt2 : l.length - 1 < l.length := by omega
    rw [d2, cond_true, d3, geto_lt hlt2, Option.bind_some, compare_eq, Option.bind_some]
    have g0 := hg _ (List.getElem_mem hlt2)
    have hc := cmpI_lt g0.id gx.id
    by_cases hk : kid l[l.length - 1] < kid x
    · have hk' : cmpI l[l.length - 1].ID x.ID < 0 := hc.2 hk
      have d4 : decide (cmpI l[l.length - 1].ID x.ID ≥ 0) = false := decide_eq_false (by omega)
      rw [d4, cond_false, hgo, if_pos fun _ => hk]
    · have hk' : ¬ cmpI l[l.length - 1].ID x.ID < 0 := fun h => hk (hc.1 h)
      have d4 : decide (cmpI l[l.length - 1].ID x.ID ≥ 0) = true := decide_eq_true (by omega)
      rw [d4, cond_true, if_neg fun h => hk (h (by omega))]; rfl
theorem read_loop (n : Int) (hn : n ≤ 1000000) (cnt : Int × octet_Reader) (hc : cnt.1 = n) {r : octet_Reader} (hr : rdOK r) (h0 : 0 ≤ n) :
    ∃ x, loopO (locks_Decode_l1 cnt) (r, ({ l := [] } : locks_Table), (0:Int)) = some x ∧ ((∃ r' l, x = Sum.inl (r', ({ l := l } : locks_Table)) ∧ decS l n) ∨ x = Sum.inr (none, (5:Int))) := by
  subst hc
  have hini : decS [] cnt.1 := ⟨rise_nil, (fun x hx => by cases hx), h0⟩
  refine loop_inv (S := octet_Reader × locks_Table × Int) (fun s => rdOK s.1 ∧ decS s.2.1.l cnt.1 ∧ (s.2.1.l.length : Int) = s.2.2) (fun s => (cnt.1 - s.2.2).toNat) _ ?_ (s := (r, ({ l := [] } : locks_Table), (0:Int))) ⟨hr, hini, rfl⟩
  rintro ⟨r, ⟨l⟩, i⟩ ⟨hr, ⟨g1, g2, g3⟩, g4⟩
  dsimp only at hr g1 g2 g3 g4
  subst g4
  by_cases hlt : (l.length : Int) < cnt.1
  · obtain ⟨x, r3, e3, hx, hr3⟩ := TT.hold r hr
    rw [step_ok g2 (by omega) hx cnt r hlt e3]
    by_cases hlast : ∀ (h : 0 < l.length), kid l[l.length - 1] < kid x
    · rw [if_pos hlast]
      refine .inl ⟨_, rfl, ⟨hr3, ⟨rise_snoc g1 _ hlast, fun y hy => ?_, ?_⟩, ?_⟩, ?_⟩
      · rcases List.mem_append.1 hy with hy | hy
        · exact g2 y hy
        · cases List.mem_singleton.1 hy; exact hx
      · simp only [List.length_append, List.length_cons, List.length_nil]; omega
      · simp only [List.length_append, List.length_cons, List.length_nil]
      · dsimp only; omega
    · rw [if_neg hlast]
      exact .inr ⟨_, rfl, .inr rfl⟩
  · have e : decide ((l.length : Int) < cnt.1) = false := decide_eq_false hlt
    refine .inr ⟨Sum.inl (r, { l := l }), by simp only [locks_Decode_l1, e, cond_false, inrO, Option.map_some], .inl ⟨_, _, rfl, g1, g2, g3⟩⟩
theorem dec_anyL {p : List Int} (hp : p.length ≤ 100000) (hu : U8s p) : ∃ d e, locks_Decode p = some (d, e) ∧ ((e = 0 ∧ (∃ l, d = some { l := l } ∧ Rise kid l ∧ (∀ x ∈ l, holdG x) ∧ tabB l = p) ∧ locks_Table_Encode d = some p) ∨ (e = 5 ∧ d = none)) := by
  have hr0 : rdOK { p := p, bad := false } := ⟨by dsimp only; omega, hu⟩
  obtain ⟨c, r1, e1, ⟨h0, h1⟩, hr1⟩ := TT.cnt (a := (p.length : Int)) (by omega) (by omega) _ hr0
  have e1' : octet_Reader_Count { p := p, bad := false } (p.length : Int) = some (c, r1) := e1
  obtain ⟨x, hx, hres⟩ := read_loop c (by omega) (c, r1) rfl hr1 h0
  simp only [locks_Decode, octet_Read, locks_New, octet_Reader_Left, octet_Reader_Bad, cond_false, Option.bind_some, e1', hx]
  rcases hres with ⟨r', l, rfl, g1, g2, g3⟩ | rfl
  · rw [jn_inl]
    simp only [locks_Decode_j0, octet_Reader_End, octet_Reader_Bad, Option.bind_some]
    have henc := encode_eqL g2 (by omega)
    have hlen : (tabB l).length ≤ 1000000000 := by have := tabB_len g2; omega
    have e2 := slEq_eq (tabB l) p hlen
    cases r'.bad with
    | true => exact ⟨_, _, rfl, .inr ⟨rfl, rfl⟩⟩
    | false =>
      simp only [Bool.not_false, cond_true, Option.bind_some]
      cases ((r'.p.length : Int) == 0) with
      | false => exact ⟨_, _, rfl, .inr ⟨rfl, rfl⟩⟩
      | true =>
        simp only [Bool.not_true, cond_false, henc, Option.bind_some, e2]
        by_cases h : tabB l = p
        · rw [decide_eq_true h]
          exact ⟨_, _, rfl, .inl ⟨rfl, ⟨l, rfl, g1, g2, h⟩, by rw [henc, h]⟩⟩
        · rw [decide_eq_false h]
          exact ⟨_, _, rfl, .inr ⟨rfl, rfl⟩⟩
  · exact ⟨_, _, rfl, .inr ⟨rfl, rfl⟩⟩
theorem bXor_u8 (a b : Int) : isU8 (bXor .u8 a b) := by
  unfold bXor
  rw [wrap_u8_eq]
  exact ⟨by omega, by omega⟩
theorem set_u8 {l : List Int} (h : U8s l) (i : Nat) {x : Int} (hx : isU8 x) : U8s (l.set i x) := fun y hy => (List.mem_or_eq_of_mem_set hy).elim (h y) fun e => e ▸ hx
end Go.Proofs.Ytbdhhmnncknhhaa
