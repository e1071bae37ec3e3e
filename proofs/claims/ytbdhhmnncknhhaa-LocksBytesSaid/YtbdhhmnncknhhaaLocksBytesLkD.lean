/- A table of holds as bytes, and any bytes as a table; plainly. -/
import Derived.Test.YtbdhhmnncknhhaaLocksBytesLkG
import Derived.Test.YtbdhhmnncknhhaaLocksBytesSlEq
import Derived.Test.YtbdhhmnncknhhaaLocksBytesGv
set_option linter.unusedVariables false
set_option linter.unusedSimpArgs false
set_option maxRecDepth 100000
namespace Go.Proofs.Ytbdhhmnncknhhaa
open Go Go.V
theorem jn_inl {S R : Type} (x : S) (f : S → Option R) : joinO (some (Sum.inl x)) f = f x := rfl
def tabB (l : List api_Hold) : List Int := leB 4 l.length ++ (l.map holdB).flatten
theorem tabB_len {l : List api_Hold} (h : ∀ x ∈ l, holdG x) : (tabB l).length ≤ 4 + l.length * 2000 := by
  have := flat_len (l := l) (e := holdB) (m := 2000) fun x hx => holdB_len (h x hx)
  simp only [tabB, List.length_append, leB_length]
  omega
theorem encode_eqL {l : List api_Hold} (h : ∀ x ∈ l, holdG x) (hn : l.length ≤ 400000) : locks_Table_Encode (some { l := l }) = some (tabB l) := by
  have hl : (tabB l).length ≤ 1000000000 := by have := tabB_len h; omega
  have hl' : 4 + (l.map holdB).flatten.length ≤ 1000000000 := by simpa only [tabB, List.length_append, leB_length] using hl
  have h1 : octet_Writer_Num { p := [] } (IntKind.u64.wrap (l.length : Int)) (4:Int) = some { p := [] ++ leB 4 l.length } := WR.cnt l.length (by omega) [] (by simp only [List.length_nil, leB_length]; omega)
  simp only [locks_Table_Encode, locks_Table_Len, Option.bind_some, h1]
  rw [List.nil_append]
  have := WR.loop (body := locks_Table_Encode_l1 (l.length : Int) { l := l }) (fun w => w.p) (l.map holdB) (by rw [List.length_map]; omega) (fun i hi => ?_) (fun w => ?_) (leB 4 l.length) (by rw [leB_length]; omega)
  · rw [this]; rfl
  · rw [List.length_map] at hi
    have hx := h _ (List.getElem_mem hi)
    refine ⟨fun w => locks_Lay w l[i], ?_, fun w => ?_⟩
    · rw [List.getElem_map]
      exact lay_hold hx.ok
    · simp only [locks_Table_Encode_l1, lt_t hi, cond_true, geto_lt hi, Option.bind_some, Option.bind_assoc]
  · have e : decide ((((l.map holdB).length : Nat) : Int) < (l.length : Int)) = false := by simp
    simp only [locks_Table_Encode_l1, e, cond_false, octet_Writer_Done, Option.bind_some, inrO, Option.map_some]
theorem holdB_u8 {x : api_Hold} (h : holdG x) : U8s (holdB x) := (RD.hold h).1
theorem tabB_c {l : List api_Hold} (h : ∀ x ∈ l, holdG x) : tabB (l.map cHold) = tabB l := by
  have e : (l.map cHold).map holdB = l.map holdB := by rw [List.map_map]; exact map_eq fun x hx => holdB_c (h x hx)
  simp only [tabB, e, List.length_map]
theorem step_ok {l : List api_Hold} (hg : ∀ x ∈ l, holdG x) (hn : l.length ≤ 1000000) {x : api_Hold} {r : octet_Reader} (gx : holdG x) (cnt : Int × octet_Reader) (r0 : octet_Reader) (hlt : (l.length : Int) < cnt.1) (hx : locks_Read r0 = some (x, r)) :
    locks_Decode_l1 cnt (r0, ({ l := l } : locks_Table), (l.length : Int)) = if (∀ (h : 0 < l.length), kid l[l.length - 1] < kid x) then some (Sum.inl (r, ({ l := l ++ [x] } : locks_Table), ((l.length + 1 : Nat) : Int))) else some (Sum.inr (Sum.inr (none, (5:Int)))) := by
  have e : decide ((l.length : Int) < cnt.1) = true := decide_eq_true hlt
  simp only [locks_Decode_l1, e, cond_true, hx, Option.bind_some]
  have hgo : joinO (some (Sum.inl ())) (locks_Decode_j2 ({ l := l } : locks_Table) (x, r) (l.length : Int)) = some (Sum.inl (r, ({ l := l ++ [x] } : locks_Table), ((l.length + 1 : Nat) : Int))) := by
    rw [jn_inl]
    simp only [locks_Decode_j2, gd_true (room_one (x := x) (show l.length ≤ 1073741823 by omega)), wrap_succ (show l.length ≤ 4294967295 by omega)]
  by_cases h0 : l.length = 0
  · have d2 : decide ((l.length : Int) > (0:Int)) = false := decide_eq_false (by omega)
    rw [d2, cond_false, hgo, if_pos fun h => by omega]
  · have d2 : decide ((l.length : Int) > (0:Int)) = true := decide_eq_true (by omega)
    have d3 : IntKind.i64.wrap ((l.length : Int) - (1:Int)) = ((l.length - 1 : Nat) : Int) := wrap_sub (a := l.length) (b := 1) (by omega) (by omega)
    have hlt2 : l.length - 1 < l.length := by omega
    rw [d2, cond_true, d3, geto_lt hlt2, Option.bind_some, compare_eq, Option.bind_some]
    have g0 := hg _ (List.getElem_mem hlt2)
    have hc := cmpI_lt g0.id gx.id
    by_cases hk : kid l[l.length - 1] < kid x
    · have hk' : cmpI l[l.length - 1].ID x.ID < 0 := hc.2 hk
      have d4 : decide (cmpI l[l.length - 1].ID x.ID ≥ 0) = false := decide_eq_false (by omega)
      rw [d4, cond_false, hgo, if_pos fun _ => hk]
    · have hk' : ¬ cmpI l[l.length - 1].ID x.ID < 0 := fun h => hk (hc.1 h)
      have d4 : decide (cmpI l[l.length - 1].ID x.ID ≥ 0) = true := decide_eq_true (by omega)
      rw [d4, cond_true, if_neg fun h => hk (h (by omega))]; rfl
theorem rise_c {l : List api_Hold} (h : Rise kid l) : Rise kid (l.map cHold) := List.pairwise_map.2 h
theorem dec_encL {l : List api_Hold} (h : tabG l) : locks_Decode (tabB l) = some (some { l := l.map cHold }, 0) := by
  obtain ⟨hr, hn, hg⟩ := h
  have hlen : (tabB l).length ≤ 3000000 := by have := tabB_len hg; omega
  have hfl : (l.map holdB).flatten.length + 4 = (tabB l).length := by simp only [tabB, List.length_append, leB_length]; omega
  have hu : ∀ k : Nat, U8s ((l.drop k).map holdB).flatten := fun k => U8s.flat fun x hx => holdB_u8 (hg x (List.mem_of_mem_drop hx))
  have hmin : l.length ≤ (tabB l).length := by
    have : ∀ (k : List api_Hold), k.length ≤ (k.map holdB).flatten.length := fun k => by
      induction k with
      | nil => exact Nat.le_refl _
      | cons x k ih =>
        have : 1 ≤ (holdB x).length := by simp only [holdB, List.length_append, leB_length, idB]; omega
        simp only [List.map_cons, List.flatten_cons, List.length_append, List.length_cons]; omega
    have := this l
    omega
  have e1 : octet_Reader_Count { p := tabB l, bad := false } ((tabB l).length : Int) = some ((l.length : Int), { p := (l.map holdB).flatten, bad := false }) := count_leB l.length _ (by omega) (by omega) (by have := hu 0; rwa [List.drop_zero] at this)
  have hloop : loopO (locks_Decode_l1 ((l.length : Int), { p := (l.map holdB).flatten, bad := false })) ({ p := (l.map holdB).flatten, bad := false }, ({ l := [] } : locks_Table), (0:Int)) = some (Sum.inl ({ p := [], bad := false }, ({ l := l.map cHold } : locks_Table))) := by
    have h := loop_range (body := locks_Decode_l1 ((l.length : Int), { p := (l.map holdB).flatten, bad := false })) (fun i => (({ p := ((l.drop i).map holdB).flatten, bad := false } : octet_Reader), ({ l := (l.take i).map cHold } : locks_Table), (i : Int))) l.length (Sum.inl ({ p := [], bad := false }, ({ l := l.map cHold } : locks_Table))) ?_ ?_
    · simpa using h
    · intro i hi
      have hx := hg _ (List.getElem_mem hi)
      have hd : l.drop i = l[i] :: l.drop (i + 1) := List.drop_eq_getElem_cons hi
      have hle : ((l.drop i).map holdB).flatten.length ≤ (l.map holdB).flatten.length := by
        have h3 : (l.map holdB).flatten = ((l.take i).map holdB).flatten ++ ((l.drop i).map holdB).flatten := by rw [← List.flatten_append, ← List.map_append, List.take_append_drop]
        rw [h3, List.length_append]; omega
      rw [hd, List.map_cons, List.flatten_cons] at hle
      have r3 := (RD.hold hx).2 _ (hu (i + 1)) (by rw [List.length_append] at hle; omega)
      have hlt : ((l.take i).map cHold).length = i := by rw [List.length_map, List.length_take]; omega
      have hp : ((l.drop i).map holdB).flatten = holdB l[i] ++ ((l.drop (i + 1)).map holdB).flatten := by rw [hd, List.map_cons, List.flatten_cons]
      have hst := step_ok (l := (l.take i).map cHold) (x := cHold l[i]) (r := { p := ((l.drop (i + 1)).map holdB).flatten, bad := false }) (fun y hy => by
        obtain ⟨z, hz, rfl⟩ := List.mem_map.1 hy
        exact holdG_c (hg z (List.mem_of_mem_take hz))) (by omega) (holdG_c hx) ((l.length : Int), { p := (l.map holdB).flatten, bad := false }) { p := ((l.drop i).map holdB).flatten, bad := false } (by dsimp only; omega) (by rw [hp]; exact r3)
      rw [if_pos (fun h => by
        have hlt3 : i - 1 < l.length := by omega
        have e : ((l.take i).map cHold)[((l.take i).map cHold).length - 1] = cHold l[i - 1] := by
          rw [List.getElem_map, List.getElem_take]
          congr 2; rw [hlt]
        rw [e]
        exact hr.lt hlt3 hi (by omega)), hlt] at hst
      rw [hst, List.take_succ_eq_append_getElem hi, List.map_append]; rfl
    · have e : decide ((l.length : Int) < (l.length : Int)) = false := by simp
      simp only [locks_Decode_l1, e, cond_false, inrO, Option.map_some, List.drop_length, List.map_nil, List.flatten_nil, List.take_length]
  have henc := encode_eqL (l := l.map cHold) (fun y hy => by
    obtain ⟨z, hz, rfl⟩ := List.mem_map.1 hy
    exact holdG_c (hg z hz)) (by rw [List.length_map]; omega)
  rw [tabB_c hg] at henc
  have e2 := slEq_eq (tabB l) (tabB l) (by omega)
  simp only [locks_Decode, octet_Read, locks_New, octet_Reader_Left, octet_Reader_Bad, cond_false, Option.bind_some, e1, hloop]
  rw [jn_inl]
  simp only [locks_Decode_j0, octet_Reader_End, octet_Reader_Bad, Option.bind_some, Bool.not_false, cond_true, henc, e2]
  simp
end Go.Proofs.Ytbdhhmnncknhhaa
