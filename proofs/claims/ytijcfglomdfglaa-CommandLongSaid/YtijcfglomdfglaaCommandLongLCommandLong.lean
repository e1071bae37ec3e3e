/- Commands with more than may be of something aren't read: the plain law. -/
import Derived.Test.YtijcfglomdfglaaCommandLongLCommandApart
import Derived.Test.YtijcfglomdfglaaCommandLongCodFC
set_option linter.unusedVariables false
set_option linter.unusedSimpArgs false
set_option maxRecDepth 100000
namespace Go.Proofs.Ytijcfglomdfglaa
open Go Go.V
/-- A finishing with these writes. -/
def kW (l : List api_Write) : api_Command := { Kind := 3, ID := { Session := 0, Seq := 0 }, Epoch := 0, Index := 0, E := 0, Hold := zH, Writes := l, R := zR, Shards := 0, Parts := [], Rule := zL, On := false }
theorem kW_ok {l : List api_Write} (h : writesOK l) : cmdOK (kW l) := ⟨⟨Int.le_refl _, Int.le_refl _⟩, Int.le_refl _, Int.le_refl _, zH_G.ok, h, zR_G.ok, Int.le_refl _, ⟨Nat.zero_le _, no_mem⟩, zL_G.ok⟩
theorem kW_G {l : List api_Write} (h : writesG l) : cmdG (kW l) := ⟨kd 3 (by decide), ⟨u0 8, u0 8⟩, u0 8, u0 8, u0 1, zH_G, h, zR_G, u0 2, Nat.zero_le _, no_mem, zL_G⟩
theorem kW_B (l : List api_Write) : cmdB (kW l) = leB 1 (un 3) ++ (leB 8 0 ++ (leB 8 0 ++ (leB 1 (un 0) ++ (leB 8 0 ++ (leB 8 0 ++ writesB l))))) := rfl
theorem kW_len (l : List api_Write) : (cmdB (kW l)).length = 34 + (writesB l).length := by
  rw [kW_B]; simp only [List.length_append, leB_length]; omega
/-- What comes of the writes, comes of the command. -/
theorem kW_dec {l w : List api_Write} {r : octet_Reader} (hu : U8s (writesB l)) (hl : (writesB l).length ≤ 1000000) (h : command_readWrites { p := writesB l, bad := false } = some (w, r)) (hb : r.bad = true) : command_Decode (cmdB (kW l)) = some (zC, 5) := by
  have n1 := RD.u1 (v := 3) ⟨by decide, by decide⟩
  have e := RD.u1 (v := 0) ⟨by decide, by decide⟩
  have n8 := RD.n8 (v := 0) ⟨by decide, by decide⟩
  have t0 : (0:Int).toNat = 0 := rfl
  rw [t0] at n8
  have q1 : U8s (leB 8 0 ++ writesB l) := U8s.le.app hu
  have q2 : U8s (leB 8 0 ++ (leB 8 0 ++ writesB l)) := U8s.le.app q1
  have q3 : U8s (leB 1 (un 0) ++ (leB 8 0 ++ (leB 8 0 ++ writesB l))) := U8s.le.app q2
  have q4 : U8s (leB 8 0 ++ (leB 1 (un 0) ++ (leB 8 0 ++ (leB 8 0 ++ writesB l)))) := U8s.le.app q3
  have q5 : U8s (leB 8 0 ++ (leB 8 0 ++ (leB 1 (un 0) ++ (leB 8 0 ++ (leB 8 0 ++ writesB l))))) := U8s.le.app q4
  have a0 := n1.2 _ q5 (by simp only [List.length_append, leB_length]; omega)
  have a1 := n8.2 _ q4 (by simp only [List.length_append, leB_length]; omega)
  have a2 := n8.2 _ q3 (by simp only [List.length_append, leB_length]; omega)
  have a3 := e.2 _ q2 (by simp only [List.length_append, leB_length]; omega)
  have a4 := n8.2 _ q1 (by simp only [List.length_append, leB_length]; omega)
  have a5 := n8.2 _ hu (by simp only [List.length_append, leB_length]; omega)
  have a0' : octet_Reader_Num { p := cmdB (kW l), bad := false } (1:Int) = some (3, _) := a0
  rw [decode_eq, a0', Option.bind_some]
  show (b3 _).bind _ = _
  simp only at a1 a2 a3 a4 a5
  simp only [b3, rdId, a1, a2, a3, a4, a5, h, Option.bind_some, fin, octet_Reader_End, octet_Reader_Bad, hb, Bool.not_true, cond_false, Bool.not_false, cond_true]
/-- Behind a fault nothing is read any more. -/
theorem count_long (n : Nat) (q : List Int) (hn : 32 < n) (hn2 : n < 4294967296) (hq : U8s q) : octet_Reader_Count { p := leB 4 n ++ q, bad := false } (32:Int) = some (0, { p := q, bad := true }) := by
  have h := rnum_leB 4 n q (by decide) (by rw [pw4]; omega) hq
  have n4 : ((4 : Nat) : Int) = 4 := rfl
  rw [n4] at h
  have e0 : decide ((32:Int) < (0:Int)) = false := by decide
  have e1 : IntKind.u64.wrap (32:Int) = 32 := by decide
  have e3 : decide ((n : Int) > 32) = true := by simp; omega
  simp only [octet_Reader_Count, h, Option.bind_some, e0, cond_false, e1, e3, cond_true, octet_Reader_spoil]
theorem many {l : List api_Write} (hn : 32 < l.length) (hl : l.length ≤ 40) (hu : U8s (l.map writeB).flatten) : command_readWrites { p := writesB l, bad := false } = some ([], { p := (l.map writeB).flatten, bad := true }) := by
  unfold command_readWrites writesB
  rw [count_long _ _ hn (by omega) hu, Option.bind_some, loopO_eq]
  rfl
theorem long_val {x : api_Write} (hx : isF x.At) (hv : 256 < x.Val.length) (hv2 : x.Val.length ≤ 1000) (hu : U8s x.Val) : ∃ w r, command_readWrites { p := writesB [x], bad := false } = some (w, r) ∧ r.bad = true := by
  have hb : U8s (writeB x) := (RD.f hx).1.app ((RD.flag x.Del).1.app (U8s.le.app hu))
  have e0 : writesB [x] = leB 4 1 ++ writeB x := by simp [writesB]
  have e1 := count_leB 1 (writeB x) (a := 32) (by decide) (by decide) hb
  have f1 := (RD.f hx).2 (flB x.Del ++ byB x.Val) ((RD.flag x.Del).1.app (U8s.le.app hu)) (by simp only [flB, byB, List.length_append, rkB_len, leB_length]; omega)
  have f2 := (RD.flag x.Del).2 (byB x.Val) (U8s.le.app hu) (by simp only [flB, byB, List.length_append, leB_length]; omega)
  have f3 := rnum_leB 4 x.Val.length x.Val (by decide) (by rw [pw4]; omega) hu
  have n4 : ((4 : Nat) : Int) = 4 := rfl
  rw [n4] at f3
  have g : octet_Reader_Bytes { p := byB x.Val, bad := false } (256:Int) = some ([], { p := x.Val, bad := true }) := by
    have d0 : decide ((256:Int) < (0:Int)) = false := by decide
    have d1 : IntKind.u64.wrap (256:Int) = 256 := by decide
    have d2 : decide ((x.Val.length : Int) > 256) = true := by simp; omega
    have f3' : octet_Reader_Num { p := byB x.Val, bad := false } (4:Int) = some ((x.Val.length : Int), { p := x.Val, bad := false }) := f3
    simp only [octet_Reader_Bytes, f3', Option.bind_some, d0, cond_false, d1, d2, cond_true, octet_Reader_spoil]
  have hw : rdWrite { p := writeB x, bad := false } = some ({ At := cf x.At, Del := x.Del, Val := [] }, { p := x.Val, bad := true }) := by
    have f1' : rdF { p := writeB x, bad := false } = some (cf x.At, { p := flB x.Del ++ byB x.Val, bad := false }) := f1
    have f2' : octet_Reader_Flag { p := flB x.Del ++ byB x.Val, bad := false } = some (x.Del, { p := byB x.Val, bad := false }) := f2
    simp only [rdWrite, f1', f2', g, Option.bind_some]
  refine ⟨[{ At := cf x.At, Del := x.Del, Val := [] }], { p := x.Val, bad := true }, ?_, rfl⟩
  unfold command_readWrites
  have e1' : octet_Reader_Count { p := writesB [x], bad := false } (32:Int) = some ((1:Int), { p := writeB x, bad := false }) := by rw [e0]; exact e1
  rw [e1', Option.bind_some, loopO_eq, writes_step _ _ _ _ (show (0:Int) < 1 by decide), hw, Option.bind_some]
  show loopO (command_readWrites_l0 ((1:Int), _)) ({ p := x.Val, bad := true }, [{ At := cf x.At, Del := x.Del, Val := [] }], (1:Int)) = _
  rw [loopO_eq, writes_end _ _ _ _ (show ¬ (1:Int) < 1 by decide)]; rfl
theorem ofInt_good : ∀ i : Nat, i < 40 → isF (fOfInt (i : Int)) := by
  unfold isF; decide
def wl (k : Nat) : List api_Write := (List.range k).map fun i : Nat => ({ At := fOfInt (i : Int), Del := false, Val := [] } : api_Write)
theorem wl_G {k : Nat} (h : k ≤ 32) : writesG (wl k) := by
  refine ⟨by simpa [wl] using h, fun x hx => ?_⟩
  obtain ⟨i, hi, rfl⟩ := List.mem_map.1 hx
  exact ⟨ofInt_good i (by have := List.mem_range.1 hi; omega), Nat.zero_le _, U8s.nil⟩
theorem wl_U8 {k : Nat} (h : k ≤ 40) : U8s ((wl k).map writeB).flatten := by
  refine U8s.flat fun x hx => ?_
  obtain ⟨i, hi, rfl⟩ := List.mem_map.1 hx
  exact U8s.le.app (U8s.le.app (U8s.le.app U8s.nil))
theorem wl_loop (a0 : Int) (k : Nat) (hk : IntKind.i64.wrap ((30:Int) + Int.tmod (IntKind.i64.wrap a0) (6:Int)) = (k : Int)) (h : k ≤ 40) : loopO (law13_CommandLong_l1 a0) ([], (0:Int)) = some (wl k) := by
  have h := loop_range (body := law13_CommandLong_l1 a0) (fun i => (wl i, (i : Int))) k (wl k) ?_ ?_
  · exact h
  · intro i hi
    have e1 : decide ((i : Int) < (k : Int)) = true := by simpa using hi
    have e2 : IntKind.i64.wrap ((i : Int) + (1:Int)) = ((i + 1 : Nat) : Int) := by rw [wrap_i64] <;> omega
    have e3 : wl (i + 1) = wl i ++ [{ At := fOfInt (i : Int), Del := false, Val := [] }] := by simp [wl, List.range_succ]
    have e4 : (wl i).length = i := by simp [wl]
    simp only [law13_CommandLong_l1, hk, e1, cond_true, gd_true (room_le (xs := wl i) (ys := [({ At := fOfInt (i : Int), Del := false, Val := [] } : api_Write)]) (by simp only [e4, List.length_cons, List.length_nil]; omega)), e2, e3]
  · have e1 : decide ((k : Int) < (k : Int)) = false := by simp
    simp only [law13_CommandLong_l1, hk, e1, cond_false, inrO, Option.map_some]
theorem tail_ok {l : List api_Write} (h : writesG l) : law13_CommandLong_j2 (l, true) = some true := by
  have g := kW_G h
  have hl := cmdB_len g
  have e1 : ref13_Command (kW l) = some (cmdB (kW l)) := fencode_eq g.ok (by omega)
  have e2 := dec_enc g
  have hs : law13_same (kW l) (cCmd (kW l)) = some true := by
    rw [same_cmd g (cCmd_G g), tr_t]
    show fC (kW l) = fC { zC with Kind := 3, ID := cId { Session := 0, Seq := 0 }, E := 0, Epoch := 0, Index := 0, Writes := cWrites l }
    have : cWrites (cWrites l) = cWrites l := by
      unfold cWrites
      rw [List.map_map]
      exact map_eq fun x hx => by
        show ({ At := cf (cf x.At), Del := x.Del, Val := x.Val } : api_Write) = { At := cf x.At, Del := x.Del, Val := x.Val }
        rw [(cf_eq (cf_isF _ (h.2 x hx).1) (h.2 x hx).1).2 (fRank_cf (h.2 x hx).1)]
    simp only [fC, this]
    rfl
  show ((ref13_Command (kW l)).bind fun t374 => (command_Decode t374).bind fun t384 => bif ((t384.2 == (0:Int)) == true) then (bif (!true) then (some true) else ((law13_same (kW l) t384.1).bind fun t440 => (some t440))) else (some false)) = some true
  rw [e1, Option.bind_some, e2, Option.bind_some]
  show (law13_same (kW l) (cCmd (kW l))).bind _ = _
  rw [hs]; rfl
theorem tail_no {l w : List api_Write} {r : octet_Reader} (ok : writesOK l) (hu : U8s (writesB l)) (hl : (writesB l).length ≤ 1000000) (h : command_readWrites { p := writesB l, bad := false } = some (w, r)) (hb : r.bad = true) : law13_CommandLong_j2 (l, false) = some true := by
  have e1 : ref13_Command (kW l) = some (cmdB (kW l)) := fencode_eq (kW_ok ok) (by rw [kW_len]; omega)
  have e2 := kW_dec hu hl h hb
  show ((ref13_Command (kW l)).bind fun t374 => (command_Decode t374).bind fun t384 => bif ((t384.2 == (0:Int)) == false) then (bif (!false) then (some true) else ((law13_same (kW l) t384.1).bind fun t440 => (some t440))) else (some false)) = some true
  rw [e1, Option.bind_some, e2]; rfl
theorem commandLong_plain {a0 a1 : Int} (o0 : (Lit.int .u8 a0).wf = true) (o1 : (Lit.int .u8 a1).wf = true) : law13_CommandLong a0 a1 = some true := by
  obtain ⟨p0, p1⟩ := lit_u8.1 o0
  obtain ⟨q0, q1⟩ := lit_u8.1 o1
  have hw : IntKind.i64.wrap a0 = a0 := by rw [wrap_i64] <;> omega
  have hm : Int.tmod a0 6 = a0 % 6 := Int.tmod_eq_emod_of_nonneg p0
  obtain ⟨k, hk, k1, k2⟩ : ∃ k : Nat, IntKind.i64.wrap ((30:Int) + Int.tmod (IntKind.i64.wrap a0) (6:Int)) = (k : Int) ∧ 30 ≤ k ∧ k ≤ 35 := by
    refine ⟨30 + (a0 % 6).toNat, ?_, by omega, by omega⟩
    rw [hw, hm, wrap_i64] <;> omega
  unfold law13_CommandLong
  rw [awake_eq, Option.bind_some, Bool.not_true, cond_false, wl_loop a0 k hk (by omega), Option.bind_some]
  unfold law13_CommandLong_j0
  rw [hk]
  have hv : IntKind.i64.wrap ((226:Int) + (k : Int)) = ((226 + k : Nat) : Int) := by rw [wrap_i64] <;> omega
  rw [hv]
  have hlen : ∀ m : Nat, (wl m).length = m := fun m => by simp [wl]
  cases hb : (Int.tmod a1 (2:Int)) == (1:Int) with
  | true =>
    have hmk : mkOK ((226 + k : Nat) : Int) ((226 + k : Nat) : Int) = true := by unfold mkOK; simp; omega
    rw [cond_true, gd_true hmk, Option.bind_some, Int.toNat_natCast]
    have hF : isF 0 := by show (0:Nat) < _; decide
    have hU : U8s (List.replicate (226 + k) (0:Int)) := fun y hy => by rw [List.eq_of_mem_replicate hy]; exact ⟨by decide, by decide⟩
    have hL : (List.replicate (226 + k) (0:Int)).length = 226 + k := List.length_replicate
    by_cases h : 226 + k ≤ 256
    · have e : decide (((226 + k : Nat) : Int) ≤ (256:Int)) = true := by simp; omega
      rw [e]
      exact tail_ok ⟨show 1 ≤ 32 by decide, fun x hx => by cases List.mem_singleton.1 hx; exact ⟨hF, by show (List.replicate (226 + k) (0:Int)).length ≤ 256; omega, hU⟩⟩
    · have e : decide (((226 + k : Nat) : Int) ≤ (256:Int)) = false := by simp; omega
      rw [e]
      obtain ⟨w, r, e1, e2⟩ := long_val (x := { At := 0, Del := false, Val := List.replicate (226 + k) (0:Int) }) hF (by show 256 < (List.replicate (226 + k) (0:Int)).length; omega) (by show (List.replicate (226 + k) (0:Int)).length ≤ 1000; omega) hU
      refine tail_no ⟨show 1 ≤ 1000000 by decide, fun x hx => by cases List.mem_singleton.1 hx; exact ⟨hF, by show (List.replicate (226 + k) (0:Int)).length ≤ 1000000; omega⟩⟩ ?_ ?_ e1 e2
      · exact U8s.le.app (U8s.flat fun x hx => by cases List.mem_singleton.1 hx; exact U8s.le.app (U8s.le.app (U8s.le.app hU)))
      · simp only [writesB, List.map_cons, List.map_nil, List.flatten_cons, List.flatten_nil, List.length_append, List.length_nil, writeB, flB, byB, rkB_len, leB_length, hL]; omega
  | false =>
    rw [cond_false, Option.bind_some]
    by_cases h : k ≤ 32
    · have e : decide ((k : Int) ≤ (32:Int)) = true := by simp; omega
      rw [e]
      exact tail_ok (wl_G h)
    · have e : decide ((k : Int) ≤ (32:Int)) = false := by simp; omega
      rw [e]
      refine tail_no ⟨by rw [hlen]; omega, fun x hx => ?_⟩ (U8s.le.app (wl_U8 (by omega))) ?_ (many (by rw [hlen]; omega) (by rw [hlen]; omega) (wl_U8 (by omega))) rfl
      · obtain ⟨i, hi, rfl⟩ := List.mem_map.1 hx
        exact ⟨ofInt_good i (by have := List.mem_range.1 hi; omega), Nat.zero_le _⟩
      · have a := flat_len (l := wl k) (e := writeB) (m := 20) fun x hx => by
          obtain ⟨i, hi, rfl⟩ := List.mem_map.1 hx
          simp only [writeB, flB, byB, List.length_append, rkB_len, leB_length, List.length_nil]; decide
        rw [hlen] at a
        simp only [writesB, List.length_append, leB_length]; omega
end Go.Proofs.Ytijcfglomdfglaa
