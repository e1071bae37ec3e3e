/- A store as bytes, and any bytes as a store; plainly. -/
import Derived.Test.YtbdnbohbmgmonaaMvccBytesMvR
set_option linter.unusedVariables false
set_option linter.unusedSimpArgs false
set_option maxRecDepth 100000
namespace Go.Proofs.Ytbdnbohbmgmonaa
open Go Go.V
/-! ### What is read has just these bytes -/
def EX {α : Type} (f : octet_Reader → Option (α × octet_Reader)) (S : List Int → α → Prop) : Prop := ∀ r, rdOK r → ∃ x r', f r = some (x, r') ∧ rdOK r' ∧ ∃ b, S b x ∧ (r'.bad = false → r.bad = false ∧ r.p = b ++ r'.p)
theorem EX.bind {α β : Type} {f : octet_Reader → Option (α × octet_Reader)} {g : α × octet_Reader → Option (β × octet_Reader)} {S : List Int → α → Prop} {T : List Int → β → Prop} (hf : EX f S) (hg : ∀ b x, S b x → EX (fun r => g (x, r)) (fun c y => T (b ++ c) y)) : EX (fun r => (f r).bind g) T := fun r hr => by
  obtain ⟨x, r1, h1, h2, b, h3, h4⟩ := hf r hr
  obtain ⟨y, r2, k1, k2, c, k3, k4⟩ := hg b x h3 r1 h2
  refine ⟨y, r2, by show (f r).bind g = _; rw [h1, Option.bind_some]; exact k1, k2, b ++ c, k3, fun hb => ?_⟩
  obtain ⟨q1, q2⟩ := k4 hb
  obtain ⟨q3, q4⟩ := h4 q1
  exact ⟨q3, by rw [q4, q2, List.append_assoc]⟩
theorem EX.ret {α : Type} {S : List Int → α → Prop} {x : α} (h : S [] x) : EX (fun r => some (x, r)) S := fun r hr => ⟨x, r, rfl, hr, [], h, fun hb => ⟨hb, rfl⟩⟩
theorem leB_cons (n v : Nat) : leB (n + 1) v = ((v % 256 : Nat) : Int) :: leB n (v / 256) := by
  unfold leB
  rw [List.range_succ_eq_map, List.map_cons, List.map_map]
  congr 1
  · simp
  · refine List.map_congr_left fun i _ => ?_
    simp only [Function.comp, Nat.succ_eq_add_one]
    rw [Nat.pow_succ, Nat.mul_comm, ← Nat.div_div_eq_div_mul]
theorem leB_valB : ∀ {xs : List Int}, (∀ x ∈ xs, isU8 x) → leB xs.length (valB xs) = xs
  | [], _ => rfl
  | x :: xs, h => by
    have h1 := leB_valB (xs := xs) fun y hy => h y (by simp [hy])
    have h2 := h x (by simp)
    rw [List.length_cons, leB_cons]
    have e : valB (x :: xs) = x.toNat + 256 * valB xs := rfl
    obtain ⟨n, rfl⟩ := Int.eq_ofNat_of_zero_le h2.1
    have h3 : n < 256 := by have := h2.2; omega
    rw [e, Int.toNat_natCast, show (n + 256 * valB xs) % 256 = n by omega, show (n + 256 * valB xs) / 256 = valB xs by omega, h1]
theorem EX.num {n : Int} (m : Nat) (hm : m ≤ 8) (hn : n = m) : EX (fun r => octet_Reader_Num r n) (fun b v => isU m v ∧ b = leB m v.toNat) := fun r hr => by
  subst hn
  obtain ⟨v, r', h1, h2, h3, h4, _⟩ := rnum_ok hr m hm
  refine ⟨v, r', h1, h4, leB m v.toNat, ⟨⟨h2, h3⟩, rfl⟩, fun hb => ?_⟩
  obtain ⟨p, b⟩ := r
  cases b with
  | true => rw [rnum_bad] at h1; cases h1; cases hb
  | false =>
    refine ⟨rfl, ?_⟩
    rcases Nat.lt_or_ge p.length m with hl | hl
    · rw [rnum_short p m hl] at h1; cases h1; cases hb
    · rw [rnum_eq p m hm hl hr.2] at h1
      cases h1
      have h5 := leB_valB (xs := p.take m) fun x hx => hr.2 x (List.mem_of_mem_take hx)
      rw [List.length_take, Nat.min_eq_left hl] at h5
      rw [Int.toNat_natCast, h5, List.take_append_drop]
theorem EX.cnt {a : Int} (h0 : 0 ≤ a) (ha : a ≤ 1000000000) : EX (fun r => octet_Reader_Count r a) (fun b c => (0 ≤ c ∧ c ≤ a) ∧ b = leB 4 c.toNat) := fun r hr => by
  obtain ⟨v, r1, h1, h2, b, ⟨⟨h3, h4⟩, rfl⟩, h5⟩ := EX.num 4 (by decide) rfl r hr
  have h1' : octet_Reader_Num r (4:Int) = some (v, r1) := h1
  have e0 : decide (a < (0:Int)) = false := by simp; omega
  have e1 : IntKind.u64.wrap a = a := by rw [wrap_u64] <;> omega
  simp only [octet_Reader_Count, h1', Option.bind_some, e0, cond_false, e1, octet_Reader_spoil]
  cases hv : decide (v > a) with
  | true => exact ⟨0, _, rfl, h2, leB 4 0, ⟨⟨Int.le_refl _, h0⟩, rfl⟩, fun hb => by cases hb⟩
  | false =>
    have hv' : v ≤ a := by simpa using hv
    have e2 : IntKind.i64.wrap v = v := by rw [wrap_i64] <;> omega
    exact ⟨v, r1, by rw [cond_false, e2], h2, _, ⟨⟨h3, hv'⟩, rfl⟩, h5⟩
theorem EX.flag : EX (fun r => octet_Reader_Flag r) (fun b x => b = flB x) := fun r hr => by
  obtain ⟨v, r1, h1, h2, b, ⟨⟨h3, h4⟩, rfl⟩, h5⟩ := EX.num 1 (by decide) rfl r hr
  have h1' : octet_Reader_Num r (1:Int) = some (v, r1) := h1
  simp only [octet_Reader_Flag, h1', Option.bind_some, octet_Reader_spoil]
  cases hv : decide (v > (1:Int)) with
  | true => exact ⟨false, _, rfl, h2, _, rfl, fun hb => by cases hb⟩
  | false =>
    have hv' : v = 0 ∨ v = 1 := by have : v ≤ 1 := by simpa using hv
                                   omega
    refine ⟨_, r1, by rw [cond_false], h2, _, rfl, fun hb => ?_⟩
    rw [(h5 hb).1, (h5 hb).2]
    refine ⟨rfl, ?_⟩
    rcases hv' with rfl | rfl <;> rfl
theorem EX.bytes {a : Int} (h0 : 0 ≤ a) (ha : a ≤ 100000000) : EX (fun r => octet_Reader_Bytes r a) (fun b l => ((l.length : Int) ≤ a ∧ U8s l) ∧ b = byB l) := fun r hr => by
  obtain ⟨v, r1, h1, h2, b, ⟨⟨h3, h4⟩, rfl⟩, h5⟩ := EX.num 4 (by decide) rfl r hr
  have h1' : octet_Reader_Num r (4:Int) = some (v, r1) := h1
  rw [pw4] at h4
  have e0 : decide (a < (0:Int)) = false := by simp; omega
  have e1 : IntKind.u64.wrap a = a := by rw [wrap_u64] <;> omega
  simp only [octet_Reader_Bytes, h1', Option.bind_some, e0, e1, cond_false, octet_Reader_spoil]
  obtain ⟨p, b⟩ := r1
  obtain ⟨hp, hu⟩ := h2
  simp only at hp hu h5 ⊢
  have no : ((([] : List Int).length : Nat) : Int) ≤ a ∧ U8s [] := ⟨by simpa using h0, U8s.nil⟩
  cases b with
  | true => exact ⟨_, _, rfl, ⟨hp, hu⟩, _, ⟨no, rfl⟩, fun hb => by cases hb⟩
  | false =>
    have e3 : IntKind.u64.wrap ((p.length : Nat) : Int) = ((p.length : Nat) : Int) := by rw [wrap_u64] <;> omega
    simp only [cond_false, e3]
    by_cases c1 : v ≤ a
    · have d1 : decide (v > a) = false := by simp; omega
      by_cases c2 : v ≤ (p.length : Int)
      · have d2 : decide (v > (p.length : Int)) = false := by simp; omega
        obtain ⟨n, rfl⟩ := Int.eq_ofNat_of_zero_le h3
        have e5 : fits p (0:Int) (n : Int) = true := by simp [fits]; omega
        have e6 : fits p (n : Int) ((p.length : Nat) : Int) = true := by simp [fits]; omega
        have e7 : subs p (0:Int) (n : Int) = p.take n := by simp [subs]
        have e8 : subs p (n : Int) ((p.length : Nat) : Int) = p.drop n := by simp [subs]
        simp only [d1, d2, cond_false, gd_true e5, gd_true e6, e7, e8, gd_true (room_le (xs := ([] : List Int)) (ys := p.take n) (by simp only [List.length_nil, List.length_take]; omega))]
        refine ⟨_, _, rfl, ⟨by simp only [List.length_drop]; omega, fun y hy => hu y (List.mem_of_mem_drop hy)⟩, _, ⟨⟨by simp only [List.length_take]; omega, fun y hy => hu y (List.mem_of_mem_take hy)⟩, rfl⟩, fun _ => ?_⟩
        obtain ⟨q1, q2⟩ := h5 rfl
        refine ⟨q1, ?_⟩
        have e9 : (p.take n).length = n := by rw [List.length_take]; omega
        rw [q2, byB, e9, List.append_assoc, List.take_append_drop, Int.toNat_natCast]
      · have d2 : decide (v > (p.length : Int)) = true := by simp; omega
        simp only [d1, d2, cond_false, cond_true]
        exact ⟨_, _, rfl, ⟨hp, hu⟩, _, ⟨no, rfl⟩, fun hb => by cases hb⟩
    · have d1 : decide (v > a) = true := by simp; omega
      simp only [d1, cond_true]
      exact ⟨_, _, rfl, ⟨hp, hu⟩, _, ⟨no, rfl⟩, fun hb => by cases hb⟩
section
variable {α R : Type} {T : Type} {body : T → Option (T ⊕ R)} (st : octet_Reader → List α → Int → T) (out : octet_Reader → List α → R) {F : octet_Reader → Option (α × octet_Reader)}
theorem EX.loop {P : α → Prop} {e : α → List Int} (hF : EX F (fun b x => P x ∧ b = e x)) (n : Int) (hn : n ≤ 1000000000)
    (hb : ∀ r acc i, i < n → body (st r acc i) = (F r).bind fun t => gd (room acc [t.1]) (some (Sum.inl (st t.2 (acc ++ [t.1]) (IntKind.i64.wrap (i + (1:Int)))))))
    (hend : ∀ r acc i, ¬ i < n → body (st r acc i) = some (Sum.inr (out r acc))) (r : octet_Reader) (hr : rdOK r) (h0 : 0 ≤ n) :
    ∃ r' acc, loopO body (st r [] (0:Int)) = some (out r' acc) ∧ rdOK r' ∧ (∀ x ∈ acc, P x) ∧ (acc.length : Int) = n ∧ (r'.bad = false → r.bad = false ∧ r.p = (acc.map e).flatten ++ r'.p) := by
  have key : ∀ (k : Nat) (r : octet_Reader) (acc : List α) (i : Int), rdOK r → (acc.length : Int) = i → i ≤ n → (∀ x ∈ acc, P x) → (n - i).toNat ≤ k → ∃ r' acc', loopO body (st r acc i) = some (out r' (acc ++ acc')) ∧ rdOK r' ∧ (∀ x ∈ acc ++ acc', P x) ∧ ((acc ++ acc').length : Int) = n ∧ (r'.bad = false → r.bad = false ∧ r.p = (acc'.map e).flatten ++ r'.p) := by
    intro k
    induction k with
    | zero =>
      intro r acc i hr ha hi hP hk
      have hni : ¬ i < n := by omega
      exact ⟨r, [], by rw [List.append_nil, loopO_eq, hend r acc i hni]; rfl, hr, by rw [List.append_nil]; exact hP, by rw [List.append_nil]; omega, fun h => ⟨h, rfl⟩⟩
    | succ k ih =>
      intro r acc i hr ha hi hP hk
      by_cases hlt : i < n
      · obtain ⟨x, r', h1, h2, b, ⟨h3, rfl⟩, h4⟩ := hF r hr
        have e1 : IntKind.i64.wrap (i + (1:Int)) = i + 1 := by rw [wrap_i64] <;> omega
        obtain ⟨r2, acc2, g1, g2, g3, g4, g5⟩ := ih r' (acc ++ [x]) (i + 1) h2 (by simp only [List.length_append, List.length_cons, List.length_nil]; omega) (by omega) (fun y hy => by
          rcases List.mem_append.1 hy with hy | hy
          · exact hP y hy
          · cases List.mem_singleton.1 hy; exact h3) (by omega)
        rw [List.append_assoc] at g1 g3 g4
        refine ⟨r2, [x] ++ acc2, ?_, g2, g3, g4, fun hbad => ?_⟩
        · rw [loopO_eq, hb r acc i hlt, h1, Option.bind_some, gd_true (room_le (by simp only [List.length_cons, List.length_nil]; omega)), e1]
          exact g1
        · obtain ⟨q1, q2⟩ := g5 hbad
          obtain ⟨q3, q4⟩ := h4 q1
          refine ⟨q3, ?_⟩
          rw [q4, q2, List.map_append, List.flatten_append, List.map_cons, List.map_nil, List.flatten_singleton, List.append_assoc]
      · exact ⟨r, [], by rw [List.append_nil, loopO_eq, hend r acc i hlt]; rfl, hr, by rw [List.append_nil]; exact hP, by rw [List.append_nil]; omega, fun h => ⟨h, rfl⟩⟩
  obtain ⟨r', acc, h1, h2, h3, h4, h5⟩ := key (n - 0).toNat r [] 0 hr rfl h0 (fun x hx => by cases hx) (Nat.le_refl _)
  exact ⟨r', acc, h1, h2, h3, h4, h5⟩
end
/-! ### A store's bytes -/
def verB (v : mvcc_Version) : List Int := leB 8 v.Epoch.toNat ++ (leB 8 v.Index.toNat ++ (flB v.Del ++ byB v.Val))
def rowB (x : mvcc_row) : List Int := leB 8 x.rank.toNat ++ (leB 4 x.l.length ++ (x.l.map verB).flatten)
def stoB (l : List mvcc_row) : List Int := leB 4 l.length ++ (l.map rowB).flatten
def vB (v : mvcc_Version) : Prop := isU 8 v.Epoch ∧ isU 8 v.Index ∧ v.Val.length ≤ 256 ∧ U8s v.Val
def rB (x : mvcc_row) : Prop := isU 8 x.rank ∧ (∀ v ∈ x.l, vB v) ∧ x.l.length ≤ 1000000000
theorem WR.ver {v : mvcc_Version} (h : vB v) : WR (fun w => (octet_Writer_Num w v.Epoch (8:Int)).bind fun t => (octet_Writer_Num t v.Index (8:Int)).bind fun t => (octet_Writer_Flag t v.Del).bind fun t => octet_Writer_Bytes t v.Val) (verB v) :=
  WR.bind (WR.n8 h.1.1) (WR.bind (WR.n8 h.2.1.1) (WR.bind (WR.flag v.Del) (WR.bytes v.Val (by have := h.2.2.1; omega))))
theorem encode_eq {l : List mvcc_row} (h : ∀ x ∈ l, rB x) (hn : l.length ≤ 1000000000) (hl : (stoB l).length ≤ 1000000000) : mvcc_Store_Encode (some { rows := l }) = some (stoB l) := by
  have hl' : 4 + (l.map rowB).flatten.length ≤ 1000000000 := by simpa only [stoB, List.length_append, leB_length] using hl
  have h1 : octet_Writer_Num { p := [] } (IntKind.u64.wrap (l.length : Int)) (4:Int) = some { p := [] ++ leB 4 l.length } := WR.cnt l.length (by omega) [] (by simp only [List.length_nil, leB_length]; omega)
  simp only [mvcc_Store_Encode, mvcc_Store_Len, Option.bind_some, h1]
  rw [List.nil_append]
  have := WR.loop0 (body := mvcc_Store_Encode_l0 { rows := l }) (fun w => w.p) (l.map rowB) (by rw [List.length_map]; omega) (fun i hi p hp => ?_) (fun w => ?_) (leB 4 l.length) (by rw [leB_length]; omega)
  · rw [this]; rfl
  · rw [List.length_map] at hi
    have hx := h _ (List.getElem_mem hi)
    rw [List.getElem_map] at hp ⊢
    have hp' : p.length + (8 + (4 + (l[i].l.map verB).flatten.length)) ≤ 1000000000 := by simpa only [rowB, List.length_append, leB_length] using hp
    have k1 := WR.n8 hx.1.1 p (by rw [leB_length]; omega)
    have k2 := WR.cnt l[i].l.length (by have := hx.2.2; omega) (p ++ leB 8 l[i].rank.toNat) (by simp only [List.length_append, leB_length]; omega)
    have k3 := WR.loop (body := mvcc_Store_Encode_l1 l[i] (i : Int)) (fun w => (Sum.inl (w, IntKind.i64.wrap ((i : Int) + (1:Int))) : (octet_Writer × Int) ⊕ List Int)) (l[i].l.map verB) (by rw [List.length_map]; have := hx.2.2; omega) (fun j hj => by
      rw [List.length_map] at hj
      refine ⟨_, by rw [List.getElem_map]; exact WR.ver (hx.2.1 _ (List.getElem_mem hj)), fun w => ?_⟩
      simp only [mvcc_Store_Encode_l1, lt_t hj, cond_true, geto_lt hj, Option.bind_some, Option.bind_assoc]) (fun w => by simp [mvcc_Store_Encode_l1, inrO]) (p ++ leB 8 l[i].rank.toNat ++ leB 4 l[i].l.length) (by simp only [List.length_append, leB_length]; omega)
    simp only [mvcc_Store_Encode_l0, lt_t hi, cond_true, geto_lt hi, Option.bind_some, k1, k2, k3]
    simp only [rowB, List.append_assoc]
  · have e : decide ((((l.map rowB).length : Nat) : Int) < (l.length : Int)) = false := by simp
    simp only [mvcc_Store_Encode_l0, e, cond_false, octet_Writer_Done, Option.bind_some, inrO, Option.map_some]
noncomputable def verF (r : octet_Reader) : Option (mvcc_Version × octet_Reader) := (octet_Reader_Num r (8:Int)).bind fun a => (octet_Reader_Num a.2 (8:Int)).bind fun b => (octet_Reader_Flag b.2).bind fun c => (octet_Reader_Bytes c.2 (256:Int)).bind fun d => some ({ Epoch := a.1, Index := b.1, Del := c.1, Val := d.1 }, d.2)
theorem EX.ver : EX verF (fun b v => vB v ∧ b = verB v) := by
  refine EX.bind (EX.num 8 (by decide) rfl) fun b1 x1 h1 => ?_
  dsimp only
  refine EX.bind (EX.num 8 (by decide) rfl) fun b2 x2 h2 => ?_
  dsimp only
  refine EX.bind EX.flag fun b3 x3 h3 => ?_
  dsimp only
  refine EX.bind (EX.bytes (by decide) (by decide)) fun b4 x4 h4 => ?_
  dsimp only
  refine EX.ret ⟨⟨h1.1, h2.1, by have := h4.1.1; show x4.length ≤ 256; omega, h4.1.2⟩, ?_⟩
  rw [h1.2, h2.2, h3, h4.2]
  simp only [verB, List.append_nil]
theorem RD.ver {v : mvcc_Version} (h : vB v) : RD verF (verB v) v := by
  refine RD.bind (RD.n8 h.1) ?_
  dsimp only
  refine RD.bind (RD.n8 h.2.1) ?_
  dsimp only
  refine RD.bind (RD.flag v.Del) ?_
  dsimp only
  exact RD.map (RD.bytes v.Val (by have := h.2.2.1; omega) (by decide) h.2.2.2) fun r => rfl
end Go.Proofs.Ytbdnbohbmgmonaa
