/- What the tape draws can be written, and comes back as it was. -/
import Derived.Test.YtgnkkopjkgdieaaGreatLaneReadsCodD
import Derived.Test.YtgnkkopjkgdieaaGreatLaneReadsTapeF
set_option linter.unusedVariables false
set_option linter.unusedSimpArgs false
set_option maxRecDepth 100000
namespace Go.Proofs.YtgnkkopjkgdieaaGreat
open Go Go.V
/-- f draws something of the tape. -/
def TP {α : Type} (f : ref12_Tape → Option (α × ref12_Tape)) (P : α → Prop) : Prop := ∀ t, tapeOK t → ∃ x t', f t = some (x, t') ∧ P x ∧ tapeOK t'
theorem TP.ret {α : Type} {P : α → Prop} {x : α} (h : P x) : TP (fun r => some (x, r)) P := fun r hr => ⟨x, r, rfl, h, hr⟩
theorem TP.bind {α β : Type} {f : ref12_Tape → Option (α × ref12_Tape)} {g : α × ref12_Tape → Option (β × ref12_Tape)} {P : α → Prop} {Q : β → Prop} (hf : TP f P) (hg : ∀ x, P x → TP (fun r => g (x, r)) Q) : TP (fun r => (f r).bind g) Q := fun r hr => by
  obtain ⟨x, r', h1, h2, h3⟩ := hf r hr
  obtain ⟨y, r2, k1, k2, k3⟩ := hg x h2 r' h3
  exact ⟨y, r2, by show (f r).bind g = _; rw [h1, Option.bind_some]; exact k1, k2, k3⟩
theorem TP.of {α : Type} {f g : ref12_Tape → Option (α × ref12_Tape)} {P : α → Prop} (h : ∀ r, f r = g r) (hg : TP g P) : TP f P := fun r hr => by rw [h]; exact hg r hr
theorem TP.next (n : Int) (h : 0 < n := by decide) (h2 : n ≤ 1000000000 := by decide) : TP (fun t => ref12_Tape_Next t n) (fun v => 0 ≤ v ∧ v < n) := fun t ht => by
  obtain ⟨v, t', a, b, c, d, _⟩ := next_ok ht h h2
  exact ⟨v, t', a, ⟨b, c⟩, d⟩
def isN (x : Nat) : Prop := isF x ∧ cf x = x
theorem TP.float : TP (fun t => ref12_Tape_Float t) isN := fun t ht => by
  obtain ⟨f, t', a, b, c⟩ := float_good ht
  exact ⟨f, t', a, ⟨b.1, cf_good b.1 b.2⟩, c⟩
section
variable {α S R : Type} {body : S → Option (S ⊕ R)} (st : ref12_Tape → List α → Int → S) (out : ref12_Tape → List α → R) {F : Int → ref12_Tape → Option (α × ref12_Tape)}
theorem TP.loop {P : α → Prop} (n : Int) (hn : n ≤ 1000000) (h0 : 0 ≤ n) (hF : ∀ i, 0 ≤ i → i < n → TP (F i) P)
    (hb : ∀ r acc i, i < n → body (st r acc i) = (F i r).bind fun t => gd (room acc [t.1]) (some (Sum.inl (st t.2 (acc ++ [t.1]) (IntKind.i64.wrap (i + (1:Int)))))))
    (hend : ∀ r acc i, ¬ i < n → body (st r acc i) = some (Sum.inr (out r acc))) (r : ref12_Tape) (hr : tapeOK r) :
    ∃ r' acc, loopO body (st r [] (0:Int)) = some (out r' acc) ∧ tapeOK r' ∧ (∀ x ∈ acc, P x) ∧ (acc.length : Int) ≤ n := by
  have key : ∀ (k : Nat) (r : ref12_Tape) (acc : List α) (i : Int), tapeOK r → (acc.length : Int) = i → i ≤ n → (∀ x ∈ acc, P x) → (n - i).toNat ≤ k → ∃ r' acc', loopO body (st r acc i) = some (out r' acc') ∧ tapeOK r' ∧ (∀ x ∈ acc', P x) ∧ (acc'.length : Int) ≤ n := by
    intro k
    induction k with
    | zero =>
      intro r acc i hr ha hi hP hk
      have hni : ¬ i < n := by omega
      exact ⟨r, acc, by rw [loopO_eq, hend r acc i hni]; rfl, hr, hP, by omega⟩
    | succ k ih =>
      intro r acc i hr ha hi hP hk
      by_cases hlt : i < n
      · obtain ⟨x, r', h1, h2, h3⟩ := hF i (by omega) hlt r hr
        have e1 : IntKind.i64.wrap (i + (1:Int)) = i + 1 := by rw [wrap_i64] <;> omega
        obtain ⟨r2, acc2, g1, g2, g3, g4⟩ := ih r' (acc ++ [x]) (i + 1) h3 (by simp only [List.length_append, List.length_cons, List.length_nil]; omega) (by omega) (fun y hy => by
          rcases List.mem_append.1 hy with hy | hy
          · exact hP y hy
          · cases List.mem_singleton.1 hy; exact h2) (by omega)
        refine ⟨r2, acc2, ?_, g2, g3, g4⟩
        rw [loopO_eq, hb r acc i hlt, h1, Option.bind_some, gd_true (room_le (by simp only [List.length_cons, List.length_nil]; omega)), e1]
        exact g1
      · exact ⟨r, acc, by rw [loopO_eq, hend r acc i hlt]; rfl, hr, hP, by omega⟩
  exact key (n - 0).toNat r [] 0 hr rfl h0 (fun x hx => by cases hx) (Nat.le_refl _)
/-- A loop, and what is made of its end. -/
theorem TP.loopB {γ : Type} {P : α → Prop} {Q : γ → Prop} {fin : R → Option (γ × ref12_Tape)} (n : Int) (hn : n ≤ 1000000) (h0 : 0 ≤ n) (hF : ∀ i, 0 ≤ i → i < n → TP (F i) P)
    (hb : ∀ r acc i, i < n → body (st r acc i) = (F i r).bind fun t => gd (room acc [t.1]) (some (Sum.inl (st t.2 (acc ++ [t.1]) (IntKind.i64.wrap (i + (1:Int)))))))
    (hend : ∀ r acc i, ¬ i < n → body (st r acc i) = some (Sum.inr (out r acc)))
    (hfin : ∀ acc, (∀ x ∈ acc, P x) → (acc.length : Int) ≤ n → TP (fun r => fin (out r acc)) Q) : TP (fun r => (loopO body (st r [] (0:Int))).bind fin) Q := fun r hr => by
  obtain ⟨r', acc, h1, h2, h3, h4⟩ := TP.loop st out n hn h0 hF hb hend r hr
  obtain ⟨y, r2, k1, k2, k3⟩ := hfin acc h3 h4 r' h2
  exact ⟨y, r2, by show (loopO body (st r [] (0:Int))).bind fin = _; rw [h1, Option.bind_some]; exact k1, k2, k3⟩
end
/-! ### Values -/
theorem TP.val : TP (fun t => ref12_Tape_Val t) (fun l => l.length ≤ 3 ∧ U8s l) := by
  refine TP.of (g := fun t => (ref12_Tape_Next t (4:Int)).bind fun u => (loopO (ref12_Tape_Val_l0 u) (u.2, [], (0:Int))).bind fun s => some s) (fun t => bnd fun u => (bind_some' _).symm) ?_
  refine TP.bind (TP.next 4) fun n hn r hr => ?_
  refine TP.loopB (P := isU8) (body := ref12_Tape_Val_l0 (n, r)) (F := fun _ t => (ref12_Tape_Next t (26:Int)).bind fun u => some (IntKind.u8.wrap (IntKind.i64.wrap ((97:Int) + u.1)), u.2)) (fun t acc i => (t, acc, i)) (fun t acc => (acc, t)) n (by omega) hn.1 (fun i _ _ => ?_) (fun t acc i hi => ?_) (fun t acc i hi => ?_) (fun acc h1 h2 => ?_) r hr
  · refine TP.bind (TP.next 26) fun v hv => ?_
    dsimp only
    have e1 : IntKind.i64.wrap ((97:Int) + v) = 97 + v := by rw [wrap_i64] <;> omega
    have e2 : IntKind.u8.wrap (97 + v) = 97 + v := by rw [wrap_u8] <;> omega
    rw [e1, e2]
    exact TP.ret ⟨by omega, by omega⟩
  · have e : decide (i < n) = true := by simpa using hi
    simp only [ref12_Tape_Val_l0, e, cond_true, Option.bind_assoc, Option.bind_some]
  · have e : decide (i < n) = false := by simpa using hi
    simp only [ref12_Tape_Val_l0, e, cond_false, inrO, Option.map_some]
  · exact TP.ret ⟨by omega, h1⟩
theorem map_id' {β : Type} {l : List β} {f : β → β} (h : ∀ x ∈ l, f x = x) : l.map f = l := by
  induction l with
  | nil => rfl
  | cons x l ih => rw [List.map_cons, h x (by simp), ih fun y hy => h y (by simp [hy])]
theorem small_u {v : Int} (h0 : 0 ≤ v) (h : v < 256) : isU 8 (IntKind.u64.wrap v) := by rw [wrap_u64 h0 (by omega)]; exact ⟨h0, by rw [pw8]; omega⟩
theorem small_1u {v : Int} (h0 : 0 ≤ v) (h : v < 256) : isU 8 (IntKind.u64.wrap (IntKind.i64.wrap ((1:Int) + v))) := by
  have e : IntKind.i64.wrap ((1:Int) + v) = 1 + v := by rw [wrap_i64] <;> omega
  rw [e, wrap_u64 (by omega) (by omega)]
  exact ⟨by omega, by rw [pw8]; omega⟩
theorem TP.of_ : TP (fun t => ref12_Tape_Of t) idG := by
  refine TP.bind (TP.next 4) fun a ha => ?_
  dsimp only
  refine TP.bind (TP.next 4) fun b hb => ?_
  dsimp only
  exact TP.ret (P := idG) ⟨small_u ha.1 (by omega), small_1u hb.1 (by omega)⟩
/-! ### Holds -/
def rt : ref12_Tape := { L := [], I := 0 }
/-! ### Writes, answers, rules -/
def writesN (l : List api_Write) : Prop := writesG l ∧ cWrites l = l
theorem TP.writes : TP (fun t => ref13_OfWrites t) writesN := by
  refine TP.of (g := fun t => (ref12_Tape_Next t (3:Int)).bind fun u => (loopO (ref13_OfWrites_l0 (u.1, rt)) (u.2, [], (0:Int))).bind fun s => some s) (fun t => bnd fun u => (bind_some' _).symm) ?_
  refine TP.bind (TP.next 3) fun n hn => ?_
  dsimp only
  refine TP.loopB (P := fun x => writeG x ∧ cWrite x = x) (body := ref13_OfWrites_l0 (n, rt)) (F := fun _ t => (ref12_Tape_Float t).bind fun f => (ref12_Tape_Next f.2 (4:Int)).bind fun d => (bif !(d.1 == (0:Int)) then ref12_Tape_Val d.2 else some ([], d.2)).bind fun v => some (({ At := f.1, Del := d.1 == (0:Int), Val := v.1 } : api_Write), v.2)) (fun t acc i => (t, acc, i)) (fun t acc => (acc, t)) n (by omega) hn.1 (fun i _ _ => ?_) (fun t acc i hi => ?_) (fun t acc i hi => ?_) (fun acc h1 h2 => ?_)
  · refine TP.bind TP.float fun f hf => ?_
    dsimp only
    refine TP.bind (TP.next 4) fun d hd => ?_
    dsimp only
    refine TP.bind (P := fun l => l.length ≤ 3 ∧ U8s l) ?_ fun v hv => ?_
    · cases !(d == (0:Int)) with
      | true => exact TP.val
      | false => exact TP.ret ⟨by decide, U8s.nil⟩
    dsimp only
    refine TP.ret (P := fun x => writeG x ∧ cWrite x = x) ⟨⟨hf.1, ?_, hv.2⟩, ?_⟩
    · show v.length ≤ 256; omega
    · simp only [cWrite, hf.2]
  · have e : decide (i < n) = true := by simpa using hi
    simp only [ref13_OfWrites_l0, e, cond_true, Option.bind_assoc]
    refine bnd fun f => bnd fun d => ?_
    cases !(d.1 == (0:Int)) with
    | true => simp only [cond_true, Option.bind_assoc]; exact bnd fun v => rfl
    | false => rfl
  · have e : decide (i < n) = false := by simpa using hi
    simp only [ref13_OfWrites_l0, e, cond_false, inrO, Option.map_some]
  · refine TP.ret (P := writesN) ⟨⟨by omega, fun x hx => (h1 x hx).1⟩, ?_⟩
    rw [cWrites, List.map_congr_left (g := _root_.id) fun x hx => (h1 x hx).2, List.map_id]
end Go.Proofs.YtgnkkopjkgdieaaGreat
