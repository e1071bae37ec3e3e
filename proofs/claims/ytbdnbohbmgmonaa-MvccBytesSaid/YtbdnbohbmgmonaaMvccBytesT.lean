/- How the data lie in memory. -/
import Derived.Test.YtbdnbohbmgmonaaMvccBytesM
import Derived.Test.YtbdnbohbmgmonaaProg
import Derived.Test.YtbdnbohbmgmonaaMvccBytesGv
set_option linter.unusedVariables false
set_option linter.unusedSimpArgs false
set_option maxRecDepth 100000
set_option maxHeartbeats 4000000
namespace Go.Proofs.Ytbdnbohbmgmonaa
open Go Go.V
theorem Try.mixed : Try.prog.follows .mixedOrders = true := by kernel_rfl
def ty_law11_Ver : Ty law11_Ver where
  sz := 6
  rep := fun ρ x cs => ∃ v5 : Value, cs = [.int .u8 x.At, .float .f64 x.X, .int .u8 x.E, .int .u8 x.I, .bool x.Del, v5] ∧ Sl (tyInt .u8) ρ v5 x.V ∧ (v5.oneCell' = true)
  len := by rintro ρ x cs ⟨v5, rfl, h⟩; rfl
  mono := by rintro ρ ρ' x cs f ⟨v5, rfl, h5, h⟩; exact ⟨v5, rfl, h5.mono f, h⟩
  one := by rintro ρ x cs ⟨v5, rfl, h5, o5⟩; exact (ones_cons rfl (ones_cons rfl (ones_cons rfl (ones_cons rfl (ones_cons rfl (ones_cons o5 ones_nil))))))

def ty_mvcc_Version : Ty mvcc_Version where
  sz := 4
  rep := fun ρ x cs => ∃ v3 : Value, cs = [.int .u64 x.Epoch, .int .u64 x.Index, .bool x.Del, v3] ∧ Sl (tyInt .u8) ρ v3 x.Val ∧ (v3.oneCell' = true)
  len := by rintro ρ x cs ⟨v3, rfl, h⟩; rfl
  mono := by rintro ρ ρ' x cs f ⟨v3, rfl, h3, h⟩; exact ⟨v3, rfl, h3.mono f, h⟩
  one := by rintro ρ x cs ⟨v3, rfl, h3, o3⟩; exact (ones_cons rfl (ones_cons rfl (ones_cons rfl (ones_cons o3 ones_nil))))

def ty_mvcc_row : Ty mvcc_row where
  sz := 2
  rep := fun ρ x cs => ∃ v1 : Value, cs = [.int .u64 x.rank, v1] ∧ Sl ty_mvcc_Version ρ v1 x.l ∧ (v1.oneCell' = true)
  len := by rintro ρ x cs ⟨v1, rfl, h⟩; rfl
  mono := by rintro ρ ρ' x cs f ⟨v1, rfl, h1, h⟩; exact ⟨v1, rfl, h1.mono f, h⟩
  one := by rintro ρ x cs ⟨v1, rfl, h1, o1⟩; exact (ones_cons rfl (ones_cons o1 ones_nil))

def nest_mvcc_row : Nest mvcc_row where
  β := mvcc_Version
  E := ty_mvcc_Version
  f := fun x => x.l
  mc := fun x u => [.int .u64 x.rank, u]
  sz := 2
  fo := 1
  upd := fun x ys => { x with l := ys }
  hfo := by decide
  len := fun _ _ => rfl
  one := fun x u h => (ones_cons rfl (ones_cons h ones_nil))
  hset := fun _ _ _ => rfl
  fu := fun _ _ => rfl
  mu := fun _ _ _ => rfl
  uu := fun _ => rfl
theorem nestrep_mvcc_row (ρ : Rho) (x : mvcc_row) (u : Value) (h : Sl ty_mvcc_Version ρ u x.l) (o : u.oneCell' = true) : ty_mvcc_row.rep ρ x (nest_mvcc_row.mc x u) := ⟨u, rfl, h, o⟩

def ty_ref11_Version : Ty ref11_Version where
  sz := 5
  rep := fun ρ x cs => ∃ v4 : Value, cs = [.float .f64 x.At, .int .u64 x.Epoch, .int .u64 x.Index, .bool x.Del, v4] ∧ Sl (tyInt .u8) ρ v4 x.Val ∧ (v4.oneCell' = true)
  len := by rintro ρ x cs ⟨v4, rfl, h⟩; rfl
  mono := by rintro ρ ρ' x cs f ⟨v4, rfl, h4, h⟩; exact ⟨v4, rfl, h4.mono f, h⟩
  one := by rintro ρ x cs ⟨v4, rfl, h4, o4⟩; exact (ones_cons rfl (ones_cons rfl (ones_cons rfl (ones_cons rfl (ones_cons o4 ones_nil)))))

def ty_api_Got : Ty api_Got where
  sz := 2
  rep := fun ρ x cs => ∃ v1 : Value, cs = [.bool x.Has, v1] ∧ Sl (tyInt .u8) ρ v1 x.Val ∧ (v1.oneCell' = true)
  len := by rintro ρ x cs ⟨v1, rfl, h⟩; rfl
  mono := by rintro ρ ρ' x cs f ⟨v1, rfl, h1, h⟩; exact ⟨v1, rfl, h1.mono f, h⟩
  one := by rintro ρ x cs ⟨v1, rfl, h1, o1⟩; exact (ones_cons rfl (ones_cons o1 ones_nil))

def ty_api_Pair : Ty api_Pair where
  sz := 2
  rep := fun ρ x cs => ∃ v1 : Value, cs = [.float .f64 x.At, v1] ∧ Sl (tyInt .u8) ρ v1 x.Val ∧ (v1.oneCell' = true)
  len := by rintro ρ x cs ⟨v1, rfl, h⟩; rfl
  mono := by rintro ρ ρ' x cs f ⟨v1, rfl, h1, h⟩; exact ⟨v1, rfl, h1.mono f, h⟩
  one := by rintro ρ x cs ⟨v1, rfl, h1, o1⟩; exact (ones_cons rfl (ones_cons o1 ones_nil))

def at_mvcc_Store (pv : Value) (x : mvcc_Store) : SP := exS fun b : Nat => exS fun v0 : Value => andS (fun I => pv = .pointer (some ⟨b, 0, none⟩)) (fun _ _ hI h => h) (star (cells b [v0]) (ownN nest_mvcc_row v0 x.rows))
theorem at_mvcc_Store_open {w0 w : World} {I : HL} {L : List SP} {R : SP} {pv : Value} {x : mvcc_Store} (h : St w0 w I (at_mvcc_Store pv x :: L) R) : ∃ (b : Nat) (v0 : Value), (pv = .pointer (some ⟨b, 0, none⟩)) ∧ St w0 w I (cells b [v0] :: ownN nest_mvcc_row v0 x.rows :: L) R := by
  obtain ⟨b, h⟩ := h.ex
  obtain ⟨v0, h⟩ := h.ex
  obtain ⟨h1, h⟩ := h.and
  replace h := h.merge.pull1
  replace h := h.pull1
  exact ⟨b, v0, h1, h⟩
theorem at_mvcc_Store_close {w0 w : World} {I : HL} {L : List SP} {R : SP} {pv : Value} {x : mvcc_Store} {b : Nat} {v0 : Value} (h : St w0 w I (cells b [v0] :: ownN nest_mvcc_row v0 x.rows :: L) R) (h1 : pv = .pointer (some ⟨b, 0, none⟩)) : St w0 w I (at_mvcc_Store pv x :: L) R := by
  replace h := h.pull1
  replace h := h.pull1.join
  exact St.toEx b (St.toEx v0 (h.toAnd h1))
theorem at_mvcc_Store_isnil {w0 w : World} {I : HL} {L : List SP} {R : SP} {pv : Value} {x : Option mvcc_Store} (h : St w0 w I (objO at_mvcc_Store pv x :: L) R) : ∃ a : Option Addr, pv = .pointer a ∧ a.isNone = x.isNone := by
  cases x with
  | none => obtain ⟨e, _⟩ := objO_none h; exact ⟨none, e, rfl⟩
  | some y =>
    obtain ⟨b, v0, h1, _⟩ := at_mvcc_Store_open (objO_get h)
    exact ⟨_, h1, rfl⟩

def at_octet_Writer (pv : Value) (x : octet_Writer) : SP := exS fun b : Nat => exS fun v0 : Value => andS (fun I => pv = .pointer (some ⟨b, 0, none⟩)) (fun _ _ hI h => h) (star (cells b [v0]) (ownS (tyInt .u8) v0 x.p))
theorem at_octet_Writer_open {w0 w : World} {I : HL} {L : List SP} {R : SP} {pv : Value} {x : octet_Writer} (h : St w0 w I (at_octet_Writer pv x :: L) R) : ∃ (b : Nat) (v0 : Value), (pv = .pointer (some ⟨b, 0, none⟩)) ∧ St w0 w I (cells b [v0] :: ownS (tyInt .u8) v0 x.p :: L) R := by
  obtain ⟨b, h⟩ := h.ex
  obtain ⟨v0, h⟩ := h.ex
  obtain ⟨h1, h⟩ := h.and
  replace h := h.merge.pull1
  replace h := h.pull1
  exact ⟨b, v0, h1, h⟩
theorem at_octet_Writer_close {w0 w : World} {I : HL} {L : List SP} {R : SP} {pv : Value} {x : octet_Writer} {b : Nat} {v0 : Value} (h : St w0 w I (cells b [v0] :: ownS (tyInt .u8) v0 x.p :: L) R) (h1 : pv = .pointer (some ⟨b, 0, none⟩)) : St w0 w I (at_octet_Writer pv x :: L) R := by
  replace h := h.pull1
  replace h := h.pull1.join
  exact St.toEx b (St.toEx v0 (h.toAnd h1))
theorem at_octet_Writer_isnil {w0 w : World} {I : HL} {L : List SP} {R : SP} {pv : Value} {x : Option octet_Writer} (h : St w0 w I (objO at_octet_Writer pv x :: L) R) : ∃ a : Option Addr, pv = .pointer a ∧ a.isNone = x.isNone := by
  cases x with
  | none => obtain ⟨e, _⟩ := objO_none h; exact ⟨none, e, rfl⟩
  | some y =>
    obtain ⟨b, v0, h1, _⟩ := at_octet_Writer_open (objO_get h)
    exact ⟨_, h1, rfl⟩

def at_octet_Reader (pv : Value) (x : octet_Reader) : SP := exS fun b : Nat => exS fun v0 : Value => andS (fun I => pv = .pointer (some ⟨b, 0, none⟩) ∧ Ro (tyInt .u8) I v0 x.p) (fun _ _ hI h => ⟨h.1, h.2.mono (ro_le hI)⟩) (cells b [v0, .bool x.bad])
theorem at_octet_Reader_open {w0 w : World} {I : HL} {L : List SP} {R : SP} {pv : Value} {x : octet_Reader} (h : St w0 w I (at_octet_Reader pv x :: L) R) : ∃ (b : Nat) (v0 : Value), (pv = .pointer (some ⟨b, 0, none⟩) ∧ Ro (tyInt .u8) I v0 x.p) ∧ St w0 w I (cells b [v0, .bool x.bad] :: L) R := by
  obtain ⟨b, h⟩ := h.ex
  obtain ⟨v0, h⟩ := h.ex
  obtain ⟨h1, h⟩ := h.and
  exact ⟨b, v0, h1, h⟩
theorem at_octet_Reader_close {w0 w : World} {I : HL} {L : List SP} {R : SP} {pv : Value} {x : octet_Reader} {b : Nat} {v0 : Value} (h : St w0 w I (cells b [v0, .bool x.bad] :: L) R) (h1 : pv = .pointer (some ⟨b, 0, none⟩) ∧ Ro (tyInt .u8) I v0 x.p) : St w0 w I (at_octet_Reader pv x :: L) R := by
  exact St.toEx b (St.toEx v0 (h.toAnd h1))
theorem at_octet_Reader_isnil {w0 w : World} {I : HL} {L : List SP} {R : SP} {pv : Value} {x : Option octet_Reader} (h : St w0 w I (objO at_octet_Reader pv x :: L) R) : ∃ a : Option Addr, pv = .pointer a ∧ a.isNone = x.isNone := by
  cases x with
  | none => obtain ⟨e, _⟩ := objO_none h; exact ⟨none, e, rfl⟩
  | some y =>
    obtain ⟨b, v0, h1, _⟩ := at_octet_Reader_open (objO_get h)
    exact ⟨_, h1.1, rfl⟩

theorem elem_32 : Elem Try.prog (tyInt .u8) 32 5 Try.t5 (.int .u8 0) := ⟨Try.underlying32, by kernel_rfl, rfl, rfl, rfl, by decide⟩

theorem elemN_77 : Elem Try.prog (tyRaw 2) 77 76 Try.t76 (.agg #[.int .u64 0, .slice none 0 0]) := ⟨Try.underlying77, by kernel_rfl, rfl, rfl, rfl, by decide⟩

theorem elem_53 : Elem Try.prog ty_mvcc_Version 53 52 Try.t52 (.agg #[.int .u64 0, .int .u64 0, .bool false, .slice none 0 0]) := ⟨Try.underlying53, by kernel_rfl, rfl, rfl, rfl, by decide⟩

theorem elem_26 : Elem Try.prog ty_ref11_Version 26 67 Try.t67 (.agg #[.float .f64 0, .int .u64 0, .int .u64 0, .bool false, .slice none 0 0]) := ⟨Try.underlying26, by kernel_rfl, rfl, rfl, rfl, by decide⟩

theorem elem_44 : Elem Try.prog tyF64 44 23 Try.t23 (.float .f64 0) := ⟨Try.underlying44, by kernel_rfl, rfl, rfl, rfl, by decide⟩

theorem elem_40 : Elem Try.prog ty_api_Pair 40 82 Try.t82 (.agg #[.float .f64 0, .slice none 0 0]) := ⟨Try.underlying40, by kernel_rfl, rfl, rfl, rfl, by decide⟩
end Go.Proofs.Ytbdnbohbmgmonaa
