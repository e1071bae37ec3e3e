/- How the data lie in memory. -/
import Derived.Test.YtbdhhmnncknhhaaLocksKeepsM
import Derived.Test.YtbdhhmnncknhhaaProg
import Derived.Test.YtbdhhmnncknhhaaLocksKeepsGv
set_option linter.unusedVariables false
set_option linter.unusedSimpArgs false
set_option maxRecDepth 100000
set_option maxHeartbeats 4000000
namespace Go.Proofs.Ytbdhhmnncknhhaa
open Go Go.V
theorem Try.mixed : Try.prog.follows .mixedOrders = true := by kernel_rfl
def ty_api_Hold : Ty api_Hold where
  sz := 7
  rep := fun ρ x cs => ∃ v3 v4 v5 v6 : Value, cs = [.int .u64 x.ID.Session, .int .u64 x.ID.Seq, .int .u64 x.Epoch, v3, v4, v5, v6] ∧ Sl tyF64 ρ v3 x.Gets ∧ Sl tyF2 ρ v4 x.Scans ∧ Sl tyF64 ρ v5 x.Puts ∧ Sl (tyInt .u8) ρ v6 x.Data ∧ (v3.oneCell' = true ∧ v4.oneCell' = true ∧ v5.oneCell' = true ∧ v6.oneCell' = true)
  len := by rintro ρ x cs ⟨v3, v4, v5, v6, rfl, h⟩; rfl
  mono := by rintro ρ ρ' x cs f ⟨v3, v4, v5, v6, rfl, h3, h4, h5, h6, h⟩; exact ⟨v3, v4, v5, v6, rfl, h3.mono f, h4.mono f, h5.mono f, h6.mono f, h⟩
  one := by rintro ρ x cs ⟨v3, v4, v5, v6, rfl, h3, h4, h5, h6, o3, o4, o5, o6⟩; exact (ones_cons rfl (ones_cons rfl (ones_cons rfl (ones_cons o3 (ones_cons o4 (ones_cons o5 (ones_cons o6 ones_nil)))))))

def ty_api_ID : Ty api_ID where
  sz := 2
  rep := fun _ x cs => cs = [.int .u64 x.Session, .int .u64 x.Seq]
  len := by intro ρ x cs h; subst h; rfl
  mono := fun _ h => h
  one := by intro ρ x cs h; subst h; exact ones_of rfl
theorem flat_api_ID : ty_api_ID.Flat := fun h => h

def at_locks_Table (pv : Value) (x : locks_Table) : SP := exS fun b : Nat => exS fun v0 : Value => andS (fun I => pv = .pointer (some ⟨b, 0, none⟩)) (fun _ _ hI h => h) (star (cells b [v0]) (ownS ty_api_Hold v0 x.l))
theorem at_locks_Table_open {w0 w : World} {I : HL} {L : List SP} {R : SP} {pv : Value} {x : locks_Table} (h : St w0 w I (at_locks_Table pv x :: L) R) : ∃ (b : Nat) (v0 : Value), (pv = .pointer (some ⟨b, 0, none⟩)) ∧ St w0 w I (cells b [v0] :: ownS ty_api_Hold v0 x.l :: L) R := by
  obtain ⟨b, h⟩ := h.ex
  obtain ⟨v0, h⟩ := h.ex
  obtain ⟨h1, h⟩ := h.and
  replace h := h.merge.pull1
  replace h := h.pull1
  exact ⟨b, v0, h1, h⟩
theorem at_locks_Table_close {w0 w : World} {I : HL} {L : List SP} {R : SP} {pv : Value} {x : locks_Table} {b : Nat} {v0 : Value} (h : St w0 w I (cells b [v0] :: ownS ty_api_Hold v0 x.l :: L) R) (h1 : pv = .pointer (some ⟨b, 0, none⟩)) : St w0 w I (at_locks_Table pv x :: L) R := by
  replace h := h.pull1
  replace h := h.pull1.join
  exact St.toEx b (St.toEx v0 (h.toAnd h1))
theorem at_locks_Table_isnil {w0 w : World} {I : HL} {L : List SP} {R : SP} {pv : Value} {x : Option locks_Table} (h : St w0 w I (objO at_locks_Table pv x :: L) R) : ∃ a : Option Addr, pv = .pointer a ∧ a.isNone = x.isNone := by
  cases x with
  | none => obtain ⟨e, _⟩ := objO_none h; exact ⟨none, e, rfl⟩
  | some y =>
    obtain ⟨b, v0, h1, _⟩ := at_locks_Table_open (objO_get h)
    exact ⟨_, h1, rfl⟩

def at_ref12_Tape (pv : Value) (x : ref12_Tape) : SP := exS fun b : Nat => exS fun v0 : Value => andS (fun I => pv = .pointer (some ⟨b, 0, none⟩) ∧ Ro (tyInt .u8) I v0 x.L) (fun _ _ hI h => ⟨h.1, h.2.mono (ro_le hI)⟩) (cells b [v0, .int .i64 x.I])
theorem at_ref12_Tape_open {w0 w : World} {I : HL} {L : List SP} {R : SP} {pv : Value} {x : ref12_Tape} (h : St w0 w I (at_ref12_Tape pv x :: L) R) : ∃ (b : Nat) (v0 : Value), (pv = .pointer (some ⟨b, 0, none⟩) ∧ Ro (tyInt .u8) I v0 x.L) ∧ St w0 w I (cells b [v0, .int .i64 x.I] :: L) R := by
  obtain ⟨b, h⟩ := h.ex
  obtain ⟨v0, h⟩ := h.ex
  obtain ⟨h1, h⟩ := h.and
  exact ⟨b, v0, h1, h⟩
theorem at_ref12_Tape_close {w0 w : World} {I : HL} {L : List SP} {R : SP} {pv : Value} {x : ref12_Tape} {b : Nat} {v0 : Value} (h : St w0 w I (cells b [v0, .int .i64 x.I] :: L) R) (h1 : pv = .pointer (some ⟨b, 0, none⟩) ∧ Ro (tyInt .u8) I v0 x.L) : St w0 w I (at_ref12_Tape pv x :: L) R := by
  exact St.toEx b (St.toEx v0 (h.toAnd h1))
theorem at_ref12_Tape_isnil {w0 w : World} {I : HL} {L : List SP} {R : SP} {pv : Value} {x : Option ref12_Tape} (h : St w0 w I (objO at_ref12_Tape pv x :: L) R) : ∃ a : Option Addr, pv = .pointer a ∧ a.isNone = x.isNone := by
  cases x with
  | none => obtain ⟨e, _⟩ := objO_none h; exact ⟨none, e, rfl⟩
  | some y =>
    obtain ⟨b, v0, h1, _⟩ := at_ref12_Tape_open (objO_get h)
    exact ⟨_, h1.1, rfl⟩

def at_octet_Reader (pv : Value) (x : octet_Reader) : SP := exS fun b : Nat => exS fun v0 : Value => andS (fun I => pv = .pointer (some ⟨b, 0, none⟩) ∧ Ro (tyInt .u8) I v0 x.p) (fun _ _ hI h => ⟨h.1, h.2.mono (ro_le hI)⟩) (cells b [v0, .bool x.bad])
theorem at_octet_Reader_open {w0 w : World} {I : HL} {L : List SP} {R : SP} {pv : Value} {x : octet_Reader} (h : St w0 w I (at_octet_Reader pv x :: L) R) : ∃ (b : Nat) (v0 : Value), (pv = .pointer (some ⟨b, 0, none⟩) ∧ Ro (tyInt .u8) I v0 x.p) ∧ St w0 w I (cells b [v0, .bool x.bad] :: L) R := by
  obtain ⟨b, h⟩ := h.ex
  obtain ⟨v0, h⟩ := h.ex
  obtain ⟨h1, h⟩ := h.and
  exact ⟨b, v0, h1, h⟩
theorem at_octet_Reader_close {w0 w : World} {I : HL} {L : List SP} {R : SP} {pv : Value} {x : octet_Reader} {b : Nat} {v0 : Value} (h : St w0 w I (cells b [v0, .bool x.bad] :: L) R) (h1 : pv = .pointer (some ⟨b, 0, none⟩) ∧ Ro (tyInt .u8) I v0 x.p) : St w0 w I (at_octet_Reader pv x :: L) R := by
  exact St.toEx b (St.toEx v0 (h.toAnd h1))
theorem at_octet_Reader_isnil {w0 w : World} {I : HL} {L : List SP} {R : SP} {pv : Value} {x : Option octet_Reader} (h : St w0 w I (objO at_octet_Reader pv x :: L) R) : ∃ a : Option Addr, pv = .pointer a ∧ a.isNone = x.isNone := by
  cases x with
  | none => obtain ⟨e, _⟩ := objO_none h; exact ⟨none, e, rfl⟩
  | some y =>
    obtain ⟨b, v0, h1, _⟩ := at_octet_Reader_open (objO_get h)
    exact ⟨_, h1.1, rfl⟩

def at_octet_Writer (pv : Value) (x : octet_Writer) : SP := exS fun b : Nat => exS fun v0 : Value => andS (fun I => pv = .pointer (some ⟨b, 0, none⟩)) (fun _ _ hI h => h) (star (cells b [v0]) (ownS (tyInt .u8) v0 x.p))
theorem at_octet_Writer_open {w0 w : World} {I : HL} {L : List SP} {R : SP} {pv : Value} {x : octet_Writer} (h : St w0 w I (at_octet_Writer pv x :: L) R) : ∃ (b : Nat) (v0 : Value), (pv = .pointer (some ⟨b, 0, none⟩)) ∧ St w0 w I (cells b [v0] :: ownS (tyInt .u8) v0 x.p :: L) R := by
  obtain ⟨b, h⟩ := h.ex
  obtain ⟨v0, h⟩ := h.ex
  obtain ⟨h1, h⟩ := h.and
  replace h := h.merge.pull1
  replace h := h.pull1
  exact ⟨b, v0, h1, h⟩
theorem at_octet_Writer_close {w0 w : World} {I : HL} {L : List SP} {R : SP} {pv : Value} {x : octet_Writer} {b : Nat} {v0 : Value} (h : St w0 w I (cells b [v0] :: ownS (tyInt .u8) v0 x.p :: L) R) (h1 : pv = .pointer (some ⟨b, 0, none⟩)) : St w0 w I (at_octet_Writer pv x :: L) R := by
  replace h := h.pull1
  replace h := h.pull1.join
  exact St.toEx b (St.toEx v0 (h.toAnd h1))
theorem at_octet_Writer_isnil {w0 w : World} {I : HL} {L : List SP} {R : SP} {pv : Value} {x : Option octet_Writer} (h : St w0 w I (objO at_octet_Writer pv x :: L) R) : ∃ a : Option Addr, pv = .pointer a ∧ a.isNone = x.isNone := by
  cases x with
  | none => obtain ⟨e, _⟩ := objO_none h; exact ⟨none, e, rfl⟩
  | some y =>
    obtain ⟨b, v0, h1, _⟩ := at_octet_Writer_open (objO_get h)
    exact ⟨_, h1, rfl⟩

theorem elem_30 : Elem Try.prog tyF64 30 57 Try.t57 (.float .f64 0) := ⟨Try.underlying30, by kernel_rfl, rfl, rfl, rfl, by decide⟩

theorem elem_31 : Elem Try.prog tyF2 31 75 Try.t75 (.agg #[.float .f64 0, .float .f64 0]) := ⟨Try.underlying31, by kernel_rfl, rfl, rfl, rfl, by decide⟩

theorem elem_32 : Elem Try.prog (tyInt .u8) 32 5 Try.t5 (.int .u8 0) := ⟨Try.underlying32, by kernel_rfl, rfl, rfl, rfl, by decide⟩

theorem elem_22 : Elem Try.prog ty_api_Hold 22 34 Try.t34 (.agg #[.int .u64 0, .int .u64 0, .int .u64 0, .slice none 0 0, .slice none 0 0, .slice none 0 0, .slice none 0 0]) := ⟨Try.underlying22, by kernel_rfl, rfl, rfl, rfl, by decide⟩

theorem elem_37 : Elem Try.prog ty_api_ID 37 29 Try.t29 (.agg #[.int .u64 0, .int .u64 0]) := ⟨Try.underlying37, by kernel_rfl, rfl, rfl, rfl, by decide⟩
end Go.Proofs.Ytbdhhmnncknhhaa
