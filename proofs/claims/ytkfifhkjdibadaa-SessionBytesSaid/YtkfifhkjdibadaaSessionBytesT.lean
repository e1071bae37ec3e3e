/- How the data lie in memory. -/
import Derived.Test.YtkfifhkjdibadaaSessionBytesM
import Derived.Test.YtkfifhkjdibadaaProg
import Derived.Test.YtkfifhkjdibadaaSessionBytesGv
set_option linter.unusedVariables false
set_option linter.unusedSimpArgs false
set_option maxRecDepth 100000
set_option maxHeartbeats 4000000
namespace Go.Proofs.Ytkfifhkjdibadaa
open Go Go.V
theorem Try.mixed : Try.prog.follows .mixedOrders = true := by kernel_rfl
def ty_api_Got : Ty api_Got where
  sz := 2
  rep := fun ρ x cs => ∃ v1 : Value, cs = [.bool x.Has, v1] ∧ Sl (tyInt .u8) ρ v1 x.Val ∧ (v1.oneCell' = true)
  len := by rintro ρ x cs ⟨v1, rfl, h⟩; rfl
  mono := by rintro ρ ρ' x cs f ⟨v1, rfl, h1, h⟩; exact ⟨v1, rfl, h1.mono f, h⟩
  one := by rintro ρ x cs ⟨v1, rfl, h1, o1⟩; exact (ones_cons rfl (ones_cons o1 ones_nil))

def ty_api_Pair : Ty api_Pair where
  sz := 2
  rep := fun ρ x cs => ∃ v1 : Value, cs = [.float .f64 x.At, v1] ∧ Sl (tyInt .u8) ρ v1 x.Val ∧ (v1.oneCell' = true)
  len := by rintro ρ x cs ⟨v1, rfl, h⟩; rfl
  mono := by rintro ρ ρ' x cs f ⟨v1, rfl, h1, h⟩; exact ⟨v1, rfl, h1.mono f, h⟩
  one := by rintro ρ x cs ⟨v1, rfl, h1, o1⟩; exact (ones_cons rfl (ones_cons o1 ones_nil))

def ty_session_row : Ty session_row where
  sz := 7
  rep := fun ρ x cs => ∃ v5 v6 : Value, cs = [.int .u64 x.session, .int .u64 x.seq, .int .i64 x.r.E, .int .u64 x.r.Epoch, .int .u64 x.r.Index, v5, v6] ∧ Sl ty_api_Got ρ v5 x.r.Gots ∧ Sl (tySl ty_api_Pair) ρ v6 x.r.Scans ∧ (v5.oneCell' = true ∧ v6.oneCell' = true)
  len := by rintro ρ x cs ⟨v5, v6, rfl, h⟩; rfl
  mono := by rintro ρ ρ' x cs f ⟨v5, v6, rfl, h5, h6, h⟩; exact ⟨v5, v6, rfl, h5.mono f, h6.mono f, h⟩
  one := by rintro ρ x cs ⟨v5, v6, rfl, h5, h6, o5, o6⟩; exact (ones_cons rfl (ones_cons rfl (ones_cons rfl (ones_cons rfl (ones_cons rfl (ones_cons o5 (ones_cons o6 ones_nil)))))))

def ty_ref11_Answer : Ty ref11_Answer where
  sz := 7
  rep := fun ρ x cs => ∃ v5 v6 : Value, cs = [.int .u64 x.Session, .int .u64 x.Seq, .int .i64 x.R.E, .int .u64 x.R.Epoch, .int .u64 x.R.Index, v5, v6] ∧ Sl ty_api_Got ρ v5 x.R.Gots ∧ Sl (tySl ty_api_Pair) ρ v6 x.R.Scans ∧ (v5.oneCell' = true ∧ v6.oneCell' = true)
  len := by rintro ρ x cs ⟨v5, v6, rfl, h⟩; rfl
  mono := by rintro ρ ρ' x cs f ⟨v5, v6, rfl, h5, h6, h⟩; exact ⟨v5, v6, rfl, h5.mono f, h6.mono f, h⟩
  one := by rintro ρ x cs ⟨v5, v6, rfl, h5, h6, o5, o6⟩; exact (ones_cons rfl (ones_cons rfl (ones_cons rfl (ones_cons rfl (ones_cons rfl (ones_cons o5 (ones_cons o6 ones_nil)))))))

def at_session_Table (pv : Value) (x : session_Table) : SP := exS fun b : Nat => exS fun v0 : Value => andS (fun I => pv = .pointer (some ⟨b, 0, none⟩)) (fun _ _ hI h => h) (star (cells b [v0]) (ownS ty_session_row v0 x.l))
theorem at_session_Table_open {w0 w : World} {I : HL} {L : List SP} {R : SP} {pv : Value} {x : session_Table} (h : St w0 w I (at_session_Table pv x :: L) R) : ∃ (b : Nat) (v0 : Value), (pv = .pointer (some ⟨b, 0, none⟩)) ∧ St w0 w I (cells b [v0] :: ownS ty_session_row v0 x.l :: L) R := by
  obtain ⟨b, h⟩ := h.ex
  obtain ⟨v0, h⟩ := h.ex
  obtain ⟨h1, h⟩ := h.and
  replace h := h.merge.pull1
  replace h := h.pull1
  exact ⟨b, v0, h1, h⟩
theorem at_session_Table_close {w0 w : World} {I : HL} {L : List SP} {R : SP} {pv : Value} {x : session_Table} {b : Nat} {v0 : Value} (h : St w0 w I (cells b [v0] :: ownS ty_session_row v0 x.l :: L) R) (h1 : pv = .pointer (some ⟨b, 0, none⟩)) : St w0 w I (at_session_Table pv x :: L) R := by
  replace h := h.pull1
  replace h := h.pull1.join
  exact St.toEx b (St.toEx v0 (h.toAnd h1))
theorem at_session_Table_isnil {w0 w : World} {I : HL} {L : List SP} {R : SP} {pv : Value} {x : Option session_Table} (h : St w0 w I (objO at_session_Table pv x :: L) R) : ∃ a : Option Addr, pv = .pointer a ∧ a.isNone = x.isNone := by
  cases x with
  | none => obtain ⟨e, _⟩ := objO_none h; exact ⟨none, e, rfl⟩
  | some y =>
    obtain ⟨b, v0, h1, _⟩ := at_session_Table_open (objO_get h)
    exact ⟨_, h1, rfl⟩

def at_ref12_Tape (pv : Value) (x : ref12_Tape) : SP := exS fun b : Nat => exS fun v0 : Value => andS (fun I => pv = .pointer (some ⟨b, 0, none⟩) ∧ Ro (tyInt .u8) I v0 x.L) (fun _ _ hI h => ⟨h.1, h.2.mono (ro_le hI)⟩) (cells b [v0, .int .i64 x.I])
theorem at_ref12_Tape_open {w0 w : World} {I : HL} {L : List SP} {R : SP} {pv : Value} {x : ref12_Tape} (h : St w0 w I (at_ref12_Tape pv x :: L) R) : ∃ (b : Nat) (v0 : Value), (pv = .pointer (some ⟨b, 0, none⟩) ∧ Ro (tyInt .u8) I v0 x.L) ∧ St w0 w I (cells b [v0, .int .i64 x.I] :: L) R := by
  obtain ⟨b, h⟩ := h.ex
  obtain ⟨v0, h⟩ := h.ex
  obtain ⟨h1, h⟩ := h.and
  exact ⟨b, v0, h1, h⟩
theorem at_ref12_Tape_close {w0 w : World} {I : HL} {L : List SP} {R : SP} {pv : Value} {x : ref12_Tape} {b : Nat} {v0 : Value} (h : St w0 w I (cells b [v0, .int .i64 x.I] :: L) R) (h1 : pv = .pointer (some ⟨b, 0, none⟩) ∧ Ro (tyInt .u8) I v0 x.L) : St w0 w I (at_ref12_Tape pv x :: L) R := by
  exact St.toEx b (St.toEx v0 (h.toAnd h1))
theorem at_ref12_Tape_isnil {w0 w : World} {I : HL} {L : List SP} {R : SP} {pv : Value} {x : Option ref12_Tape} (h : St w0 w I (objO at_ref12_Tape pv x :: L) R) : ∃ a : Option Addr, pv = .pointer a ∧ a.isNone = x.isNone := by
  cases x with
  | none => obtain ⟨e, _⟩ := objO_none h; exact ⟨none, e, rfl⟩
  | some y =>
    obtain ⟨b, v0, h1, _⟩ := at_ref12_Tape_open (objO_get h)
    exact ⟨_, h1.1, rfl⟩

def at_octet_Writer (pv : Value) (x : octet_Writer) : SP := exS fun b : Nat => exS fun v0 : Value => andS (fun I => pv = .pointer (some ⟨b, 0, none⟩)) (fun _ _ hI h => h) (star (cells b [v0]) (ownS (tyInt .u8) v0 x.p))
theorem at_octet_Writer_open {w0 w : World} {I : HL} {L : List SP} {R : SP} {pv : Value} {x : octet_Writer} (h : St w0 w I (at_octet_Writer pv x :: L) R) : ∃ (b : Nat) (v0 : Value), (pv = .pointer (some ⟨b, 0, none⟩)) ∧ St w0 w I (cells b [v0] :: ownS (tyInt .u8) v0 x.p :: L) R := by
  obtain ⟨b, h⟩ := h.ex
  obtain ⟨v0, h⟩ := h.ex
  obtain ⟨h1, h⟩ := h.and
  replace h := h.merge.pull1
  replace h := h.pull1
  exact ⟨b, v0, h1, h⟩
theorem at_octet_Writer_close {w0 w : World} {I : HL} {L : List SP} {R : SP} {pv : Value} {x : octet_Writer} {b : Nat} {v0 : Value} (h : St w0 w I (cells b [v0] :: ownS (tyInt .u8) v0 x.p :: L) R) (h1 : pv = .pointer (some ⟨b, 0, none⟩)) : St w0 w I (at_octet_Writer pv x :: L) R := by
  replace h := h.pull1
  replace h := h.pull1.join
  exact St.toEx b (St.toEx v0 (h.toAnd h1))
theorem at_octet_Writer_isnil {w0 w : World} {I : HL} {L : List SP} {R : SP} {pv : Value} {x : Option octet_Writer} (h : St w0 w I (objO at_octet_Writer pv x :: L) R) : ∃ a : Option Addr, pv = .pointer a ∧ a.isNone = x.isNone := by
  cases x with
  | none => obtain ⟨e, _⟩ := objO_none h; exact ⟨none, e, rfl⟩
  | some y =>
    obtain ⟨b, v0, h1, _⟩ := at_octet_Writer_open (objO_get h)
    exact ⟨_, h1, rfl⟩

def at_octet_Reader (pv : Value) (x : octet_Reader) : SP := exS fun b : Nat => exS fun v0 : Value => andS (fun I => pv = .pointer (some ⟨b, 0, none⟩) ∧ Ro (tyInt .u8) I v0 x.p) (fun _ _ hI h => ⟨h.1, h.2.mono (ro_le hI)⟩) (cells b [v0, .bool x.bad])
theorem at_octet_Reader_open {w0 w : World} {I : HL} {L : List SP} {R : SP} {pv : Value} {x : octet_Reader} (h : St w0 w I (at_octet_Reader pv x :: L) R) : ∃ (b : Nat) (v0 : Value), (pv = .pointer (some ⟨b, 0, none⟩) ∧ Ro (tyInt .u8) I v0 x.p) ∧ St w0 w I (cells b [v0, .bool x.bad] :: L) R := by
  obtain ⟨b, h⟩ := h.ex
  obtain ⟨v0, h⟩ := h.ex
  obtain ⟨h1, h⟩ := h.and
  exact ⟨b, v0, h1, h⟩
theorem at_octet_Reader_close {w0 w : World} {I : HL} {L : List SP} {R : SP} {pv : Value} {x : octet_Reader} {b : Nat} {v0 : Value} (h : St w0 w I (cells b [v0, .bool x.bad] :: L) R) (h1 : pv = .pointer (some ⟨b, 0, none⟩) ∧ Ro (tyInt .u8) I v0 x.p) : St w0 w I (at_octet_Reader pv x :: L) R := by
  exact St.toEx b (St.toEx v0 (h.toAnd h1))
theorem at_octet_Reader_isnil {w0 w : World} {I : HL} {L : List SP} {R : SP} {pv : Value} {x : Option octet_Reader} (h : St w0 w I (objO at_octet_Reader pv x :: L) R) : ∃ a : Option Addr, pv = .pointer a ∧ a.isNone = x.isNone := by
  cases x with
  | none => obtain ⟨e, _⟩ := objO_none h; exact ⟨none, e, rfl⟩
  | some y =>
    obtain ⟨b, v0, h1, _⟩ := at_octet_Reader_open (objO_get h)
    exact ⟨_, h1.1, rfl⟩

theorem elem_54 : Elem Try.prog ty_session_row 54 71 Try.t71 (.agg #[.int .u64 0, .int .u64 0, .int .i64 0, .int .u64 0, .int .u64 0, .slice none 0 0, .slice none 0 0]) := ⟨Try.underlying54, by kernel_rfl, rfl, rfl, rfl, by decide⟩

theorem elem_22 : Elem Try.prog (tyInt .u8) 22 5 Try.t5 (.int .u8 0) := ⟨Try.underlying22, by kernel_rfl, rfl, rfl, rfl, by decide⟩

theorem elem_33 : Elem Try.prog ty_api_Got 33 59 Try.t59 (.agg #[.bool false, .slice none 0 0]) := ⟨Try.underlying33, by kernel_rfl, rfl, rfl, rfl, by decide⟩

theorem elem_60 : Elem Try.prog ty_api_Pair 60 64 Try.t64 (.agg #[.float .f64 0, .slice none 0 0]) := ⟨Try.underlying60, by kernel_rfl, rfl, rfl, rfl, by decide⟩

theorem elem_34 : Elem Try.prog (tySl ty_api_Pair) 34 60 Try.t60 (.slice none 0 0) := ⟨Try.underlying34, by kernel_rfl, rfl, rfl, rfl, by decide⟩

theorem elem_29 : Elem Try.prog ty_ref11_Answer 29 66 Try.t66 (.agg #[.int .u64 0, .int .u64 0, .int .i64 0, .int .u64 0, .int .u64 0, .slice none 0 0, .slice none 0 0]) := ⟨Try.underlying29, by kernel_rfl, rfl, rfl, rfl, by decide⟩
end Go.Proofs.Ytkfifhkjdibadaa
