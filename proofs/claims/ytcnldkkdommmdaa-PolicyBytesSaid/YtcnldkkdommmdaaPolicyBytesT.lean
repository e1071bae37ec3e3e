/- How the data lie in memory. -/
import Derived.Test.YtcnldkkdommmdaaPolicyBytesM
import Derived.Test.YtcnldkkdommmdaaProg
import Derived.Test.YtcnldkkdommmdaaGvSlice
set_option linter.unusedVariables false
set_option linter.unusedSimpArgs false
set_option maxRecDepth 100000
set_option maxHeartbeats 4000000
namespace Go.Proofs.Ytcnldkkdommmdaa
open Go Go.V
theorem Try.mixed : Try.prog.follows .mixedOrders = true := by kernel_rfl
def ty_policy_line : Ty policy_line where
  sz := 9
  rep := fun _ x cs => cs = [.int .u64 x.r.ID, .int .i64 x.r.From, .int .i64 x.r.To, .float .f64 x.r.Lo, .float .f64 x.r.Hi, .int .u64 x.r.Authority, .int .i64 x.r.Quota, .int .u64 x.from_, .int .u64 x.to_]
  len := by intro ρ x cs h; subst h; rfl
  mono := fun _ h => h
  one := by intro ρ x cs h; subst h; exact ones_of rfl
theorem flat_policy_line : ty_policy_line.Flat := fun h => h

def ty_ref11_Line : Ty ref11_Line where
  sz := 9
  rep := fun _ x cs => cs = [.int .u64 x.R.ID, .int .i64 x.R.From, .int .i64 x.R.To, .float .f64 x.R.Lo, .float .f64 x.R.Hi, .int .u64 x.R.Authority, .int .i64 x.R.Quota, .int .u64 x.From, .int .u64 x.To]
  len := by intro ρ x cs h; subst h; rfl
  mono := fun _ h => h
  one := by intro ρ x cs h; subst h; exact ones_of rfl
theorem flat_ref11_Line : ty_ref11_Line.Flat := fun h => h

def at_policy_Book (pv : Value) (x : policy_Book) : SP := exS fun b : Nat => exS fun v0 : Value => andS (fun I => pv = .pointer (some ⟨b, 0, none⟩)) (fun _ _ hI h => h) (star (cells b [v0]) (ownS ty_policy_line v0 x.l))
theorem at_policy_Book_open {w0 w : World} {I : HL} {L : List SP} {R : SP} {pv : Value} {x : policy_Book} (h : St w0 w I (at_policy_Book pv x :: L) R) : ∃ (b : Nat) (v0 : Value), (pv = .pointer (some ⟨b, 0, none⟩)) ∧ St w0 w I (cells b [v0] :: ownS ty_policy_line v0 x.l :: L) R := by
  obtain ⟨b, h⟩ := h.ex
  obtain ⟨v0, h⟩ := h.ex
  obtain ⟨h1, h⟩ := h.and
  replace h := h.merge.pull1
  replace h := h.pull1
  exact ⟨b, v0, h1, h⟩
theorem at_policy_Book_close {w0 w : World} {I : HL} {L : List SP} {R : SP} {pv : Value} {x : policy_Book} {b : Nat} {v0 : Value} (h : St w0 w I (cells b [v0] :: ownS ty_policy_line v0 x.l :: L) R) (h1 : pv = .pointer (some ⟨b, 0, none⟩)) : St w0 w I (at_policy_Book pv x :: L) R := by
  replace h := h.pull1
  replace h := h.pull1.join
  exact St.toEx b (St.toEx v0 (h.toAnd h1))
theorem at_policy_Book_isnil {w0 w : World} {I : HL} {L : List SP} {R : SP} {pv : Value} {x : Option policy_Book} (h : St w0 w I (objO at_policy_Book pv x :: L) R) : ∃ a : Option Addr, pv = .pointer a ∧ a.isNone = x.isNone := by
  cases x with
  | none => obtain ⟨e, _⟩ := objO_none h; exact ⟨none, e, rfl⟩
  | some y =>
    obtain ⟨b, v0, h1, _⟩ := at_policy_Book_open (objO_get h)
    exact ⟨_, h1, rfl⟩

def at_ref12_Tape (pv : Value) (x : ref12_Tape) : SP := exS fun b : Nat => exS fun v0 : Value => andS (fun I => pv = .pointer (some ⟨b, 0, none⟩) ∧ Ro (tyInt .u8) I v0 x.L) (fun _ _ hI h => ⟨h.1, h.2.mono (ro_le hI)⟩) (cells b [v0, .int .i64 x.I])
theorem at_ref12_Tape_open {w0 w : World} {I : HL} {L : List SP} {R : SP} {pv : Value} {x : ref12_Tape} (h : St w0 w I (at_ref12_Tape pv x :: L) R) : ∃ (b : Nat) (v0 : Value), (pv = .pointer (some ⟨b, 0, none⟩) ∧ Ro (tyInt .u8) I v0 x.L) ∧ St w0 w I (cells b [v0, .int .i64 x.I] :: L) R := by
  obtain ⟨b, h⟩ := h.ex
  obtain ⟨v0, h⟩ := h.ex
  obtain ⟨h1, h⟩ := h.and
  exact ⟨b, v0, h1, h⟩
theorem at_ref12_Tape_close {w0 w : World} {I : HL} {L : List SP} {R : SP} {pv : Value} {x : ref12_Tape} {b : Nat} {v0 : Value} (h : St w0 w I (cells b [v0, .int .i64 x.I] :: L) R) (h1 : pv = .pointer (some ⟨b, 0, none⟩) ∧ Ro (tyInt .u8) I v0 x.L) : St w0 w I (at_ref12_Tape pv x :: L) R := by
  exact St.toEx b (St.toEx v0 (h.toAnd h1))
theorem at_ref12_Tape_isnil {w0 w : World} {I : HL} {L : List SP} {R : SP} {pv : Value} {x : Option ref12_Tape} (h : St w0 w I (objO at_ref12_Tape pv x :: L) R) : ∃ a : Option Addr, pv = .pointer a ∧ a.isNone = x.isNone := by
  cases x with
  | none => obtain ⟨e, _⟩ := objO_none h; exact ⟨none, e, rfl⟩
  | some y =>
    obtain ⟨b, v0, h1, _⟩ := at_ref12_Tape_open (objO_get h)
    exact ⟨_, h1.1, rfl⟩

def at_octet_Writer (pv : Value) (x : octet_Writer) : SP := exS fun b : Nat => exS fun v0 : Value => andS (fun I => pv = .pointer (some ⟨b, 0, none⟩)) (fun _ _ hI h => h) (star (cells b [v0]) (ownS (tyInt .u8) v0 x.p))
theorem at_octet_Writer_open {w0 w : World} {I : HL} {L : List SP} {R : SP} {pv : Value} {x : octet_Writer} (h : St w0 w I (at_octet_Writer pv x :: L) R) : ∃ (b : Nat) (v0 : Value), (pv = .pointer (some ⟨b, 0, none⟩)) ∧ St w0 w I (cells b [v0] :: ownS (tyInt .u8) v0 x.p :: L) R := by
  obtain ⟨b, h⟩ := h.ex
  obtain ⟨v0, h⟩ := h.ex
  obtain ⟨h1, h⟩ := h.and
  replace h := h.merge.pull1
  replace h := h.pull1
  exact ⟨b, v0, h1, h⟩
theorem at_octet_Writer_close {w0 w : World} {I : HL} {L : List SP} {R : SP} {pv : Value} {x : octet_Writer} {b : Nat} {v0 : Value} (h : St w0 w I (cells b [v0] :: ownS (tyInt .u8) v0 x.p :: L) R) (h1 : pv = .pointer (some ⟨b, 0, none⟩)) : St w0 w I (at_octet_Writer pv x :: L) R := by
  replace h := h.pull1
  replace h := h.pull1.join
  exact St.toEx b (St.toEx v0 (h.toAnd h1))
theorem at_octet_Writer_isnil {w0 w : World} {I : HL} {L : List SP} {R : SP} {pv : Value} {x : Option octet_Writer} (h : St w0 w I (objO at_octet_Writer pv x :: L) R) : ∃ a : Option Addr, pv = .pointer a ∧ a.isNone = x.isNone := by
  cases x with
  | none => obtain ⟨e, _⟩ := objO_none h; exact ⟨none, e, rfl⟩
  | some y =>
    obtain ⟨b, v0, h1, _⟩ := at_octet_Writer_open (objO_get h)
    exact ⟨_, h1, rfl⟩

def at_octet_Reader (pv : Value) (x : octet_Reader) : SP := exS fun b : Nat => exS fun v0 : Value => andS (fun I => pv = .pointer (some ⟨b, 0, none⟩) ∧ Ro (tyInt .u8) I v0 x.p) (fun _ _ hI h => ⟨h.1, h.2.mono (ro_le hI)⟩) (cells b [v0, .bool x.bad])
theorem at_octet_Reader_open {w0 w : World} {I : HL} {L : List SP} {R : SP} {pv : Value} {x : octet_Reader} (h : St w0 w I (at_octet_Reader pv x :: L) R) : ∃ (b : Nat) (v0 : Value), (pv = .pointer (some ⟨b, 0, none⟩) ∧ Ro (tyInt .u8) I v0 x.p) ∧ St w0 w I (cells b [v0, .bool x.bad] :: L) R := by
  obtain ⟨b, h⟩ := h.ex
  obtain ⟨v0, h⟩ := h.ex
  obtain ⟨h1, h⟩ := h.and
  exact ⟨b, v0, h1, h⟩
theorem at_octet_Reader_close {w0 w : World} {I : HL} {L : List SP} {R : SP} {pv : Value} {x : octet_Reader} {b : Nat} {v0 : Value} (h : St w0 w I (cells b [v0, .bool x.bad] :: L) R) (h1 : pv = .pointer (some ⟨b, 0, none⟩) ∧ Ro (tyInt .u8) I v0 x.p) : St w0 w I (at_octet_Reader pv x :: L) R := by
  exact St.toEx b (St.toEx v0 (h.toAnd h1))
theorem at_octet_Reader_isnil {w0 w : World} {I : HL} {L : List SP} {R : SP} {pv : Value} {x : Option octet_Reader} (h : St w0 w I (objO at_octet_Reader pv x :: L) R) : ∃ a : Option Addr, pv = .pointer a ∧ a.isNone = x.isNone := by
  cases x with
  | none => obtain ⟨e, _⟩ := objO_none h; exact ⟨none, e, rfl⟩
  | some y =>
    obtain ⟨b, v0, h1, _⟩ := at_octet_Reader_open (objO_get h)
    exact ⟨_, h1.1, rfl⟩

theorem elem_62 : Elem Try.prog ty_policy_line 62 66 Try.t66 (.agg #[.int .u64 0, .int .i64 0, .int .i64 0, .float .f64 0, .float .f64 0, .int .u64 0, .int .i64 0, .int .u64 0, .int .u64 0]) := ⟨Try.underlying62, by kernel_rfl, rfl, rfl, rfl, by decide⟩

theorem elem_42 : Elem Try.prog ty_ref11_Line 42 48 Try.t48 (.agg #[.int .u64 0, .int .i64 0, .int .i64 0, .float .f64 0, .float .f64 0, .int .u64 0, .int .i64 0, .int .u64 0, .int .u64 0]) := ⟨Try.underlying42, by kernel_rfl, rfl, rfl, rfl, by decide⟩

theorem elem_23 : Elem Try.prog (tyInt .u8) 23 5 Try.t5 (.int .u8 0) := ⟨Try.underlying23, by kernel_rfl, rfl, rfl, rfl, by decide⟩
end Go.Proofs.Ytcnldkkdommmdaa
