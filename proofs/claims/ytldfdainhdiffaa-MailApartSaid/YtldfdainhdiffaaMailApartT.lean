/- How the data lie in memory. -/
import Derived.Test.YtldfdainhdiffaaMailApartM
import Derived.Test.YtldfdainhdiffaaProg
import Derived.Test.YtldfdainhdiffaaMailApartGv
set_option linter.unusedVariables false
set_option linter.unusedSimpArgs false
set_option maxRecDepth 100000
set_option maxHeartbeats 4000000
namespace Go.Proofs.Ytldfdainhdiffaa
open Go Go.V
theorem Try.mixed : Try.prog.follows .mixedOrders = true := by kernel_rfl
def ty_api_Entry : Ty api_Entry where
  sz := 4
  rep := fun ρ x cs => ∃ v3 : Value, cs = [.int .u64 x.Index, .int .u64 x.Term, .int .u8 x.Kind, v3] ∧ Sl (tyInt .u8) ρ v3 x.Data ∧ (v3.oneCell' = true)
  len := by rintro ρ x cs ⟨v3, rfl, h⟩; rfl
  mono := by rintro ρ ρ' x cs f ⟨v3, rfl, h3, h⟩; exact ⟨v3, rfl, h3.mono f, h⟩
  one := by rintro ρ x cs ⟨v3, rfl, h3, o3⟩; exact (ones_cons rfl (ones_cons rfl (ones_cons rfl (ones_cons o3 ones_nil))))

def ty_api_Got : Ty api_Got where
  sz := 2
  rep := fun ρ x cs => ∃ v1 : Value, cs = [.bool x.Has, v1] ∧ Sl (tyInt .u8) ρ v1 x.Val ∧ (v1.oneCell' = true)
  len := by rintro ρ x cs ⟨v1, rfl, h⟩; rfl
  mono := by rintro ρ ρ' x cs f ⟨v1, rfl, h1, h⟩; exact ⟨v1, rfl, h1.mono f, h⟩
  one := by rintro ρ x cs ⟨v1, rfl, h1, o1⟩; exact (ones_cons rfl (ones_cons o1 ones_nil))

def ty_api_Pair : Ty api_Pair where
  sz := 2
  rep := fun ρ x cs => ∃ v1 : Value, cs = [.float .f64 x.At, v1] ∧ Sl (tyInt .u8) ρ v1 x.Val ∧ (v1.oneCell' = true)
  len := by rintro ρ x cs ⟨v1, rfl, h⟩; rfl
  mono := by rintro ρ ρ' x cs f ⟨v1, rfl, h1, h⟩; exact ⟨v1, rfl, h1.mono f, h⟩
  one := by rintro ρ x cs ⟨v1, rfl, h1, o1⟩; exact (ones_cons rfl (ones_cons o1 ones_nil))

def ty_api_Write : Ty api_Write where
  sz := 3
  rep := fun ρ x cs => ∃ v2 : Value, cs = [.float .f64 x.At, .bool x.Del, v2] ∧ Sl (tyInt .u8) ρ v2 x.Val ∧ (v2.oneCell' = true)
  len := by rintro ρ x cs ⟨v2, rfl, h⟩; rfl
  mono := by rintro ρ ρ' x cs f ⟨v2, rfl, h2, h⟩; exact ⟨v2, rfl, h2.mono f, h⟩
  one := by rintro ρ x cs ⟨v2, rfl, h2, o2⟩; exact (ones_cons rfl (ones_cons rfl (ones_cons o2 ones_nil)))

def ty_api_Part : Ty api_Part where
  sz := 2
  rep := fun ρ x cs => ∃ v1 : Value, cs = [.int .i64 x.Shard, v1] ∧ Sl ty_api_Write ρ v1 x.Writes ∧ (v1.oneCell' = true)
  len := by rintro ρ x cs ⟨v1, rfl, h⟩; rfl
  mono := by rintro ρ ρ' x cs f ⟨v1, rfl, h1, h⟩; exact ⟨v1, rfl, h1.mono f, h⟩
  one := by rintro ρ x cs ⟨v1, rfl, h1, o1⟩; exact (ones_cons rfl (ones_cons o1 ones_nil))

def at_octet_Writer (pv : Value) (x : octet_Writer) : SP := exS fun b : Nat => exS fun v0 : Value => andS (fun I => pv = .pointer (some ⟨b, 0, none⟩)) (fun _ _ hI h => h) (star (cells b [v0]) (ownS (tyInt .u8) v0 x.p))
theorem at_octet_Writer_open {w0 w : World} {I : HL} {L : List SP} {R : SP} {pv : Value} {x : octet_Writer} (h : St w0 w I (at_octet_Writer pv x :: L) R) : ∃ (b : Nat) (v0 : Value), (pv = .pointer (some ⟨b, 0, none⟩)) ∧ St w0 w I (cells b [v0] :: ownS (tyInt .u8) v0 x.p :: L) R := by
  obtain ⟨b, h⟩ := h.ex
  obtain ⟨v0, h⟩ := h.ex
  obtain ⟨h1, h⟩ := h.and
  replace h := h.merge.pull1
  replace h := h.pull1
  exact ⟨b, v0, h1, h⟩
theorem at_octet_Writer_close {w0 w : World} {I : HL} {L : List SP} {R : SP} {pv : Value} {x : octet_Writer} {b : Nat} {v0 : Value} (h : St w0 w I (cells b [v0] :: ownS (tyInt .u8) v0 x.p :: L) R) (h1 : pv = .pointer (some ⟨b, 0, none⟩)) : St w0 w I (at_octet_Writer pv x :: L) R := by
  replace h := h.pull1
  replace h := h.pull1.join
  exact St.toEx b (St.toEx v0 (h.toAnd h1))
theorem at_octet_Writer_isnil {w0 w : World} {I : HL} {L : List SP} {R : SP} {pv : Value} {x : Option octet_Writer} (h : St w0 w I (objO at_octet_Writer pv x :: L) R) : ∃ a : Option Addr, pv = .pointer a ∧ a.isNone = x.isNone := by
  cases x with
  | none => obtain ⟨e, _⟩ := objO_none h; exact ⟨none, e, rfl⟩
  | some y =>
    obtain ⟨b, v0, h1, _⟩ := at_octet_Writer_open (objO_get h)
    exact ⟨_, h1, rfl⟩

def at_ref12_Tape (pv : Value) (x : ref12_Tape) : SP := exS fun b : Nat => exS fun v0 : Value => andS (fun I => pv = .pointer (some ⟨b, 0, none⟩) ∧ Ro (tyInt .u8) I v0 x.L) (fun _ _ hI h => ⟨h.1, h.2.mono (ro_le hI)⟩) (cells b [v0, .int .i64 x.I])
theorem at_ref12_Tape_open {w0 w : World} {I : HL} {L : List SP} {R : SP} {pv : Value} {x : ref12_Tape} (h : St w0 w I (at_ref12_Tape pv x :: L) R) : ∃ (b : Nat) (v0 : Value), (pv = .pointer (some ⟨b, 0, none⟩) ∧ Ro (tyInt .u8) I v0 x.L) ∧ St w0 w I (cells b [v0, .int .i64 x.I] :: L) R := by
  obtain ⟨b, h⟩ := h.ex
  obtain ⟨v0, h⟩ := h.ex
  obtain ⟨h1, h⟩ := h.and
  exact ⟨b, v0, h1, h⟩
theorem at_ref12_Tape_close {w0 w : World} {I : HL} {L : List SP} {R : SP} {pv : Value} {x : ref12_Tape} {b : Nat} {v0 : Value} (h : St w0 w I (cells b [v0, .int .i64 x.I] :: L) R) (h1 : pv = .pointer (some ⟨b, 0, none⟩) ∧ Ro (tyInt .u8) I v0 x.L) : St w0 w I (at_ref12_Tape pv x :: L) R := by
  exact St.toEx b (St.toEx v0 (h.toAnd h1))
theorem at_ref12_Tape_isnil {w0 w : World} {I : HL} {L : List SP} {R : SP} {pv : Value} {x : Option ref12_Tape} (h : St w0 w I (objO at_ref12_Tape pv x :: L) R) : ∃ a : Option Addr, pv = .pointer a ∧ a.isNone = x.isNone := by
  cases x with
  | none => obtain ⟨e, _⟩ := objO_none h; exact ⟨none, e, rfl⟩
  | some y =>
    obtain ⟨b, v0, h1, _⟩ := at_ref12_Tape_open (objO_get h)
    exact ⟨_, h1.1, rfl⟩

def at_octet_Reader (pv : Value) (x : octet_Reader) : SP := exS fun b : Nat => exS fun v0 : Value => andS (fun I => pv = .pointer (some ⟨b, 0, none⟩) ∧ Ro (tyInt .u8) I v0 x.p) (fun _ _ hI h => ⟨h.1, h.2.mono (ro_le hI)⟩) (cells b [v0, .bool x.bad])
theorem at_octet_Reader_open {w0 w : World} {I : HL} {L : List SP} {R : SP} {pv : Value} {x : octet_Reader} (h : St w0 w I (at_octet_Reader pv x :: L) R) : ∃ (b : Nat) (v0 : Value), (pv = .pointer (some ⟨b, 0, none⟩) ∧ Ro (tyInt .u8) I v0 x.p) ∧ St w0 w I (cells b [v0, .bool x.bad] :: L) R := by
  obtain ⟨b, h⟩ := h.ex
  obtain ⟨v0, h⟩ := h.ex
  obtain ⟨h1, h⟩ := h.and
  exact ⟨b, v0, h1, h⟩
theorem at_octet_Reader_close {w0 w : World} {I : HL} {L : List SP} {R : SP} {pv : Value} {x : octet_Reader} {b : Nat} {v0 : Value} (h : St w0 w I (cells b [v0, .bool x.bad] :: L) R) (h1 : pv = .pointer (some ⟨b, 0, none⟩) ∧ Ro (tyInt .u8) I v0 x.p) : St w0 w I (at_octet_Reader pv x :: L) R := by
  exact St.toEx b (St.toEx v0 (h.toAnd h1))
theorem at_octet_Reader_isnil {w0 w : World} {I : HL} {L : List SP} {R : SP} {pv : Value} {x : Option octet_Reader} (h : St w0 w I (objO at_octet_Reader pv x :: L) R) : ∃ a : Option Addr, pv = .pointer a ∧ a.isNone = x.isNone := by
  cases x with
  | none => obtain ⟨e, _⟩ := objO_none h; exact ⟨none, e, rfl⟩
  | some y =>
    obtain ⟨b, v0, h1, _⟩ := at_octet_Reader_open (objO_get h)
    exact ⟨_, h1.1, rfl⟩

theorem elem_22 : Elem Try.prog (tyInt .u8) 22 5 Try.t5 (.int .u8 0) := ⟨Try.underlying22, by kernel_rfl, rfl, rfl, rfl, by decide⟩

theorem elem_26 : Elem Try.prog ty_api_Entry 26 84 Try.t84 (.agg #[.int .u64 0, .int .u64 0, .int .u8 0, .slice none 0 0]) := ⟨Try.underlying26, by kernel_rfl, rfl, rfl, rfl, by decide⟩

theorem elem_33 : Elem Try.prog tyF64 33 44 Try.t44 (.float .f64 0) := ⟨Try.underlying33, by kernel_rfl, rfl, rfl, rfl, by decide⟩

theorem elem_34 : Elem Try.prog tyF2 34 102 Try.t102 (.agg #[.float .f64 0, .float .f64 0]) := ⟨Try.underlying34, by kernel_rfl, rfl, rfl, rfl, by decide⟩

theorem elem_38 : Elem Try.prog ty_api_Got 38 104 Try.t104 (.agg #[.bool false, .slice none 0 0]) := ⟨Try.underlying38, by kernel_rfl, rfl, rfl, rfl, by decide⟩

theorem elem_105 : Elem Try.prog ty_api_Pair 105 107 Try.t107 (.agg #[.float .f64 0, .slice none 0 0]) := ⟨Try.underlying105, by kernel_rfl, rfl, rfl, rfl, by decide⟩

theorem elem_39 : Elem Try.prog (tySl ty_api_Pair) 39 105 Try.t105 (.slice none 0 0) := ⟨Try.underlying39, by kernel_rfl, rfl, rfl, rfl, by decide⟩

theorem elem_42 : Elem Try.prog ty_api_Write 42 120 Try.t120 (.agg #[.float .f64 0, .bool false, .slice none 0 0]) := ⟨Try.underlying42, by kernel_rfl, rfl, rfl, rfl, by decide⟩

theorem elem_43 : Elem Try.prog ty_api_Part 43 110 Try.t110 (.agg #[.int .i64 0, .slice none 0 0]) := ⟨Try.underlying43, by kernel_rfl, rfl, rfl, rfl, by decide⟩
end Go.Proofs.Ytldfdainhdiffaa
