/- How the data lie in memory. -/
import Derived.Test.YtbdbeenkamcglaaNetMostM
import Derived.Test.YtbdbeenkamcglaaProg
import Derived.Test.YtbdbeenkamcglaaNetMostGv
set_option linter.unusedVariables false
set_option linter.unusedSimpArgs false
set_option maxRecDepth 100000
set_option maxHeartbeats 4000000
namespace Go.Proofs.Ytbdbeenkamcglaa
open Go Go.V
theorem Try.mixed : Try.prog.follows .mixedOrders = true := by kernel_rfl
abbrev kv_net_Link (x : net_Link) : Value := lk x.From x.To x.Lane

def at_label_Lattice (pv : Value) (x : label_Lattice) : SP := exS fun b : Nat => exS fun v0 : Value => exS fun v1 : Value => exS fun v2 : Value => exS fun v3 : Value => exS fun v4 : Value => exS fun v5 : Value => andS (fun I => pv = .pointer (some ⟨b, 0, none⟩)) (fun _ _ hI h => h) (star (cells b [v0, v1, v2, v3, v4, v5]) (star (ownS (tyInt .u64) v0 x.up) ( star (ownS (tyInt .u64) v1 x.down) ( star (ownS (tySl (tyInt .i64)) v2 x.join) ( star (ownS (tySl (tyInt .i64)) v3 x.meet) ( star (ownS (tyInt .i64) v4 x.rank) (ownS (tyInt .i64) v5 x.all)))))))
theorem at_label_Lattice_open {w0 w : World} {I : HL} {L : List SP} {R : SP} {pv : Value} {x : label_Lattice} (h : St w0 w I (at_label_Lattice pv x :: L) R) : ∃ (b : Nat) (v0 : Value) (v1 : Value) (v2 : Value) (v3 : Value) (v4 : Value) (v5 : Value), (pv = .pointer (some ⟨b, 0, none⟩)) ∧ St w0 w I (cells b [v0, v1, v2, v3, v4, v5] :: ownS (tyInt .u64) v0 x.up :: ownS (tyInt .u64) v1 x.down :: ownS (tySl (tyInt .i64)) v2 x.join :: ownS (tySl (tyInt .i64)) v3 x.meet :: ownS (tyInt .i64) v4 x.rank :: ownS (tyInt .i64) v5 x.all :: L) R := by
  obtain ⟨b, h⟩ := h.ex
  obtain ⟨v0, h⟩ := h.ex
  obtain ⟨v1, h⟩ := h.ex
  obtain ⟨v2, h⟩ := h.ex
  obtain ⟨v3, h⟩ := h.ex
  obtain ⟨v4, h⟩ := h.ex
  obtain ⟨v5, h⟩ := h.ex
  obtain ⟨h1, h⟩ := h.and
  replace h := h.merge.pull1
  replace h := h.merge.pull1
  replace h := h.merge.pull1
  replace h := h.merge.pull1
  replace h := h.merge.pull1
  replace h := h.merge.pull1
  replace h := h.pull1
  replace h := h.pull2
  replace h := h.pull3
  replace h := h.pull4
  replace h := h.pull5
  replace h := h.pull6
  exact ⟨b, v0, v1, v2, v3, v4, v5, h1, h⟩
theorem at_label_Lattice_close {w0 w : World} {I : HL} {L : List SP} {R : SP} {pv : Value} {x : label_Lattice} {b : Nat} {v0 : Value} {v1 : Value} {v2 : Value} {v3 : Value} {v4 : Value} {v5 : Value} (h : St w0 w I (cells b [v0, v1, v2, v3, v4, v5] :: ownS (tyInt .u64) v0 x.up :: ownS (tyInt .u64) v1 x.down :: ownS (tySl (tyInt .i64)) v2 x.join :: ownS (tySl (tyInt .i64)) v3 x.meet :: ownS (tyInt .i64) v4 x.rank :: ownS (tyInt .i64) v5 x.all :: L) R) (h1 : pv = .pointer (some ⟨b, 0, none⟩)) : St w0 w I (at_label_Lattice pv x :: L) R := by
  replace h := h.pull1
  replace h := h.pull2
  replace h := h.pull3
  replace h := h.pull4
  replace h := h.pull5
  replace h := h.pull6
  replace h := h.pull1.join
  replace h := h.pull1.join
  replace h := h.pull1.join
  replace h := h.pull1.join
  replace h := h.pull1.join
  replace h := h.pull1.join
  exact St.toEx b (St.toEx v0 (St.toEx v1 (St.toEx v2 (St.toEx v3 (St.toEx v4 (St.toEx v5 (h.toAnd h1)))))))
theorem at_label_Lattice_isnil {w0 w : World} {I : HL} {L : List SP} {R : SP} {pv : Value} {x : Option label_Lattice} (h : St w0 w I (objO at_label_Lattice pv x :: L) R) : ∃ a : Option Addr, pv = .pointer a ∧ a.isNone = x.isNone := by
  cases x with
  | none => obtain ⟨e, _⟩ := objO_none h; exact ⟨none, e, rfl⟩
  | some y =>
    obtain ⟨b, v0, v1, v2, v3, v4, v5, h1, _⟩ := at_label_Lattice_open (objO_get h)
    exact ⟨_, h1, rfl⟩

def at_config_Plan (pv : Value) (x : config_Plan) : SP := exS fun b : Nat => exS fun v0 : Value => exS fun v2 : Value => exS fun v9 : Value => andS (fun I => pv = .pointer (some ⟨b, 0, none⟩) ∧ Ro (tyInt .u64) I v0 x.C.Up ∧ Ro tyF64 I v2 x.C.Cuts) (fun _ _ hI h => ⟨h.1, h.2.1.mono (ro_le hI), h.2.2.mono (ro_le hI)⟩) (star (cells b [v0, .int .i64 x.C.Nodes, v2, .int .i64 x.C.Frame, .int .i64 x.C.Depth, .int .i64 x.C.Quota, .int .i64 x.C.Wide, .int .i64 x.C.Beat, .int .i64 x.C.Elect, v9]) (objO at_label_Lattice v9 x.L))
theorem at_config_Plan_open {w0 w : World} {I : HL} {L : List SP} {R : SP} {pv : Value} {x : config_Plan} (h : St w0 w I (at_config_Plan pv x :: L) R) : ∃ (b : Nat) (v0 : Value) (v2 : Value) (v9 : Value), (pv = .pointer (some ⟨b, 0, none⟩) ∧ Ro (tyInt .u64) I v0 x.C.Up ∧ Ro tyF64 I v2 x.C.Cuts) ∧ St w0 w I (cells b [v0, .int .i64 x.C.Nodes, v2, .int .i64 x.C.Frame, .int .i64 x.C.Depth, .int .i64 x.C.Quota, .int .i64 x.C.Wide, .int .i64 x.C.Beat, .int .i64 x.C.Elect, v9] :: objO at_label_Lattice v9 x.L :: L) R := by
  obtain ⟨b, h⟩ := h.ex
  obtain ⟨v0, h⟩ := h.ex
  obtain ⟨v2, h⟩ := h.ex
  obtain ⟨v9, h⟩ := h.ex
  obtain ⟨h1, h⟩ := h.and
  replace h := h.merge.pull1
  replace h := h.pull1
  exact ⟨b, v0, v2, v9, h1, h⟩
theorem at_config_Plan_close {w0 w : World} {I : HL} {L : List SP} {R : SP} {pv : Value} {x : config_Plan} {b : Nat} {v0 : Value} {v2 : Value} {v9 : Value} (h : St w0 w I (cells b [v0, .int .i64 x.C.Nodes, v2, .int .i64 x.C.Frame, .int .i64 x.C.Depth, .int .i64 x.C.Quota, .int .i64 x.C.Wide, .int .i64 x.C.Beat, .int .i64 x.C.Elect, v9] :: objO at_label_Lattice v9 x.L :: L) R) (h1 : pv = .pointer (some ⟨b, 0, none⟩) ∧ Ro (tyInt .u64) I v0 x.C.Up ∧ Ro tyF64 I v2 x.C.Cuts) : St w0 w I (at_config_Plan pv x :: L) R := by
  replace h := h.pull1
  replace h := h.pull1.join
  exact St.toEx b (St.toEx v0 (St.toEx v2 (St.toEx v9 (h.toAnd h1))))
theorem at_config_Plan_isnil {w0 w : World} {I : HL} {L : List SP} {R : SP} {pv : Value} {x : Option config_Plan} (h : St w0 w I (objO at_config_Plan pv x :: L) R) : ∃ a : Option Addr, pv = .pointer a ∧ a.isNone = x.isNone := by
  cases x with
  | none => obtain ⟨e, _⟩ := objO_none h; exact ⟨none, e, rfl⟩
  | some y =>
    obtain ⟨b, v0, v2, v9, h1, _⟩ := at_config_Plan_open (objO_get h)
    exact ⟨_, h1.1, rfl⟩

def at_net_Net (pv : Value) (x : net_Net) : SP := exS fun b : Nat => exS fun v0 : Value => exS fun v1 : Value => andS (fun I => pv = .pointer (some ⟨b, 0, none⟩)) (fun _ _ hI h => h) (star (cells b [v0, v1]) (star (objO at_config_Plan v0 x.p) (mapO (tySl (tyInt .u8)) kv_net_Link v1 x.m)))
theorem at_net_Net_open {w0 w : World} {I : HL} {L : List SP} {R : SP} {pv : Value} {x : net_Net} (h : St w0 w I (at_net_Net pv x :: L) R) : ∃ (b : Nat) (v0 : Value) (v1 : Value), (pv = .pointer (some ⟨b, 0, none⟩)) ∧ St w0 w I (cells b [v0, v1] :: objO at_config_Plan v0 x.p :: mapO (tySl (tyInt .u8)) kv_net_Link v1 x.m :: L) R := by
  obtain ⟨b, h⟩ := h.ex
  obtain ⟨v0, h⟩ := h.ex
  obtain ⟨v1, h⟩ := h.ex
  obtain ⟨h1, h⟩ := h.and
  replace h := h.merge.pull1
  replace h := h.merge.pull1
  replace h := h.pull1
  replace h := h.pull2
  exact ⟨b, v0, v1, h1, h⟩
theorem at_net_Net_close {w0 w : World} {I : HL} {L : List SP} {R : SP} {pv : Value} {x : net_Net} {b : Nat} {v0 : Value} {v1 : Value} (h : St w0 w I (cells b [v0, v1] :: objO at_config_Plan v0 x.p :: mapO (tySl (tyInt .u8)) kv_net_Link v1 x.m :: L) R) (h1 : pv = .pointer (some ⟨b, 0, none⟩)) : St w0 w I (at_net_Net pv x :: L) R := by
  replace h := h.pull1
  replace h := h.pull2
  replace h := h.pull1.join
  replace h := h.pull1.join
  exact St.toEx b (St.toEx v0 (St.toEx v1 (h.toAnd h1)))
theorem at_net_Net_isnil {w0 w : World} {I : HL} {L : List SP} {R : SP} {pv : Value} {x : Option net_Net} (h : St w0 w I (objO at_net_Net pv x :: L) R) : ∃ a : Option Addr, pv = .pointer a ∧ a.isNone = x.isNone := by
  cases x with
  | none => obtain ⟨e, _⟩ := objO_none h; exact ⟨none, e, rfl⟩
  | some y =>
    obtain ⟨b, v0, v1, h1, _⟩ := at_net_Net_open (objO_get h)
    exact ⟨_, h1, rfl⟩

theorem elem_40 : Elem Try.prog (tyInt .u64) 40 66 Try.t66 (.int .u64 0) := ⟨Try.underlying40, by kernel_rfl, rfl, rfl, rfl, by decide⟩

theorem elem_69 : Elem Try.prog (tyInt .i64) 69 3 Try.t3 (.int .i64 0) := ⟨Try.underlying69, by kernel_rfl, rfl, rfl, rfl, by decide⟩

theorem elem_70 : Elem Try.prog (tySl (tyInt .i64)) 70 69 Try.t69 (.slice none 0 0) := ⟨Try.underlying70, by kernel_rfl, rfl, rfl, rfl, by decide⟩

theorem elem_24 : Elem Try.prog (tyInt .u8) 24 5 Try.t5 (.int .u8 0) := ⟨Try.underlying24, by kernel_rfl, rfl, rfl, rfl, by decide⟩

theorem key3_23 : Key3 Try.prog 23 := ⟨_, _, _, Try.underlying23, by kernel_rfl, by kernel_rfl, by kernel_rfl, by kernel_rfl, Try.underlying3, Try.underlying3, Try.underlying3, fun _ _ _ _ => by kernel_rfl, fun _ _ _ _ => by kernel_rfl, fun _ _ _ _ => by kernel_rfl⟩

theorem elem_49 : Elem Try.prog (tySl (tyInt .u8)) 49 24 Try.t24 (.slice none 0 0) := ⟨Try.underlying49, by kernel_rfl, rfl, rfl, rfl, by decide⟩
end Go.Proofs.Ytbdbeenkamcglaa
