/- How the data lie in memory. -/
import Derived.Test.YtgnkkopjkgdieaaGreatLaneReadsM
import Derived.Test.YtgnkkopjkgdieaaGreatProg
import Derived.Test.YtgnkkopjkgdieaaGreatLaneReadsGv
set_option linter.unusedVariables false
set_option linter.unusedSimpArgs false
set_option maxRecDepth 100000
set_option maxHeartbeats 4000000
namespace Go.Proofs.YtgnkkopjkgdieaaGreat
open Go Go.V
theorem Tryz.mixed : Tryz.prog.follows .mixedOrders = true := by kernel_rfl
def ty_mvcc_Version : Ty mvcc_Version where
  sz := 4
  rep := fun ρ x cs => ∃ v3 : Value, cs = [.int .u64 x.Epoch, .int .u64 x.Index, .bool x.Del, v3] ∧ Sl (tyInt .u8) ρ v3 x.Val ∧ (v3.oneCell' = true)
  len := by rintro ρ x cs ⟨v3, rfl, h⟩; rfl
  mono := by rintro ρ ρ' x cs f ⟨v3, rfl, h3, h⟩; exact ⟨v3, rfl, h3.mono f, h⟩
  one := by rintro ρ x cs ⟨v3, rfl, h3, o3⟩; exact (ones_cons rfl (ones_cons rfl (ones_cons rfl (ones_cons o3 ones_nil))))

def ty_mvcc_row : Ty mvcc_row where
  sz := 2
  rep := fun ρ x cs => ∃ v1 : Value, cs = [.int .u64 x.rank, v1] ∧ Sl ty_mvcc_Version ρ v1 x.l ∧ (v1.oneCell' = true)
  len := by rintro ρ x cs ⟨v1, rfl, h⟩; rfl
  mono := by rintro ρ ρ' x cs f ⟨v1, rfl, h1, h⟩; exact ⟨v1, rfl, h1.mono f, h⟩
  one := by rintro ρ x cs ⟨v1, rfl, h1, o1⟩; exact (ones_cons rfl (ones_cons o1 ones_nil))

def nest_mvcc_row : Nest mvcc_row where
  β := mvcc_Version
  E := ty_mvcc_Version
  f := fun x => x.l
  mc := fun x u => [.int .u64 x.rank, u]
  sz := 2
  fo := 1
  upd := fun x ys => { x with l := ys }
  hfo := by decide
  len := fun _ _ => rfl
  one := fun x u h => (ones_cons rfl (ones_cons h ones_nil))
  hset := fun _ _ _ => rfl
  fu := fun _ _ => rfl
  mu := fun _ _ _ => rfl
  uu := fun _ => rfl
theorem nestrep_mvcc_row (ρ : Rho) (x : mvcc_row) (u : Value) (h : Sl ty_mvcc_Version ρ u x.l) (o : u.oneCell' = true) : ty_mvcc_row.rep ρ x (nest_mvcc_row.mc x u) := ⟨u, rfl, h, o⟩

def ty_api_Hold : Ty api_Hold where
  sz := 7
  rep := fun ρ x cs => ∃ v3 v4 v5 v6 : Value, cs = [.int .u64 x.ID.Session, .int .u64 x.ID.Seq, .int .u64 x.Epoch, v3, v4, v5, v6] ∧ Sl tyF64 ρ v3 x.Gets ∧ Sl tyF2 ρ v4 x.Scans ∧ Sl tyF64 ρ v5 x.Puts ∧ Sl (tyInt .u8) ρ v6 x.Data ∧ (v3.oneCell' = true ∧ v4.oneCell' = true ∧ v5.oneCell' = true ∧ v6.oneCell' = true)
  len := by rintro ρ x cs ⟨v3, v4, v5, v6, rfl, h⟩; rfl
  mono := by rintro ρ ρ' x cs f ⟨v3, v4, v5, v6, rfl, h3, h4, h5, h6, h⟩; exact ⟨v3, v4, v5, v6, rfl, h3.mono f, h4.mono f, h5.mono f, h6.mono f, h⟩
  one := by rintro ρ x cs ⟨v3, v4, v5, v6, rfl, h3, h4, h5, h6, o3, o4, o5, o6⟩; exact (ones_cons rfl (ones_cons rfl (ones_cons rfl (ones_cons o3 (ones_cons o4 (ones_cons o5 (ones_cons o6 ones_nil)))))))

def ty_api_Got : Ty api_Got where
  sz := 2
  rep := fun ρ x cs => ∃ v1 : Value, cs = [.bool x.Has, v1] ∧ Sl (tyInt .u8) ρ v1 x.Val ∧ (v1.oneCell' = true)
  len := by rintro ρ x cs ⟨v1, rfl, h⟩; rfl
  mono := by rintro ρ ρ' x cs f ⟨v1, rfl, h1, h⟩; exact ⟨v1, rfl, h1.mono f, h⟩
  one := by rintro ρ x cs ⟨v1, rfl, h1, o1⟩; exact (ones_cons rfl (ones_cons o1 ones_nil))

def ty_api_Pair : Ty api_Pair where
  sz := 2
  rep := fun ρ x cs => ∃ v1 : Value, cs = [.float .f64 x.At, v1] ∧ Sl (tyInt .u8) ρ v1 x.Val ∧ (v1.oneCell' = true)
  len := by rintro ρ x cs ⟨v1, rfl, h⟩; rfl
  mono := by rintro ρ ρ' x cs f ⟨v1, rfl, h1, h⟩; exact ⟨v1, rfl, h1.mono f, h⟩
  one := by rintro ρ x cs ⟨v1, rfl, h1, o1⟩; exact (ones_cons rfl (ones_cons o1 ones_nil))

def ty_session_row : Ty session_row where
  sz := 7
  rep := fun ρ x cs => ∃ v5 v6 : Value, cs = [.int .u64 x.session, .int .u64 x.seq, .int .i64 x.r.E, .int .u64 x.r.Epoch, .int .u64 x.r.Index, v5, v6] ∧ Sl ty_api_Got ρ v5 x.r.Gots ∧ Sl (tySl ty_api_Pair) ρ v6 x.r.Scans ∧ (v5.oneCell' = true ∧ v6.oneCell' = true)
  len := by rintro ρ x cs ⟨v5, v6, rfl, h⟩; rfl
  mono := by rintro ρ ρ' x cs f ⟨v5, v6, rfl, h5, h6, h⟩; exact ⟨v5, v6, rfl, h5.mono f, h6.mono f, h⟩
  one := by rintro ρ x cs ⟨v5, v6, rfl, h5, h6, o5, o6⟩; exact (ones_cons rfl (ones_cons rfl (ones_cons rfl (ones_cons rfl (ones_cons rfl (ones_cons o5 (ones_cons o6 ones_nil)))))))

def ty_policy_line : Ty policy_line where
  sz := 9
  rep := fun _ x cs => cs = [.int .u64 x.r.ID, .int .i64 x.r.From, .int .i64 x.r.To, .float .f64 x.r.Lo, .float .f64 x.r.Hi, .int .u64 x.r.Authority, .int .i64 x.r.Quota, .int .u64 x.from_, .int .u64 x.to_]
  len := by intro ρ x cs h; subst h; rfl
  mono := fun _ h => h
  one := by intro ρ x cs h; subst h; exact ones_of rfl
theorem flat_policy_line : ty_policy_line.Flat := fun h => h

def ty_api_Write : Ty api_Write where
  sz := 3
  rep := fun ρ x cs => ∃ v2 : Value, cs = [.float .f64 x.At, .bool x.Del, v2] ∧ Sl (tyInt .u8) ρ v2 x.Val ∧ (v2.oneCell' = true)
  len := by rintro ρ x cs ⟨v2, rfl, h⟩; rfl
  mono := by rintro ρ ρ' x cs f ⟨v2, rfl, h2, h⟩; exact ⟨v2, rfl, h2.mono f, h⟩
  one := by rintro ρ x cs ⟨v2, rfl, h2, o2⟩; exact (ones_cons rfl (ones_cons rfl (ones_cons o2 ones_nil)))

def ty_api_Part : Ty api_Part where
  sz := 2
  rep := fun ρ x cs => ∃ v1 : Value, cs = [.int .i64 x.Shard, v1] ∧ Sl ty_api_Write ρ v1 x.Writes ∧ (v1.oneCell' = true)
  len := by rintro ρ x cs ⟨v1, rfl, h⟩; rfl
  mono := by rintro ρ ρ' x cs f ⟨v1, rfl, h1, h⟩; exact ⟨v1, rfl, h1.mono f, h⟩
  one := by rintro ρ x cs ⟨v1, rfl, h1, o1⟩; exact (ones_cons rfl (ones_cons o1 ones_nil))

def ty_api_Decision : Ty api_Decision where
  sz := 7
  rep := fun ρ x cs => ∃ v6 : Value, cs = [.int .u64 x.ID.Session, .int .u64 x.ID.Seq, .int .i64 x.E, .int .u64 x.Epoch, .int .u64 x.Index, .int .u64 x.Shards, v6] ∧ Sl ty_api_Part ρ v6 x.Parts ∧ (v6.oneCell' = true)
  len := by rintro ρ x cs ⟨v6, rfl, h⟩; rfl
  mono := by rintro ρ ρ' x cs f ⟨v6, rfl, h6, h⟩; exact ⟨v6, rfl, h6.mono f, h⟩
  one := by rintro ρ x cs ⟨v6, rfl, h6, o6⟩; exact (ones_cons rfl (ones_cons rfl (ones_cons rfl (ones_cons rfl (ones_cons rfl (ones_cons rfl (ones_cons o6 ones_nil)))))))

def ty_api_Item : Ty api_Item where
  sz := 7
  rep := fun ρ x cs => ∃ v6 : Value, cs = [.int .i64 x.To, .int .u64 x.N, .int .u64 x.Rule, .int .u64 x.Epoch, .float .f64 x.W.At, .bool x.W.Del, v6] ∧ Sl (tyInt .u8) ρ v6 x.W.Val ∧ (v6.oneCell' = true)
  len := by rintro ρ x cs ⟨v6, rfl, h⟩; rfl
  mono := by rintro ρ ρ' x cs f ⟨v6, rfl, h6, h⟩; exact ⟨v6, rfl, h6.mono f, h⟩
  one := by rintro ρ x cs ⟨v6, rfl, h6, o6⟩; exact (ones_cons rfl (ones_cons rfl (ones_cons rfl (ones_cons rfl (ones_cons rfl (ones_cons rfl (ones_cons o6 ones_nil)))))))

def ty_lane_used : Ty lane_used where
  sz := 3
  rep := fun _ x cs => cs = [.int .u64 x.rule, .int .u64 x.epoch, .int .i64 x.n]
  len := by intro ρ x cs h; subst h; rfl
  mono := fun _ h => h
  one := by intro ρ x cs h; subst h; exact ones_of rfl
theorem flat_lane_used : ty_lane_used.Flat := fun h => h

def ty_ref11_Version : Ty ref11_Version where
  sz := 5
  rep := fun ρ x cs => ∃ v4 : Value, cs = [.float .f64 x.At, .int .u64 x.Epoch, .int .u64 x.Index, .bool x.Del, v4] ∧ Sl (tyInt .u8) ρ v4 x.Val ∧ (v4.oneCell' = true)
  len := by rintro ρ x cs ⟨v4, rfl, h⟩; rfl
  mono := by rintro ρ ρ' x cs f ⟨v4, rfl, h4, h⟩; exact ⟨v4, rfl, h4.mono f, h⟩
  one := by rintro ρ x cs ⟨v4, rfl, h4, o4⟩; exact (ones_cons rfl (ones_cons rfl (ones_cons rfl (ones_cons rfl (ones_cons o4 ones_nil)))))

def ty_ref11_Answer : Ty ref11_Answer where
  sz := 7
  rep := fun ρ x cs => ∃ v5 v6 : Value, cs = [.int .u64 x.Session, .int .u64 x.Seq, .int .i64 x.R.E, .int .u64 x.R.Epoch, .int .u64 x.R.Index, v5, v6] ∧ Sl ty_api_Got ρ v5 x.R.Gots ∧ Sl (tySl ty_api_Pair) ρ v6 x.R.Scans ∧ (v5.oneCell' = true ∧ v6.oneCell' = true)
  len := by rintro ρ x cs ⟨v5, v6, rfl, h⟩; rfl
  mono := by rintro ρ ρ' x cs f ⟨v5, v6, rfl, h5, h6, h⟩; exact ⟨v5, v6, rfl, h5.mono f, h6.mono f, h⟩
  one := by rintro ρ x cs ⟨v5, v6, rfl, h5, h6, o5, o6⟩; exact (ones_cons rfl (ones_cons rfl (ones_cons rfl (ones_cons rfl (ones_cons rfl (ones_cons o5 (ones_cons o6 ones_nil)))))))

def ty_ref11_Line : Ty ref11_Line where
  sz := 9
  rep := fun _ x cs => cs = [.int .u64 x.R.ID, .int .i64 x.R.From, .int .i64 x.R.To, .float .f64 x.R.Lo, .float .f64 x.R.Hi, .int .u64 x.R.Authority, .int .i64 x.R.Quota, .int .u64 x.From, .int .u64 x.To]
  len := by intro ρ x cs h; subst h; rfl
  mono := fun _ h => h
  one := by intro ρ x cs h; subst h; exact ones_of rfl
theorem flat_ref11_Line : ty_ref11_Line.Flat := fun h => h

def ty_ref16_Used : Ty ref16_Used where
  sz := 3
  rep := fun _ x cs => cs = [.int .u64 x.Rule, .int .u64 x.Epoch, .int .i64 x.N]
  len := by intro ρ x cs h; subst h; rfl
  mono := fun _ h => h
  one := by intro ρ x cs h; subst h; exact ones_of rfl
theorem flat_ref16_Used : ty_ref16_Used.Flat := fun h => h

def at_mvcc_Store (pv : Value) (x : mvcc_Store) : SP := exS fun b : Nat => exS fun v0 : Value => andS (fun I => pv = .pointer (some ⟨b, 0, none⟩)) (fun _ _ hI h => h) (star (cells b [v0]) (ownN nest_mvcc_row v0 x.rows))
theorem at_mvcc_Store_open {w0 w : World} {I : HL} {L : List SP} {R : SP} {pv : Value} {x : mvcc_Store} (h : St w0 w I (at_mvcc_Store pv x :: L) R) : ∃ (b : Nat) (v0 : Value), (pv = .pointer (some ⟨b, 0, none⟩)) ∧ St w0 w I (cells b [v0] :: ownN nest_mvcc_row v0 x.rows :: L) R := by
  obtain ⟨b, h⟩ := h.ex
  obtain ⟨v0, h⟩ := h.ex
  obtain ⟨h1, h⟩ := h.and
  replace h := h.merge.pull1
  replace h := h.pull1
  exact ⟨b, v0, h1, h⟩
theorem at_mvcc_Store_close {w0 w : World} {I : HL} {L : List SP} {R : SP} {pv : Value} {x : mvcc_Store} {b : Nat} {v0 : Value} (h : St w0 w I (cells b [v0] :: ownN nest_mvcc_row v0 x.rows :: L) R) (h1 : pv = .pointer (some ⟨b, 0, none⟩)) : St w0 w I (at_mvcc_Store pv x :: L) R := by
  replace h := h.pull1
  replace h := h.pull1.join
  exact St.toEx b (St.toEx v0 (h.toAnd h1))
theorem at_mvcc_Store_isnil {w0 w : World} {I : HL} {L : List SP} {R : SP} {pv : Value} {x : Option mvcc_Store} (h : St w0 w I (objO at_mvcc_Store pv x :: L) R) : ∃ a : Option Addr, pv = .pointer a ∧ a.isNone = x.isNone := by
  cases x with
  | none => obtain ⟨e, _⟩ := objO_none h; exact ⟨none, e, rfl⟩
  | some y =>
    obtain ⟨b, v0, h1, _⟩ := at_mvcc_Store_open (objO_get h)
    exact ⟨_, h1, rfl⟩

def at_locks_Table (pv : Value) (x : locks_Table) : SP := exS fun b : Nat => exS fun v0 : Value => andS (fun I => pv = .pointer (some ⟨b, 0, none⟩)) (fun _ _ hI h => h) (star (cells b [v0]) (ownS ty_api_Hold v0 x.l))
theorem at_locks_Table_open {w0 w : World} {I : HL} {L : List SP} {R : SP} {pv : Value} {x : locks_Table} (h : St w0 w I (at_locks_Table pv x :: L) R) : ∃ (b : Nat) (v0 : Value), (pv = .pointer (some ⟨b, 0, none⟩)) ∧ St w0 w I (cells b [v0] :: ownS ty_api_Hold v0 x.l :: L) R := by
  obtain ⟨b, h⟩ := h.ex
  obtain ⟨v0, h⟩ := h.ex
  obtain ⟨h1, h⟩ := h.and
  replace h := h.merge.pull1
  replace h := h.pull1
  exact ⟨b, v0, h1, h⟩
theorem at_locks_Table_close {w0 w : World} {I : HL} {L : List SP} {R : SP} {pv : Value} {x : locks_Table} {b : Nat} {v0 : Value} (h : St w0 w I (cells b [v0] :: ownS ty_api_Hold v0 x.l :: L) R) (h1 : pv = .pointer (some ⟨b, 0, none⟩)) : St w0 w I (at_locks_Table pv x :: L) R := by
  replace h := h.pull1
  replace h := h.pull1.join
  exact St.toEx b (St.toEx v0 (h.toAnd h1))
theorem at_locks_Table_isnil {w0 w : World} {I : HL} {L : List SP} {R : SP} {pv : Value} {x : Option locks_Table} (h : St w0 w I (objO at_locks_Table pv x :: L) R) : ∃ a : Option Addr, pv = .pointer a ∧ a.isNone = x.isNone := by
  cases x with
  | none => obtain ⟨e, _⟩ := objO_none h; exact ⟨none, e, rfl⟩
  | some y =>
    obtain ⟨b, v0, h1, _⟩ := at_locks_Table_open (objO_get h)
    exact ⟨_, h1, rfl⟩

def at_session_Table (pv : Value) (x : session_Table) : SP := exS fun b : Nat => exS fun v0 : Value => andS (fun I => pv = .pointer (some ⟨b, 0, none⟩)) (fun _ _ hI h => h) (star (cells b [v0]) (ownS ty_session_row v0 x.l))
theorem at_session_Table_open {w0 w : World} {I : HL} {L : List SP} {R : SP} {pv : Value} {x : session_Table} (h : St w0 w I (at_session_Table pv x :: L) R) : ∃ (b : Nat) (v0 : Value), (pv = .pointer (some ⟨b, 0, none⟩)) ∧ St w0 w I (cells b [v0] :: ownS ty_session_row v0 x.l :: L) R := by
  obtain ⟨b, h⟩ := h.ex
  obtain ⟨v0, h⟩ := h.ex
  obtain ⟨h1, h⟩ := h.and
  replace h := h.merge.pull1
  replace h := h.pull1
  exact ⟨b, v0, h1, h⟩
theorem at_session_Table_close {w0 w : World} {I : HL} {L : List SP} {R : SP} {pv : Value} {x : session_Table} {b : Nat} {v0 : Value} (h : St w0 w I (cells b [v0] :: ownS ty_session_row v0 x.l :: L) R) (h1 : pv = .pointer (some ⟨b, 0, none⟩)) : St w0 w I (at_session_Table pv x :: L) R := by
  replace h := h.pull1
  replace h := h.pull1.join
  exact St.toEx b (St.toEx v0 (h.toAnd h1))
theorem at_session_Table_isnil {w0 w : World} {I : HL} {L : List SP} {R : SP} {pv : Value} {x : Option session_Table} (h : St w0 w I (objO at_session_Table pv x :: L) R) : ∃ a : Option Addr, pv = .pointer a ∧ a.isNone = x.isNone := by
  cases x with
  | none => obtain ⟨e, _⟩ := objO_none h; exact ⟨none, e, rfl⟩
  | some y =>
    obtain ⟨b, v0, h1, _⟩ := at_session_Table_open (objO_get h)
    exact ⟨_, h1, rfl⟩

def at_policy_Book (pv : Value) (x : policy_Book) : SP := exS fun b : Nat => exS fun v0 : Value => andS (fun I => pv = .pointer (some ⟨b, 0, none⟩)) (fun _ _ hI h => h) (star (cells b [v0]) (ownS ty_policy_line v0 x.l))
theorem at_policy_Book_open {w0 w : World} {I : HL} {L : List SP} {R : SP} {pv : Value} {x : policy_Book} (h : St w0 w I (at_policy_Book pv x :: L) R) : ∃ (b : Nat) (v0 : Value), (pv = .pointer (some ⟨b, 0, none⟩)) ∧ St w0 w I (cells b [v0] :: ownS ty_policy_line v0 x.l :: L) R := by
  obtain ⟨b, h⟩ := h.ex
  obtain ⟨v0, h⟩ := h.ex
  obtain ⟨h1, h⟩ := h.and
  replace h := h.merge.pull1
  replace h := h.pull1
  exact ⟨b, v0, h1, h⟩
theorem at_policy_Book_close {w0 w : World} {I : HL} {L : List SP} {R : SP} {pv : Value} {x : policy_Book} {b : Nat} {v0 : Value} (h : St w0 w I (cells b [v0] :: ownS ty_policy_line v0 x.l :: L) R) (h1 : pv = .pointer (some ⟨b, 0, none⟩)) : St w0 w I (at_policy_Book pv x :: L) R := by
  replace h := h.pull1
  replace h := h.pull1.join
  exact St.toEx b (St.toEx v0 (h.toAnd h1))
theorem at_policy_Book_isnil {w0 w : World} {I : HL} {L : List SP} {R : SP} {pv : Value} {x : Option policy_Book} (h : St w0 w I (objO at_policy_Book pv x :: L) R) : ∃ a : Option Addr, pv = .pointer a ∧ a.isNone = x.isNone := by
  cases x with
  | none => obtain ⟨e, _⟩ := objO_none h; exact ⟨none, e, rfl⟩
  | some y =>
    obtain ⟨b, v0, h1, _⟩ := at_policy_Book_open (objO_get h)
    exact ⟨_, h1, rfl⟩

def at_lane_State (pv : Value) (x : lane_State) : SP := exS fun b : Nat => exS fun v2 : Value => exS fun v3 : Value => exS fun v4 : Value => exS fun v5 : Value => exS fun v6 : Value => exS fun v7 : Value => exS fun v8 : Value => andS (fun I => pv = .pointer (some ⟨b, 0, none⟩)) (fun _ _ hI h => h) (star (cells b [.int .i64 x.wide, .int .u64 x.epoch, v2, v3, v4, v5, v6, v7, v8]) (star (objO at_mvcc_Store v2 x.store) ( star (objO at_locks_Table v3 x.locks) ( star (objO at_session_Table v4 x.last) ( star (objO at_policy_Book v5 x.book) ( star (ownS ty_api_Decision v6 x.open_) ( star (ownS ty_api_Item v7 x.out) (ownS ty_lane_used v8 x.used))))))))
theorem at_lane_State_open {w0 w : World} {I : HL} {L : List SP} {R : SP} {pv : Value} {x : lane_State} (h : St w0 w I (at_lane_State pv x :: L) R) : ∃ (b : Nat) (v2 : Value) (v3 : Value) (v4 : Value) (v5 : Value) (v6 : Value) (v7 : Value) (v8 : Value), (pv = .pointer (some ⟨b, 0, none⟩)) ∧ St w0 w I (cells b [.int .i64 x.wide, .int .u64 x.epoch, v2, v3, v4, v5, v6, v7, v8] :: objO at_mvcc_Store v2 x.store :: objO at_locks_Table v3 x.locks :: objO at_session_Table v4 x.last :: objO at_policy_Book v5 x.book :: ownS ty_api_Decision v6 x.open_ :: ownS ty_api_Item v7 x.out :: ownS ty_lane_used v8 x.used :: L) R := by
  obtain ⟨b, h⟩ := h.ex
  obtain ⟨v2, h⟩ := h.ex
  obtain ⟨v3, h⟩ := h.ex
  obtain ⟨v4, h⟩ := h.ex
  obtain ⟨v5, h⟩ := h.ex
  obtain ⟨v6, h⟩ := h.ex
  obtain ⟨v7, h⟩ := h.ex
  obtain ⟨v8, h⟩ := h.ex
  obtain ⟨h1, h⟩ := h.and
  replace h := h.merge.pull1
  replace h := h.merge.pull1
  replace h := h.merge.pull1
  replace h := h.merge.pull1
  replace h := h.merge.pull1
  replace h := h.merge.pull1
  replace h := h.merge.pull1
  replace h := h.pull1
  replace h := h.pull2
  replace h := h.pull3
  replace h := h.pull4
  replace h := h.pull5
  replace h := h.pull6
  replace h := h.pull7
  exact ⟨b, v2, v3, v4, v5, v6, v7, v8, h1, h⟩
theorem at_lane_State_close {w0 w : World} {I : HL} {L : List SP} {R : SP} {pv : Value} {x : lane_State} {b : Nat} {v2 : Value} {v3 : Value} {v4 : Value} {v5 : Value} {v6 : Value} {v7 : Value} {v8 : Value} (h : St w0 w I (cells b [.int .i64 x.wide, .int .u64 x.epoch, v2, v3, v4, v5, v6, v7, v8] :: objO at_mvcc_Store v2 x.store :: objO at_locks_Table v3 x.locks :: objO at_session_Table v4 x.last :: objO at_policy_Book v5 x.book :: ownS ty_api_Decision v6 x.open_ :: ownS ty_api_Item v7 x.out :: ownS ty_lane_used v8 x.used :: L) R) (h1 : pv = .pointer (some ⟨b, 0, none⟩)) : St w0 w I (at_lane_State pv x :: L) R := by
  replace h := h.pull1
  replace h := h.pull2
  replace h := h.pull3
  replace h := h.pull4
  replace h := h.pull5
  replace h := h.pull6
  replace h := h.pull7
  replace h := h.pull1.join
  replace h := h.pull1.join
  replace h := h.pull1.join
  replace h := h.pull1.join
  replace h := h.pull1.join
  replace h := h.pull1.join
  replace h := h.pull1.join
  exact St.toEx b (St.toEx v2 (St.toEx v3 (St.toEx v4 (St.toEx v5 (St.toEx v6 (St.toEx v7 (St.toEx v8 (h.toAnd h1))))))))
theorem at_lane_State_isnil {w0 w : World} {I : HL} {L : List SP} {R : SP} {pv : Value} {x : Option lane_State} (h : St w0 w I (objO at_lane_State pv x :: L) R) : ∃ a : Option Addr, pv = .pointer a ∧ a.isNone = x.isNone := by
  cases x with
  | none => obtain ⟨e, _⟩ := objO_none h; exact ⟨none, e, rfl⟩
  | some y =>
    obtain ⟨b, v2, v3, v4, v5, v6, v7, v8, h1, _⟩ := at_lane_State_open (objO_get h)
    exact ⟨_, h1, rfl⟩

def at_ref16_State (pv : Value) (x : ref16_State) : SP := exS fun b : Nat => exS fun v2 : Value => exS fun v3 : Value => exS fun v4 : Value => exS fun v5 : Value => exS fun v6 : Value => exS fun v7 : Value => exS fun v8 : Value => andS (fun I => pv = .pointer (some ⟨b, 0, none⟩) ∧ Ro ty_ref11_Version I v2 x.V ∧ Ro ty_api_Hold I v3 x.H ∧ Ro ty_ref11_Answer I v4 x.A ∧ Ro ty_ref11_Line I v5 x.B) (fun _ _ hI h => ⟨h.1, h.2.1.mono (ro_le hI), h.2.2.1.mono (ro_le hI), h.2.2.2.1.mono (ro_le hI), h.2.2.2.2.mono (ro_le hI)⟩) (star (cells b [.int .i64 x.Wide, .int .u64 x.Epoch, v2, v3, v4, v5, v6, v7, v8]) (star (ownS ty_api_Decision v6 x.Open) ( star (ownS ty_api_Item v7 x.Out) (ownS ty_ref16_Used v8 x.Used))))
theorem at_ref16_State_open {w0 w : World} {I : HL} {L : List SP} {R : SP} {pv : Value} {x : ref16_State} (h : St w0 w I (at_ref16_State pv x :: L) R) : ∃ (b : Nat) (v2 : Value) (v3 : Value) (v4 : Value) (v5 : Value) (v6 : Value) (v7 : Value) (v8 : Value), (pv = .pointer (some ⟨b, 0, none⟩) ∧ Ro ty_ref11_Version I v2 x.V ∧ Ro ty_api_Hold I v3 x.H ∧ Ro ty_ref11_Answer I v4 x.A ∧ Ro ty_ref11_Line I v5 x.B) ∧ St w0 w I (cells b [.int .i64 x.Wide, .int .u64 x.Epoch, v2, v3, v4, v5, v6, v7, v8] :: ownS ty_api_Decision v6 x.Open :: ownS ty_api_Item v7 x.Out :: ownS ty_ref16_Used v8 x.Used :: L) R := by
  obtain ⟨b, h⟩ := h.ex
  obtain ⟨v2, h⟩ := h.ex
  obtain ⟨v3, h⟩ := h.ex
  obtain ⟨v4, h⟩ := h.ex
  obtain ⟨v5, h⟩ := h.ex
  obtain ⟨v6, h⟩ := h.ex
  obtain ⟨v7, h⟩ := h.ex
  obtain ⟨v8, h⟩ := h.ex
  obtain ⟨h1, h⟩ := h.and
  replace h := h.merge.pull1
  replace h := h.merge.pull1
  replace h := h.merge.pull1
  replace h := h.pull1
  replace h := h.pull2
  replace h := h.pull3
  exact ⟨b, v2, v3, v4, v5, v6, v7, v8, h1, h⟩
theorem at_ref16_State_close {w0 w : World} {I : HL} {L : List SP} {R : SP} {pv : Value} {x : ref16_State} {b : Nat} {v2 : Value} {v3 : Value} {v4 : Value} {v5 : Value} {v6 : Value} {v7 : Value} {v8 : Value} (h : St w0 w I (cells b [.int .i64 x.Wide, .int .u64 x.Epoch, v2, v3, v4, v5, v6, v7, v8] :: ownS ty_api_Decision v6 x.Open :: ownS ty_api_Item v7 x.Out :: ownS ty_ref16_Used v8 x.Used :: L) R) (h1 : pv = .pointer (some ⟨b, 0, none⟩) ∧ Ro ty_ref11_Version I v2 x.V ∧ Ro ty_api_Hold I v3 x.H ∧ Ro ty_ref11_Answer I v4 x.A ∧ Ro ty_ref11_Line I v5 x.B) : St w0 w I (at_ref16_State pv x :: L) R := by
  replace h := h.pull1
  replace h := h.pull2
  replace h := h.pull3
  replace h := h.pull1.join
  replace h := h.pull1.join
  replace h := h.pull1.join
  exact St.toEx b (St.toEx v2 (St.toEx v3 (St.toEx v4 (St.toEx v5 (St.toEx v6 (St.toEx v7 (St.toEx v8 (h.toAnd h1))))))))
theorem at_ref16_State_isnil {w0 w : World} {I : HL} {L : List SP} {R : SP} {pv : Value} {x : Option ref16_State} (h : St w0 w I (objO at_ref16_State pv x :: L) R) : ∃ a : Option Addr, pv = .pointer a ∧ a.isNone = x.isNone := by
  cases x with
  | none => obtain ⟨e, _⟩ := objO_none h; exact ⟨none, e, rfl⟩
  | some y =>
    obtain ⟨b, v2, v3, v4, v5, v6, v7, v8, h1, _⟩ := at_ref16_State_open (objO_get h)
    exact ⟨_, h1.1, rfl⟩

def at_ref12_Tape (pv : Value) (x : ref12_Tape) : SP := exS fun b : Nat => exS fun v0 : Value => andS (fun I => pv = .pointer (some ⟨b, 0, none⟩) ∧ Ro (tyInt .u8) I v0 x.L) (fun _ _ hI h => ⟨h.1, h.2.mono (ro_le hI)⟩) (cells b [v0, .int .i64 x.I])
theorem at_ref12_Tape_open {w0 w : World} {I : HL} {L : List SP} {R : SP} {pv : Value} {x : ref12_Tape} (h : St w0 w I (at_ref12_Tape pv x :: L) R) : ∃ (b : Nat) (v0 : Value), (pv = .pointer (some ⟨b, 0, none⟩) ∧ Ro (tyInt .u8) I v0 x.L) ∧ St w0 w I (cells b [v0, .int .i64 x.I] :: L) R := by
  obtain ⟨b, h⟩ := h.ex
  obtain ⟨v0, h⟩ := h.ex
  obtain ⟨h1, h⟩ := h.and
  exact ⟨b, v0, h1, h⟩
theorem at_ref12_Tape_close {w0 w : World} {I : HL} {L : List SP} {R : SP} {pv : Value} {x : ref12_Tape} {b : Nat} {v0 : Value} (h : St w0 w I (cells b [v0, .int .i64 x.I] :: L) R) (h1 : pv = .pointer (some ⟨b, 0, none⟩) ∧ Ro (tyInt .u8) I v0 x.L) : St w0 w I (at_ref12_Tape pv x :: L) R := by
  exact St.toEx b (St.toEx v0 (h.toAnd h1))
theorem at_ref12_Tape_isnil {w0 w : World} {I : HL} {L : List SP} {R : SP} {pv : Value} {x : Option ref12_Tape} (h : St w0 w I (objO at_ref12_Tape pv x :: L) R) : ∃ a : Option Addr, pv = .pointer a ∧ a.isNone = x.isNone := by
  cases x with
  | none => obtain ⟨e, _⟩ := objO_none h; exact ⟨none, e, rfl⟩
  | some y =>
    obtain ⟨b, v0, h1, _⟩ := at_ref12_Tape_open (objO_get h)
    exact ⟨_, h1.1, rfl⟩

def at_octet_Reader (pv : Value) (x : octet_Reader) : SP := exS fun b : Nat => exS fun v0 : Value => andS (fun I => pv = .pointer (some ⟨b, 0, none⟩) ∧ Ro (tyInt .u8) I v0 x.p) (fun _ _ hI h => ⟨h.1, h.2.mono (ro_le hI)⟩) (cells b [v0, .bool x.bad])
theorem at_octet_Reader_open {w0 w : World} {I : HL} {L : List SP} {R : SP} {pv : Value} {x : octet_Reader} (h : St w0 w I (at_octet_Reader pv x :: L) R) : ∃ (b : Nat) (v0 : Value), (pv = .pointer (some ⟨b, 0, none⟩) ∧ Ro (tyInt .u8) I v0 x.p) ∧ St w0 w I (cells b [v0, .bool x.bad] :: L) R := by
  obtain ⟨b, h⟩ := h.ex
  obtain ⟨v0, h⟩ := h.ex
  obtain ⟨h1, h⟩ := h.and
  exact ⟨b, v0, h1, h⟩
theorem at_octet_Reader_close {w0 w : World} {I : HL} {L : List SP} {R : SP} {pv : Value} {x : octet_Reader} {b : Nat} {v0 : Value} (h : St w0 w I (cells b [v0, .bool x.bad] :: L) R) (h1 : pv = .pointer (some ⟨b, 0, none⟩) ∧ Ro (tyInt .u8) I v0 x.p) : St w0 w I (at_octet_Reader pv x :: L) R := by
  exact St.toEx b (St.toEx v0 (h.toAnd h1))
theorem at_octet_Reader_isnil {w0 w : World} {I : HL} {L : List SP} {R : SP} {pv : Value} {x : Option octet_Reader} (h : St w0 w I (objO at_octet_Reader pv x :: L) R) : ∃ a : Option Addr, pv = .pointer a ∧ a.isNone = x.isNone := by
  cases x with
  | none => obtain ⟨e, _⟩ := objO_none h; exact ⟨none, e, rfl⟩
  | some y =>
    obtain ⟨b, v0, h1, _⟩ := at_octet_Reader_open (objO_get h)
    exact ⟨_, h1.1, rfl⟩

theorem elem_238 : Elem Tryz.prog ty_mvcc_Version 238 214 Tryz.t214 (.agg #[.int .u64 0, .int .u64 0, .bool false, .slice none 0 0]) := ⟨Tryz.underlying238, by kernel_rfl, rfl, rfl, rfl, by decide⟩

theorem elemN_199 : Elem Tryz.prog (tyRaw 2) 199 240 Tryz.t240 (.agg #[.int .u64 0, .slice none 0 0]) := ⟨Tryz.underlying199, by kernel_rfl, rfl, rfl, rfl, by decide⟩

theorem elem_43 : Elem Tryz.prog tyF64 43 37 Tryz.t37 (.float .f64 0) := ⟨Tryz.underlying43, by kernel_rfl, rfl, rfl, rfl, by decide⟩

theorem elem_44 : Elem Tryz.prog tyF2 44 80 Tryz.t80 (.agg #[.float .f64 0, .float .f64 0]) := ⟨Tryz.underlying44, by kernel_rfl, rfl, rfl, rfl, by decide⟩

theorem elem_22 : Elem Tryz.prog (tyInt .u8) 22 5 Tryz.t5 (.int .u8 0) := ⟨Tryz.underlying22, by kernel_rfl, rfl, rfl, rfl, by decide⟩

theorem elem_125 : Elem Tryz.prog ty_api_Hold 125 46 Tryz.t46 (.agg #[.int .u64 0, .int .u64 0, .int .u64 0, .slice none 0 0, .slice none 0 0, .slice none 0 0, .slice none 0 0]) := ⟨Tryz.underlying125, by kernel_rfl, rfl, rfl, rfl, by decide⟩

theorem elem_30 : Elem Tryz.prog ty_api_Got 30 61 Tryz.t61 (.agg #[.bool false, .slice none 0 0]) := ⟨Tryz.underlying30, by kernel_rfl, rfl, rfl, rfl, by decide⟩

theorem elem_81 : Elem Tryz.prog ty_api_Pair 81 152 Tryz.t152 (.agg #[.float .f64 0, .slice none 0 0]) := ⟨Tryz.underlying81, by kernel_rfl, rfl, rfl, rfl, by decide⟩

theorem elem_31 : Elem Tryz.prog (tySl ty_api_Pair) 31 81 Tryz.t81 (.slice none 0 0) := ⟨Tryz.underlying31, by kernel_rfl, rfl, rfl, rfl, by decide⟩

theorem elem_42 : Elem Tryz.prog ty_api_Write 42 41 Tryz.t41 (.agg #[.float .f64 0, .bool false, .slice none 0 0]) := ⟨Tryz.underlying42, by kernel_rfl, rfl, rfl, rfl, by decide⟩

theorem elem_124 : Elem Tryz.prog ty_ref11_Version 124 139 Tryz.t139 (.agg #[.float .f64 0, .int .u64 0, .int .u64 0, .bool false, .slice none 0 0]) := ⟨Tryz.underlying124, by kernel_rfl, rfl, rfl, rfl, by decide⟩

theorem elem_127 : Elem Tryz.prog ty_ref11_Line 127 144 Tryz.t144 (.agg #[.int .u64 0, .int .i64 0, .int .i64 0, .float .f64 0, .float .f64 0, .int .u64 0, .int .i64 0, .int .u64 0, .int .u64 0]) := ⟨Tryz.underlying127, by kernel_rfl, rfl, rfl, rfl, by decide⟩
end Go.Proofs.YtgnkkopjkgdieaaGreat
