/-
  A pose is loaded and stored whole: the run of the two operations, for any world.
-/
import Derived.RangeFuncNested
import Derived.RangeFuncBound
import Derived.RangeFuncCalls
import Derived.RangeFuncLeaves
import Derived.Shelf.Abstract
import Derived.Shelf.RegionOpen
import Derived.WalkKit
import Derived.OwnWalkIn
import Derived.TacticsInMore
import Derived.LoopNIn
import Derived.LoopIn
import Derived.Test.YtggiamcgkiaicaaDoorVEe
import Derived.Test.YtggiamcgkiaicaaDoorProg
namespace Go.Proofs
set_option linter.unusedVariables false
set_option linter.unusedSimpArgs false
open Go.RowKit Go.Shelf

/-- A load of a pose, whole. -/
def ld31 (v : Value) : Sem Value := Instr.loadAt 31 v
def Row22 (w : World) (a : Addr) (vs : Array Value) : Prop := a.spot = none ∧ vs.size = 22 ∧ ∀ j v, vs[j]? = some v → w.cell? ⟨a.block, a.off + j, none⟩ = some v
open Classical in
noncomputable def row22 (w : World) (a : Addr) : Option (Array Value) := if h : ∃ vs, Row22 w a vs then some h.choose else none
theorem Row22.uniq {w : World} {a : Addr} {vs us : Array Value} (h : Row22 w a vs) (h' : Row22 w a us) : us = vs := by
  apply Array.ext
  · rw [h.2.1, h'.2.1]
  · intro j h1 h2
    have e1 := h.2.2 j vs[j] (by simp [h2])
    have e2 := h'.2.2 j us[j] (by simp [h1])
    rw [e1] at e2
    exact (Option.some.inj e2).symm
theorem Row22.row {w : World} {a : Addr} {vs : Array Value} (h : Row22 w a vs) : row22 w a = some vs := by
  have hx : ∃ vs, Row22 w a vs := ⟨vs, h⟩
  unfold row22
  rw [dif_pos hx]
  exact congrArg some (h.uniq hx.choose_spec)
theorem row22_row {w : World} {a : Addr} {vs : Array Value} (h : row22 w a = some vs) : Row22 w a vs := by
  unfold row22 at h
  by_cases hx : ∃ vs, Row22 w a vs
  · rw [dif_pos hx] at h
    obtain rfl := Option.some.inj h
    exact hx.choose_spec
  · rw [dif_neg hx] at h; cases h
theorem run_isAgg31 (w : World) : (isAgg 31).run Tryd.prog w = .ok true w := by
  unfold isAgg
  rw [Sem.run_bind, run_underlying Tryd.underlying31 w]
  simp
theorem run_ld31 {w : World} {a : Addr} {vs : Array Value} (h : Row22 w a vs) : (ld31 (.pointer (some a))).run Tryd.prog w = .ok (.agg vs) w := by
  obtain ⟨b, o, e⟩ := a
  obtain ⟨he, hs, hc⟩ := h
  simp only at he
  subst he
  have := run_loadCells_list (P := Tryd.prog) w ⟨b, o, none⟩ vs.toList (fun j v hj => by rw [VE.add_none]; exact hc j v (by simpa using hj))
  unfold ld31
  rw [VE.loadAt_ptr]
  simp [loadVar, run_isAgg31, Tryd.sizeOf31, hs] at this ⊢
  rw [this]
  simp
noncomputable def ldNo31 (w : World) (a : Addr) : Result Value := (ld31 (.pointer (some a))).run Tryd.prog w
theorem run_ld31_row (w : World) (a : Addr) : (ld31 (.pointer (some a))).run Tryd.prog w = match row22 w a with | some vs => .ok (.agg vs) w | none => ldNo31 w a := by
  cases h : row22 w a with
  | none => rfl
  | some vs => exact run_ld31 (row22_row h)
theorem ex31 (a : Act) (dst : Option Tmp) (x : Operand) (ty : TypeId) (pos : String) (after : Array Edge) (guard : Option (Nat × Bool)) :
    execOp a.eval { dst, op := .load 31 x, type := ty, pos, after, guard } = (do let v ← ld31 (a.eval x); pure (Next.value v)) := rfl
/-- A store of a pose, whole. -/
def st31 (p v : Value) : Sem Unit := Instr.storeAt 31 p v
def Fits31 (w : World) (a : Addr) (v : Value) : Prop := a.off = 0 ∧ a.spot = none ∧ ∃ vs cur e, v = .agg vs ∧ vs.size = 22 ∧ cur.size = 22 ∧ w.heap[a.block]? = some (.cells cur e (0, 0)) ∧ ∀ u ∈ vs.toList, u.oneCell' = true
theorem run_st31_fit {w : World} {a : Addr} {v : Value} (h : Fits31 w a v) : (st31 (.pointer (some a)) v).run Tryd.prog w = .ok () (w.setRow a.block v.cells) := by
  obtain ⟨b, o, s⟩ := a
  obtain ⟨ho, hs, vs, cur, e, rfl, hv, hc, hh, h1⟩ := h
  simp only at ho hs
  subst ho hs
  have hrun := VE.run_storeCells_at (P := Tryd.prog) b 0 e vs.toList 0 cur w hh (by simp [hv, hc]) h1
  unfold st31
  rw [VE.storeAt_ptr]
  simp only [storeVar, Sem.run_bind, Tryd.sizeOf31, Result.andThen_ok, Value.cells, hv, ne_eq, not_true_eq_false, if_false]
  simp at hrun
  rw [hrun]
  congr 2
  simp [List.drop_eq_nil_of_le, hv, hc]
noncomputable def stNo31 (w : World) (a : Addr) (v : Value) : Result Unit := (st31 (.pointer (some a)) v).run Tryd.prog w
open Classical in
theorem run_st31 (w : World) (a : Addr) (v : Value) : (st31 (.pointer (some a)) v).run Tryd.prog w = if Fits31 w a v then .ok () (w.setRow a.block v.cells) else stNo31 w a v := by
  split
  · exact run_st31_fit ‹_›
  · rfl
theorem exs31 (a : Act) (dst : Option Tmp) (x y : Operand) (ty : TypeId) (pos : String) (after : Array Edge) (guard : Option (Nat × Bool)) :
    execOp a.eval { dst, op := .store 31 x y, type := ty, pos, after, guard } = (do st31 (a.eval x) (a.eval y); pure Next.skip) := rfl
theorem setRow_alloc (w : World) (z vs : Array Value) (e : TypeId) : (w.alloc (.cells z e)).setRow w.heap.size vs = w.alloc (.cells vs e) := by
  have h : ∀ (f : Obj → Obj) (o : Obj), (w.heap.push o).modify w.heap.size f = w.heap.push (f o) := by
    intro f o
    apply Array.ext
    · simp
    · intro i h1 h2
      rw [Array.getElem_modify]
      simp only [Array.getElem_push]
      by_cases hi : i < w.heap.size
      · have : w.heap.size ≠ i := by omega
        simp [hi, this]
      · have : w.heap.size = i := by simp at h2; omega
        simp [this]
  show { w with heap := (w.heap.push (.cells z e)).modify w.heap.size _ } = ({ w with heap := w.heap.push (.cells vs e) } : World)
  rw [h]
end Go.Proofs
