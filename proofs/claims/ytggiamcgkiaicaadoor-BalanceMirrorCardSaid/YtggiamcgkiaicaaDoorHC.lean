/-
  A build is loaded whole: the run of the operation, for any world.
-/
import Derived.Test.YtggiamcgkiaicaaDoorHB
namespace Go.Proofs
set_option linter.unusedVariables false
set_option linter.unusedSimpArgs false
open Go.RowKit Go.Shelf
/-- A load of a build, whole. -/
def ld24 (v : Value) : Sem Value := Instr.loadAt 24 v
def Row15 (w : World) (a : Addr) (vs : Array Value) : Prop := a.spot = none ∧ vs.size = 15 ∧ ∀ j v, vs[j]? = some v → w.cell? ⟨a.block, a.off + j, none⟩ = some v
open Classical in
noncomputable def row15 (w : World) (a : Addr) : Option (Array Value) := if h : ∃ vs, Row15 w a vs then some h.choose else none
theorem Row15.uniq {w : World} {a : Addr} {vs us : Array Value} (h : Row15 w a vs) (h' : Row15 w a us) : us = vs := by
  apply Array.ext
  · rw [h.2.1, h'.2.1]
  · intro j h1 h2
    have e1 := h.2.2 j vs[j] (by simp [h2])
    have e2 := h'.2.2 j us[j] (by simp [h1])
    rw [e1] at e2
    exact (Option.some.inj e2).symm
theorem Row15.row {w : World} {a : Addr} {vs : Array Value} (h : Row15 w a vs) : row15 w a = some vs := by
  have hx : ∃ vs, Row15 w a vs := ⟨vs, h⟩
  unfold row15
  rw [dif_pos hx]
  exact congrArg some (h.uniq hx.choose_spec)
theorem row15_row {w : World} {a : Addr} {vs : Array Value} (h : row15 w a = some vs) : Row15 w a vs := by
  unfold row15 at h
  by_cases hx : ∃ vs, Row15 w a vs
  · rw [dif_pos hx] at h
    obtain rfl := Option.some.inj h
    exact hx.choose_spec
  · rw [dif_neg hx] at h; cases h
theorem run_isAgg24 (w : World) : (isAgg 24).run Tryd.prog w = .ok true w := by
  unfold isAgg
  rw [Sem.run_bind, run_underlying Tryd.underlying24 w]
  simp
theorem run_ld24 {w : World} {a : Addr} {vs : Array Value} (h : Row15 w a vs) : (ld24 (.pointer (some a))).run Tryd.prog w = .ok (.agg vs) w := by
  obtain ⟨b, o, e⟩ := a
  obtain ⟨he, hs, hc⟩ := h
  simp only at he
  subst he
  have := run_loadCells_list (P := Tryd.prog) w ⟨b, o, none⟩ vs.toList (fun j v hj => by rw [VE.add_none]; exact hc j v (by simpa using hj))
  unfold ld24
  rw [VE.loadAt_ptr]
  simp [loadVar, run_isAgg24, Tryd.sizeOf24, hs] at this ⊢
  rw [this]
  simp
noncomputable def ldNo24 (w : World) (a : Addr) : Result Value := (ld24 (.pointer (some a))).run Tryd.prog w
theorem run_ld24_row (w : World) (a : Addr) : (ld24 (.pointer (some a))).run Tryd.prog w = match row15 w a with | some vs => .ok (.agg vs) w | none => ldNo24 w a := by
  cases h : row15 w a with
  | none => rfl
  | some vs => exact run_ld24 (row15_row h)
theorem ex24 (a : Act) (dst : Option Tmp) (x : Operand) (ty : TypeId) (pos : String) (after : Array Edge) (guard : Option (Nat × Bool)) :
    execOp a.eval { dst, op := .load 24 x, type := ty, pos, after, guard } = (do let v ← ld24 (a.eval x); pure (Next.value v)) := rfl
end Go.Proofs
