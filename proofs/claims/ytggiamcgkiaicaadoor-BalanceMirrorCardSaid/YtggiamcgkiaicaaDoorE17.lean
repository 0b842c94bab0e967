/-
  balance.First for movements of a wrong form: it answers the error ErrForm.
-/
import Derived.Test.YtggiamcgkiaicaaDoorF17
namespace Go.Proofs
set_option linter.unusedVariables false
set_option linter.unusedSimpArgs false
open Go.RowKit Go.Shelf
attribute [local go_sem] Oper.semAt_some
set_option maxRecDepth 100000
set_option maxHeartbeats 8000000
theorem early17 (n : Nat) (vb : Array Value) (p1 p2 : Option Addr) (N cp M ct : Nat) (w : World) (h : (M : Int) < 1 ∨ (¬ (M : Int) < 1) ∧ ¬ ((N : Int) = wrap64 ((M : Int) + 1))) :
    CallsIn Fence.wide n Tryd.prog 17 #[.agg vb, .agg #[.slice p1 N cp, .slice p2 M ct]] w fun e W' => e = .returned (.tuple #[.int .i64 0, .int .i64 2]) ∧ Below w.heap.size w W' := by
  have hscope : ∀ {c : Code} {Q : Exit → Act → World → Prop} {a : Act} {w : World}, c.wpIn Fence.wide n Tryd.prog (Exit.noGoto Q) a w → (Code.scope c).wpIn Fence.wide n Tryd.prog Q a w := fun h => wpIn_wide.2 (wp_scope_straight (wpIn_wide.1 h))
  refine callsIn_of_wp_marks Tryd.func17 rfl trivial ?_ rfl
  simp only [Tryd.ntmps17, List.size_toArray, List.length_cons, List.length_nil, Nat.reduceAdd, Nat.reduceSub, Array.replicate_succ, Array.replicate_zero, List.push_toArray, List.append_toArray, List.nil_append, List.cons_append]
  have hB : Below w.heap.size w ((w.alloc (.cells vb 24)).alloc (.cells #[.slice p1 N cp, .slice p2 M ct] 44)) := ((Below.refl _ w).alloc (Nat.le_refl _) _).alloc (by simp only [World.size_alloc]; omega) _
  rcases h with h | ⟨h0, h⟩
  · gi_wp2
    refine hscope ?_
    gi_wp2
    exact ⟨_, results_tmp2 rfl _ _ _, rfl, hB⟩
  · gi_wp2
    refine hscope ?_
    gi_wp2
    · exact ⟨_, results_tmp2 rfl _ _ _, rfl, hB⟩
    · exfalso
      simp_all
end Go.Proofs
