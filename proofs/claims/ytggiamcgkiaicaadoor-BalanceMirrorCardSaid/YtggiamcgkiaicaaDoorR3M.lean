/-
  The region of the iterator of moments that calls yield: whatever order it draws, it yields the tick's support and pose.
-/
import Derived.Test.YtggiamcgkiaicaaDoorHB
namespace Go.Proofs
set_option linter.unusedVariables false
set_option linter.unusedSimpArgs false
open Go.RowKit Go.Shelf
attribute [local go_sem] Oper.semAt_some run_ld31_row
attribute [local go_sem ↓] ex31
set_option maxRecDepth 100000
set_option maxHeartbeats 8000000
def cL : Code → Code
  | .seq a _ => a
  | .block _ a => a
  | .loop a => a
  | c => c
def cR : Code → Code
  | .seq _ b => b
  | c => c
noncomputable def body63 : Code := Tryd.f63.body.getD .skip
/-- The region of the iterator that calls 'yield'. -/
noncomputable def reg63 : Code := cL (cR (cL (cL (cR (cR (cL (cL (cR body63))))))))
theorem reg3 (n : Nat) (hn : 1 ≤ n) (l Bm B4 tb to' M ct k mi : Nat) (hM : (M : Int) ≤ 9223372036854775807) (hM0 : 0 < M) (hmi : (k : Int) ≤ (M : Int) - 1 ∧ mi = k ∨ (M : Int) - 1 < (k : Int) ∧ mi = M - 1) (ps : Array Value) (tv : Int) (X Y : World → Prop) (W : World)
    (hm1 : W.drew.cell? ⟨Bm, 1, none⟩ = some (.slice (some ⟨tb, to', none⟩) M ct)) (ht : W.drew.cell? ⟨tb, to' + mi, none⟩ = some (.int .i64 tv))
    (hrow : row22 W.drew ⟨B4, 0, none⟩ = some ps)
    (hY : YieldAt Fence.wide (n - 1) Tryd.prog l #[.int .i64 tv, .agg ps] W.drew fun e W' => (e = .returned (.bool true) ∧ X W') ∨ (e = .returned (.bool false) ∧ Y W'))
    (K : Act → World → Prop) (u2 u3 u4 u5 u6 u7 u8 u9 u10 u11 u12 u13 u14 u15 u16 u17 u18 u19 u20 u21 u22 u23 u24 u25 u26 u27 : Value)
    (hK : ∀ (b : Bool) u13 u14 u15 u16 u17 u18 u19 u20 u21 u22 u23 u24 u25 W', (b = true ∧ X W' ∨ b = false ∧ Y W') → K { tmps := #[.func (.yield l) #[] #[], .pointer (some ⟨Bm, 0, none⟩), u2, .int .i64 k, .pointer (some ⟨B4, 0, none⟩), u5, u6, u7, u8, u9, u10, u11, u12, u13, u14, u15, u16, u17, u18, u19, u20, u21, u22, u23, u24, u25, .bool (!b), u27], defers := [] } W') :
    Code.wpIn Fence.wide n Tryd.prog reg63 (Exit.then K (fun _ _ _ => False)) { tmps := #[.func (.yield l) #[] #[], .pointer (some ⟨Bm, 0, none⟩), u2, .int .i64 k, .pointer (some ⟨B4, 0, none⟩), u5, u6, u7, u8, u9, u10, u11, u12, u13, u14, u15, u16, u17, u18, u19, u20, u21, u22, u23, u24, u25, u26, u27], defers := [] } W := by
  simp only [reg63, body63, Tryd.f63, cL, cR, Option.getD_some]
  obtain ⟨fn, tmps, assign, body, hy, hR0⟩ := hY
  have hR := hR0.mono (R' := fun e W' => ∃ b : Bool, e = .returned (.bool b) ∧ (b = true ∧ X W' ∨ b = false ∧ Y W')) (by
    rintro e W' (⟨rfl, h⟩ | ⟨rfl, h⟩)
    · exact ⟨true, rfl, .inl ⟨rfl, h⟩⟩
    · exact ⟨false, rfl, .inr ⟨rfl, h⟩⟩)
  clear hR0
  have hmx : Tryd.prog.follows .mixedOrders = true := by kernel_rfl
  have hw2 : wrap64 ((M : Int) - 1) = (M : Int) - 1 := by simp only [wrap64]; omega
  have hw : IntKind.i64.wrap ((M : Int) - 1) = (M : Int) - 1 := by
    rw [IntKind.wrap_i64]; simp only [wrap64] at hw2 ⊢; omega
  rcases hmi with ⟨hkm, rfl⟩ | ⟨hkm, rfl⟩
  · have hkm1 : ¬ ((M : Int) - 1 < (mi : Int)) := by omega
    have hkm2 : (mi : Int) < (M : Int) := by omega
    gi_region_with_o (refine hR.mono ?_; rintro e W3 ⟨b, rfl, hj⟩)
    all_goals exact hK _ _ _ _ _ _ _ _ _ _ _ _ _ _ _ hj
  · have hM1 : ((M : Int) - 1).toNat = M - 1 := by omega
    have hkm3 : (0 : Int) ≤ (M : Int) - 1 := by omega
    have hkm4 : (M : Int) - 1 < (M : Int) := by omega
    gi_region_with_o (refine hR.mono ?_; rintro e W3 ⟨b, rfl, hj⟩)
    all_goals exact hK _ _ _ _ _ _ _ _ _ _ _ _ _ _ _ hj
#print axioms reg3
end Go.Proofs
