/-
  PROVED: the row of 'LimitsNarrows': for every input the law returns true and its arguments read behind the call as before.
-/
import Derived.Test.YtbiedpabdkbpfaaR0
import Derived.Test.YtbiedpabdkbpfaaLc
import Derived.Test.YtbiedpabdkbpfaaRows
import Derived.Stop.Joined
open Go Go.VE Go.Proofs
set_option maxRecDepth 1000000
set_option linter.unusedVariables false
set_option linter.unusedSimpArgs false
namespace Go.Proofs.Ytbiedpabdkbpfaa

/-! ### LimitsNarrows -/
def fits5 : List Fit := [fitX kx26, fitX kx26]
theorem hev5 : ∀ avs, FitA gG fits5 avs → evF (cx [] [(16, conF (aNil) (rOne (cB)) (fun a => f16)), (19, conF (aCons (pC (cX kx26)) (aOne (pC (cX kx26)))) (rTup (cCons (cX kx26) (cOne (cI .i64)))) (fun a => f19 (a.1) (a.2))), (20, conF (aCons (pC (cX kx26)) (aOne (pC (cX kx26)))) (rTup (cCons (cX kx26) (cOne (cI .i64)))) (fun a => f20 (a.1) (a.2)))] []) 1000 Try.f5 avs (glMem gl) 0 decB = some true := by
  intro avs h
  obtain ⟨_, _, rfl, h1, h⟩ := h
  obtain ⟨a, rfl, ha⟩ := FitV_X h1
  obtain ⟨_, _, rfl, h1, h⟩ := h
  obtain ⟨b, rfl, hb⟩ := FitV_X h1
  obtain rfl := h
  exact (ev5 (a, b)).trans (lawNarrows a b)
theorem limitsNarrows_lifted (os : Os) (started : os.Started) (H : Type) (enc : TypeId × Value → H) :
    ReturnsInHanded {} Try.checked os 5 .any (fun w args => (Rows.limitsNarrowsSpec.pre enc Try.prog Try.f5 [] false w args ∧ laidMet Try.prog [] w) ∧ sizedMet enc Try.prog Try.f5 (OpenSpec.ofChange Rows.limitsNarrowsSpec) false w args)
      (Rows.limitsNarrowsSpec.post enc Try.prog Try.f5 false true false false) :=
  law_handed (Ck := Try.checked) (s := Rows.limitsNarrowsSpec) (fs := fits5) 1000 (tb := 4) ok5 (by kernel_rfl) rfl laidOut (by rw [Try.params5]; kernel_rfl) (by kernel_rfl) (by kernel_rfl) Try.underlying4 rfl
    (fun H ds h => by match ds, h with | [d1, d2], _ => rfl)
    Try.func5 (lpAll_nil rfl) (by kernel_rfl : nsFits fits5 = 0) hev5 H enc own started (by kernel_rfl)
    (ChangeSpec.witness_at (enc := enc) (C := Try.checked) (os := os) (X := fun w _ => laidMet Try.prog [] w) false (laidW Try.prog gl os) #[.agg #[.int .i64 0, .int .i64 0, .int .i64 0, .int .i64 0, .int .i64 0, .int .i64 0, .int .i64 0, .int .i64 0, .int .i64 0, .int .i64 0, .int .i64 0, .int .i64 0, .int .i64 0, .int .i64 0, .int .i64 0, .int .i64 0, .int .i64 0, .int .i64 0, .int .i64 0, .int .i64 0, .int .i64 0, .int .i64 0, .int .i64 0, .int .i64 0, .int .i64 0, .int .i64 0, .int .i64 0, .int .i64 0, .int .i64 0, .int .i64 0, .int .i64 0, .int .i64 0, .int .i64 0, .int .i64 0, .int .i64 0, .int .i64 0, .bool false, .bool false, .int .i64 0, .int .i64 0], .agg #[.int .i64 0, .int .i64 0, .int .i64 0, .int .i64 0, .int .i64 0, .int .i64 0, .int .i64 0, .int .i64 0, .int .i64 0, .int .i64 0, .int .i64 0, .int .i64 0, .int .i64 0, .int .i64 0, .int .i64 0, .int .i64 0, .int .i64 0, .int .i64 0, .int .i64 0, .int .i64 0, .int .i64 0, .int .i64 0, .int .i64 0, .int .i64 0, .int .i64 0, .int .i64 0, .int .i64 0, .int .i64 0, .int .i64 0, .int .i64 0, .int .i64 0, .int .i64 0, .int .i64 0, .int .i64 0, .int .i64 0, .int .i64 0, .bool false, .bool false, .int .i64 0, .int .i64 0]] 8 rfl (by kernel_rfl) (by kernel_rfl) (by kernel_rfl) (by kernel_rfl) (by kernel_rfl)
      (laidMet_of_run3 8 (by kernel_rfl) (by kernel_rfl) (by kernel_rfl)))
theorem limitsNarrows_holds : Rows.LimitsNarrowsSaid :=
  OpenClaim.holds_of_wide 5 Try.f5 rfl rfl rfl rfl rfl rfl rfl ⟨rfl, rfl, rfl, rfl, rfl⟩ rfl rfl rfl rfl rfl (by kernel_rfl) Try.func5 (by kernel_rfl)
    (of_decide_eq_true (by kernel_rfl)) (by unfold Func.isWrapper; rw [if_neg (of_decide_eq_false (by kernel_rfl))]; exact ⟨rfl, rfl⟩)
    (fun os started H enc _ => by rw [OpenClaim.pre_eq_preRow]; exact limitsNarrows_lifted os started H enc)
#print axioms limitsNarrows_holds
end Go.Proofs.Ytbiedpabdkbpfaa
