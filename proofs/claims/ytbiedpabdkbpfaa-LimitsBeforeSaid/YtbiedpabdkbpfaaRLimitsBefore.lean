/-
  PROVED: the row of 'LimitsBefore': for every input the law returns true and its arguments read behind the call as before.
-/
import Derived.Test.YtbiedpabdkbpfaaR0
import Derived.Test.YtbiedpabdkbpfaaLj
import Derived.Test.YtbiedpabdkbpfaaRows
import Derived.Stop.Joined
open Go Go.VE Go.Proofs
set_option maxRecDepth 1000000
set_option linter.unusedVariables false
set_option linter.unusedSimpArgs false
namespace Go.Proofs.Ytbiedpabdkbpfaa

/-! ### LimitsBefore -/
def fits10 : List Fit := [fitX kx26, fitSS kx59 kx3]
theorem hev10 : ∀ avs, FitA gG fits10 avs → evF (cx [] [(16, conF (aNil) (rOne (cB)) (fun a => f16)), (23, conF (aOne (pSS kx59 kx3)) (rOne (cB)) (fun a => f23 a)), (24, conF (aCons (pC (cX kx26)) (aOne (pSS kx59 kx3))) (rTup (cCons (cA .i64 3) (cOne (cI .i64)))) (fun a => f24 (a.1) (a.2)))] []) 1000 Try.f10 avs (glMem gl) 2 decB = some true := by
  intro avs h
  obtain ⟨_, _, rfl, h1, h⟩ := h
  obtain ⟨a, rfl, ha⟩ := FitV_X h1
  obtain ⟨_, _, rfl, h1, h⟩ := h
  obtain ⟨b, rfl, hb⟩ := FitV_SS h1
  obtain rfl := h
  exact (ev10 (a, b)).trans (lawBefore a b)
theorem limitsBefore_lifted (os : Os) (started : os.Started) (H : Type) (enc : TypeId × Value → H) :
    ReturnsInHanded {} Try.checked os 10 .any (fun w args => (Rows.limitsBeforeSpec.pre enc Try.prog Try.f10 [] false w args ∧ laidMet Try.prog [] w) ∧ sizedMet enc Try.prog Try.f10 (OpenSpec.ofChange Rows.limitsBeforeSpec) false w args)
      (Rows.limitsBeforeSpec.post enc Try.prog Try.f10 false true false false) :=
  law_handed (Ck := Try.checked) (s := Rows.limitsBeforeSpec) (fs := fits10) 1000 (tb := 4) ok10 (by kernel_rfl) rfl laidOut (by rw [Try.params10]; kernel_rfl) (by kernel_rfl) (by kernel_rfl) Try.underlying4 rfl
    (fun H ds h => by match ds, h with | [d1, d2], _ => rfl)
    Try.func10 (lpAll_nil rfl) (by kernel_rfl : nsFits fits10 = 2) hev10 H enc own started (by kernel_rfl)
    (ChangeSpec.witness_at (enc := enc) (C := Try.checked) (os := os) (X := fun w _ => laidMet Try.prog [] w) false (laidW Try.prog gl os) #[.agg #[.int .i64 0, .int .i64 0, .int .i64 0, .int .i64 0, .int .i64 0, .int .i64 0, .int .i64 0, .int .i64 0, .int .i64 0, .int .i64 0, .int .i64 0, .int .i64 0, .int .i64 0, .int .i64 0, .int .i64 0, .int .i64 0, .int .i64 0, .int .i64 0, .int .i64 0, .int .i64 0, .int .i64 0, .int .i64 0, .int .i64 0, .int .i64 0, .int .i64 0, .int .i64 0, .int .i64 0, .int .i64 0, .int .i64 0, .int .i64 0, .int .i64 0, .int .i64 0, .int .i64 0, .int .i64 0, .int .i64 0, .int .i64 0, .bool false, .bool false, .int .i64 0, .int .i64 0], .agg #[.slice none 0 0, .slice none 0 0]] 8 rfl (by kernel_rfl) (by kernel_rfl) (by kernel_rfl) (by kernel_rfl) (by kernel_rfl)
      (laidMet_of_run3 8 (by kernel_rfl) (by kernel_rfl) (by kernel_rfl)))
theorem limitsBefore_holds : Rows.LimitsBeforeSaid :=
  OpenClaim.holds_of_wide 10 Try.f10 rfl rfl rfl rfl rfl rfl rfl ⟨rfl, rfl, rfl, rfl, rfl⟩ rfl rfl rfl rfl rfl (by kernel_rfl) Try.func10 (by kernel_rfl)
    (of_decide_eq_true (by kernel_rfl)) (by unfold Func.isWrapper; rw [if_neg (of_decide_eq_false (by kernel_rfl))]; exact ⟨rfl, rfl⟩)
    (fun os started H enc _ => by rw [OpenClaim.pre_eq_preRow]; exact limitsBefore_lifted os started H enc)
#print axioms limitsBefore_holds
end Go.Proofs.Ytbiedpabdkbpfaa
