/-
  PROVED: the row of 'LimitsChecks': for every input the law returns true and its arguments read behind the call as before.
-/
import Derived.Test.YtbiedpabdkbpfaaR0
import Derived.Test.YtbiedpabdkbpfaaLa
import Derived.Test.YtbiedpabdkbpfaaRows
import Derived.Stop.Joined
open Go Go.VE Go.Proofs
set_option maxRecDepth 1000000
set_option linter.unusedVariables false
set_option linter.unusedSimpArgs false
namespace Go.Proofs.Ytbiedpabdkbpfaa

/-! ### LimitsChecks -/
def fits3 : List Fit := [fitX kx26]
theorem hev3 : ∀ avs, FitA gG fits3 avs → evF (cx [] [(12, conF (aOne (pC (cX kx26))) (rTup (cCons (cX kx26) (cOne (cI .i64)))) (fun a => f12 a)), (13, conF (aOne (pC (cX kx26))) (rTup (cCons (cX kx26) (cOne (cI .i64)))) (fun a => f13 a)), (14, conF (aOne (pC (cX kx26))) (rOne (cI .i64)) (fun a => f14 a)), (15, conF (aOne (pC (cX kx26))) (rOne (cI .i64)) (fun a => f15 a)), (16, conF (aNil) (rOne (cB)) (fun a => f16))] []) 1000 Try.f3 avs (glMem gl) 0 decB = some true := by
  intro avs h
  obtain ⟨_, _, rfl, h1, h⟩ := h
  obtain ⟨a, rfl, ha⟩ := FitV_X h1
  obtain rfl := h
  exact (ev3 a).trans (lawChecks a)
theorem limitsChecks_lifted (os : Os) (started : os.Started) (H : Type) (enc : TypeId × Value → H) :
    ReturnsInHanded {} Try.checked os 3 .any (fun w args => (Rows.limitsChecksSpec.pre enc Try.prog Try.f3 [] false w args ∧ laidMet Try.prog [] w) ∧ sizedMet enc Try.prog Try.f3 (OpenSpec.ofChange Rows.limitsChecksSpec) false w args)
      (Rows.limitsChecksSpec.post enc Try.prog Try.f3 false true false false) :=
  law_handed (Ck := Try.checked) (s := Rows.limitsChecksSpec) (fs := fits3) 1000 (tb := 4) ok3 (by kernel_rfl) rfl laidOut (by rw [Try.params3]; kernel_rfl) (by kernel_rfl) (by kernel_rfl) Try.underlying4 rfl
    (fun H ds h => by match ds, h with | [d1], _ => rfl)
    Try.func3 (lpAll_nil rfl) (by kernel_rfl : nsFits fits3 = 0) hev3 H enc own started (by kernel_rfl)
    (ChangeSpec.witness_at (enc := enc) (C := Try.checked) (os := os) (X := fun w _ => laidMet Try.prog [] w) false (laidW Try.prog gl os) #[.agg #[.int .i64 0, .int .i64 0, .int .i64 0, .int .i64 0, .int .i64 0, .int .i64 0, .int .i64 0, .int .i64 0, .int .i64 0, .int .i64 0, .int .i64 0, .int .i64 0, .int .i64 0, .int .i64 0, .int .i64 0, .int .i64 0, .int .i64 0, .int .i64 0, .int .i64 0, .int .i64 0, .int .i64 0, .int .i64 0, .int .i64 0, .int .i64 0, .int .i64 0, .int .i64 0, .int .i64 0, .int .i64 0, .int .i64 0, .int .i64 0, .int .i64 0, .int .i64 0, .int .i64 0, .int .i64 0, .int .i64 0, .int .i64 0, .bool false, .bool false, .int .i64 0, .int .i64 0]] 8 rfl (by kernel_rfl) (by kernel_rfl) (by kernel_rfl) (by kernel_rfl) (by kernel_rfl)
      (laidMet_of_run3 8 (by kernel_rfl) (by kernel_rfl) (by kernel_rfl)))
theorem limitsChecks_holds : Rows.LimitsChecksSaid :=
  OpenClaim.holds_of_wide 3 Try.f3 rfl rfl rfl rfl rfl rfl rfl ⟨rfl, rfl, rfl, rfl, rfl⟩ rfl rfl rfl rfl rfl (by kernel_rfl) Try.func3 (by kernel_rfl)
    (of_decide_eq_true (by kernel_rfl)) (by unfold Func.isWrapper; rw [if_neg (of_decide_eq_false (by kernel_rfl))]; exact ⟨rfl, rfl⟩)
    (fun os started H enc _ => by rw [OpenClaim.pre_eq_preRow]; exact limitsChecks_lifted os started H enc)
#print axioms limitsChecks_holds
end Go.Proofs.Ytbiedpabdkbpfaa
