/-
  PROVED: the row of 'LimitsSelf': for every input the law returns true and its arguments read behind the call as before.
-/
import Derived.Test.YtbiedpabdkbpfaaR0
import Derived.Test.YtbiedpabdkbpfaaLd
import Derived.Test.YtbiedpabdkbpfaaRows
import Derived.Stop.Joined
open Go Go.VE Go.Proofs
set_option maxRecDepth 1000000
set_option linter.unusedVariables false
set_option linter.unusedSimpArgs false
namespace Go.Proofs.Ytbiedpabdkbpfaa

/-! ### LimitsSelf -/
def fits7 : List Fit := [fitX kx26]
theorem hev7 : ∀ avs, FitA gG fits7 avs → evF (cx [] [(14, conF (aOne (pC (cX kx26))) (rOne (cI .i64)) (fun a => f14 a)), (16, conF (aNil) (rOne (cB)) (fun a => f16)), (19, conF (aCons (pC (cX kx26)) (aOne (pC (cX kx26)))) (rTup (cCons (cX kx26) (cOne (cI .i64)))) (fun a => f19 (a.1) (a.2))), (22, conF (aNil) (rOne (cX kx26)) (fun a => f22))] []) 1000 Try.f7 avs (glMem gl) 0 decB = some true := by
  intro avs h
  obtain ⟨_, _, rfl, h1, h⟩ := h
  obtain ⟨a, rfl, ha⟩ := FitV_X h1
  obtain rfl := h
  exact (ev7 a).trans (lawSelf a)
theorem limitsSelf_lifted (os : Os) (started : os.Started) (H : Type) (enc : TypeId × Value → H) :
    ReturnsInHanded {} Try.checked os 7 .any (fun w args => (Rows.limitsSelfSpec.pre enc Try.prog Try.f7 [] false w args ∧ laidMet Try.prog [] w) ∧ sizedMet enc Try.prog Try.f7 (OpenSpec.ofChange Rows.limitsSelfSpec) false w args)
      (Rows.limitsSelfSpec.post enc Try.prog Try.f7 false true false false) :=
  law_handed (Ck := Try.checked) (s := Rows.limitsSelfSpec) (fs := fits7) 1000 (tb := 4) ok7 (by kernel_rfl) rfl laidOut (by rw [Try.params7]; kernel_rfl) (by kernel_rfl) (by kernel_rfl) Try.underlying4 rfl
    (fun H ds h => by match ds, h with | [d1], _ => rfl)
    Try.func7 (lpAll_nil rfl) (by kernel_rfl : nsFits fits7 = 0) hev7 H enc own started (by kernel_rfl)
    (ChangeSpec.witness_at (enc := enc) (C := Try.checked) (os := os) (X := fun w _ => laidMet Try.prog [] w) false (laidW Try.prog gl os) #[.agg #[.int .i64 0, .int .i64 0, .int .i64 0, .int .i64 0, .int .i64 0, .int .i64 0, .int .i64 0, .int .i64 0, .int .i64 0, .int .i64 0, .int .i64 0, .int .i64 0, .int .i64 0, .int .i64 0, .int .i64 0, .int .i64 0, .int .i64 0, .int .i64 0, .int .i64 0, .int .i64 0, .int .i64 0, .int .i64 0, .int .i64 0, .int .i64 0, .int .i64 0, .int .i64 0, .int .i64 0, .int .i64 0, .int .i64 0, .int .i64 0, .int .i64 0, .int .i64 0, .int .i64 0, .int .i64 0, .int .i64 0, .int .i64 0, .bool false, .bool false, .int .i64 0, .int .i64 0]] 8 rfl (by kernel_rfl) (by kernel_rfl) (by kernel_rfl) (by kernel_rfl) (by kernel_rfl)
      (laidMet_of_run3 8 (by kernel_rfl) (by kernel_rfl) (by kernel_rfl)))
theorem limitsSelf_holds : Rows.LimitsSelfSaid :=
  OpenClaim.holds_of_wide 7 Try.f7 rfl rfl rfl rfl rfl rfl rfl ⟨rfl, rfl, rfl, rfl, rfl⟩ rfl rfl rfl rfl rfl (by kernel_rfl) Try.func7 (by kernel_rfl)
    (of_decide_eq_true (by kernel_rfl)) (by unfold Func.isWrapper; rw [if_neg (of_decide_eq_false (by kernel_rfl))]; exact ⟨rfl, rfl⟩)
    (fun os started H enc _ => by rw [OpenClaim.pre_eq_preRow]; exact limitsSelf_lifted os started H enc)
#print axioms limitsSelf_holds
end Go.Proofs.Ytbiedpabdkbpfaa
