/-
  PROVED: the row of 'LimitsNarrow': for every input the law returns true and its arguments read behind the call as before.
-/
import Derived.Test.YtbiedpabdkbpfaaR0
import Derived.Test.YtbiedpabdkbpfaaLe
import Derived.Test.YtbiedpabdkbpfaaRows
import Derived.Stop.Joined
open Go Go.VE Go.Proofs
set_option maxRecDepth 1000000
set_option linter.unusedVariables false
set_option linter.unusedSimpArgs false
namespace Go.Proofs.Ytbiedpabdkbpfaa

/-! ### LimitsNarrow -/
def fits6 : List Fit := [fitX kx26, fitX kx26, fitR .i64 4]
theorem hev6 : ∀ avs, FitA gG fits6 avs → evF (cx [] [(14, conF (aOne (pC (cX kx26))) (rOne (cI .i64)) (fun a => f14 a)), (16, conF (aNil) (rOne (cB)) (fun a => f16)), (17, conF (aCons (pC (cX kx26)) (aCons (pC (cI .i64)) (aOne (pC (cA .i64 3))))) (rTup (cCons (cB) (cOne (cI .i64)))) (fun a => f17 (a.1) (a.2.1) (a.2.2))), (19, conF (aCons (pC (cX kx26)) (aOne (pC (cX kx26)))) (rTup (cCons (cX kx26) (cOne (cI .i64)))) (fun a => f19 (a.1) (a.2))), (21, conF (aCons (pC (cA .i64 6)) (aOne (pC (cA .i64 6)))) (rOne (cI .i64)) (fun a => f21 (a.1) (a.2)))] [] true) 1000 Try.f6 avs (glMem gl) 0 decB = some true := by
  intro avs h
  obtain ⟨_, _, rfl, h1, h⟩ := h
  obtain ⟨a, rfl, ha⟩ := FitV_X h1
  obtain ⟨_, _, rfl, h1, h⟩ := h
  obtain ⟨b, rfl, hb⟩ := FitV_X h1
  obtain ⟨_, _, rfl, h1, h⟩ := h
  obtain ⟨c, rfl, hc⟩ := FitV_R h1
  obtain rfl := h
  exact (ev6 (a, b, c)).trans (lawNarrow a b c)
theorem limitsNarrow_lifted (os : Os) (started : os.Started) (H : Type) (enc : TypeId × Value → H) :
    ReturnsInHanded {} Try.checked os 6 .any (fun w args => (Rows.limitsNarrowSpec.pre enc Try.prog Try.f6 [] false w args ∧ laidMet Try.prog [] w) ∧ sizedMet enc Try.prog Try.f6 (OpenSpec.ofChange Rows.limitsNarrowSpec) false w args)
      (Rows.limitsNarrowSpec.post enc Try.prog Try.f6 false true false false) :=
  law_handed (Ck := Try.checked) (s := Rows.limitsNarrowSpec) (fs := fits6) 1000 (tb := 4) ok6 (by kernel_rfl) rfl laidOut (by rw [Try.params6]; kernel_rfl) (by kernel_rfl) (by kernel_rfl) Try.underlying4 rfl
    (fun H ds h => by match ds, h with | [d1, d2, d3], _ => rfl)
    Try.func6 (lpAll_nil rfl) (by kernel_rfl : nsFits fits6 = 0) hev6 H enc own started (by kernel_rfl)
    (ChangeSpec.witness_at (enc := enc) (C := Try.checked) (os := os) (X := fun w _ => laidMet Try.prog [] w) false (laidW Try.prog gl os) #[.agg #[.int .i64 0, .int .i64 0, .int .i64 0, .int .i64 0, .int .i64 0, .int .i64 0, .int .i64 0, .int .i64 0, .int .i64 0, .int .i64 0, .int .i64 0, .int .i64 0, .int .i64 0, .int .i64 0, .int .i64 0, .int .i64 0, .int .i64 0, .int .i64 0, .int .i64 0, .int .i64 0, .int .i64 0, .int .i64 0, .int .i64 0, .int .i64 0, .int .i64 0, .int .i64 0, .int .i64 0, .int .i64 0, .int .i64 0, .int .i64 0, .int .i64 0, .int .i64 0, .int .i64 0, .int .i64 0, .int .i64 0, .int .i64 0, .bool false, .bool false, .int .i64 0, .int .i64 0], .agg #[.int .i64 0, .int .i64 0, .int .i64 0, .int .i64 0, .int .i64 0, .int .i64 0, .int .i64 0, .int .i64 0, .int .i64 0, .int .i64 0, .int .i64 0, .int .i64 0, .int .i64 0, .int .i64 0, .int .i64 0, .int .i64 0, .int .i64 0, .int .i64 0, .int .i64 0, .int .i64 0, .int .i64 0, .int .i64 0, .int .i64 0, .int .i64 0, .int .i64 0, .int .i64 0, .int .i64 0, .int .i64 0, .int .i64 0, .int .i64 0, .int .i64 0, .int .i64 0, .int .i64 0, .int .i64 0, .int .i64 0, .int .i64 0, .bool false, .bool false, .int .i64 0, .int .i64 0], .agg #[.int .i64 0, .int .i64 0, .int .i64 0, .int .i64 0]] 8 rfl (by kernel_rfl) (by kernel_rfl) (by kernel_rfl) (by kernel_rfl) (by kernel_rfl)
      (laidMet_of_run3 8 (by kernel_rfl) (by kernel_rfl) (by kernel_rfl)))
theorem limitsNarrow_holds : Rows.LimitsNarrowSaid :=
  OpenClaim.holds_of_wide 6 Try.f6 rfl rfl rfl rfl rfl rfl rfl ⟨rfl, rfl, rfl, rfl, rfl⟩ rfl rfl rfl rfl rfl (by kernel_rfl) Try.func6 (by kernel_rfl)
    (of_decide_eq_true (by kernel_rfl)) (by unfold Func.isWrapper; rw [if_neg (of_decide_eq_false (by kernel_rfl))]; exact ⟨rfl, rfl⟩)
    (fun os started H enc _ => by rw [OpenClaim.pre_eq_preRow]; exact limitsNarrow_lifted os started H enc)
#print axioms limitsNarrow_holds
end Go.Proofs.Ytbiedpabdkbpfaa
