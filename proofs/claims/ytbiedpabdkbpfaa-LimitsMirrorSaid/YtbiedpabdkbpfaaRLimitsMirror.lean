/-
  PROVED: the row of 'LimitsMirror': for every input the law returns true and its arguments read behind the call as before.
-/
import Derived.Test.YtbiedpabdkbpfaaR0
import Derived.Test.YtbiedpabdkbpfaaLa
import Derived.Test.YtbiedpabdkbpfaaRows
import Derived.Stop.Joined
open Go Go.VE Go.Proofs
set_option maxRecDepth 1000000
set_option linter.unusedVariables false
set_option linter.unusedSimpArgs false
namespace Go.Proofs.Ytbiedpabdkbpfaa

/-! ### LimitsMirror -/
def fits11 : List Fit := [fitX kx26, fitI .i64, fitR .i64 3]
theorem hev11 : ∀ avs, FitA gG fits11 avs → evF (cx [] [(12, conF (aOne (pC (cX kx26))) (rTup (cCons (cX kx26) (cOne (cI .i64)))) (fun a => f12 a)), (14, conF (aOne (pC (cX kx26))) (rOne (cI .i64)) (fun a => f14 a)), (16, conF (aNil) (rOne (cB)) (fun a => f16)), (17, conF (aCons (pC (cX kx26)) (aCons (pC (cI .i64)) (aOne (pC (cA .i64 3))))) (rTup (cCons (cB) (cOne (cI .i64)))) (fun a => f17 (a.1) (a.2.1) (a.2.2))), (26, conF (aOne (pC (cI .i64))) (rTup (cCons (cI .i64) (cOne (cI .i64)))) (fun a => f26 a)), (27, conF (aCons (pC (cI .i64)) (aOne (pC (cA .i64 3)))) (rTup (cCons (cA .i64 3) (cOne (cI .i64)))) (fun a => f27 (a.1) (a.2)))] []) 1000 Try.f11 avs (glMem gl) 0 decB = some true := by
  intro avs h
  obtain ⟨_, _, rfl, h1, h⟩ := h
  obtain ⟨a, rfl, ha⟩ := FitV_X h1
  obtain ⟨_, _, rfl, h1, h⟩ := h
  obtain ⟨b, rfl, hb⟩ := FitV_I h1
  obtain ⟨_, _, rfl, h1, h⟩ := h
  obtain ⟨c, rfl, hc⟩ := FitV_R h1
  obtain rfl := h
  exact (ev11 (a, b, c)).trans (lawMirror a b c)
theorem limitsMirror_lifted (os : Os) (started : os.Started) (H : Type) (enc : TypeId × Value → H) :
    ReturnsInHanded {} Try.checked os 11 .any (fun w args => (Rows.limitsMirrorSpec.pre enc Try.prog Try.f11 [] false w args ∧ laidMet Try.prog [] w) ∧ sizedMet enc Try.prog Try.f11 (OpenSpec.ofChange Rows.limitsMirrorSpec) false w args)
      (Rows.limitsMirrorSpec.post enc Try.prog Try.f11 false true false false) :=
  law_handed (Ck := Try.checked) (s := Rows.limitsMirrorSpec) (fs := fits11) 1000 (tb := 4) ok11 (by kernel_rfl) rfl laidOut (by rw [Try.params11]; kernel_rfl) (by kernel_rfl) (by kernel_rfl) Try.underlying4 rfl
    (fun H ds h => by match ds, h with | [d1, d2, d3], _ => rfl)
    Try.func11 (lpAll_nil rfl) (by kernel_rfl : nsFits fits11 = 0) hev11 H enc own started (by kernel_rfl)
    (ChangeSpec.witness_at (enc := enc) (C := Try.checked) (os := os) (X := fun w _ => laidMet Try.prog [] w) false (laidW Try.prog gl os) #[.agg #[.int .i64 0, .int .i64 0, .int .i64 0, .int .i64 0, .int .i64 0, .int .i64 0, .int .i64 0, .int .i64 0, .int .i64 0, .int .i64 0, .int .i64 0, .int .i64 0, .int .i64 0, .int .i64 0, .int .i64 0, .int .i64 0, .int .i64 0, .int .i64 0, .int .i64 0, .int .i64 0, .int .i64 0, .int .i64 0, .int .i64 0, .int .i64 0, .int .i64 0, .int .i64 0, .int .i64 0, .int .i64 0, .int .i64 0, .int .i64 0, .int .i64 0, .int .i64 0, .int .i64 0, .int .i64 0, .int .i64 0, .int .i64 0, .bool false, .bool false, .int .i64 0, .int .i64 0], .int .i64 0, .agg #[.int .i64 0, .int .i64 0, .int .i64 0]] 8 rfl (by kernel_rfl) (by kernel_rfl) (by kernel_rfl) (by kernel_rfl) (by kernel_rfl)
      (laidMet_of_run3 8 (by kernel_rfl) (by kernel_rfl) (by kernel_rfl)))
theorem limitsMirror_holds : Rows.LimitsMirrorSaid :=
  OpenClaim.holds_of_wide 11 Try.f11 rfl rfl rfl rfl rfl rfl rfl ⟨rfl, rfl, rfl, rfl, rfl⟩ rfl rfl rfl rfl rfl (by kernel_rfl) Try.func11 (by kernel_rfl)
    (of_decide_eq_true (by kernel_rfl)) (by unfold Func.isWrapper; rw [if_neg (of_decide_eq_false (by kernel_rfl))]; exact ⟨rfl, rfl⟩)
    (fun os started H enc _ => by rw [OpenClaim.pre_eq_preRow]; exact limitsMirror_lifted os started H enc)
#print axioms limitsMirror_holds
end Go.Proofs.Ytbiedpabdkbpfaa
