/-
  PROVED: the tied card of 'BalanceMirror': for every input the law returns true and its arguments read behind the call as before; the listed package-level variables start as the program's text lays them (the card ties them).
-/
import Derived.Test.YtggiamcgkiaicaaDoorR0
import Derived.Test.YtggiamcgkiaicaaDoorLh
import Derived.Test.YtggiamcgkiaicaaDoorTie
import Derived.Test.YtggiamcgkiaicaaDoorCards
open Go Go.VE Go.Proofs
set_option maxRecDepth 1000000
set_option linter.unusedVariables false
set_option linter.unusedSimpArgs false
namespace Go.Proofs.YtggiamcgkiaicaaDoor

/-! ### BalanceMirror -/
def fits9 : List Fit := [fitR .i64 15, fitR .i64 22, fitI .i64]
theorem hev9 : ∀ avs, FitA gG fits9 avs → evF (cx [] [(10, conF (aCons (pC (cA .i64 15)) (aCons (pC (cA .i64 22)) (aOne (pC (cI .i64))))) (rTup (cCons (cA .i64 2) (cOne (cI .i64)))) (fun a => f10 (a.1) (a.2.1) (a.2.2))), (12, conF (aNil) (rOne (cB)) (fun a => f12)), (13, conF (aCons (pC (cA .i64 15)) (aCons (pC (cA .i64 22)) (aOne (pC (cI .i64))))) (rTup (cCons (cB) (cOne (cI .i64)))) (fun a => f13 (a.1) (a.2.1) (a.2.2))), (15, conF (aCons (pC (cA .i64 15)) (aCons (pC (cA .i64 22)) (aOne (pC (cI .i64))))) (rTup (cCons (cI .i64) (cOne (cI .i64)))) (fun a => f15 (a.1) (a.2.1) (a.2.2))), (21, conF (aOne (pC (cA .i64 22))) (rTup (cCons (cA .i64 22) (cOne (cI .i64)))) (fun a => f21 a)), (22, conF (aCons (pC (cA .i64 22)) (aOne (pC (cI .i64)))) (rTup (cCons (cA .i64 22) (cOne (cI .i64)))) (fun a => f22 (a.1) (a.2))), (23, conF (aOne (pC (cI .i64))) (rOne (cI .i64)) (fun a => f23 a))] []) 1000 Tryd.f9 avs (glMem gl) 2 decB = some true := by
  intro avs h
  obtain ⟨_, _, rfl, h1, h⟩ := h
  obtain ⟨a, rfl, ha⟩ := FitV_R h1
  obtain ⟨_, _, rfl, h1, h⟩ := h
  obtain ⟨b, rfl, hb⟩ := FitV_R h1
  obtain ⟨_, _, rfl, h1, h⟩ := h
  obtain ⟨c, rfl, hc⟩ := FitV_I h1
  obtain rfl := h
  exact (ev9 (a, b, c)).trans (lawMirror a b c)
theorem balanceMirror_lifted (os : Os) (started : os.Started) (H : Type) (enc : TypeId × Value → H) :
    ReturnsInHanded {} Tryd.checked os 9 .any (fun w args => (Rows.balanceMirrorSpec.pre enc Tryd.prog Tryd.f9 [] false w args ∧ laidMet Tryd.prog [("dancestudio/angle.sines", Rows.laid_dancestudio_angle_sines), ("dancestudio/build.ranges", Rows.laid_dancestudio_build_ranges)] w) ∧ sizedMet enc Tryd.prog Tryd.f9 (OpenSpec.ofChange Rows.balanceMirrorSpec) false w args)
      (Rows.balanceMirrorSpec.post enc Tryd.prog Tryd.f9 false true false false) :=
  law_handed (Ck := Tryd.checked) (s := Rows.balanceMirrorSpec) (fs := fits9) 1000 (tb := 4) ok9 (by kernel_rfl) rfl laidOut (by rw [Tryd.params9]; kernel_rfl) (by kernel_rfl) (by kernel_rfl) Tryd.underlying4 rfl
    (fun H ds h => by match ds, h with | [d1, d2, d3], _ => rfl)
    Tryd.func9 (lpAll_nil rfl) (by kernel_rfl : nsFits fits9 = 0) hev9 H enc own started (by kernel_rfl)
    (ChangeSpec.witness_at (enc := enc) (C := Tryd.checked) (os := os) (X := fun w _ => laidMet Tryd.prog [("dancestudio/angle.sines", Rows.laid_dancestudio_angle_sines), ("dancestudio/build.ranges", Rows.laid_dancestudio_build_ranges)] w) false (laidW Tryd.prog gl os) #[.agg #[.int .i64 0, .int .i64 0, .int .i64 0, .int .i64 0, .int .i64 0, .int .i64 0, .int .i64 0, .int .i64 0, .int .i64 0, .int .i64 0, .int .i64 0, .int .i64 0, .int .i64 0, .int .i64 0, .int .i64 0], .agg #[.int .i64 0, .int .i64 0, .int .i64 0, .int .i64 0, .int .i64 0, .int .i64 0, .int .i64 0, .int .i64 0, .int .i64 0, .int .i64 0, .int .i64 0, .int .i64 0, .int .i64 0, .int .i64 0, .int .i64 0, .int .i64 0, .int .i64 0, .int .i64 0, .int .i64 0, .int .i64 0, .int .i64 0, .int .i64 0], .int .i64 0] 8 rfl (by kernel_rfl) (by kernel_rfl) (by kernel_rfl) (by kernel_rfl) (by kernel_rfl)
      (laidMet_of_run3 8 (by kernel_rfl) (by kernel_rfl) (by kernel_rfl)))
theorem balanceMirror_holds : Rows.BalanceMirrorSaid :=
  OpenClaim.holds_of_wide 9 Tryd.f9 rfl rfl rfl rfl rfl rfl rfl ⟨rfl, rfl, rfl, rfl, rfl⟩ rfl rfl rfl rfl rfl (by kernel_rfl) Tryd.func9 (by kernel_rfl)
    (of_decide_eq_true (by kernel_rfl)) (by unfold Func.isWrapper; rw [if_neg (of_decide_eq_false (by kernel_rfl))]; exact ⟨rfl, rfl⟩)
    (fun os started H enc _ => balanceMirror_lifted os started H enc)
theorem balanceMirror_card : Rows.BalanceMirrorCardSaid :=
  Claim7.holds_tied_plain_at .later [] [.data, .data] true (true, "4ec7737a1395c1e4c63200c2172e2a6104c267471c82400236d32df7e18bb150") false balanceMirror_holds (fun _ h => by cases h) (by kernel_rfl) (fun _ h => by cases h) balanceMirror_row_tie rfl ⟨rfl, rfl⟩ (by kernel_rfl) rfl
    (fun f fn hf hfn => by
      obtain rfl : f = 9 := Option.some.inj ((show Tryd.prog.funcNamed "dancestudio/dancestudiolaw21.BalanceMirror" = some 9 by kernel_rfl).symm.trans hf) |>.symm
      obtain rfl : fn = Tryd.f9 := (Option.some.inj (Tryd.func9.symm.trans hfn)).symm
      exact ⟨by kernel_rfl, noStand (by kernel_rfl)⟩)
    (by kernel_rfl)
#print axioms balanceMirror_card
end Go.Proofs.YtggiamcgkiaicaaDoor
