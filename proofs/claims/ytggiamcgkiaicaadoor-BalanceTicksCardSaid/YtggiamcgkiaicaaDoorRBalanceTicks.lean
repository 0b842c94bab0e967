/-
  PROVED: the tied card of 'BalanceTicks': for every input the law returns true and its arguments read behind the call as before; the listed package-level variables start as the program's text lays them (the card ties them).
-/
import Derived.Test.YtggiamcgkiaicaaDoorR0
import Derived.Test.YtggiamcgkiaicaaDoorLh
import Derived.Test.YtggiamcgkiaicaaDoorTie
import Derived.Test.YtggiamcgkiaicaaDoorCards
open Go Go.VE Go.Proofs
set_option maxRecDepth 1000000
set_option linter.unusedVariables false
set_option linter.unusedSimpArgs false
namespace Go.Proofs.YtggiamcgkiaicaaDoor

/-! ### BalanceTicks -/
def fits8 : List Fit := [fitR .i64 15, fitSS kx31 kx3]
theorem hev8 : ∀ avs, FitA gG fits8 avs → evF (cx [] [(12, conF (aNil) (rOne (cB)) (fun a => f12)), (13, conF (aCons (pC (cA .i64 15)) (aCons (pC (cA .i64 22)) (aOne (pC (cI .i64))))) (rTup (cCons (cB) (cOne (cI .i64)))) (fun a => f13 (a.1) (a.2.1) (a.2.2))), (17, conF (aCons (pC (cA .i64 15)) (aOne (pSS kx31 kx3))) (rTup (cCons (cI .i64) (cOne (cI .i64)))) (fun a => f17 (a.1) (a.2)))] [(100009, ⟨T8_0, outs8_0, l8_0⟩)]) 1000 Tryd.f8 avs (glMem gl) 4 decB = some true := by
  intro avs h
  obtain ⟨_, _, rfl, h1, h⟩ := h
  obtain ⟨a, rfl, ha⟩ := FitV_R h1
  obtain ⟨_, _, rfl, h1, h⟩ := h
  obtain ⟨b, rfl, hb⟩ := FitV_SS h1
  obtain rfl := h
  exact (ev8 (a, b)).trans (lawTicks a b)
theorem balanceTicks_lifted (os : Os) (started : os.Started) (H : Type) (enc : TypeId × Value → H) :
    ReturnsInHanded {} Tryd.checked os 8 .any (fun w args => (Rows.balanceTicksSpec.pre enc Tryd.prog Tryd.f8 [] false w args ∧ laidMet Tryd.prog [("dancestudio/angle.sines", Rows.laid_dancestudio_angle_sines), ("dancestudio/build.ranges", Rows.laid_dancestudio_build_ranges)] w) ∧ sizedMet enc Tryd.prog Tryd.f8 (OpenSpec.ofChange Rows.balanceTicksSpec) false w args)
      (Rows.balanceTicksSpec.post enc Tryd.prog Tryd.f8 false true false false) :=
  law_handed (Ck := Tryd.checked) (s := Rows.balanceTicksSpec) (fs := fits8) 1000 (tb := 4) ok8 (by kernel_rfl) rfl laidOut (by rw [Tryd.params8]; kernel_rfl) (by kernel_rfl) (by kernel_rfl) Tryd.underlying4 rfl
    (fun H ds h => by match ds, h with | [d1, d2], _ => rfl)
    Tryd.func8 la8 (by kernel_rfl : nsFits fits8 = 2) hev8 H enc own started (by kernel_rfl)
    (ChangeSpec.witness_at (enc := enc) (C := Tryd.checked) (os := os) (X := fun w _ => laidMet Tryd.prog [("dancestudio/angle.sines", Rows.laid_dancestudio_angle_sines), ("dancestudio/build.ranges", Rows.laid_dancestudio_build_ranges)] w) false (laidW Tryd.prog gl os) #[.agg #[.int .i64 0, .int .i64 0, .int .i64 0, .int .i64 0, .int .i64 0, .int .i64 0, .int .i64 0, .int .i64 0, .int .i64 0, .int .i64 0, .int .i64 0, .int .i64 0, .int .i64 0, .int .i64 0, .int .i64 0], .agg #[.slice none 0 0, .slice none 0 0]] 8 rfl (by kernel_rfl) (by kernel_rfl) (by kernel_rfl) (by kernel_rfl) (by kernel_rfl)
      (laidMet_of_run3 8 (by kernel_rfl) (by kernel_rfl) (by kernel_rfl)))
theorem balanceTicks_holds : Rows.BalanceTicksSaid :=
  OpenClaim.holds_of_wide 8 Tryd.f8 rfl rfl rfl rfl rfl rfl rfl ⟨rfl, rfl, rfl, rfl, rfl⟩ rfl rfl rfl rfl rfl (by kernel_rfl) Tryd.func8 (by kernel_rfl)
    (of_decide_eq_true (by kernel_rfl)) (by unfold Func.isWrapper; rw [if_neg (of_decide_eq_false (by kernel_rfl))]; exact ⟨rfl, rfl⟩)
    (fun os started H enc _ => balanceTicks_lifted os started H enc)
theorem balanceTicks_card : Rows.BalanceTicksCardSaid :=
  Claim7.holds_tied_plain_at .later [] [.data, .data] true (true, "4ec7737a1395c1e4c63200c2172e2a6104c267471c82400236d32df7e18bb150") false balanceTicks_holds (fun _ h => by cases h) (by kernel_rfl) (fun _ h => by cases h) balanceTicks_row_tie rfl ⟨rfl, rfl⟩ (by kernel_rfl) rfl
    (fun f fn hf hfn => by
      obtain rfl : f = 8 := Option.some.inj ((show Tryd.prog.funcNamed "dancestudio/dancestudiolaw21.BalanceTicks" = some 8 by kernel_rfl).symm.trans hf) |>.symm
      obtain rfl : fn = Tryd.f8 := (Option.some.inj (Tryd.func8.symm.trans hfn)).symm
      exact ⟨by kernel_rfl, noStand (by kernel_rfl)⟩)
    (by kernel_rfl)
#print axioms balanceTicks_card
end Go.Proofs.YtggiamcgkiaicaaDoor
