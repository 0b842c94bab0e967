/-
  PROVED: the tied card of 'BalanceMoves': for every input the law returns true and its arguments read behind the call as before; the listed package-level variables start as the program's text lays them (the card ties them).
-/
import Derived.Test.YtggiamcgkiaicaaDoorR0
import Derived.Test.YtggiamcgkiaicaaDoorLh
import Derived.Test.YtggiamcgkiaicaaDoorTie
import Derived.Test.YtggiamcgkiaicaaDoorCards
open Go Go.VE Go.Proofs
set_option maxRecDepth 1000000
set_option linter.unusedVariables false
set_option linter.unusedSimpArgs false
namespace Go.Proofs.YtggiamcgkiaicaaDoor

/-! ### BalanceMoves -/
def fits6 : List Fit := [fitR .i64 15, fitR .i64 22, fitR .i64 3]
theorem hev6 : ∀ avs, FitA gG fits6 avs → evF (cx [] [(10, conF (aCons (pC (cA .i64 15)) (aCons (pC (cA .i64 22)) (aOne (pC (cI .i64))))) (rTup (cCons (cA .i64 2) (cOne (cI .i64)))) (fun a => f10 (a.1) (a.2.1) (a.2.2))), (12, conF (aNil) (rOne (cB)) (fun a => f12)), (13, conF (aCons (pC (cA .i64 15)) (aCons (pC (cA .i64 22)) (aOne (pC (cI .i64))))) (rTup (cCons (cB) (cOne (cI .i64)))) (fun a => f13 (a.1) (a.2.1) (a.2.2))), (15, conF (aCons (pC (cA .i64 15)) (aCons (pC (cA .i64 22)) (aOne (pC (cI .i64))))) (rTup (cCons (cI .i64) (cOne (cI .i64)))) (fun a => f15 (a.1) (a.2.1) (a.2.2))), (19, conF (aOne (pC (cA .i64 22))) (rOne (cI .i64)) (fun a => f19 a))] []) 1000 Tryd.f6 avs (glMem gl) 2 decB = some true := by
  intro avs h
  obtain ⟨_, _, rfl, h1, h⟩ := h
  obtain ⟨a, rfl, ha⟩ := FitV_R h1
  obtain ⟨_, _, rfl, h1, h⟩ := h
  obtain ⟨b, rfl, hb⟩ := FitV_R h1
  obtain ⟨_, _, rfl, h1, h⟩ := h
  obtain ⟨c, rfl, hc⟩ := FitV_R h1
  obtain rfl := h
  exact (ev6 (a, b, c)).trans (lawMoves a b c)
theorem balanceMoves_lifted (os : Os) (started : os.Started) (H : Type) (enc : TypeId × Value → H) :
    ReturnsInHanded {} Tryd.checked os 6 .any (fun w args => (Rows.balanceMovesSpec.pre enc Tryd.prog Tryd.f6 [] false w args ∧ laidMet Tryd.prog [("dancestudio/angle.sines", Rows.laid_dancestudio_angle_sines), ("dancestudio/build.ranges", Rows.laid_dancestudio_build_ranges)] w) ∧ sizedMet enc Tryd.prog Tryd.f6 (OpenSpec.ofChange Rows.balanceMovesSpec) false w args)
      (Rows.balanceMovesSpec.post enc Tryd.prog Tryd.f6 false true false false) :=
  law_handed (Ck := Tryd.checked) (s := Rows.balanceMovesSpec) (fs := fits6) 1000 (tb := 4) ok6 (by kernel_rfl) rfl laidOut (by rw [Tryd.params6]; kernel_rfl) (by kernel_rfl) (by kernel_rfl) Tryd.underlying4 rfl
    (fun H ds h => by match ds, h with | [d1, d2, d3], _ => rfl)
    Tryd.func6 (lpAll_nil rfl) (by kernel_rfl : nsFits fits6 = 0) hev6 H enc own started (by kernel_rfl)
    (ChangeSpec.witness_at (enc := enc) (C := Tryd.checked) (os := os) (X := fun w _ => laidMet Tryd.prog [("dancestudio/angle.sines", Rows.laid_dancestudio_angle_sines), ("dancestudio/build.ranges", Rows.laid_dancestudio_build_ranges)] w) false (laidW Tryd.prog gl os) #[.agg #[.int .i64 0, .int .i64 0, .int .i64 0, .int .i64 0, .int .i64 0, .int .i64 0, .int .i64 0, .int .i64 0, .int .i64 0, .int .i64 0, .int .i64 0, .int .i64 0, .int .i64 0, .int .i64 0, .int .i64 0], .agg #[.int .i64 0, .int .i64 0, .int .i64 0, .int .i64 0, .int .i64 0, .int .i64 0, .int .i64 0, .int .i64 0, .int .i64 0, .int .i64 0, .int .i64 0, .int .i64 0, .int .i64 0, .int .i64 0, .int .i64 0, .int .i64 0, .int .i64 0, .int .i64 0, .int .i64 0, .int .i64 0, .int .i64 0, .int .i64 0], .agg #[.int .i64 0, .int .i64 0, .int .i64 0]] 8 rfl (by kernel_rfl) (by kernel_rfl) (by kernel_rfl) (by kernel_rfl) (by kernel_rfl)
      (laidMet_of_run3 8 (by kernel_rfl) (by kernel_rfl) (by kernel_rfl)))
theorem balanceMoves_holds : Rows.BalanceMovesSaid :=
  OpenClaim.holds_of_wide 6 Tryd.f6 rfl rfl rfl rfl rfl rfl rfl ⟨rfl, rfl, rfl, rfl, rfl⟩ rfl rfl rfl rfl rfl (by kernel_rfl) Tryd.func6 (by kernel_rfl)
    (of_decide_eq_true (by kernel_rfl)) (by unfold Func.isWrapper; rw [if_neg (of_decide_eq_false (by kernel_rfl))]; exact ⟨rfl, rfl⟩)
    (fun os started H enc _ => balanceMoves_lifted os started H enc)
theorem balanceMoves_card : Rows.BalanceMovesCardSaid :=
  Claim7.holds_tied_plain_at .later [] [.data, .data] true (true, "4ec7737a1395c1e4c63200c2172e2a6104c267471c82400236d32df7e18bb150") false balanceMoves_holds (fun _ h => by cases h) (by kernel_rfl) (fun _ h => by cases h) balanceMoves_row_tie rfl ⟨rfl, rfl⟩ (by kernel_rfl) rfl
    (fun f fn hf hfn => by
      obtain rfl : f = 6 := Option.some.inj ((show Tryd.prog.funcNamed "dancestudio/dancestudiolaw21.BalanceMoves" = some 6 by kernel_rfl).symm.trans hf) |>.symm
      obtain rfl : fn = Tryd.f6 := (Option.some.inj (Tryd.func6.symm.trans hfn)).symm
      exact ⟨by kernel_rfl, noStand (by kernel_rfl)⟩)
    (by kernel_rfl)
#print axioms balanceMoves_card
end Go.Proofs.YtggiamcgkiaicaaDoor
