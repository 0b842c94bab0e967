/-
  PROVED: the tied card of 'PosturePoses': for every input the law returns true and its arguments read behind the call as before; the listed package-level variables start as the program's text lays them (the card ties them).
-/
import Derived.Test.YtfpmbgknojbkcaaDoorR0
import Derived.Test.YtfpmbgknojbkcaaDoorL
import Derived.Test.YtfpmbgknojbkcaaDoorTie
import Derived.Test.YtfpmbgknojbkcaaDoorCards
open Go Go.VE Go.Proofs
set_option maxRecDepth 1000000
set_option linter.unusedVariables false
set_option linter.unusedSimpArgs false
namespace Go.Proofs.YtfpmbgknojbkcaaDoor

/-! ### PosturePoses -/
def fits10 : List Fit := [fitR .i64 22, fitI .i64, fitI .i64]
theorem hev10 : ∀ avs, FitA fits10 avs → evF (cx con10) 1000 Tryd.f10 avs (glMem gl) gG decB = some true := by
  intro avs h
  obtain ⟨_, _, rfl, h1, h⟩ := h
  obtain ⟨a, rfl, ha⟩ := FitV_R h1
  obtain ⟨_, _, rfl, h1, h⟩ := h
  obtain ⟨b, rfl, hb⟩ := FitV_I h1
  obtain ⟨_, _, rfl, h1, h⟩ := h
  obtain ⟨c, rfl, hc⟩ := FitV_I h1
  obtain rfl := h
  exact (ev10 (a, b, c)).trans (lawPoses a b c)
theorem posturePoses_lifted (os : Os) (started : os.Started) (H : Type) (enc : TypeId × Value → H) :
    ReturnsInHanded {} Tryd.checked os 10 .any (fun w args => (Rows.posturePosesSpec.pre enc Tryd.prog Tryd.f10 [] false w args ∧ laidMet Tryd.prog [("dancestudio/posture.down", Rows.laid_dancestudio_posture_down)] w) ∧ sizedMet enc Tryd.prog Tryd.f10 (OpenSpec.ofChange Rows.posturePosesSpec) false w args)
      (Rows.posturePosesSpec.post enc Tryd.prog Tryd.f10 false true false false) :=
  law_handed (Ck := Tryd.checked) (s := Rows.posturePosesSpec) (fs := fits10) 1000 (tb := 4) ok10 (by kernel_rfl) rfl laidOut (by rw [Tryd.params10]; kernel_rfl) (by kernel_rfl) (by kernel_rfl) Tryd.underlying4 rfl
    (fun H ds h => by match ds, h with | [d1, d2, d3], _ => rfl)
    Tryd.func10 hev10 H enc own started (by kernel_rfl)
    (ChangeSpec.witness_at (enc := enc) (C := Tryd.checked) (os := os) (X := fun w _ => laidMet Tryd.prog [("dancestudio/posture.down", Rows.laid_dancestudio_posture_down)] w) false (laidW Tryd.prog gl os) #[.agg #[.int .i64 0, .int .i64 0, .int .i64 0, .int .i64 0, .int .i64 0, .int .i64 0, .int .i64 0, .int .i64 0, .int .i64 0, .int .i64 0, .int .i64 0, .int .i64 0, .int .i64 0, .int .i64 0, .int .i64 0, .int .i64 0, .int .i64 0, .int .i64 0, .int .i64 0, .int .i64 0, .int .i64 0, .int .i64 0], .int .i64 0, .int .i64 0] 8 rfl (by kernel_rfl) (by kernel_rfl) (by kernel_rfl) (by kernel_rfl) (by kernel_rfl)
      (laidMet_of_run3 8 (by kernel_rfl) (by kernel_rfl) (by kernel_rfl)))
theorem posturePoses_holds : Rows.PosturePosesSaid :=
  OpenClaim.holds_of_wide 10 Tryd.f10 rfl rfl rfl rfl rfl rfl rfl ⟨rfl, rfl, rfl, rfl, rfl⟩ rfl rfl rfl rfl rfl (by kernel_rfl) Tryd.func10 (by kernel_rfl)
    (of_decide_eq_true (by kernel_rfl)) (by unfold Func.isWrapper; rw [if_neg (of_decide_eq_false (by kernel_rfl))]; exact ⟨rfl, rfl⟩)
    (fun os started H enc _ => posturePoses_lifted os started H enc)
theorem posturePoses_card : Rows.PosturePosesCardSaid :=
  Claim7.holds_tied_plain_at .later [] [.data] true (true, "010fe12ed578b25099a754a763569cce210c68c30634523be92ac42057a67197") false posturePoses_holds (fun _ h => by cases h) (by kernel_rfl) (fun _ h => by cases h) posturePoses_row_tie rfl ⟨rfl, rfl⟩ (by kernel_rfl) rfl
    (fun f fn hf hfn => by
      obtain rfl : f = 10 := Option.some.inj ((show Tryd.prog.funcNamed "dancestudio/dancestudiolaw19.PosturePoses" = some 10 by kernel_rfl).symm.trans hf) |>.symm
      obtain rfl : fn = Tryd.f10 := (Option.some.inj (Tryd.func10.symm.trans hfn)).symm
      exact ⟨by kernel_rfl, noStand (by kernel_rfl)⟩)
    (by kernel_rfl)
#print axioms posturePoses_card
end Go.Proofs.YtfpmbgknojbkcaaDoor
