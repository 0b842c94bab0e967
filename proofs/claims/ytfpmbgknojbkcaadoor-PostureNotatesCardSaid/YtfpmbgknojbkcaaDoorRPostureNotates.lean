/-
  PROVED: the tied card of 'PostureNotates': for every input the law returns true and its arguments read behind the call as before; the listed package-level variables start as the program's text lays them (the card ties them).
-/
import Derived.Test.YtfpmbgknojbkcaaDoorR0
import Derived.Test.YtfpmbgknojbkcaaDoorM
import Derived.Test.YtfpmbgknojbkcaaDoorTie
import Derived.Test.YtfpmbgknojbkcaaDoorCards
open Go Go.VE Go.Proofs
set_option maxRecDepth 1000000
set_option linter.unusedVariables false
set_option linter.unusedSimpArgs false
namespace Go.Proofs.YtfpmbgknojbkcaaDoor

/-! ### PostureNotates -/
def fits4 : List Fit := [fitR .i64 22, fitI .i64]
theorem hev4 : ∀ avs, FitA fits4 avs → evF (cx con4) 1000 Tryd.f4 avs (glMem gl) gG decB = some true := by
  intro avs h
  obtain ⟨_, _, rfl, h1, h⟩ := h
  obtain ⟨a, rfl, ha⟩ := FitV_R h1
  obtain ⟨_, _, rfl, h1, h⟩ := h
  obtain ⟨b, rfl, hb⟩ := FitV_I h1
  obtain rfl := h
  exact (ev4 (a, b)).trans (lawNotates a b)
theorem postureNotates_lifted (os : Os) (started : os.Started) (H : Type) (enc : TypeId × Value → H) :
    ReturnsInHanded {} Tryd.checked os 4 .any (fun w args => (Rows.postureNotatesSpec.pre enc Tryd.prog Tryd.f4 [] false w args ∧ laidMet Tryd.prog [("dancestudio/posture.down", Rows.laid_dancestudio_posture_down)] w) ∧ sizedMet enc Tryd.prog Tryd.f4 (OpenSpec.ofChange Rows.postureNotatesSpec) false w args)
      (Rows.postureNotatesSpec.post enc Tryd.prog Tryd.f4 false true false false) :=
  law_handed (Ck := Tryd.checked) (s := Rows.postureNotatesSpec) (fs := fits4) 1000 (tb := 4) ok4 (by kernel_rfl) rfl laidOut (by rw [Tryd.params4]; kernel_rfl) (by kernel_rfl) (by kernel_rfl) Tryd.underlying4 rfl
    (fun H ds h => by match ds, h with | [d1, d2], _ => rfl)
    Tryd.func4 hev4 H enc own started (by kernel_rfl)
    (ChangeSpec.witness_at (enc := enc) (C := Tryd.checked) (os := os) (X := fun w _ => laidMet Tryd.prog [("dancestudio/posture.down", Rows.laid_dancestudio_posture_down)] w) false (laidW Tryd.prog gl os) #[.agg #[.int .i64 0, .int .i64 0, .int .i64 0, .int .i64 0, .int .i64 0, .int .i64 0, .int .i64 0, .int .i64 0, .int .i64 0, .int .i64 0, .int .i64 0, .int .i64 0, .int .i64 0, .int .i64 0, .int .i64 0, .int .i64 0, .int .i64 0, .int .i64 0, .int .i64 0, .int .i64 0, .int .i64 0, .int .i64 0], .int .i64 0] 8 rfl (by kernel_rfl) (by kernel_rfl) (by kernel_rfl) (by kernel_rfl) (by kernel_rfl)
      (laidMet_of_run3 8 (by kernel_rfl) (by kernel_rfl) (by kernel_rfl)))
theorem postureNotates_holds : Rows.PostureNotatesSaid :=
  OpenClaim.holds_of_wide 4 Tryd.f4 rfl rfl rfl rfl rfl rfl rfl ⟨rfl, rfl, rfl, rfl, rfl⟩ rfl rfl rfl rfl rfl (by kernel_rfl) Tryd.func4 (by kernel_rfl)
    (of_decide_eq_true (by kernel_rfl)) (by unfold Func.isWrapper; rw [if_neg (of_decide_eq_false (by kernel_rfl))]; exact ⟨rfl, rfl⟩)
    (fun os started H enc _ => postureNotates_lifted os started H enc)
theorem postureNotates_card : Rows.PostureNotatesCardSaid :=
  Claim7.holds_tied_plain_at .later [] [.data] true (true, "010fe12ed578b25099a754a763569cce210c68c30634523be92ac42057a67197") false postureNotates_holds (fun _ h => by cases h) (by kernel_rfl) (fun _ h => by cases h) postureNotates_row_tie rfl ⟨rfl, rfl⟩ (by kernel_rfl) rfl
    (fun f fn hf hfn => by
      obtain rfl : f = 4 := Option.some.inj ((show Tryd.prog.funcNamed "dancestudio/dancestudiolaw19.PostureNotates" = some 4 by kernel_rfl).symm.trans hf) |>.symm
      obtain rfl : fn = Tryd.f4 := (Option.some.inj (Tryd.func4.symm.trans hfn)).symm
      exact ⟨by kernel_rfl, noStand (by kernel_rfl)⟩)
    (by kernel_rfl)
#print axioms postureNotates_card
end Go.Proofs.YtfpmbgknojbkcaaDoor
