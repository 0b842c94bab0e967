/-
  PROVED: the tied card of 'DirRotates': for every input the law returns true and its arguments read behind the call as before; the listed package-level variables start as the program's text lays them (the card ties them).
-/
import Derived.Test.YtghmaghmkhpaaaaDoorR0
import Derived.Test.YtghmaghmkhpaaaaDoorL
import Derived.Test.YtghmaghmkhpaaaaDoorTie
import Derived.Test.YtghmaghmkhpaaaaDoorCards
open Go Go.VE Go.Proofs
set_option maxRecDepth 1000000
set_option linter.unusedVariables false
set_option linter.unusedSimpArgs false
namespace Go.Proofs.YtghmaghmkhpaaaaDoor

/-! ### DirRotates -/
def fits4 : List Fit := [fitI .i64, fitI .i64]
theorem hev4 : ∀ avs, FitA fits4 avs → evF (cx con19) 1000 Tryd.f4 avs (glMem gl) gG decB = some true := by
  intro avs h
  obtain ⟨_, _, rfl, h1, h⟩ := h
  obtain ⟨a, rfl, ha⟩ := FitV_I h1
  obtain ⟨_, _, rfl, h1, h⟩ := h
  obtain ⟨b, rfl, hb⟩ := FitV_I h1
  obtain rfl := h
  exact (ev4 (a, b)).trans (law4 a b)
theorem dirRotates_lifted (os : Os) (started : os.Started) (H : Type) (enc : TypeId × Value → H) :
    ReturnsInHanded {} Tryd.checked os 4 .any (fun w args => (Rows.dirRotatesSpec.pre enc Tryd.prog Tryd.f4 [] false w args ∧ laidMet Tryd.prog [("dancestudio/dir.dirs", Rows.laid_dancestudio_dir_dirs), ("dancestudio/dir.levels", Rows.laid_dancestudio_dir_levels)] w) ∧ sizedMet enc Tryd.prog Tryd.f4 (OpenSpec.ofChange Rows.dirRotatesSpec) false w args)
      (Rows.dirRotatesSpec.post enc Tryd.prog Tryd.f4 false true false false) :=
  law_handed (Ck := Tryd.checked) (s := Rows.dirRotatesSpec) (fs := fits4) 1000 (tb := 4) ok19 (by kernel_rfl) rfl laidOut (by rw [Tryd.params4]; kernel_rfl) (by kernel_rfl) (by kernel_rfl) Tryd.underlying4 rfl
    (fun H ds h => by match ds, h with | [d1, d2], _ => rfl)
    Tryd.func4 hev4 H enc own started (by kernel_rfl)
    (ChangeSpec.witness_at (enc := enc) (C := Tryd.checked) (os := os) (X := fun w _ => laidMet Tryd.prog [("dancestudio/dir.dirs", Rows.laid_dancestudio_dir_dirs), ("dancestudio/dir.levels", Rows.laid_dancestudio_dir_levels)] w) false (laidW Tryd.prog gl os) #[.int .i64 0, .int .i64 0] 8 rfl (by kernel_rfl) (by kernel_rfl) (by kernel_rfl) (by kernel_rfl) (by kernel_rfl)
      (laidMet_of_run3 8 (by kernel_rfl) (by kernel_rfl) (by kernel_rfl)))
theorem dirRotates_holds : Rows.DirRotatesSaid :=
  OpenClaim.holds_of_wide 4 Tryd.f4 rfl rfl rfl rfl rfl rfl rfl ⟨rfl, rfl, rfl, rfl, rfl⟩ rfl rfl rfl rfl rfl (by kernel_rfl) Tryd.func4 (by kernel_rfl)
    (of_decide_eq_true (by kernel_rfl)) (by unfold Func.isWrapper; rw [if_neg (of_decide_eq_false (by kernel_rfl))]; exact ⟨rfl, rfl⟩)
    (fun os started H enc _ => dirRotates_lifted os started H enc)
theorem dirRotates_card : Rows.DirRotatesCardSaid :=
  Claim7.holds_tied_plain_at .later [] [.data, .data] true (true, "3e400c55e4b26c23c92f4f0e21ad35e506bc61a303e1c6f2b17e3bc9c8db5c47") false dirRotates_holds (fun _ h => by cases h) (by kernel_rfl) (fun _ h => by cases h) dirRotates_row_tie rfl ⟨rfl, rfl⟩ (by kernel_rfl) rfl
    (fun f fn hf hfn => by
      obtain rfl : f = 4 := Option.some.inj ((show Tryd.prog.funcNamed "dancestudio/dancestudiolaw16.DirRotates" = some 4 by kernel_rfl).symm.trans hf) |>.symm
      obtain rfl : fn = Tryd.f4 := (Option.some.inj (Tryd.func4.symm.trans hfn)).symm
      exact ⟨by kernel_rfl, noStand (by kernel_rfl)⟩)
    (by kernel_rfl)
#print axioms dirRotates_card
end Go.Proofs.YtghmaghmkhpaaaaDoor
