/-
  PROVED: the tied card of 'DirParses': for every input the law returns true and its arguments read behind the call as before; the listed package-level variables start as the program's text lays them (the card ties them).
-/
import Derived.Test.YtghmaghmkhpaaaaDoorR0
import Derived.Test.YtghmaghmkhpaaaaDoorL
import Derived.Test.YtghmaghmkhpaaaaDoorTie
import Derived.Test.YtghmaghmkhpaaaaDoorCards
open Go Go.VE Go.Proofs
set_option maxRecDepth 1000000
set_option linter.unusedVariables false
set_option linter.unusedSimpArgs false
namespace Go.Proofs.YtghmaghmkhpaaaaDoor

/-! ### DirParses -/
def fits6 : List Fit := [fitS]
theorem hev6 : ∀ avs, FitA fits6 avs → evF (cx con23) 1000 Tryd.f6 avs (glMem gl) gG decB = some true := by
  intro avs h
  obtain ⟨_, _, rfl, h1, h⟩ := h
  obtain ⟨a, rfl, ha⟩ := FitV_S h1
  obtain rfl := h
  exact (ev6 a).trans (law6 a)
theorem dirParses_lifted (os : Os) (started : os.Started) (H : Type) (enc : TypeId × Value → H) :
    ReturnsInHanded {} Tryd.checked os 6 .any (fun w args => (Rows.dirParsesSpec.pre enc Tryd.prog Tryd.f6 [] false w args ∧ laidMet Tryd.prog [("dancestudio/dir.dirs", Rows.laid_dancestudio_dir_dirs), ("dancestudio/dir.levels", Rows.laid_dancestudio_dir_levels)] w) ∧ sizedMet enc Tryd.prog Tryd.f6 (OpenSpec.ofChange Rows.dirParsesSpec) false w args)
      (Rows.dirParsesSpec.post enc Tryd.prog Tryd.f6 false true false false) :=
  law_handed (Ck := Tryd.checked) (s := Rows.dirParsesSpec) (fs := fits6) 1000 (tb := 4) ok23 (by kernel_rfl) rfl laidOut (by rw [Tryd.params6]; kernel_rfl) (by kernel_rfl) (by kernel_rfl) Tryd.underlying4 rfl
    (fun H ds h => by match ds, h with | [d1], _ => rfl)
    Tryd.func6 hev6 H enc own started (by kernel_rfl)
    (ChangeSpec.witness_at (enc := enc) (C := Tryd.checked) (os := os) (X := fun w _ => laidMet Tryd.prog [("dancestudio/dir.dirs", Rows.laid_dancestudio_dir_dirs), ("dancestudio/dir.levels", Rows.laid_dancestudio_dir_levels)] w) false (laidW Tryd.prog gl os) #[.string ⟨#[]⟩] 8 rfl (by kernel_rfl) (by kernel_rfl) (by kernel_rfl) (by kernel_rfl) (by kernel_rfl)
      (laidMet_of_run3 8 (by kernel_rfl) (by kernel_rfl) (by kernel_rfl)))
theorem dirParses_holds : Rows.DirParsesSaid :=
  OpenClaim.holds_of_wide 6 Tryd.f6 rfl rfl rfl rfl rfl rfl rfl ⟨rfl, rfl, rfl, rfl, rfl⟩ rfl rfl rfl rfl rfl (by kernel_rfl) Tryd.func6 (by kernel_rfl)
    (of_decide_eq_true (by kernel_rfl)) (by unfold Func.isWrapper; rw [if_neg (of_decide_eq_false (by kernel_rfl))]; exact ⟨rfl, rfl⟩)
    (fun os started H enc _ => dirParses_lifted os started H enc)
theorem dirParses_card : Rows.DirParsesCardSaid :=
  Claim7.holds_tied_plain_at .later [] [.data, .data] true (true, "3e400c55e4b26c23c92f4f0e21ad35e506bc61a303e1c6f2b17e3bc9c8db5c47") false dirParses_holds (fun _ h => by cases h) (by kernel_rfl) (fun _ h => by cases h) dirParses_row_tie rfl ⟨rfl, rfl⟩ (by kernel_rfl) rfl
    (fun f fn hf hfn => by
      obtain rfl : f = 6 := Option.some.inj ((show Tryd.prog.funcNamed "dancestudio/dancestudiolaw16.DirParses" = some 6 by kernel_rfl).symm.trans hf) |>.symm
      obtain rfl : fn = Tryd.f6 := (Option.some.inj (Tryd.func6.symm.trans hfn)).symm
      exact ⟨by kernel_rfl, noStand (by kernel_rfl)⟩)
    (by kernel_rfl)
#print axioms dirParses_card
end Go.Proofs.YtghmaghmkhpaaaaDoor
