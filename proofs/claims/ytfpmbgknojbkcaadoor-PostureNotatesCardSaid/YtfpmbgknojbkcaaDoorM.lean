/-
  THE PLAIN LAWS: what the contracts compute answers as the statements say.
-/
import Derived.Test.YtfpmbgknojbkcaaDoorL
open Go Go.VE Go.Proofs
set_option maxRecDepth 1000000
set_option maxHeartbeats 0
set_option linter.unusedVariables false
set_option linter.unusedSimpArgs false
namespace Go.Proofs.YtfpmbgknojbkcaaDoor
theorem notate_some (a : Nat → Int) (b : Int) : ∃ r, f16 a b = some r := by
  rcases notate_cases a b with ⟨e, z, _, h, _⟩ | ⟨s, _, _, _, h⟩
  · exact ⟨_, h⟩
  · exact ⟨_, h⟩
theorem lawNotates (a : Nat → Int) (b : Int) : f4 a b = some true := by
  obtain ⟨r, h⟩ := notate_some a b
  obtain ⟨v, hv⟩ := valid_some a
  unfold f4
  rw [rnotate_eq, rvalid_eq, h, hv]
  simp -implicitDefEqProofs only [Option.bind_some, decide_true, Bool.and_self, cond_true]

end Go.Proofs.YtfpmbgknojbkcaaDoor
