/-
  Closed facts of this program that every row's proof uses.
-/
import Derived.Test.YtggiamcgkiaicaaDoorVEp
import Derived.Test.YtggiamcgkiaicaaDoorChecked
import Derived.Deep.DeepLaidRun
import Derived.SevenTiedAt
open Go Go.VE Go.Proofs
set_option maxRecDepth 1000000
namespace Go.Proofs.YtggiamcgkiaicaaDoor
theorem own : ownKnob Tryd.prog.godebug = none := by kernel_rfl
theorem laidOut : laidOutB Tryd.prog = true := by kernel_rfl
theorem noStand {ts : Array TypeId} (h : (ts.toList.all fun t => !Tryd.prog.wantsStandIn t) = true) (j : Nat) (t : TypeId) (hj : ts[j]? = some t) : Tryd.prog.wantsStandIn t = false := by
  have := List.all_eq_true.1 h t (List.mem_of_getElem? (i := j) (by simpa using hj))
  simpa using this
end Go.Proofs.YtggiamcgkiaicaaDoor
