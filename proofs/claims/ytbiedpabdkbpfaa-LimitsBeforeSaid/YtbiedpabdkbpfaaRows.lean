/-
  No cell of these rows narrows 'for every input' (looked for: loops, veiled, ifaces, maps, wideKeys, modest, calm, conditions, laid).
  DERIVED. THE GIVEN ROWS OF THIS SEAT. 9 by the template 'for every input the law returns true; each argument reads behind the call as it read before'; 0 by the template 'total and deterministic' (their statements: YtbiedpabdkbpfaaTotals.lean).
  GIVEN WITH THE SEED: the statements are not yours to turn. If you find one false, say at which input.
  Laid BY PROGRAM, IN A SANDBOX (cutbox-rows.mjs): the forced cells as the released guide's own fill.sh prints them over the translation a733f45c56a41421… (all of the seat's roots in one cut). By AI agents, Wed Nov 11 2026. No macro, syntax, notation, axiom, sorry.
-/
import Derived.Test.YtbiedpabdkbpfaaChecked
import GoSem.Claim
import GoSem.ClaimJoined
import GoSem.ClaimMapViews
import Derived.JoinedTies
import Derived.KernelRfl
namespace Go.Proofs.Ytbiedpabdkbpfaa
/- THE CELL 'sum', in the pinned program and in every row, IS THE sha256 OF THE DUMP (.gsa) THAT YtbiedpabdkbpfaaProg.lean LOADS. Nothing in Lean hashes anything: it is a label: what it is worth is what the hold of that sum in a sandbox is worth. -/
noncomputable def Try.pinned : Pinned := { name := "ytbiedpabdkbpfaa", sum := "a733f45c56a414216187c907314beeb229bc853edc06b7cedcffdd444afe49c9", checked := Try.checked }
namespace Rows
def none {H : Type} : Left H := { results := [], args := [] }

/-- 'dancestudiolaw22.LimitsChecks': WHATEVER THE INPUT: true; the input reads as it did. -/
def limitsChecksSpec : ChangeSpec := { name := "limitsChecks", fn := fun _ => fun
  | [d] => { results := [.lit (.bool true)], args := [d] }
  | _ => none }
def limitsChecksRow : OpenClaim := { program := "ytbiedpabdkbpfaa", sum := "a733f45c56a414216187c907314beeb229bc853edc06b7cedcffdd444afe49c9", func := "dancestudio/dancestudiolaw22.LimitsChecks", spec := "limitsChecks", apart := false }
def LimitsChecksSaid : Prop := limitsChecksRow.holds Try.pinned (OpenSpec.ofChange limitsChecksSpec)

/-- ITS FALSE NEIGHBOUR: 'it returns false'. Refute it at one input. -/
def limitsChecksWrong : ChangeSpec := { name := "limitsChecks", fn := fun _ => fun
  | [d] => { results := [.lit (.bool false)], args := [d] }
  | _ => none }
def LimitsChecksWrongFalsely : Prop := limitsChecksRow.holds Try.pinned (OpenSpec.ofChange limitsChecksWrong)

/-- 'dancestudiolaw22.LimitsAllows': WHATEVER THE INPUT: true; the input reads as it did. -/
def limitsAllowsSpec : ChangeSpec := { name := "limitsAllows", fn := fun _ => fun
  | [d1, d2, d3] => { results := [.lit (.bool true)], args := [d1, d2, d3] }
  | _ => none }
def limitsAllowsRow : OpenClaim := { program := "ytbiedpabdkbpfaa", sum := "a733f45c56a414216187c907314beeb229bc853edc06b7cedcffdd444afe49c9", func := "dancestudio/dancestudiolaw22.LimitsAllows", spec := "limitsAllows", apart := false }
def LimitsAllowsSaid : Prop := limitsAllowsRow.holds Try.pinned (OpenSpec.ofChange limitsAllowsSpec)

/-- ITS FALSE NEIGHBOUR: 'it returns false'. Refute it at one input. -/
def limitsAllowsWrong : ChangeSpec := { name := "limitsAllows", fn := fun _ => fun
  | [d1, d2, d3] => { results := [.lit (.bool false)], args := [d1, d2, d3] }
  | _ => none }
def LimitsAllowsWrongFalsely : Prop := limitsAllowsRow.holds Try.pinned (OpenSpec.ofChange limitsAllowsWrong)

/-- 'dancestudiolaw22.LimitsNarrows': WHATEVER THE INPUT: true; the input reads as it did. -/
def limitsNarrowsSpec : ChangeSpec := { name := "limitsNarrows", fn := fun _ => fun
  | [d1, d2] => { results := [.lit (.bool true)], args := [d1, d2] }
  | _ => none }
def limitsNarrowsRow : OpenClaim := { program := "ytbiedpabdkbpfaa", sum := "a733f45c56a414216187c907314beeb229bc853edc06b7cedcffdd444afe49c9", func := "dancestudio/dancestudiolaw22.LimitsNarrows", spec := "limitsNarrows", apart := false }
def LimitsNarrowsSaid : Prop := limitsNarrowsRow.holds Try.pinned (OpenSpec.ofChange limitsNarrowsSpec)

/-- ITS FALSE NEIGHBOUR: 'it returns false'. Refute it at one input. -/
def limitsNarrowsWrong : ChangeSpec := { name := "limitsNarrows", fn := fun _ => fun
  | [d1, d2] => { results := [.lit (.bool false)], args := [d1, d2] }
  | _ => none }
def LimitsNarrowsWrongFalsely : Prop := limitsNarrowsRow.holds Try.pinned (OpenSpec.ofChange limitsNarrowsWrong)

/-- 'dancestudiolaw22.LimitsNarrow': WHATEVER THE INPUT: true; the input reads as it did. -/
def limitsNarrowSpec : ChangeSpec := { name := "limitsNarrow", fn := fun _ => fun
  | [d1, d2, d3] => { results := [.lit (.bool true)], args := [d1, d2, d3] }
  | _ => none }
def limitsNarrowRow : OpenClaim := { program := "ytbiedpabdkbpfaa", sum := "a733f45c56a414216187c907314beeb229bc853edc06b7cedcffdd444afe49c9", func := "dancestudio/dancestudiolaw22.LimitsNarrow", spec := "limitsNarrow", apart := false }
def LimitsNarrowSaid : Prop := limitsNarrowRow.holds Try.pinned (OpenSpec.ofChange limitsNarrowSpec)

/-- ITS FALSE NEIGHBOUR: 'it returns false'. Refute it at one input. -/
def limitsNarrowWrong : ChangeSpec := { name := "limitsNarrow", fn := fun _ => fun
  | [d1, d2, d3] => { results := [.lit (.bool false)], args := [d1, d2, d3] }
  | _ => none }
def LimitsNarrowWrongFalsely : Prop := limitsNarrowRow.holds Try.pinned (OpenSpec.ofChange limitsNarrowWrong)

/-- 'dancestudiolaw22.LimitsSelf': WHATEVER THE INPUT: true; the input reads as it did. -/
def limitsSelfSpec : ChangeSpec := { name := "limitsSelf", fn := fun _ => fun
  | [d] => { results := [.lit (.bool true)], args := [d] }
  | _ => none }
def limitsSelfRow : OpenClaim := { program := "ytbiedpabdkbpfaa", sum := "a733f45c56a414216187c907314beeb229bc853edc06b7cedcffdd444afe49c9", func := "dancestudio/dancestudiolaw22.LimitsSelf", spec := "limitsSelf", apart := false }
def LimitsSelfSaid : Prop := limitsSelfRow.holds Try.pinned (OpenSpec.ofChange limitsSelfSpec)

/-- ITS FALSE NEIGHBOUR: 'it returns false'. Refute it at one input. -/
def limitsSelfWrong : ChangeSpec := { name := "limitsSelf", fn := fun _ => fun
  | [d] => { results := [.lit (.bool false)], args := [d] }
  | _ => none }
def LimitsSelfWrongFalsely : Prop := limitsSelfRow.holds Try.pinned (OpenSpec.ofChange limitsSelfWrong)

/-- 'dancestudiolaw22.LimitsFirst': WHATEVER THE INPUT: true; the input reads as it did. -/
def limitsFirstSpec : ChangeSpec := { name := "limitsFirst", fn := fun _ => fun
  | [d1, d2] => { results := [.lit (.bool true)], args := [d1, d2] }
  | _ => none }
def limitsFirstRow : OpenClaim := { program := "ytbiedpabdkbpfaa", sum := "a733f45c56a414216187c907314beeb229bc853edc06b7cedcffdd444afe49c9", func := "dancestudio/dancestudiolaw22.LimitsFirst", spec := "limitsFirst", apart := false }
def LimitsFirstSaid : Prop := limitsFirstRow.holds Try.pinned (OpenSpec.ofChange limitsFirstSpec)

/-- ITS FALSE NEIGHBOUR: 'it returns false'. Refute it at one input. -/
def limitsFirstWrong : ChangeSpec := { name := "limitsFirst", fn := fun _ => fun
  | [d1, d2] => { results := [.lit (.bool false)], args := [d1, d2] }
  | _ => none }
def LimitsFirstWrongFalsely : Prop := limitsFirstRow.holds Try.pinned (OpenSpec.ofChange limitsFirstWrong)

/-- 'dancestudiolaw22.LimitsHold': WHATEVER THE INPUT: true; the input reads as it did. -/
def limitsHoldSpec : ChangeSpec := { name := "limitsHold", fn := fun _ => fun
  | [d1, d2, d3] => { results := [.lit (.bool true)], args := [d1, d2, d3] }
  | _ => none }
def limitsHoldRow : OpenClaim := { program := "ytbiedpabdkbpfaa", sum := "a733f45c56a414216187c907314beeb229bc853edc06b7cedcffdd444afe49c9", func := "dancestudio/dancestudiolaw22.LimitsHold", spec := "limitsHold", apart := false }
def LimitsHoldSaid : Prop := limitsHoldRow.holds Try.pinned (OpenSpec.ofChange limitsHoldSpec)

/-- ITS FALSE NEIGHBOUR: 'it returns false'. Refute it at one input. -/
def limitsHoldWrong : ChangeSpec := { name := "limitsHold", fn := fun _ => fun
  | [d1, d2, d3] => { results := [.lit (.bool false)], args := [d1, d2, d3] }
  | _ => none }
def LimitsHoldWrongFalsely : Prop := limitsHoldRow.holds Try.pinned (OpenSpec.ofChange limitsHoldWrong)

/-- 'dancestudiolaw22.LimitsBefore': WHATEVER THE INPUT: true; the input reads as it did. -/
def limitsBeforeSpec : ChangeSpec := { name := "limitsBefore", fn := fun _ => fun
  | [d1, d2] => { results := [.lit (.bool true)], args := [d1, d2] }
  | _ => none }
def limitsBeforeRow : OpenClaim := { program := "ytbiedpabdkbpfaa", sum := "a733f45c56a414216187c907314beeb229bc853edc06b7cedcffdd444afe49c9", func := "dancestudio/dancestudiolaw22.LimitsBefore", spec := "limitsBefore", apart := false }
def LimitsBeforeSaid : Prop := limitsBeforeRow.holds Try.pinned (OpenSpec.ofChange limitsBeforeSpec)

/-- ITS FALSE NEIGHBOUR: 'it returns false'. Refute it at one input. -/
def limitsBeforeWrong : ChangeSpec := { name := "limitsBefore", fn := fun _ => fun
  | [d1, d2] => { results := [.lit (.bool false)], args := [d1, d2] }
  | _ => none }
def LimitsBeforeWrongFalsely : Prop := limitsBeforeRow.holds Try.pinned (OpenSpec.ofChange limitsBeforeWrong)

/-- 'dancestudiolaw22.LimitsMirror': WHATEVER THE INPUT: true; the input reads as it did. -/
def limitsMirrorSpec : ChangeSpec := { name := "limitsMirror", fn := fun _ => fun
  | [d1, d2, d3] => { results := [.lit (.bool true)], args := [d1, d2, d3] }
  | _ => none }
def limitsMirrorRow : OpenClaim := { program := "ytbiedpabdkbpfaa", sum := "a733f45c56a414216187c907314beeb229bc853edc06b7cedcffdd444afe49c9", func := "dancestudio/dancestudiolaw22.LimitsMirror", spec := "limitsMirror", apart := false }
def LimitsMirrorSaid : Prop := limitsMirrorRow.holds Try.pinned (OpenSpec.ofChange limitsMirrorSpec)

/-- ITS FALSE NEIGHBOUR: 'it returns false'. Refute it at one input. -/
def limitsMirrorWrong : ChangeSpec := { name := "limitsMirror", fn := fun _ => fun
  | [d1, d2, d3] => { results := [.lit (.bool false)], args := [d1, d2, d3] }
  | _ => none }
def LimitsMirrorWrongFalsely : Prop := limitsMirrorRow.holds Try.pinned (OpenSpec.ofChange limitsMirrorWrong)

/- THE SECOND FORM. 'bulk': how many values and letters a reading holds, each counted each time it is reached (what is shared counts as often as it is met; a slice's spare places count too). A statement '..UptoSaid' is the law's where the arguments, and the package variables that the reading takes, are together of bulk at most 1048576: NARROWER than '..Said'. Prove '..Said' where nothing that the law and all that it calls make is longer than what came in: it says more and counts as full. Else prove '..UptoSaid'. A law counts once. -/
mutual
def uptoBulk {H : Type} : DataW H → Nat
  | .lit (.string bytes) => bytes.length + 1
  | .lit _ => 1
  | .nil => 1
  | .ptr d => uptoBulk d + 1
  | .slice elems spare => uptoBulkAll elems + uptoBulkAll spare + 1
  | .agg parts => uptoBulkAll parts + 1
  | .iface _ d => uptoBulk d + 1
  | .map entries => uptoBulkEntries entries + 1
  | .held _ => 1
def uptoBulkAll {H : Type} : List (DataW H) → Nat
  | [] => 0
  | d :: r => uptoBulk d + uptoBulkAll r
def uptoBulkEntries {H : Type} : List (Lit × DataW H) → Nat
  | [] => 0
  | x :: r => uptoBulkEntry x + uptoBulkEntries r
def uptoBulkEntry {H : Type} : Lit × DataW H → Nat
  | (.string bytes, d) => bytes.length + uptoBulk d + 1
  | (_, d) => uptoBulk d + 1
 end
def uptoSmall : (H : Type) → List (DataW H) → Bool := fun _ ds => decide (uptoBulkAll ds ≤ 1048576)
def OpenSpec.upto (s : _root_.Go.ChangeSpec) : _root_.Go.OpenSpec := { _root_.Go.OpenSpec.ofChange s with cond := some uptoSmall }

/-- 'dancestudiolaw22.LimitsChecks', WHERE WHAT IT READS IS OF BULK AT MOST 1048576: true; the input reads as it did. -/
def limitsChecksUptoRow : OpenClaim := { program := "ytbiedpabdkbpfaa", sum := "a733f45c56a414216187c907314beeb229bc853edc06b7cedcffdd444afe49c9", func := "dancestudio/dancestudiolaw22.LimitsChecks", spec := "limitsChecks", apart := false, narrowed := true }
def LimitsChecksUptoSaid : Prop := limitsChecksUptoRow.holds Try.pinned (OpenSpec.upto limitsChecksSpec)

/-- 'dancestudiolaw22.LimitsAllows', WHERE WHAT IT READS IS OF BULK AT MOST 1048576: true; the input reads as it did. -/
def limitsAllowsUptoRow : OpenClaim := { program := "ytbiedpabdkbpfaa", sum := "a733f45c56a414216187c907314beeb229bc853edc06b7cedcffdd444afe49c9", func := "dancestudio/dancestudiolaw22.LimitsAllows", spec := "limitsAllows", apart := false, narrowed := true }
def LimitsAllowsUptoSaid : Prop := limitsAllowsUptoRow.holds Try.pinned (OpenSpec.upto limitsAllowsSpec)

/-- 'dancestudiolaw22.LimitsNarrows', WHERE WHAT IT READS IS OF BULK AT MOST 1048576: true; the input reads as it did. -/
def limitsNarrowsUptoRow : OpenClaim := { program := "ytbiedpabdkbpfaa", sum := "a733f45c56a414216187c907314beeb229bc853edc06b7cedcffdd444afe49c9", func := "dancestudio/dancestudiolaw22.LimitsNarrows", spec := "limitsNarrows", apart := false, narrowed := true }
def LimitsNarrowsUptoSaid : Prop := limitsNarrowsUptoRow.holds Try.pinned (OpenSpec.upto limitsNarrowsSpec)

/-- 'dancestudiolaw22.LimitsNarrow', WHERE WHAT IT READS IS OF BULK AT MOST 1048576: true; the input reads as it did. -/
def limitsNarrowUptoRow : OpenClaim := { program := "ytbiedpabdkbpfaa", sum := "a733f45c56a414216187c907314beeb229bc853edc06b7cedcffdd444afe49c9", func := "dancestudio/dancestudiolaw22.LimitsNarrow", spec := "limitsNarrow", apart := false, narrowed := true }
def LimitsNarrowUptoSaid : Prop := limitsNarrowUptoRow.holds Try.pinned (OpenSpec.upto limitsNarrowSpec)

/-- 'dancestudiolaw22.LimitsSelf', WHERE WHAT IT READS IS OF BULK AT MOST 1048576: true; the input reads as it did. -/
def limitsSelfUptoRow : OpenClaim := { program := "ytbiedpabdkbpfaa", sum := "a733f45c56a414216187c907314beeb229bc853edc06b7cedcffdd444afe49c9", func := "dancestudio/dancestudiolaw22.LimitsSelf", spec := "limitsSelf", apart := false, narrowed := true }
def LimitsSelfUptoSaid : Prop := limitsSelfUptoRow.holds Try.pinned (OpenSpec.upto limitsSelfSpec)

/-- 'dancestudiolaw22.LimitsFirst', WHERE WHAT IT READS IS OF BULK AT MOST 1048576: true; the input reads as it did. -/
def limitsFirstUptoRow : OpenClaim := { program := "ytbiedpabdkbpfaa", sum := "a733f45c56a414216187c907314beeb229bc853edc06b7cedcffdd444afe49c9", func := "dancestudio/dancestudiolaw22.LimitsFirst", spec := "limitsFirst", apart := false, narrowed := true }
def LimitsFirstUptoSaid : Prop := limitsFirstUptoRow.holds Try.pinned (OpenSpec.upto limitsFirstSpec)

/-- 'dancestudiolaw22.LimitsHold', WHERE WHAT IT READS IS OF BULK AT MOST 1048576: true; the input reads as it did. -/
def limitsHoldUptoRow : OpenClaim := { program := "ytbiedpabdkbpfaa", sum := "a733f45c56a414216187c907314beeb229bc853edc06b7cedcffdd444afe49c9", func := "dancestudio/dancestudiolaw22.LimitsHold", spec := "limitsHold", apart := false, narrowed := true }
def LimitsHoldUptoSaid : Prop := limitsHoldUptoRow.holds Try.pinned (OpenSpec.upto limitsHoldSpec)

/-- 'dancestudiolaw22.LimitsBefore', WHERE WHAT IT READS IS OF BULK AT MOST 1048576: true; the input reads as it did. -/
def limitsBeforeUptoRow : OpenClaim := { program := "ytbiedpabdkbpfaa", sum := "a733f45c56a414216187c907314beeb229bc853edc06b7cedcffdd444afe49c9", func := "dancestudio/dancestudiolaw22.LimitsBefore", spec := "limitsBefore", apart := false, narrowed := true }
def LimitsBeforeUptoSaid : Prop := limitsBeforeUptoRow.holds Try.pinned (OpenSpec.upto limitsBeforeSpec)

/-- 'dancestudiolaw22.LimitsMirror', WHERE WHAT IT READS IS OF BULK AT MOST 1048576: true; the input reads as it did. -/
def limitsMirrorUptoRow : OpenClaim := { program := "ytbiedpabdkbpfaa", sum := "a733f45c56a414216187c907314beeb229bc853edc06b7cedcffdd444afe49c9", func := "dancestudio/dancestudiolaw22.LimitsMirror", spec := "limitsMirror", apart := false, narrowed := true }
def LimitsMirrorUptoSaid : Prop := limitsMirrorUptoRow.holds Try.pinned (OpenSpec.upto limitsMirrorSpec)

end Rows
end Go.Proofs.Ytbiedpabdkbpfaa
