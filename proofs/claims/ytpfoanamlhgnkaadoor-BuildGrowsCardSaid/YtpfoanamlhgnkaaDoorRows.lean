/-
  NARROWER THAN 'FOR EVERY INPUT', by the rows' own cells (each row's printed sentence says how): BuildCheck: laid · BuildStep: laid · BuildMass: laid · BuildScaled: laid · BuildSteps: laid · BuildLength: laid · BuildGrows: laid.
  DERIVED. THE GIVEN ROWS OF THIS SEAT. 7 by the template 'for every input the law returns true; each argument reads behind the call as it read before'; 0 by the template 'total and deterministic' (their statements: YtpfoanamlhgnkaaDoorTotals.lean).
  GIVEN WITH THE SEED: the statements are not yours to turn. If you find one false, say at which input.
  Laid BY PROGRAM, IN A SANDBOX (cutbox-rows.mjs): the forced cells as the released guide's own fill.sh prints them over the translation a0ab31709e046652… (all of the seat's roots in one cut). By AI agents, Wed Nov 11 2026. No macro, syntax, notation, axiom, sorry.
-/
import Derived.Test.YtpfoanamlhgnkaaDoorChecked
import GoSem.Claim
import GoSem.ClaimJoined
import GoSem.ClaimMapViews
import Derived.JoinedTies
import Derived.KernelRfl
namespace Go.Proofs.YtpfoanamlhgnkaaDoor
/- THE CELL 'sum', in the pinned program and in every row, IS THE sha256 OF THE DUMP (.gsa) THAT YtpfoanamlhgnkaaDoorProg.lean LOADS. Nothing in Lean hashes anything: it is a label: what it is worth is what the hold of that sum in a sandbox is worth. -/
noncomputable def Tryd.pinned : Pinned := { name := "ytpfoanamlhgnkaadoor", sum := "a0ab31709e04665283b6e504ce198106aed3037f3162b431a977a4b556727cab", checked := Tryd.checked }
namespace Rows
def none {H : Type} : Left H := { results := [], args := [] }

/- WHAT THE LISTED PACKAGE-LEVEL VARIABLES READ AS WHEN THE CALL BEGINS. Each datum BY PROGRAM (the guide's laid-datum.mjs) off the statement by which the dump's own 'gosem.cut.vars' lays the variable. In a bare row this is a premise. The card (YtpfoanamlhgnkaaDoorCards.lean) ties it to the program's text. -/
def laid_dancestudio_build_ranges {H : Type} : DataW H := .agg [.agg [.lit (.int .i64 400), .lit (.int .i64 1500)], .agg [.lit (.int .i64 200), .lit (.int .i64 1000)], .agg [.lit (.int .i64 50), .lit (.int .i64 500)], .agg [.lit (.int .i64 200), .lit (.int .i64 1200)], .agg [.lit (.int .i64 20), .lit (.int .i64 300)], .agg [.lit (.int .i64 50), .lit (.int .i64 400)], .agg [.lit (.int .i64 100), .lit (.int .i64 1200)], .agg [.lit (.int .i64 0), .lit (.int .i64 200)], .agg [.lit (.int .i64 0), .lit (.int .i64 200)], .agg [.lit (.int .i64 20), .lit (.int .i64 300)], .agg [.lit (.int .i64 100), .lit (.int .i64 1000)]]

/-- 'dancestudiolaw17.BuildCheck': WHATEVER THE INPUT: true; the input reads as it did. -/
def buildCheckSpec : ChangeSpec := { name := "buildCheck", fn := fun _ => fun
  | [d1, d2] => { results := [.lit (.bool true)], args := [d1, d2] }
  | _ => none }
def buildCheckRow : OpenClaim := { program := "ytpfoanamlhgnkaadoor", sum := "a0ab31709e04665283b6e504ce198106aed3037f3162b431a977a4b556727cab", func := "dancestudio/dancestudiolaw17.BuildCheck", spec := "buildCheck", named := ["dancestudio/build.ranges"], apart := false, laid := [("dancestudio/build.ranges", laid_dancestudio_build_ranges)] }
def BuildCheckSaid : Prop := buildCheckRow.holds Tryd.pinned (OpenSpec.ofChange buildCheckSpec)

/-- ITS FALSE NEIGHBOUR: 'it returns false'. Refute it at one input. -/
def buildCheckWrong : ChangeSpec := { name := "buildCheck", fn := fun _ => fun
  | [d1, d2] => { results := [.lit (.bool false)], args := [d1, d2] }
  | _ => none }
def BuildCheckWrongFalsely : Prop := buildCheckRow.holds Tryd.pinned (OpenSpec.ofChange buildCheckWrong)

/-- 'dancestudiolaw17.BuildStep': WHATEVER THE INPUT: true; the input reads as it did. -/
def buildStepSpec : ChangeSpec := { name := "buildStep", fn := fun _ => fun
  | [d1, d2] => { results := [.lit (.bool true)], args := [d1, d2] }
  | _ => none }
def buildStepRow : OpenClaim := { program := "ytpfoanamlhgnkaadoor", sum := "a0ab31709e04665283b6e504ce198106aed3037f3162b431a977a4b556727cab", func := "dancestudio/dancestudiolaw17.BuildStep", spec := "buildStep", named := ["dancestudio/build.ranges"], apart := false, laid := [("dancestudio/build.ranges", laid_dancestudio_build_ranges)] }
def BuildStepSaid : Prop := buildStepRow.holds Tryd.pinned (OpenSpec.ofChange buildStepSpec)

/-- ITS FALSE NEIGHBOUR: 'it returns false'. Refute it at one input. -/
def buildStepWrong : ChangeSpec := { name := "buildStep", fn := fun _ => fun
  | [d1, d2] => { results := [.lit (.bool false)], args := [d1, d2] }
  | _ => none }
def BuildStepWrongFalsely : Prop := buildStepRow.holds Tryd.pinned (OpenSpec.ofChange buildStepWrong)

/-- 'dancestudiolaw17.BuildMass': WHATEVER THE INPUT: true; the input reads as it did. -/
def buildMassSpec : ChangeSpec := { name := "buildMass", fn := fun _ => fun
  | [d] => { results := [.lit (.bool true)], args := [d] }
  | _ => none }
def buildMassRow : OpenClaim := { program := "ytpfoanamlhgnkaadoor", sum := "a0ab31709e04665283b6e504ce198106aed3037f3162b431a977a4b556727cab", func := "dancestudio/dancestudiolaw17.BuildMass", spec := "buildMass", named := ["dancestudio/build.ranges"], apart := false, laid := [("dancestudio/build.ranges", laid_dancestudio_build_ranges)] }
def BuildMassSaid : Prop := buildMassRow.holds Tryd.pinned (OpenSpec.ofChange buildMassSpec)

/-- ITS FALSE NEIGHBOUR: 'it returns false'. Refute it at one input. -/
def buildMassWrong : ChangeSpec := { name := "buildMass", fn := fun _ => fun
  | [d] => { results := [.lit (.bool false)], args := [d] }
  | _ => none }
def BuildMassWrongFalsely : Prop := buildMassRow.holds Tryd.pinned (OpenSpec.ofChange buildMassWrong)

/-- 'dancestudiolaw17.BuildScaled': WHATEVER THE INPUT: true; the input reads as it did. -/
def buildScaledSpec : ChangeSpec := { name := "buildScaled", fn := fun _ => fun
  | [d1, d2] => { results := [.lit (.bool true)], args := [d1, d2] }
  | _ => none }
def buildScaledRow : OpenClaim := { program := "ytpfoanamlhgnkaadoor", sum := "a0ab31709e04665283b6e504ce198106aed3037f3162b431a977a4b556727cab", func := "dancestudio/dancestudiolaw17.BuildScaled", spec := "buildScaled", named := ["dancestudio/build.ranges"], apart := false, laid := [("dancestudio/build.ranges", laid_dancestudio_build_ranges)] }
def BuildScaledSaid : Prop := buildScaledRow.holds Tryd.pinned (OpenSpec.ofChange buildScaledSpec)

/-- ITS FALSE NEIGHBOUR: 'it returns false'. Refute it at one input. -/
def buildScaledWrong : ChangeSpec := { name := "buildScaled", fn := fun _ => fun
  | [d1, d2] => { results := [.lit (.bool false)], args := [d1, d2] }
  | _ => none }
def BuildScaledWrongFalsely : Prop := buildScaledRow.holds Tryd.pinned (OpenSpec.ofChange buildScaledWrong)

/-- 'dancestudiolaw17.BuildSteps': WHATEVER THE INPUT: true; the input reads as it did. -/
def buildStepsSpec : ChangeSpec := { name := "buildSteps", fn := fun _ => fun
  | [d1, d2] => { results := [.lit (.bool true)], args := [d1, d2] }
  | _ => none }
def buildStepsRow : OpenClaim := { program := "ytpfoanamlhgnkaadoor", sum := "a0ab31709e04665283b6e504ce198106aed3037f3162b431a977a4b556727cab", func := "dancestudio/dancestudiolaw17.BuildSteps", spec := "buildSteps", named := ["dancestudio/build.ranges"], apart := false, laid := [("dancestudio/build.ranges", laid_dancestudio_build_ranges)] }
def BuildStepsSaid : Prop := buildStepsRow.holds Tryd.pinned (OpenSpec.ofChange buildStepsSpec)

/-- ITS FALSE NEIGHBOUR: 'it returns false'. Refute it at one input. -/
def buildStepsWrong : ChangeSpec := { name := "buildSteps", fn := fun _ => fun
  | [d1, d2] => { results := [.lit (.bool false)], args := [d1, d2] }
  | _ => none }
def BuildStepsWrongFalsely : Prop := buildStepsRow.holds Tryd.pinned (OpenSpec.ofChange buildStepsWrong)

/-- 'dancestudiolaw17.BuildLength': WHATEVER THE INPUT: true; the input reads as it did. -/
def buildLengthSpec : ChangeSpec := { name := "buildLength", fn := fun _ => fun
  | [d1, d2] => { results := [.lit (.bool true)], args := [d1, d2] }
  | _ => none }
def buildLengthRow : OpenClaim := { program := "ytpfoanamlhgnkaadoor", sum := "a0ab31709e04665283b6e504ce198106aed3037f3162b431a977a4b556727cab", func := "dancestudio/dancestudiolaw17.BuildLength", spec := "buildLength", named := ["dancestudio/build.ranges"], apart := false, laid := [("dancestudio/build.ranges", laid_dancestudio_build_ranges)] }
def BuildLengthSaid : Prop := buildLengthRow.holds Tryd.pinned (OpenSpec.ofChange buildLengthSpec)

/-- ITS FALSE NEIGHBOUR: 'it returns false'. Refute it at one input. -/
def buildLengthWrong : ChangeSpec := { name := "buildLength", fn := fun _ => fun
  | [d1, d2] => { results := [.lit (.bool false)], args := [d1, d2] }
  | _ => none }
def BuildLengthWrongFalsely : Prop := buildLengthRow.holds Tryd.pinned (OpenSpec.ofChange buildLengthWrong)

/-- 'dancestudiolaw17.BuildGrows': WHATEVER THE INPUT: true; the input reads as it did. -/
def buildGrowsSpec : ChangeSpec := { name := "buildGrows", fn := fun _ => fun
  | [d1, d2, d3] => { results := [.lit (.bool true)], args := [d1, d2, d3] }
  | _ => none }
def buildGrowsRow : OpenClaim := { program := "ytpfoanamlhgnkaadoor", sum := "a0ab31709e04665283b6e504ce198106aed3037f3162b431a977a4b556727cab", func := "dancestudio/dancestudiolaw17.BuildGrows", spec := "buildGrows", named := ["dancestudio/build.ranges"], apart := false, laid := [("dancestudio/build.ranges", laid_dancestudio_build_ranges)] }
def BuildGrowsSaid : Prop := buildGrowsRow.holds Tryd.pinned (OpenSpec.ofChange buildGrowsSpec)

/-- ITS FALSE NEIGHBOUR: 'it returns false'. Refute it at one input. -/
def buildGrowsWrong : ChangeSpec := { name := "buildGrows", fn := fun _ => fun
  | [d1, d2, d3] => { results := [.lit (.bool false)], args := [d1, d2, d3] }
  | _ => none }
def BuildGrowsWrongFalsely : Prop := buildGrowsRow.holds Tryd.pinned (OpenSpec.ofChange buildGrowsWrong)

/- THE SECOND FORM. 'bulk': how many values and letters a reading holds, each counted each time it is reached (what is shared counts as often as it is met; a slice's spare places count too). A statement '..UptoSaid' is the law's where the arguments, and the package variables that the reading takes, are together of bulk at most 1048576: NARROWER than '..Said'. Prove '..Said' where nothing that the law and all that it calls make is longer than what came in: it says more and counts as full. Else prove '..UptoSaid'. A law counts once. -/
mutual
def uptoBulk {H : Type} : DataW H → Nat
  | .lit (.string bytes) => bytes.length + 1
  | .lit _ => 1
  | .nil => 1
  | .ptr d => uptoBulk d + 1
  | .slice elems spare => uptoBulkAll elems + uptoBulkAll spare + 1
  | .agg parts => uptoBulkAll parts + 1
  | .iface _ d => uptoBulk d + 1
  | .map entries => uptoBulkEntries entries + 1
  | .held _ => 1
def uptoBulkAll {H : Type} : List (DataW H) → Nat
  | [] => 0
  | d :: r => uptoBulk d + uptoBulkAll r
def uptoBulkEntries {H : Type} : List (Lit × DataW H) → Nat
  | [] => 0
  | x :: r => uptoBulkEntry x + uptoBulkEntries r
def uptoBulkEntry {H : Type} : Lit × DataW H → Nat
  | (.string bytes, d) => bytes.length + uptoBulk d + 1
  | (_, d) => uptoBulk d + 1
 end
def uptoSmall : (H : Type) → List (DataW H) → Bool := fun _ ds => decide (uptoBulkAll ds ≤ 1048576)
def OpenSpec.upto (s : _root_.Go.ChangeSpec) : _root_.Go.OpenSpec := { _root_.Go.OpenSpec.ofChange s with cond := some uptoSmall }

/-- 'dancestudiolaw17.BuildCheck', WHERE WHAT IT READS IS OF BULK AT MOST 1048576: true; the input reads as it did. -/
def buildCheckUptoRow : OpenClaim := { program := "ytpfoanamlhgnkaadoor", sum := "a0ab31709e04665283b6e504ce198106aed3037f3162b431a977a4b556727cab", func := "dancestudio/dancestudiolaw17.BuildCheck", spec := "buildCheck", named := ["dancestudio/build.ranges"], apart := false, laid := [("dancestudio/build.ranges", laid_dancestudio_build_ranges)], narrowed := true }
def BuildCheckUptoSaid : Prop := buildCheckUptoRow.holds Tryd.pinned (OpenSpec.upto buildCheckSpec)

/-- 'dancestudiolaw17.BuildStep', WHERE WHAT IT READS IS OF BULK AT MOST 1048576: true; the input reads as it did. -/
def buildStepUptoRow : OpenClaim := { program := "ytpfoanamlhgnkaadoor", sum := "a0ab31709e04665283b6e504ce198106aed3037f3162b431a977a4b556727cab", func := "dancestudio/dancestudiolaw17.BuildStep", spec := "buildStep", named := ["dancestudio/build.ranges"], apart := false, laid := [("dancestudio/build.ranges", laid_dancestudio_build_ranges)], narrowed := true }
def BuildStepUptoSaid : Prop := buildStepUptoRow.holds Tryd.pinned (OpenSpec.upto buildStepSpec)

/-- 'dancestudiolaw17.BuildMass', WHERE WHAT IT READS IS OF BULK AT MOST 1048576: true; the input reads as it did. -/
def buildMassUptoRow : OpenClaim := { program := "ytpfoanamlhgnkaadoor", sum := "a0ab31709e04665283b6e504ce198106aed3037f3162b431a977a4b556727cab", func := "dancestudio/dancestudiolaw17.BuildMass", spec := "buildMass", named := ["dancestudio/build.ranges"], apart := false, laid := [("dancestudio/build.ranges", laid_dancestudio_build_ranges)], narrowed := true }
def BuildMassUptoSaid : Prop := buildMassUptoRow.holds Tryd.pinned (OpenSpec.upto buildMassSpec)

/-- 'dancestudiolaw17.BuildScaled', WHERE WHAT IT READS IS OF BULK AT MOST 1048576: true; the input reads as it did. -/
def buildScaledUptoRow : OpenClaim := { program := "ytpfoanamlhgnkaadoor", sum := "a0ab31709e04665283b6e504ce198106aed3037f3162b431a977a4b556727cab", func := "dancestudio/dancestudiolaw17.BuildScaled", spec := "buildScaled", named := ["dancestudio/build.ranges"], apart := false, laid := [("dancestudio/build.ranges", laid_dancestudio_build_ranges)], narrowed := true }
def BuildScaledUptoSaid : Prop := buildScaledUptoRow.holds Tryd.pinned (OpenSpec.upto buildScaledSpec)

/-- 'dancestudiolaw17.BuildSteps', WHERE WHAT IT READS IS OF BULK AT MOST 1048576: true; the input reads as it did. -/
def buildStepsUptoRow : OpenClaim := { program := "ytpfoanamlhgnkaadoor", sum := "a0ab31709e04665283b6e504ce198106aed3037f3162b431a977a4b556727cab", func := "dancestudio/dancestudiolaw17.BuildSteps", spec := "buildSteps", named := ["dancestudio/build.ranges"], apart := false, laid := [("dancestudio/build.ranges", laid_dancestudio_build_ranges)], narrowed := true }
def BuildStepsUptoSaid : Prop := buildStepsUptoRow.holds Tryd.pinned (OpenSpec.upto buildStepsSpec)

/-- 'dancestudiolaw17.BuildLength', WHERE WHAT IT READS IS OF BULK AT MOST 1048576: true; the input reads as it did. -/
def buildLengthUptoRow : OpenClaim := { program := "ytpfoanamlhgnkaadoor", sum := "a0ab31709e04665283b6e504ce198106aed3037f3162b431a977a4b556727cab", func := "dancestudio/dancestudiolaw17.BuildLength", spec := "buildLength", named := ["dancestudio/build.ranges"], apart := false, laid := [("dancestudio/build.ranges", laid_dancestudio_build_ranges)], narrowed := true }
def BuildLengthUptoSaid : Prop := buildLengthUptoRow.holds Tryd.pinned (OpenSpec.upto buildLengthSpec)

/-- 'dancestudiolaw17.BuildGrows', WHERE WHAT IT READS IS OF BULK AT MOST 1048576: true; the input reads as it did. -/
def buildGrowsUptoRow : OpenClaim := { program := "ytpfoanamlhgnkaadoor", sum := "a0ab31709e04665283b6e504ce198106aed3037f3162b431a977a4b556727cab", func := "dancestudio/dancestudiolaw17.BuildGrows", spec := "buildGrows", named := ["dancestudio/build.ranges"], apart := false, laid := [("dancestudio/build.ranges", laid_dancestudio_build_ranges)], narrowed := true }
def BuildGrowsUptoSaid : Prop := buildGrowsUptoRow.holds Tryd.pinned (OpenSpec.upto buildGrowsSpec)

end Rows
end Go.Proofs.YtpfoanamlhgnkaaDoor
