/-
  NARROWER THAN 'FOR EVERY INPUT', by the rows' own cells (each row's printed sentence says how): JointsOf: laid · JointsMoved: laid · JointsFloor: laid · JointsEnd: laid · JointsDist: laid · JointsQuarters: laid · JointsMirror: laid.
  DERIVED. THE GIVEN ROWS OF THIS SEAT. 7 by the template 'for every input the law returns true; each argument reads behind the call as it read before'; 0 by the template 'total and deterministic' (their statements: YtmcbhieaacinpaaDoorTotals.lean).
  GIVEN WITH THE SEED: the statements are not yours to turn. If you find one false, say at which input.
  Laid BY PROGRAM, IN A SANDBOX (cutbox-rows.mjs): the forced cells as the released guide's own fill.sh prints them over the translation ff587ab4d25e75e9… (all of the seat's roots in one cut). By AI agents, Wed Nov 11 2026. No macro, syntax, notation, axiom, sorry.
-/
import Derived.Test.YtmcbhieaacinpaaDoorChecked
import GoSem.Claim
import GoSem.ClaimJoined
import GoSem.ClaimMapViews
import Derived.JoinedTies
import Derived.KernelRfl
namespace Go.Proofs.YtmcbhieaacinpaaDoor
/- THE CELL 'sum', in the pinned program and in every row, IS THE sha256 OF THE DUMP (.gsa) THAT YtmcbhieaacinpaaDoorProg.lean LOADS. Nothing in Lean hashes anything: it is a label: what it is worth is what the hold of that sum in a sandbox is worth. -/
noncomputable def Tryd.pinned : Pinned := { name := "ytmcbhieaacinpaadoor", sum := "ff587ab4d25e75e9aec5366ba95eb916b4155662f847d285554eaa85ec92e474", checked := Tryd.checked }
namespace Rows
def none {H : Type} : Left H := { results := [], args := [] }

/- WHAT THE LISTED PACKAGE-LEVEL VARIABLES READ AS WHEN THE CALL BEGINS. Each datum BY PROGRAM (the guide's laid-datum.mjs) off the statement by which the dump's own 'gosem.cut.vars' lays the variable. In a bare row this is a premise. The card (YtmcbhieaacinpaaDoorCards.lean) ties it to the program's text. -/
def laid_dancestudio_angle_sines {H : Type} : DataW H := .agg [.lit (.int .i64 0), .lit (.int .i64 402), .lit (.int .i64 804), .lit (.int .i64 1205), .lit (.int .i64 1606), .lit (.int .i64 2006), .lit (.int .i64 2404), .lit (.int .i64 2801), .lit (.int .i64 3196), .lit (.int .i64 3590), .lit (.int .i64 3981), .lit (.int .i64 4370), .lit (.int .i64 4756), .lit (.int .i64 5139), .lit (.int .i64 5520), .lit (.int .i64 5897), .lit (.int .i64 6270), .lit (.int .i64 6639), .lit (.int .i64 7005), .lit (.int .i64 7366), .lit (.int .i64 7723), .lit (.int .i64 8076), .lit (.int .i64 8423), .lit (.int .i64 8765), .lit (.int .i64 9102), .lit (.int .i64 9434), .lit (.int .i64 9760), .lit (.int .i64 10080), .lit (.int .i64 10394), .lit (.int .i64 10702), .lit (.int .i64 11003), .lit (.int .i64 11297), .lit (.int .i64 11585), .lit (.int .i64 11866), .lit (.int .i64 12140), .lit (.int .i64 12406), .lit (.int .i64 12665), .lit (.int .i64 12916), .lit (.int .i64 13160), .lit (.int .i64 13395), .lit (.int .i64 13623), .lit (.int .i64 13842), .lit (.int .i64 14053), .lit (.int .i64 14256), .lit (.int .i64 14449), .lit (.int .i64 14635), .lit (.int .i64 14811), .lit (.int .i64 14978), .lit (.int .i64 15137), .lit (.int .i64 15286), .lit (.int .i64 15426), .lit (.int .i64 15557), .lit (.int .i64 15679), .lit (.int .i64 15791), .lit (.int .i64 15893), .lit (.int .i64 15986), .lit (.int .i64 16069), .lit (.int .i64 16143), .lit (.int .i64 16207), .lit (.int .i64 16261), .lit (.int .i64 16305), .lit (.int .i64 16340), .lit (.int .i64 16364), .lit (.int .i64 16379), .lit (.int .i64 16384)]
def laid_dancestudio_build_ranges {H : Type} : DataW H := .agg [.agg [.lit (.int .i64 400), .lit (.int .i64 1500)], .agg [.lit (.int .i64 200), .lit (.int .i64 1000)], .agg [.lit (.int .i64 50), .lit (.int .i64 500)], .agg [.lit (.int .i64 200), .lit (.int .i64 1200)], .agg [.lit (.int .i64 20), .lit (.int .i64 300)], .agg [.lit (.int .i64 50), .lit (.int .i64 400)], .agg [.lit (.int .i64 100), .lit (.int .i64 1200)], .agg [.lit (.int .i64 0), .lit (.int .i64 200)], .agg [.lit (.int .i64 0), .lit (.int .i64 200)], .agg [.lit (.int .i64 20), .lit (.int .i64 300)], .agg [.lit (.int .i64 100), .lit (.int .i64 1000)]]

/-- 'dancestudiolaw20.JointsOf': WHATEVER THE INPUT: true; the input reads as it did. -/
def jointsOfSpec : ChangeSpec := { name := "jointsOf", fn := fun _ => fun
  | [d1, d2, d3] => { results := [.lit (.bool true)], args := [d1, d2, d3] }
  | _ => none }
def jointsOfRow : OpenClaim := { program := "ytmcbhieaacinpaadoor", sum := "ff587ab4d25e75e9aec5366ba95eb916b4155662f847d285554eaa85ec92e474", func := "dancestudio/dancestudiolaw20.JointsOf", spec := "jointsOf", unfollowed := true, recurses := true, named := ["dancestudio/build.ranges", "dancestudio/angle.sines"], apart := false, laid := [("dancestudio/angle.sines", laid_dancestudio_angle_sines), ("dancestudio/build.ranges", laid_dancestudio_build_ranges)] }
def JointsOfSaid : Prop := jointsOfRow.holds Tryd.pinned (OpenSpec.ofChange jointsOfSpec)

/-- ITS FALSE NEIGHBOUR: 'it returns false'. Refute it at one input. -/
def jointsOfWrong : ChangeSpec := { name := "jointsOf", fn := fun _ => fun
  | [d1, d2, d3] => { results := [.lit (.bool false)], args := [d1, d2, d3] }
  | _ => none }
def JointsOfWrongFalsely : Prop := jointsOfRow.holds Tryd.pinned (OpenSpec.ofChange jointsOfWrong)

/-- 'dancestudiolaw20.JointsMoved': WHATEVER THE INPUT: true; the input reads as it did. -/
def jointsMovedSpec : ChangeSpec := { name := "jointsMoved", fn := fun _ => fun
  | [d1, d2, d3, d4] => { results := [.lit (.bool true)], args := [d1, d2, d3, d4] }
  | _ => none }
def jointsMovedRow : OpenClaim := { program := "ytmcbhieaacinpaadoor", sum := "ff587ab4d25e75e9aec5366ba95eb916b4155662f847d285554eaa85ec92e474", func := "dancestudio/dancestudiolaw20.JointsMoved", spec := "jointsMoved", unfollowed := true, recurses := true, named := ["dancestudio/build.ranges", "dancestudio/angle.sines"], apart := false, laid := [("dancestudio/angle.sines", laid_dancestudio_angle_sines), ("dancestudio/build.ranges", laid_dancestudio_build_ranges)] }
def JointsMovedSaid : Prop := jointsMovedRow.holds Tryd.pinned (OpenSpec.ofChange jointsMovedSpec)

/-- ITS FALSE NEIGHBOUR: 'it returns false'. Refute it at one input. -/
def jointsMovedWrong : ChangeSpec := { name := "jointsMoved", fn := fun _ => fun
  | [d1, d2, d3, d4] => { results := [.lit (.bool false)], args := [d1, d2, d3, d4] }
  | _ => none }
def JointsMovedWrongFalsely : Prop := jointsMovedRow.holds Tryd.pinned (OpenSpec.ofChange jointsMovedWrong)

/-- 'dancestudiolaw20.JointsFloor': WHATEVER THE INPUT: true; the input reads as it did. -/
def jointsFloorSpec : ChangeSpec := { name := "jointsFloor", fn := fun _ => fun
  | [d1, d2, d3] => { results := [.lit (.bool true)], args := [d1, d2, d3] }
  | _ => none }
def jointsFloorRow : OpenClaim := { program := "ytmcbhieaacinpaadoor", sum := "ff587ab4d25e75e9aec5366ba95eb916b4155662f847d285554eaa85ec92e474", func := "dancestudio/dancestudiolaw20.JointsFloor", spec := "jointsFloor", unfollowed := true, recurses := true, named := ["dancestudio/build.ranges", "dancestudio/angle.sines"], apart := false, laid := [("dancestudio/angle.sines", laid_dancestudio_angle_sines), ("dancestudio/build.ranges", laid_dancestudio_build_ranges)] }
def JointsFloorSaid : Prop := jointsFloorRow.holds Tryd.pinned (OpenSpec.ofChange jointsFloorSpec)

/-- ITS FALSE NEIGHBOUR: 'it returns false'. Refute it at one input. -/
def jointsFloorWrong : ChangeSpec := { name := "jointsFloor", fn := fun _ => fun
  | [d1, d2, d3] => { results := [.lit (.bool false)], args := [d1, d2, d3] }
  | _ => none }
def JointsFloorWrongFalsely : Prop := jointsFloorRow.holds Tryd.pinned (OpenSpec.ofChange jointsFloorWrong)

/-- 'dancestudiolaw20.JointsEnd': WHATEVER THE INPUT: true; the input reads as it did. -/
def jointsEndSpec : ChangeSpec := { name := "jointsEnd", fn := fun _ => fun
  | [d1, d2] => { results := [.lit (.bool true)], args := [d1, d2] }
  | _ => none }
def jointsEndRow : OpenClaim := { program := "ytmcbhieaacinpaadoor", sum := "ff587ab4d25e75e9aec5366ba95eb916b4155662f847d285554eaa85ec92e474", func := "dancestudio/dancestudiolaw20.JointsEnd", spec := "jointsEnd", unfollowed := true, recurses := true, named := ["dancestudio/build.ranges", "dancestudio/angle.sines"], apart := false, laid := [("dancestudio/angle.sines", laid_dancestudio_angle_sines), ("dancestudio/build.ranges", laid_dancestudio_build_ranges)] }
def JointsEndSaid : Prop := jointsEndRow.holds Tryd.pinned (OpenSpec.ofChange jointsEndSpec)

/-- ITS FALSE NEIGHBOUR: 'it returns false'. Refute it at one input. -/
def jointsEndWrong : ChangeSpec := { name := "jointsEnd", fn := fun _ => fun
  | [d1, d2] => { results := [.lit (.bool false)], args := [d1, d2] }
  | _ => none }
def JointsEndWrongFalsely : Prop := jointsEndRow.holds Tryd.pinned (OpenSpec.ofChange jointsEndWrong)

/-- 'dancestudiolaw20.JointsDist': WHATEVER THE INPUT: true; the input reads as it did. -/
def jointsDistSpec : ChangeSpec := { name := "jointsDist", fn := fun _ => fun
  | [d1, d2] => { results := [.lit (.bool true)], args := [d1, d2] }
  | _ => none }
def jointsDistRow : OpenClaim := { program := "ytmcbhieaacinpaadoor", sum := "ff587ab4d25e75e9aec5366ba95eb916b4155662f847d285554eaa85ec92e474", func := "dancestudio/dancestudiolaw20.JointsDist", spec := "jointsDist", unfollowed := true, recurses := true, named := ["dancestudio/build.ranges", "dancestudio/angle.sines"], apart := false, laid := [("dancestudio/angle.sines", laid_dancestudio_angle_sines), ("dancestudio/build.ranges", laid_dancestudio_build_ranges)] }
def JointsDistSaid : Prop := jointsDistRow.holds Tryd.pinned (OpenSpec.ofChange jointsDistSpec)

/-- ITS FALSE NEIGHBOUR: 'it returns false'. Refute it at one input. -/
def jointsDistWrong : ChangeSpec := { name := "jointsDist", fn := fun _ => fun
  | [d1, d2] => { results := [.lit (.bool false)], args := [d1, d2] }
  | _ => none }
def JointsDistWrongFalsely : Prop := jointsDistRow.holds Tryd.pinned (OpenSpec.ofChange jointsDistWrong)

/-- 'dancestudiolaw20.JointsQuarters': WHATEVER THE INPUT: true; the input reads as it did. -/
def jointsQuartersSpec : ChangeSpec := { name := "jointsQuarters", fn := fun _ => fun
  | [d1, d2, d3] => { results := [.lit (.bool true)], args := [d1, d2, d3] }
  | _ => none }
def jointsQuartersRow : OpenClaim := { program := "ytmcbhieaacinpaadoor", sum := "ff587ab4d25e75e9aec5366ba95eb916b4155662f847d285554eaa85ec92e474", func := "dancestudio/dancestudiolaw20.JointsQuarters", spec := "jointsQuarters", unfollowed := true, recurses := true, named := ["dancestudio/build.ranges", "dancestudio/angle.sines"], apart := false, laid := [("dancestudio/angle.sines", laid_dancestudio_angle_sines), ("dancestudio/build.ranges", laid_dancestudio_build_ranges)] }
def JointsQuartersSaid : Prop := jointsQuartersRow.holds Tryd.pinned (OpenSpec.ofChange jointsQuartersSpec)

/-- ITS FALSE NEIGHBOUR: 'it returns false'. Refute it at one input. -/
def jointsQuartersWrong : ChangeSpec := { name := "jointsQuarters", fn := fun _ => fun
  | [d1, d2, d3] => { results := [.lit (.bool false)], args := [d1, d2, d3] }
  | _ => none }
def JointsQuartersWrongFalsely : Prop := jointsQuartersRow.holds Tryd.pinned (OpenSpec.ofChange jointsQuartersWrong)

/-- 'dancestudiolaw20.JointsMirror': WHATEVER THE INPUT: true; the input reads as it did. -/
def jointsMirrorSpec : ChangeSpec := { name := "jointsMirror", fn := fun _ => fun
  | [d1, d2, d3] => { results := [.lit (.bool true)], args := [d1, d2, d3] }
  | _ => none }
def jointsMirrorRow : OpenClaim := { program := "ytmcbhieaacinpaadoor", sum := "ff587ab4d25e75e9aec5366ba95eb916b4155662f847d285554eaa85ec92e474", func := "dancestudio/dancestudiolaw20.JointsMirror", spec := "jointsMirror", unfollowed := true, recurses := true, named := ["dancestudio/build.ranges", "dancestudio/angle.sines"], apart := false, laid := [("dancestudio/angle.sines", laid_dancestudio_angle_sines), ("dancestudio/build.ranges", laid_dancestudio_build_ranges)] }
def JointsMirrorSaid : Prop := jointsMirrorRow.holds Tryd.pinned (OpenSpec.ofChange jointsMirrorSpec)

/-- ITS FALSE NEIGHBOUR: 'it returns false'. Refute it at one input. -/
def jointsMirrorWrong : ChangeSpec := { name := "jointsMirror", fn := fun _ => fun
  | [d1, d2, d3] => { results := [.lit (.bool false)], args := [d1, d2, d3] }
  | _ => none }
def JointsMirrorWrongFalsely : Prop := jointsMirrorRow.holds Tryd.pinned (OpenSpec.ofChange jointsMirrorWrong)

/- THE SECOND FORM. 'bulk': how many values and letters a reading holds, each counted each time it is reached (what is shared counts as often as it is met; a slice's spare places count too). A statement '..UptoSaid' is the law's where the arguments, and the package variables that the reading takes, are together of bulk at most 1048576: NARROWER than '..Said'. Prove '..Said' where nothing that the law and all that it calls make is longer than what came in: it says more and counts as full. Else prove '..UptoSaid'. A law counts once. -/
mutual
def uptoBulk {H : Type} : DataW H → Nat
  | .lit (.string bytes) => bytes.length + 1
  | .lit _ => 1
  | .nil => 1
  | .ptr d => uptoBulk d + 1
  | .slice elems spare => uptoBulkAll elems + uptoBulkAll spare + 1
  | .agg parts => uptoBulkAll parts + 1
  | .iface _ d => uptoBulk d + 1
  | .map entries => uptoBulkEntries entries + 1
  | .held _ => 1
def uptoBulkAll {H : Type} : List (DataW H) → Nat
  | [] => 0
  | d :: r => uptoBulk d + uptoBulkAll r
def uptoBulkEntries {H : Type} : List (Lit × DataW H) → Nat
  | [] => 0
  | x :: r => uptoBulkEntry x + uptoBulkEntries r
def uptoBulkEntry {H : Type} : Lit × DataW H → Nat
  | (.string bytes, d) => bytes.length + uptoBulk d + 1
  | (_, d) => uptoBulk d + 1
 end
def uptoSmall : (H : Type) → List (DataW H) → Bool := fun _ ds => decide (uptoBulkAll ds ≤ 1048576)
def OpenSpec.upto (s : _root_.Go.ChangeSpec) : _root_.Go.OpenSpec := { _root_.Go.OpenSpec.ofChange s with cond := some uptoSmall }

/-- 'dancestudiolaw20.JointsOf', WHERE WHAT IT READS IS OF BULK AT MOST 1048576: true; the input reads as it did. -/
def jointsOfUptoRow : OpenClaim := { program := "ytmcbhieaacinpaadoor", sum := "ff587ab4d25e75e9aec5366ba95eb916b4155662f847d285554eaa85ec92e474", func := "dancestudio/dancestudiolaw20.JointsOf", spec := "jointsOf", unfollowed := true, recurses := true, named := ["dancestudio/build.ranges", "dancestudio/angle.sines"], apart := false, laid := [("dancestudio/angle.sines", laid_dancestudio_angle_sines), ("dancestudio/build.ranges", laid_dancestudio_build_ranges)], narrowed := true }
def JointsOfUptoSaid : Prop := jointsOfUptoRow.holds Tryd.pinned (OpenSpec.upto jointsOfSpec)

/-- 'dancestudiolaw20.JointsMoved', WHERE WHAT IT READS IS OF BULK AT MOST 1048576: true; the input reads as it did. -/
def jointsMovedUptoRow : OpenClaim := { program := "ytmcbhieaacinpaadoor", sum := "ff587ab4d25e75e9aec5366ba95eb916b4155662f847d285554eaa85ec92e474", func := "dancestudio/dancestudiolaw20.JointsMoved", spec := "jointsMoved", unfollowed := true, recurses := true, named := ["dancestudio/build.ranges", "dancestudio/angle.sines"], apart := false, laid := [("dancestudio/angle.sines", laid_dancestudio_angle_sines), ("dancestudio/build.ranges", laid_dancestudio_build_ranges)], narrowed := true }
def JointsMovedUptoSaid : Prop := jointsMovedUptoRow.holds Tryd.pinned (OpenSpec.upto jointsMovedSpec)

/-- 'dancestudiolaw20.JointsFloor', WHERE WHAT IT READS IS OF BULK AT MOST 1048576: true; the input reads as it did. -/
def jointsFloorUptoRow : OpenClaim := { program := "ytmcbhieaacinpaadoor", sum := "ff587ab4d25e75e9aec5366ba95eb916b4155662f847d285554eaa85ec92e474", func := "dancestudio/dancestudiolaw20.JointsFloor", spec := "jointsFloor", unfollowed := true, recurses := true, named := ["dancestudio/build.ranges", "dancestudio/angle.sines"], apart := false, laid := [("dancestudio/angle.sines", laid_dancestudio_angle_sines), ("dancestudio/build.ranges", laid_dancestudio_build_ranges)], narrowed := true }
def JointsFloorUptoSaid : Prop := jointsFloorUptoRow.holds Tryd.pinned (OpenSpec.upto jointsFloorSpec)

/-- 'dancestudiolaw20.JointsEnd', WHERE WHAT IT READS IS OF BULK AT MOST 1048576: true; the input reads as it did. -/
def jointsEndUptoRow : OpenClaim := { program := "ytmcbhieaacinpaadoor", sum := "ff587ab4d25e75e9aec5366ba95eb916b4155662f847d285554eaa85ec92e474", func := "dancestudio/dancestudiolaw20.JointsEnd", spec := "jointsEnd", unfollowed := true, recurses := true, named := ["dancestudio/build.ranges", "dancestudio/angle.sines"], apart := false, laid := [("dancestudio/angle.sines", laid_dancestudio_angle_sines), ("dancestudio/build.ranges", laid_dancestudio_build_ranges)], narrowed := true }
def JointsEndUptoSaid : Prop := jointsEndUptoRow.holds Tryd.pinned (OpenSpec.upto jointsEndSpec)

/-- 'dancestudiolaw20.JointsDist', WHERE WHAT IT READS IS OF BULK AT MOST 1048576: true; the input reads as it did. -/
def jointsDistUptoRow : OpenClaim := { program := "ytmcbhieaacinpaadoor", sum := "ff587ab4d25e75e9aec5366ba95eb916b4155662f847d285554eaa85ec92e474", func := "dancestudio/dancestudiolaw20.JointsDist", spec := "jointsDist", unfollowed := true, recurses := true, named := ["dancestudio/build.ranges", "dancestudio/angle.sines"], apart := false, laid := [("dancestudio/angle.sines", laid_dancestudio_angle_sines), ("dancestudio/build.ranges", laid_dancestudio_build_ranges)], narrowed := true }
def JointsDistUptoSaid : Prop := jointsDistUptoRow.holds Tryd.pinned (OpenSpec.upto jointsDistSpec)

/-- 'dancestudiolaw20.JointsQuarters', WHERE WHAT IT READS IS OF BULK AT MOST 1048576: true; the input reads as it did. -/
def jointsQuartersUptoRow : OpenClaim := { program := "ytmcbhieaacinpaadoor", sum := "ff587ab4d25e75e9aec5366ba95eb916b4155662f847d285554eaa85ec92e474", func := "dancestudio/dancestudiolaw20.JointsQuarters", spec := "jointsQuarters", unfollowed := true, recurses := true, named := ["dancestudio/build.ranges", "dancestudio/angle.sines"], apart := false, laid := [("dancestudio/angle.sines", laid_dancestudio_angle_sines), ("dancestudio/build.ranges", laid_dancestudio_build_ranges)], narrowed := true }
def JointsQuartersUptoSaid : Prop := jointsQuartersUptoRow.holds Tryd.pinned (OpenSpec.upto jointsQuartersSpec)

/-- 'dancestudiolaw20.JointsMirror', WHERE WHAT IT READS IS OF BULK AT MOST 1048576: true; the input reads as it did. -/
def jointsMirrorUptoRow : OpenClaim := { program := "ytmcbhieaacinpaadoor", sum := "ff587ab4d25e75e9aec5366ba95eb916b4155662f847d285554eaa85ec92e474", func := "dancestudio/dancestudiolaw20.JointsMirror", spec := "jointsMirror", unfollowed := true, recurses := true, named := ["dancestudio/build.ranges", "dancestudio/angle.sines"], apart := false, laid := [("dancestudio/angle.sines", laid_dancestudio_angle_sines), ("dancestudio/build.ranges", laid_dancestudio_build_ranges)], narrowed := true }
def JointsMirrorUptoSaid : Prop := jointsMirrorUptoRow.holds Tryd.pinned (OpenSpec.upto jointsMirrorSpec)

end Rows
end Go.Proofs.YtmcbhieaacinpaaDoor
