/-
  NARROWER THAN 'FOR EVERY INPUT', by the rows' own cells (each row's printed sentence says how): BalanceCenters: laid · BalanceStable: laid · BalanceFirst: laid · BalanceMoves: laid · BalanceFeet: laid · BalanceTicks: laid · BalanceMirror: laid.
  DERIVED. THE GIVEN ROWS OF THIS SEAT. 7 by the template 'for every input the law returns true; each argument reads behind the call as it read before'; 0 by the template 'total and deterministic' (their statements: YtggiamcgkiaicaaDoorTotals.lean).
  GIVEN WITH THE SEED: the statements are not yours to turn. If you find one false, say at which input.
  Laid BY PROGRAM, IN A SANDBOX (cutbox-rows.mjs): the forced cells as the released guide's own fill.sh prints them over the translation 8369760e38e29c12… (all of the seat's roots in one cut). By AI agents, Wed Nov 11 2026. No macro, syntax, notation, axiom, sorry.
-/
import Derived.Test.YtggiamcgkiaicaaDoorChecked
import GoSem.Claim
import GoSem.ClaimJoined
import GoSem.ClaimMapViews
import Derived.JoinedTies
import Derived.KernelRfl
namespace Go.Proofs.YtggiamcgkiaicaaDoor
/- THE CELL 'sum', in the pinned program and in every row, IS THE sha256 OF THE DUMP (.gsa) THAT YtggiamcgkiaicaaDoorProg.lean LOADS. Nothing in Lean hashes anything: it is a label: what it is worth is what the hold of that sum in a sandbox is worth. -/
noncomputable def Tryd.pinned : Pinned := { name := "ytggiamcgkiaicaadoor", sum := "8369760e38e29c1217881a6c97c221d5cf593be5e05c6a173303dc7a0a6770e1", checked := Tryd.checked }
namespace Rows
def none {H : Type} : Left H := { results := [], args := [] }

/- WHAT THE LISTED PACKAGE-LEVEL VARIABLES READ AS WHEN THE CALL BEGINS. Each datum BY PROGRAM (the guide's laid-datum.mjs) off the statement by which the dump's own 'gosem.cut.vars' lays the variable. In a bare row this is a premise. The card (YtggiamcgkiaicaaDoorCards.lean) ties it to the program's text. -/
def laid_dancestudio_angle_sines {H : Type} : DataW H := .agg [.lit (.int .i64 0), .lit (.int .i64 402), .lit (.int .i64 804), .lit (.int .i64 1205), .lit (.int .i64 1606), .lit (.int .i64 2006), .lit (.int .i64 2404), .lit (.int .i64 2801), .lit (.int .i64 3196), .lit (.int .i64 3590), .lit (.int .i64 3981), .lit (.int .i64 4370), .lit (.int .i64 4756), .lit (.int .i64 5139), .lit (.int .i64 5520), .lit (.int .i64 5897), .lit (.int .i64 6270), .lit (.int .i64 6639), .lit (.int .i64 7005), .lit (.int .i64 7366), .lit (.int .i64 7723), .lit (.int .i64 8076), .lit (.int .i64 8423), .lit (.int .i64 8765), .lit (.int .i64 9102), .lit (.int .i64 9434), .lit (.int .i64 9760), .lit (.int .i64 10080), .lit (.int .i64 10394), .lit (.int .i64 10702), .lit (.int .i64 11003), .lit (.int .i64 11297), .lit (.int .i64 11585), .lit (.int .i64 11866), .lit (.int .i64 12140), .lit (.int .i64 12406), .lit (.int .i64 12665), .lit (.int .i64 12916), .lit (.int .i64 13160), .lit (.int .i64 13395), .lit (.int .i64 13623), .lit (.int .i64 13842), .lit (.int .i64 14053), .lit (.int .i64 14256), .lit (.int .i64 14449), .lit (.int .i64 14635), .lit (.int .i64 14811), .lit (.int .i64 14978), .lit (.int .i64 15137), .lit (.int .i64 15286), .lit (.int .i64 15426), .lit (.int .i64 15557), .lit (.int .i64 15679), .lit (.int .i64 15791), .lit (.int .i64 15893), .lit (.int .i64 15986), .lit (.int .i64 16069), .lit (.int .i64 16143), .lit (.int .i64 16207), .lit (.int .i64 16261), .lit (.int .i64 16305), .lit (.int .i64 16340), .lit (.int .i64 16364), .lit (.int .i64 16379), .lit (.int .i64 16384)]
def laid_dancestudio_build_ranges {H : Type} : DataW H := .agg [.agg [.lit (.int .i64 400), .lit (.int .i64 1500)], .agg [.lit (.int .i64 200), .lit (.int .i64 1000)], .agg [.lit (.int .i64 50), .lit (.int .i64 500)], .agg [.lit (.int .i64 200), .lit (.int .i64 1200)], .agg [.lit (.int .i64 20), .lit (.int .i64 300)], .agg [.lit (.int .i64 50), .lit (.int .i64 400)], .agg [.lit (.int .i64 100), .lit (.int .i64 1200)], .agg [.lit (.int .i64 0), .lit (.int .i64 200)], .agg [.lit (.int .i64 0), .lit (.int .i64 200)], .agg [.lit (.int .i64 20), .lit (.int .i64 300)], .agg [.lit (.int .i64 100), .lit (.int .i64 1000)]]

/-- 'dancestudiolaw21.BalanceCenters': WHATEVER THE INPUT: true; the input reads as it did. -/
def balanceCentersSpec : ChangeSpec := { name := "balanceCenters", fn := fun _ => fun
  | [d1, d2, d3] => { results := [.lit (.bool true)], args := [d1, d2, d3] }
  | _ => none }
def balanceCentersRow : OpenClaim := { program := "ytggiamcgkiaicaadoor", sum := "8369760e38e29c1217881a6c97c221d5cf593be5e05c6a173303dc7a0a6770e1", func := "dancestudio/dancestudiolaw21.BalanceCenters", spec := "balanceCenters", unfollowed := true, recurses := true, named := ["dancestudio/build.ranges", "dancestudio/angle.sines"], apart := false, laid := [("dancestudio/angle.sines", laid_dancestudio_angle_sines), ("dancestudio/build.ranges", laid_dancestudio_build_ranges)] }
def BalanceCentersSaid : Prop := balanceCentersRow.holds Tryd.pinned (OpenSpec.ofChange balanceCentersSpec)

/-- ITS FALSE NEIGHBOUR: 'it returns false'. Refute it at one input. -/
def balanceCentersWrong : ChangeSpec := { name := "balanceCenters", fn := fun _ => fun
  | [d1, d2, d3] => { results := [.lit (.bool false)], args := [d1, d2, d3] }
  | _ => none }
def BalanceCentersWrongFalsely : Prop := balanceCentersRow.holds Tryd.pinned (OpenSpec.ofChange balanceCentersWrong)

/-- 'dancestudiolaw21.BalanceStable': WHATEVER THE INPUT: true; the input reads as it did. -/
def balanceStableSpec : ChangeSpec := { name := "balanceStable", fn := fun _ => fun
  | [d1, d2, d3] => { results := [.lit (.bool true)], args := [d1, d2, d3] }
  | _ => none }
def balanceStableRow : OpenClaim := { program := "ytggiamcgkiaicaadoor", sum := "8369760e38e29c1217881a6c97c221d5cf593be5e05c6a173303dc7a0a6770e1", func := "dancestudio/dancestudiolaw21.BalanceStable", spec := "balanceStable", unfollowed := true, recurses := true, named := ["dancestudio/build.ranges", "dancestudio/angle.sines"], apart := false, laid := [("dancestudio/angle.sines", laid_dancestudio_angle_sines), ("dancestudio/build.ranges", laid_dancestudio_build_ranges)] }
def BalanceStableSaid : Prop := balanceStableRow.holds Tryd.pinned (OpenSpec.ofChange balanceStableSpec)

/-- ITS FALSE NEIGHBOUR: 'it returns false'. Refute it at one input. -/
def balanceStableWrong : ChangeSpec := { name := "balanceStable", fn := fun _ => fun
  | [d1, d2, d3] => { results := [.lit (.bool false)], args := [d1, d2, d3] }
  | _ => none }
def BalanceStableWrongFalsely : Prop := balanceStableRow.holds Tryd.pinned (OpenSpec.ofChange balanceStableWrong)

/-- 'dancestudiolaw21.BalanceFirst': WHATEVER THE INPUT: true; the input reads as it did. -/
def balanceFirstSpec : ChangeSpec := { name := "balanceFirst", fn := fun _ => fun
  | [d1, d2] => { results := [.lit (.bool true)], args := [d1, d2] }
  | _ => none }
def balanceFirstRow : OpenClaim := { program := "ytggiamcgkiaicaadoor", sum := "8369760e38e29c1217881a6c97c221d5cf593be5e05c6a173303dc7a0a6770e1", func := "dancestudio/dancestudiolaw21.BalanceFirst", spec := "balanceFirst", unfollowed := true, recurses := true, named := ["dancestudio/build.ranges", "dancestudio/angle.sines"], apart := false, laid := [("dancestudio/angle.sines", laid_dancestudio_angle_sines), ("dancestudio/build.ranges", laid_dancestudio_build_ranges)] }
def BalanceFirstSaid : Prop := balanceFirstRow.holds Tryd.pinned (OpenSpec.ofChange balanceFirstSpec)

/-- ITS FALSE NEIGHBOUR: 'it returns false'. Refute it at one input. -/
def balanceFirstWrong : ChangeSpec := { name := "balanceFirst", fn := fun _ => fun
  | [d1, d2] => { results := [.lit (.bool false)], args := [d1, d2] }
  | _ => none }
def BalanceFirstWrongFalsely : Prop := balanceFirstRow.holds Tryd.pinned (OpenSpec.ofChange balanceFirstWrong)

/-- 'dancestudiolaw21.BalanceMoves': WHATEVER THE INPUT: true; the input reads as it did. -/
def balanceMovesSpec : ChangeSpec := { name := "balanceMoves", fn := fun _ => fun
  | [d1, d2, d3] => { results := [.lit (.bool true)], args := [d1, d2, d3] }
  | _ => none }
def balanceMovesRow : OpenClaim := { program := "ytggiamcgkiaicaadoor", sum := "8369760e38e29c1217881a6c97c221d5cf593be5e05c6a173303dc7a0a6770e1", func := "dancestudio/dancestudiolaw21.BalanceMoves", spec := "balanceMoves", unfollowed := true, recurses := true, named := ["dancestudio/build.ranges", "dancestudio/angle.sines"], apart := false, laid := [("dancestudio/angle.sines", laid_dancestudio_angle_sines), ("dancestudio/build.ranges", laid_dancestudio_build_ranges)] }
def BalanceMovesSaid : Prop := balanceMovesRow.holds Tryd.pinned (OpenSpec.ofChange balanceMovesSpec)

/-- ITS FALSE NEIGHBOUR: 'it returns false'. Refute it at one input. -/
def balanceMovesWrong : ChangeSpec := { name := "balanceMoves", fn := fun _ => fun
  | [d1, d2, d3] => { results := [.lit (.bool false)], args := [d1, d2, d3] }
  | _ => none }
def BalanceMovesWrongFalsely : Prop := balanceMovesRow.holds Tryd.pinned (OpenSpec.ofChange balanceMovesWrong)

/-- 'dancestudiolaw21.BalanceFeet': WHATEVER THE INPUT: true; the input reads as it did. -/
def balanceFeetSpec : ChangeSpec := { name := "balanceFeet", fn := fun _ => fun
  | [d1, d2, d3] => { results := [.lit (.bool true)], args := [d1, d2, d3] }
  | _ => none }
def balanceFeetRow : OpenClaim := { program := "ytggiamcgkiaicaadoor", sum := "8369760e38e29c1217881a6c97c221d5cf593be5e05c6a173303dc7a0a6770e1", func := "dancestudio/dancestudiolaw21.BalanceFeet", spec := "balanceFeet", unfollowed := true, recurses := true, named := ["dancestudio/build.ranges", "dancestudio/angle.sines"], apart := false, laid := [("dancestudio/angle.sines", laid_dancestudio_angle_sines), ("dancestudio/build.ranges", laid_dancestudio_build_ranges)] }
def BalanceFeetSaid : Prop := balanceFeetRow.holds Tryd.pinned (OpenSpec.ofChange balanceFeetSpec)

/-- ITS FALSE NEIGHBOUR: 'it returns false'. Refute it at one input. -/
def balanceFeetWrong : ChangeSpec := { name := "balanceFeet", fn := fun _ => fun
  | [d1, d2, d3] => { results := [.lit (.bool false)], args := [d1, d2, d3] }
  | _ => none }
def BalanceFeetWrongFalsely : Prop := balanceFeetRow.holds Tryd.pinned (OpenSpec.ofChange balanceFeetWrong)

/-- 'dancestudiolaw21.BalanceTicks': WHATEVER THE INPUT: true; the input reads as it did. -/
def balanceTicksSpec : ChangeSpec := { name := "balanceTicks", fn := fun _ => fun
  | [d1, d2] => { results := [.lit (.bool true)], args := [d1, d2] }
  | _ => none }
def balanceTicksRow : OpenClaim := { program := "ytggiamcgkiaicaadoor", sum := "8369760e38e29c1217881a6c97c221d5cf593be5e05c6a173303dc7a0a6770e1", func := "dancestudio/dancestudiolaw21.BalanceTicks", spec := "balanceTicks", unfollowed := true, recurses := true, named := ["dancestudio/build.ranges", "dancestudio/angle.sines"], apart := false, laid := [("dancestudio/angle.sines", laid_dancestudio_angle_sines), ("dancestudio/build.ranges", laid_dancestudio_build_ranges)] }
def BalanceTicksSaid : Prop := balanceTicksRow.holds Tryd.pinned (OpenSpec.ofChange balanceTicksSpec)

/-- ITS FALSE NEIGHBOUR: 'it returns false'. Refute it at one input. -/
def balanceTicksWrong : ChangeSpec := { name := "balanceTicks", fn := fun _ => fun
  | [d1, d2] => { results := [.lit (.bool false)], args := [d1, d2] }
  | _ => none }
def BalanceTicksWrongFalsely : Prop := balanceTicksRow.holds Tryd.pinned (OpenSpec.ofChange balanceTicksWrong)

/-- 'dancestudiolaw21.BalanceMirror': WHATEVER THE INPUT: true; the input reads as it did. -/
def balanceMirrorSpec : ChangeSpec := { name := "balanceMirror", fn := fun _ => fun
  | [d1, d2, d3] => { results := [.lit (.bool true)], args := [d1, d2, d3] }
  | _ => none }
def balanceMirrorRow : OpenClaim := { program := "ytggiamcgkiaicaadoor", sum := "8369760e38e29c1217881a6c97c221d5cf593be5e05c6a173303dc7a0a6770e1", func := "dancestudio/dancestudiolaw21.BalanceMirror", spec := "balanceMirror", unfollowed := true, recurses := true, named := ["dancestudio/build.ranges", "dancestudio/angle.sines"], apart := false, laid := [("dancestudio/angle.sines", laid_dancestudio_angle_sines), ("dancestudio/build.ranges", laid_dancestudio_build_ranges)] }
def BalanceMirrorSaid : Prop := balanceMirrorRow.holds Tryd.pinned (OpenSpec.ofChange balanceMirrorSpec)

/-- ITS FALSE NEIGHBOUR: 'it returns false'. Refute it at one input. -/
def balanceMirrorWrong : ChangeSpec := { name := "balanceMirror", fn := fun _ => fun
  | [d1, d2, d3] => { results := [.lit (.bool false)], args := [d1, d2, d3] }
  | _ => none }
def BalanceMirrorWrongFalsely : Prop := balanceMirrorRow.holds Tryd.pinned (OpenSpec.ofChange balanceMirrorWrong)

/- THE SECOND FORM. 'bulk': how many values and letters a reading holds, each counted each time it is reached (what is shared counts as often as it is met; a slice's spare places count too). A statement '..UptoSaid' is the law's where the arguments, and the package variables that the reading takes, are together of bulk at most 1048576: NARROWER than '..Said'. Prove '..Said' where nothing that the law and all that it calls make is longer than what came in: it says more and counts as full. Else prove '..UptoSaid'. A law counts once. -/
mutual
def uptoBulk {H : Type} : DataW H → Nat
  | .lit (.string bytes) => bytes.length + 1
  | .lit _ => 1
  | .nil => 1
  | .ptr d => uptoBulk d + 1
  | .slice elems spare => uptoBulkAll elems + uptoBulkAll spare + 1
  | .agg parts => uptoBulkAll parts + 1
  | .iface _ d => uptoBulk d + 1
  | .map entries => uptoBulkEntries entries + 1
  | .held _ => 1
def uptoBulkAll {H : Type} : List (DataW H) → Nat
  | [] => 0
  | d :: r => uptoBulk d + uptoBulkAll r
def uptoBulkEntries {H : Type} : List (Lit × DataW H) → Nat
  | [] => 0
  | x :: r => uptoBulkEntry x + uptoBulkEntries r
def uptoBulkEntry {H : Type} : Lit × DataW H → Nat
  | (.string bytes, d) => bytes.length + uptoBulk d + 1
  | (_, d) => uptoBulk d + 1
 end
def uptoSmall : (H : Type) → List (DataW H) → Bool := fun _ ds => decide (uptoBulkAll ds ≤ 1048576)
def OpenSpec.upto (s : _root_.Go.ChangeSpec) : _root_.Go.OpenSpec := { _root_.Go.OpenSpec.ofChange s with cond := some uptoSmall }

/-- 'dancestudiolaw21.BalanceCenters', WHERE WHAT IT READS IS OF BULK AT MOST 1048576: true; the input reads as it did. -/
def balanceCentersUptoRow : OpenClaim := { program := "ytggiamcgkiaicaadoor", sum := "8369760e38e29c1217881a6c97c221d5cf593be5e05c6a173303dc7a0a6770e1", func := "dancestudio/dancestudiolaw21.BalanceCenters", spec := "balanceCenters", unfollowed := true, recurses := true, named := ["dancestudio/build.ranges", "dancestudio/angle.sines"], apart := false, laid := [("dancestudio/angle.sines", laid_dancestudio_angle_sines), ("dancestudio/build.ranges", laid_dancestudio_build_ranges)], narrowed := true }
def BalanceCentersUptoSaid : Prop := balanceCentersUptoRow.holds Tryd.pinned (OpenSpec.upto balanceCentersSpec)

/-- 'dancestudiolaw21.BalanceStable', WHERE WHAT IT READS IS OF BULK AT MOST 1048576: true; the input reads as it did. -/
def balanceStableUptoRow : OpenClaim := { program := "ytggiamcgkiaicaadoor", sum := "8369760e38e29c1217881a6c97c221d5cf593be5e05c6a173303dc7a0a6770e1", func := "dancestudio/dancestudiolaw21.BalanceStable", spec := "balanceStable", unfollowed := true, recurses := true, named := ["dancestudio/build.ranges", "dancestudio/angle.sines"], apart := false, laid := [("dancestudio/angle.sines", laid_dancestudio_angle_sines), ("dancestudio/build.ranges", laid_dancestudio_build_ranges)], narrowed := true }
def BalanceStableUptoSaid : Prop := balanceStableUptoRow.holds Tryd.pinned (OpenSpec.upto balanceStableSpec)

/-- 'dancestudiolaw21.BalanceFirst', WHERE WHAT IT READS IS OF BULK AT MOST 1048576: true; the input reads as it did. -/
def balanceFirstUptoRow : OpenClaim := { program := "ytggiamcgkiaicaadoor", sum := "8369760e38e29c1217881a6c97c221d5cf593be5e05c6a173303dc7a0a6770e1", func := "dancestudio/dancestudiolaw21.BalanceFirst", spec := "balanceFirst", unfollowed := true, recurses := true, named := ["dancestudio/build.ranges", "dancestudio/angle.sines"], apart := false, laid := [("dancestudio/angle.sines", laid_dancestudio_angle_sines), ("dancestudio/build.ranges", laid_dancestudio_build_ranges)], narrowed := true }
def BalanceFirstUptoSaid : Prop := balanceFirstUptoRow.holds Tryd.pinned (OpenSpec.upto balanceFirstSpec)

/-- 'dancestudiolaw21.BalanceMoves', WHERE WHAT IT READS IS OF BULK AT MOST 1048576: true; the input reads as it did. -/
def balanceMovesUptoRow : OpenClaim := { program := "ytggiamcgkiaicaadoor", sum := "8369760e38e29c1217881a6c97c221d5cf593be5e05c6a173303dc7a0a6770e1", func := "dancestudio/dancestudiolaw21.BalanceMoves", spec := "balanceMoves", unfollowed := true, recurses := true, named := ["dancestudio/build.ranges", "dancestudio/angle.sines"], apart := false, laid := [("dancestudio/angle.sines", laid_dancestudio_angle_sines), ("dancestudio/build.ranges", laid_dancestudio_build_ranges)], narrowed := true }
def BalanceMovesUptoSaid : Prop := balanceMovesUptoRow.holds Tryd.pinned (OpenSpec.upto balanceMovesSpec)

/-- 'dancestudiolaw21.BalanceFeet', WHERE WHAT IT READS IS OF BULK AT MOST 1048576: true; the input reads as it did. -/
def balanceFeetUptoRow : OpenClaim := { program := "ytggiamcgkiaicaadoor", sum := "8369760e38e29c1217881a6c97c221d5cf593be5e05c6a173303dc7a0a6770e1", func := "dancestudio/dancestudiolaw21.BalanceFeet", spec := "balanceFeet", unfollowed := true, recurses := true, named := ["dancestudio/build.ranges", "dancestudio/angle.sines"], apart := false, laid := [("dancestudio/angle.sines", laid_dancestudio_angle_sines), ("dancestudio/build.ranges", laid_dancestudio_build_ranges)], narrowed := true }
def BalanceFeetUptoSaid : Prop := balanceFeetUptoRow.holds Tryd.pinned (OpenSpec.upto balanceFeetSpec)

/-- 'dancestudiolaw21.BalanceTicks', WHERE WHAT IT READS IS OF BULK AT MOST 1048576: true; the input reads as it did. -/
def balanceTicksUptoRow : OpenClaim := { program := "ytggiamcgkiaicaadoor", sum := "8369760e38e29c1217881a6c97c221d5cf593be5e05c6a173303dc7a0a6770e1", func := "dancestudio/dancestudiolaw21.BalanceTicks", spec := "balanceTicks", unfollowed := true, recurses := true, named := ["dancestudio/build.ranges", "dancestudio/angle.sines"], apart := false, laid := [("dancestudio/angle.sines", laid_dancestudio_angle_sines), ("dancestudio/build.ranges", laid_dancestudio_build_ranges)], narrowed := true }
def BalanceTicksUptoSaid : Prop := balanceTicksUptoRow.holds Tryd.pinned (OpenSpec.upto balanceTicksSpec)

/-- 'dancestudiolaw21.BalanceMirror', WHERE WHAT IT READS IS OF BULK AT MOST 1048576: true; the input reads as it did. -/
def balanceMirrorUptoRow : OpenClaim := { program := "ytggiamcgkiaicaadoor", sum := "8369760e38e29c1217881a6c97c221d5cf593be5e05c6a173303dc7a0a6770e1", func := "dancestudio/dancestudiolaw21.BalanceMirror", spec := "balanceMirror", unfollowed := true, recurses := true, named := ["dancestudio/build.ranges", "dancestudio/angle.sines"], apart := false, laid := [("dancestudio/angle.sines", laid_dancestudio_angle_sines), ("dancestudio/build.ranges", laid_dancestudio_build_ranges)], narrowed := true }
def BalanceMirrorUptoSaid : Prop := balanceMirrorUptoRow.holds Tryd.pinned (OpenSpec.upto balanceMirrorSpec)

end Rows
end Go.Proofs.YtggiamcgkiaicaaDoor
