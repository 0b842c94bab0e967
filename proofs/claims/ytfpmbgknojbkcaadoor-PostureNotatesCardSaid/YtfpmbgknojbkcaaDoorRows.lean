/-
  NARROWER THAN 'FOR EVERY INPUT', by the rows' own cells (each row's printed sentence says how): PostureChecks: laid · PostureNotates: laid · PostureRotates: laid · PostureBack: laid · PostureNotated: laid · PostureMirrors: laid · PostureMoves: laid · PosturePoses: laid.
  DERIVED. THE GIVEN ROWS OF THIS SEAT. 8 by the template 'for every input the law returns true; each argument reads behind the call as it read before'; 0 by the template 'total and deterministic' (their statements: YtfpmbgknojbkcaaDoorTotals.lean).
  GIVEN WITH THE SEED: the statements are not yours to turn. If you find one false, say at which input.
  Laid BY PROGRAM, IN A SANDBOX (cutbox-rows.mjs): the forced cells as the released guide's own fill.sh prints them over the translation 7d4148695cfa959d… (all of the seat's roots in one cut). By AI agents, Wed Nov 11 2026. No macro, syntax, notation, axiom, sorry.
-/
import Derived.Test.YtfpmbgknojbkcaaDoorChecked
import GoSem.Claim
import GoSem.ClaimJoined
import GoSem.ClaimMapViews
import Derived.JoinedTies
import Derived.KernelRfl
namespace Go.Proofs.YtfpmbgknojbkcaaDoor
/- THE CELL 'sum', in the pinned program and in every row, IS THE sha256 OF THE DUMP (.gsa) THAT YtfpmbgknojbkcaaDoorProg.lean LOADS. Nothing in Lean hashes anything: it is a label: what it is worth is what the hold of that sum in a sandbox is worth. -/
noncomputable def Tryd.pinned : Pinned := { name := "ytfpmbgknojbkcaadoor", sum := "7d4148695cfa959ddde6039d7a45912472149861fc9c2b527c360bd84e13272d", checked := Tryd.checked }
namespace Rows
def none {H : Type} : Left H := { results := [], args := [] }

/- WHAT THE LISTED PACKAGE-LEVEL VARIABLES READ AS WHEN THE CALL BEGINS. Each datum BY PROGRAM (the guide's laid-datum.mjs) off the statement by which the dump's own 'gosem.cut.vars' lays the variable. In a bare row this is a premise. The card (YtfpmbgknojbkcaaDoorCards.lean) ties it to the program's text. -/
def laid_dancestudio_posture_down {H : Type} : DataW H := .agg [.lit (.int .i64 0), .lit (.int .i64 (-1)), .lit (.int .i64 0)]

/-- 'dancestudiolaw19.PostureChecks': WHATEVER THE INPUT: true; the input reads as it did. -/
def postureChecksSpec : ChangeSpec := { name := "postureChecks", fn := fun _ => fun
  | [d] => { results := [.lit (.bool true)], args := [d] }
  | _ => none }
def postureChecksRow : OpenClaim := { program := "ytfpmbgknojbkcaadoor", sum := "7d4148695cfa959ddde6039d7a45912472149861fc9c2b527c360bd84e13272d", func := "dancestudio/dancestudiolaw19.PostureChecks", spec := "postureChecks", named := ["dancestudio/posture.down"], apart := false, laid := [("dancestudio/posture.down", laid_dancestudio_posture_down)] }
def PostureChecksSaid : Prop := postureChecksRow.holds Tryd.pinned (OpenSpec.ofChange postureChecksSpec)

/-- ITS FALSE NEIGHBOUR: 'it returns false'. Refute it at one input. -/
def postureChecksWrong : ChangeSpec := { name := "postureChecks", fn := fun _ => fun
  | [d] => { results := [.lit (.bool false)], args := [d] }
  | _ => none }
def PostureChecksWrongFalsely : Prop := postureChecksRow.holds Tryd.pinned (OpenSpec.ofChange postureChecksWrong)

/-- 'dancestudiolaw19.PostureNotates': WHATEVER THE INPUT: true; the input reads as it did. -/
def postureNotatesSpec : ChangeSpec := { name := "postureNotates", fn := fun _ => fun
  | [d1, d2] => { results := [.lit (.bool true)], args := [d1, d2] }
  | _ => none }
def postureNotatesRow : OpenClaim := { program := "ytfpmbgknojbkcaadoor", sum := "7d4148695cfa959ddde6039d7a45912472149861fc9c2b527c360bd84e13272d", func := "dancestudio/dancestudiolaw19.PostureNotates", spec := "postureNotates", named := ["dancestudio/posture.down"], apart := false, laid := [("dancestudio/posture.down", laid_dancestudio_posture_down)] }
def PostureNotatesSaid : Prop := postureNotatesRow.holds Tryd.pinned (OpenSpec.ofChange postureNotatesSpec)

/-- ITS FALSE NEIGHBOUR: 'it returns false'. Refute it at one input. -/
def postureNotatesWrong : ChangeSpec := { name := "postureNotates", fn := fun _ => fun
  | [d1, d2] => { results := [.lit (.bool false)], args := [d1, d2] }
  | _ => none }
def PostureNotatesWrongFalsely : Prop := postureNotatesRow.holds Tryd.pinned (OpenSpec.ofChange postureNotatesWrong)

/-- 'dancestudiolaw19.PostureRotates': WHATEVER THE INPUT: true; the input reads as it did. -/
def postureRotatesSpec : ChangeSpec := { name := "postureRotates", fn := fun _ => fun
  | [d1, d2, d3] => { results := [.lit (.bool true)], args := [d1, d2, d3] }
  | _ => none }
def postureRotatesRow : OpenClaim := { program := "ytfpmbgknojbkcaadoor", sum := "7d4148695cfa959ddde6039d7a45912472149861fc9c2b527c360bd84e13272d", func := "dancestudio/dancestudiolaw19.PostureRotates", spec := "postureRotates", named := ["dancestudio/posture.down"], apart := false, laid := [("dancestudio/posture.down", laid_dancestudio_posture_down)] }
def PostureRotatesSaid : Prop := postureRotatesRow.holds Tryd.pinned (OpenSpec.ofChange postureRotatesSpec)

/-- ITS FALSE NEIGHBOUR: 'it returns false'. Refute it at one input. -/
def postureRotatesWrong : ChangeSpec := { name := "postureRotates", fn := fun _ => fun
  | [d1, d2, d3] => { results := [.lit (.bool false)], args := [d1, d2, d3] }
  | _ => none }
def PostureRotatesWrongFalsely : Prop := postureRotatesRow.holds Tryd.pinned (OpenSpec.ofChange postureRotatesWrong)

/-- 'dancestudiolaw19.PostureBack': WHATEVER THE INPUT: true; the input reads as it did. -/
def postureBackSpec : ChangeSpec := { name := "postureBack", fn := fun _ => fun
  | [d1, d2] => { results := [.lit (.bool true)], args := [d1, d2] }
  | _ => none }
def postureBackRow : OpenClaim := { program := "ytfpmbgknojbkcaadoor", sum := "7d4148695cfa959ddde6039d7a45912472149861fc9c2b527c360bd84e13272d", func := "dancestudio/dancestudiolaw19.PostureBack", spec := "postureBack", named := ["dancestudio/posture.down"], apart := false, laid := [("dancestudio/posture.down", laid_dancestudio_posture_down)] }
def PostureBackSaid : Prop := postureBackRow.holds Tryd.pinned (OpenSpec.ofChange postureBackSpec)

/-- ITS FALSE NEIGHBOUR: 'it returns false'. Refute it at one input. -/
def postureBackWrong : ChangeSpec := { name := "postureBack", fn := fun _ => fun
  | [d1, d2] => { results := [.lit (.bool false)], args := [d1, d2] }
  | _ => none }
def PostureBackWrongFalsely : Prop := postureBackRow.holds Tryd.pinned (OpenSpec.ofChange postureBackWrong)

/-- 'dancestudiolaw19.PostureNotated': WHATEVER THE INPUT: true; the input reads as it did. -/
def postureNotatedSpec : ChangeSpec := { name := "postureNotated", fn := fun _ => fun
  | [d1, d2] => { results := [.lit (.bool true)], args := [d1, d2] }
  | _ => none }
def postureNotatedRow : OpenClaim := { program := "ytfpmbgknojbkcaadoor", sum := "7d4148695cfa959ddde6039d7a45912472149861fc9c2b527c360bd84e13272d", func := "dancestudio/dancestudiolaw19.PostureNotated", spec := "postureNotated", named := ["dancestudio/posture.down"], apart := false, laid := [("dancestudio/posture.down", laid_dancestudio_posture_down)] }
def PostureNotatedSaid : Prop := postureNotatedRow.holds Tryd.pinned (OpenSpec.ofChange postureNotatedSpec)

/-- ITS FALSE NEIGHBOUR: 'it returns false'. Refute it at one input. -/
def postureNotatedWrong : ChangeSpec := { name := "postureNotated", fn := fun _ => fun
  | [d1, d2] => { results := [.lit (.bool false)], args := [d1, d2] }
  | _ => none }
def PostureNotatedWrongFalsely : Prop := postureNotatedRow.holds Tryd.pinned (OpenSpec.ofChange postureNotatedWrong)

/-- 'dancestudiolaw19.PostureMirrors': WHATEVER THE INPUT: true; the input reads as it did. -/
def postureMirrorsSpec : ChangeSpec := { name := "postureMirrors", fn := fun _ => fun
  | [d1, d2] => { results := [.lit (.bool true)], args := [d1, d2] }
  | _ => none }
def postureMirrorsRow : OpenClaim := { program := "ytfpmbgknojbkcaadoor", sum := "7d4148695cfa959ddde6039d7a45912472149861fc9c2b527c360bd84e13272d", func := "dancestudio/dancestudiolaw19.PostureMirrors", spec := "postureMirrors", named := ["dancestudio/posture.down"], apart := false, laid := [("dancestudio/posture.down", laid_dancestudio_posture_down)] }
def PostureMirrorsSaid : Prop := postureMirrorsRow.holds Tryd.pinned (OpenSpec.ofChange postureMirrorsSpec)

/-- ITS FALSE NEIGHBOUR: 'it returns false'. Refute it at one input. -/
def postureMirrorsWrong : ChangeSpec := { name := "postureMirrors", fn := fun _ => fun
  | [d1, d2] => { results := [.lit (.bool false)], args := [d1, d2] }
  | _ => none }
def PostureMirrorsWrongFalsely : Prop := postureMirrorsRow.holds Tryd.pinned (OpenSpec.ofChange postureMirrorsWrong)

/-- 'dancestudiolaw19.PostureMoves': WHATEVER THE INPUT: true; the input reads as it did. -/
def postureMovesSpec : ChangeSpec := { name := "postureMoves", fn := fun _ => fun
  | [d1, d2] => { results := [.lit (.bool true)], args := [d1, d2] }
  | _ => none }
def postureMovesRow : OpenClaim := { program := "ytfpmbgknojbkcaadoor", sum := "7d4148695cfa959ddde6039d7a45912472149861fc9c2b527c360bd84e13272d", func := "dancestudio/dancestudiolaw19.PostureMoves", spec := "postureMoves", named := ["dancestudio/posture.down"], apart := false, laid := [("dancestudio/posture.down", laid_dancestudio_posture_down)] }
def PostureMovesSaid : Prop := postureMovesRow.holds Tryd.pinned (OpenSpec.ofChange postureMovesSpec)

/-- ITS FALSE NEIGHBOUR: 'it returns false'. Refute it at one input. -/
def postureMovesWrong : ChangeSpec := { name := "postureMoves", fn := fun _ => fun
  | [d1, d2] => { results := [.lit (.bool false)], args := [d1, d2] }
  | _ => none }
def PostureMovesWrongFalsely : Prop := postureMovesRow.holds Tryd.pinned (OpenSpec.ofChange postureMovesWrong)

/-- 'dancestudiolaw19.PosturePoses': WHATEVER THE INPUT: true; the input reads as it did. -/
def posturePosesSpec : ChangeSpec := { name := "posturePoses", fn := fun _ => fun
  | [d1, d2, d3] => { results := [.lit (.bool true)], args := [d1, d2, d3] }
  | _ => none }
def posturePosesRow : OpenClaim := { program := "ytfpmbgknojbkcaadoor", sum := "7d4148695cfa959ddde6039d7a45912472149861fc9c2b527c360bd84e13272d", func := "dancestudio/dancestudiolaw19.PosturePoses", spec := "posturePoses", named := ["dancestudio/posture.down"], apart := false, laid := [("dancestudio/posture.down", laid_dancestudio_posture_down)] }
def PosturePosesSaid : Prop := posturePosesRow.holds Tryd.pinned (OpenSpec.ofChange posturePosesSpec)

/-- ITS FALSE NEIGHBOUR: 'it returns false'. Refute it at one input. -/
def posturePosesWrong : ChangeSpec := { name := "posturePoses", fn := fun _ => fun
  | [d1, d2, d3] => { results := [.lit (.bool false)], args := [d1, d2, d3] }
  | _ => none }
def PosturePosesWrongFalsely : Prop := posturePosesRow.holds Tryd.pinned (OpenSpec.ofChange posturePosesWrong)

/- THE SECOND FORM. 'bulk': how many values and letters a reading holds, each counted each time it is reached (what is shared counts as often as it is met; a slice's spare places count too). A statement '..UptoSaid' is the law's where the arguments, and the package variables that the reading takes, are together of bulk at most 1048576: NARROWER than '..Said'. Prove '..Said' where nothing that the law and all that it calls make is longer than what came in: it says more and counts as full. Else prove '..UptoSaid'. A law counts once. -/
mutual
def uptoBulk {H : Type} : DataW H → Nat
  | .lit (.string bytes) => bytes.length + 1
  | .lit _ => 1
  | .nil => 1
  | .ptr d => uptoBulk d + 1
  | .slice elems spare => uptoBulkAll elems + uptoBulkAll spare + 1
  | .agg parts => uptoBulkAll parts + 1
  | .iface _ d => uptoBulk d + 1
  | .map entries => uptoBulkEntries entries + 1
  | .held _ => 1
def uptoBulkAll {H : Type} : List (DataW H) → Nat
  | [] => 0
  | d :: r => uptoBulk d + uptoBulkAll r
def uptoBulkEntries {H : Type} : List (Lit × DataW H) → Nat
  | [] => 0
  | x :: r => uptoBulkEntry x + uptoBulkEntries r
def uptoBulkEntry {H : Type} : Lit × DataW H → Nat
  | (.string bytes, d) => bytes.length + uptoBulk d + 1
  | (_, d) => uptoBulk d + 1
 end
def uptoSmall : (H : Type) → List (DataW H) → Bool := fun _ ds => decide (uptoBulkAll ds ≤ 1048576)
def OpenSpec.upto (s : _root_.Go.ChangeSpec) : _root_.Go.OpenSpec := { _root_.Go.OpenSpec.ofChange s with cond := some uptoSmall }

/-- 'dancestudiolaw19.PostureChecks', WHERE WHAT IT READS IS OF BULK AT MOST 1048576: true; the input reads as it did. -/
def postureChecksUptoRow : OpenClaim := { program := "ytfpmbgknojbkcaadoor", sum := "7d4148695cfa959ddde6039d7a45912472149861fc9c2b527c360bd84e13272d", func := "dancestudio/dancestudiolaw19.PostureChecks", spec := "postureChecks", named := ["dancestudio/posture.down"], apart := false, laid := [("dancestudio/posture.down", laid_dancestudio_posture_down)], narrowed := true }
def PostureChecksUptoSaid : Prop := postureChecksUptoRow.holds Tryd.pinned (OpenSpec.upto postureChecksSpec)

/-- 'dancestudiolaw19.PostureNotates', WHERE WHAT IT READS IS OF BULK AT MOST 1048576: true; the input reads as it did. -/
def postureNotatesUptoRow : OpenClaim := { program := "ytfpmbgknojbkcaadoor", sum := "7d4148695cfa959ddde6039d7a45912472149861fc9c2b527c360bd84e13272d", func := "dancestudio/dancestudiolaw19.PostureNotates", spec := "postureNotates", named := ["dancestudio/posture.down"], apart := false, laid := [("dancestudio/posture.down", laid_dancestudio_posture_down)], narrowed := true }
def PostureNotatesUptoSaid : Prop := postureNotatesUptoRow.holds Tryd.pinned (OpenSpec.upto postureNotatesSpec)

/-- 'dancestudiolaw19.PostureRotates', WHERE WHAT IT READS IS OF BULK AT MOST 1048576: true; the input reads as it did. -/
def postureRotatesUptoRow : OpenClaim := { program := "ytfpmbgknojbkcaadoor", sum := "7d4148695cfa959ddde6039d7a45912472149861fc9c2b527c360bd84e13272d", func := "dancestudio/dancestudiolaw19.PostureRotates", spec := "postureRotates", named := ["dancestudio/posture.down"], apart := false, laid := [("dancestudio/posture.down", laid_dancestudio_posture_down)], narrowed := true }
def PostureRotatesUptoSaid : Prop := postureRotatesUptoRow.holds Tryd.pinned (OpenSpec.upto postureRotatesSpec)

/-- 'dancestudiolaw19.PostureBack', WHERE WHAT IT READS IS OF BULK AT MOST 1048576: true; the input reads as it did. -/
def postureBackUptoRow : OpenClaim := { program := "ytfpmbgknojbkcaadoor", sum := "7d4148695cfa959ddde6039d7a45912472149861fc9c2b527c360bd84e13272d", func := "dancestudio/dancestudiolaw19.PostureBack", spec := "postureBack", named := ["dancestudio/posture.down"], apart := false, laid := [("dancestudio/posture.down", laid_dancestudio_posture_down)], narrowed := true }
def PostureBackUptoSaid : Prop := postureBackUptoRow.holds Tryd.pinned (OpenSpec.upto postureBackSpec)

/-- 'dancestudiolaw19.PostureNotated', WHERE WHAT IT READS IS OF BULK AT MOST 1048576: true; the input reads as it did. -/
def postureNotatedUptoRow : OpenClaim := { program := "ytfpmbgknojbkcaadoor", sum := "7d4148695cfa959ddde6039d7a45912472149861fc9c2b527c360bd84e13272d", func := "dancestudio/dancestudiolaw19.PostureNotated", spec := "postureNotated", named := ["dancestudio/posture.down"], apart := false, laid := [("dancestudio/posture.down", laid_dancestudio_posture_down)], narrowed := true }
def PostureNotatedUptoSaid : Prop := postureNotatedUptoRow.holds Tryd.pinned (OpenSpec.upto postureNotatedSpec)

/-- 'dancestudiolaw19.PostureMirrors', WHERE WHAT IT READS IS OF BULK AT MOST 1048576: true; the input reads as it did. -/
def postureMirrorsUptoRow : OpenClaim := { program := "ytfpmbgknojbkcaadoor", sum := "7d4148695cfa959ddde6039d7a45912472149861fc9c2b527c360bd84e13272d", func := "dancestudio/dancestudiolaw19.PostureMirrors", spec := "postureMirrors", named := ["dancestudio/posture.down"], apart := false, laid := [("dancestudio/posture.down", laid_dancestudio_posture_down)], narrowed := true }
def PostureMirrorsUptoSaid : Prop := postureMirrorsUptoRow.holds Tryd.pinned (OpenSpec.upto postureMirrorsSpec)

/-- 'dancestudiolaw19.PostureMoves', WHERE WHAT IT READS IS OF BULK AT MOST 1048576: true; the input reads as it did. -/
def postureMovesUptoRow : OpenClaim := { program := "ytfpmbgknojbkcaadoor", sum := "7d4148695cfa959ddde6039d7a45912472149861fc9c2b527c360bd84e13272d", func := "dancestudio/dancestudiolaw19.PostureMoves", spec := "postureMoves", named := ["dancestudio/posture.down"], apart := false, laid := [("dancestudio/posture.down", laid_dancestudio_posture_down)], narrowed := true }
def PostureMovesUptoSaid : Prop := postureMovesUptoRow.holds Tryd.pinned (OpenSpec.upto postureMovesSpec)

/-- 'dancestudiolaw19.PosturePoses', WHERE WHAT IT READS IS OF BULK AT MOST 1048576: true; the input reads as it did. -/
def posturePosesUptoRow : OpenClaim := { program := "ytfpmbgknojbkcaadoor", sum := "7d4148695cfa959ddde6039d7a45912472149861fc9c2b527c360bd84e13272d", func := "dancestudio/dancestudiolaw19.PosturePoses", spec := "posturePoses", named := ["dancestudio/posture.down"], apart := false, laid := [("dancestudio/posture.down", laid_dancestudio_posture_down)], narrowed := true }
def PosturePosesUptoSaid : Prop := posturePosesUptoRow.holds Tryd.pinned (OpenSpec.upto posturePosesSpec)

end Rows
end Go.Proofs.YtfpmbgknojbkcaaDoor
