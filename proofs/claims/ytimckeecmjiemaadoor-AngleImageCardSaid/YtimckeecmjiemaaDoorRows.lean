/-
  NARROWER THAN 'FOR EVERY INPUT', by the rows' own cells (each row's printed sentence says how): AngleNorm: laid · AngleSines: laid · AngleCircle: laid · AngleBetween: laid · AngleBack: laid · AngleTurned: laid · AngleTurns: laid · AngleImage: laid.
  DERIVED. THE GIVEN ROWS OF THIS SEAT. 8 by the template 'for every input the law returns true; each argument reads behind the call as it read before'; 0 by the template 'total and deterministic' (their statements: YtimckeecmjiemaaDoorTotals.lean).
  GIVEN WITH THE SEED: the statements are not yours to turn. If you find one false, say at which input.
  Laid BY PROGRAM, IN A SANDBOX (cutbox-rows.mjs): the forced cells as the released guide's own fill.sh prints them over the translation 9c7c7e15530e14cf… (all of the seat's roots in one cut). By AI agents, Wed Nov 11 2026. No macro, syntax, notation, axiom, sorry.
-/
import Derived.Test.YtimckeecmjiemaaDoorChecked
import GoSem.Claim
import GoSem.ClaimJoined
import GoSem.ClaimMapViews
import Derived.JoinedTies
import Derived.KernelRfl
namespace Go.Proofs.YtimckeecmjiemaaDoor
/- THE CELL 'sum', in the pinned program and in every row, IS THE sha256 OF THE DUMP (.gsa) THAT YtimckeecmjiemaaDoorProg.lean LOADS. Nothing in Lean hashes anything: it is a label: what it is worth is what the hold of that sum in a sandbox is worth. -/
noncomputable def Tryd.pinned : Pinned := { name := "ytimckeecmjiemaadoor", sum := "9c7c7e15530e14cfa87b89059519487ee4c31742ad6ade9a68a019c40c6af658", checked := Tryd.checked }
namespace Rows
def none {H : Type} : Left H := { results := [], args := [] }

/- WHAT THE LISTED PACKAGE-LEVEL VARIABLES READ AS WHEN THE CALL BEGINS. Each datum BY PROGRAM (the guide's laid-datum.mjs) off the statement by which the dump's own 'gosem.cut.vars' lays the variable. In a bare row this is a premise. The card (YtimckeecmjiemaaDoorCards.lean) ties it to the program's text. -/
def laid_dancestudio_angle_sines {H : Type} : DataW H := .agg [.lit (.int .i64 0), .lit (.int .i64 402), .lit (.int .i64 804), .lit (.int .i64 1205), .lit (.int .i64 1606), .lit (.int .i64 2006), .lit (.int .i64 2404), .lit (.int .i64 2801), .lit (.int .i64 3196), .lit (.int .i64 3590), .lit (.int .i64 3981), .lit (.int .i64 4370), .lit (.int .i64 4756), .lit (.int .i64 5139), .lit (.int .i64 5520), .lit (.int .i64 5897), .lit (.int .i64 6270), .lit (.int .i64 6639), .lit (.int .i64 7005), .lit (.int .i64 7366), .lit (.int .i64 7723), .lit (.int .i64 8076), .lit (.int .i64 8423), .lit (.int .i64 8765), .lit (.int .i64 9102), .lit (.int .i64 9434), .lit (.int .i64 9760), .lit (.int .i64 10080), .lit (.int .i64 10394), .lit (.int .i64 10702), .lit (.int .i64 11003), .lit (.int .i64 11297), .lit (.int .i64 11585), .lit (.int .i64 11866), .lit (.int .i64 12140), .lit (.int .i64 12406), .lit (.int .i64 12665), .lit (.int .i64 12916), .lit (.int .i64 13160), .lit (.int .i64 13395), .lit (.int .i64 13623), .lit (.int .i64 13842), .lit (.int .i64 14053), .lit (.int .i64 14256), .lit (.int .i64 14449), .lit (.int .i64 14635), .lit (.int .i64 14811), .lit (.int .i64 14978), .lit (.int .i64 15137), .lit (.int .i64 15286), .lit (.int .i64 15426), .lit (.int .i64 15557), .lit (.int .i64 15679), .lit (.int .i64 15791), .lit (.int .i64 15893), .lit (.int .i64 15986), .lit (.int .i64 16069), .lit (.int .i64 16143), .lit (.int .i64 16207), .lit (.int .i64 16261), .lit (.int .i64 16305), .lit (.int .i64 16340), .lit (.int .i64 16364), .lit (.int .i64 16379), .lit (.int .i64 16384)]

/-- 'dancestudiolaw02.AngleNorm': WHATEVER THE INPUT: true; the input reads as it did. -/
def angleNormSpec : ChangeSpec := { name := "angleNorm", fn := fun _ => fun
  | [d] => { results := [.lit (.bool true)], args := [d] }
  | _ => none }
def angleNormRow : OpenClaim := { program := "ytimckeecmjiemaadoor", sum := "9c7c7e15530e14cfa87b89059519487ee4c31742ad6ade9a68a019c40c6af658", func := "dancestudio/dancestudiolaw02.AngleNorm", spec := "angleNorm", named := ["dancestudio/angle.sines"], apart := false, laid := [("dancestudio/angle.sines", laid_dancestudio_angle_sines)] }
def AngleNormSaid : Prop := angleNormRow.holds Tryd.pinned (OpenSpec.ofChange angleNormSpec)

/-- ITS FALSE NEIGHBOUR: 'it returns false'. Refute it at one input. -/
def angleNormWrong : ChangeSpec := { name := "angleNorm", fn := fun _ => fun
  | [d] => { results := [.lit (.bool false)], args := [d] }
  | _ => none }
def AngleNormWrongFalsely : Prop := angleNormRow.holds Tryd.pinned (OpenSpec.ofChange angleNormWrong)

/-- 'dancestudiolaw02.AngleSines': WHATEVER THE INPUT: true; the input reads as it did. -/
def angleSinesSpec : ChangeSpec := { name := "angleSines", fn := fun _ => fun
  | [d] => { results := [.lit (.bool true)], args := [d] }
  | _ => none }
def angleSinesRow : OpenClaim := { program := "ytimckeecmjiemaadoor", sum := "9c7c7e15530e14cfa87b89059519487ee4c31742ad6ade9a68a019c40c6af658", func := "dancestudio/dancestudiolaw02.AngleSines", spec := "angleSines", named := ["dancestudio/angle.sines"], apart := false, laid := [("dancestudio/angle.sines", laid_dancestudio_angle_sines)] }
def AngleSinesSaid : Prop := angleSinesRow.holds Tryd.pinned (OpenSpec.ofChange angleSinesSpec)

/-- ITS FALSE NEIGHBOUR: 'it returns false'. Refute it at one input. -/
def angleSinesWrong : ChangeSpec := { name := "angleSines", fn := fun _ => fun
  | [d] => { results := [.lit (.bool false)], args := [d] }
  | _ => none }
def AngleSinesWrongFalsely : Prop := angleSinesRow.holds Tryd.pinned (OpenSpec.ofChange angleSinesWrong)

/-- 'dancestudiolaw02.AngleCircle': WHATEVER THE INPUT: true; the input reads as it did. -/
def angleCircleSpec : ChangeSpec := { name := "angleCircle", fn := fun _ => fun
  | [d] => { results := [.lit (.bool true)], args := [d] }
  | _ => none }
def angleCircleRow : OpenClaim := { program := "ytimckeecmjiemaadoor", sum := "9c7c7e15530e14cfa87b89059519487ee4c31742ad6ade9a68a019c40c6af658", func := "dancestudio/dancestudiolaw02.AngleCircle", spec := "angleCircle", named := ["dancestudio/angle.sines"], apart := false, laid := [("dancestudio/angle.sines", laid_dancestudio_angle_sines)] }
def AngleCircleSaid : Prop := angleCircleRow.holds Tryd.pinned (OpenSpec.ofChange angleCircleSpec)

/-- ITS FALSE NEIGHBOUR: 'it returns false'. Refute it at one input. -/
def angleCircleWrong : ChangeSpec := { name := "angleCircle", fn := fun _ => fun
  | [d] => { results := [.lit (.bool false)], args := [d] }
  | _ => none }
def AngleCircleWrongFalsely : Prop := angleCircleRow.holds Tryd.pinned (OpenSpec.ofChange angleCircleWrong)

/-- 'dancestudiolaw02.AngleBetween': WHATEVER THE INPUT: true; the input reads as it did. -/
def angleBetweenSpec : ChangeSpec := { name := "angleBetween", fn := fun _ => fun
  | [d1, d2, d3] => { results := [.lit (.bool true)], args := [d1, d2, d3] }
  | _ => none }
def angleBetweenRow : OpenClaim := { program := "ytimckeecmjiemaadoor", sum := "9c7c7e15530e14cfa87b89059519487ee4c31742ad6ade9a68a019c40c6af658", func := "dancestudio/dancestudiolaw02.AngleBetween", spec := "angleBetween", named := ["dancestudio/angle.sines"], apart := false, laid := [("dancestudio/angle.sines", laid_dancestudio_angle_sines)] }
def AngleBetweenSaid : Prop := angleBetweenRow.holds Tryd.pinned (OpenSpec.ofChange angleBetweenSpec)

/-- ITS FALSE NEIGHBOUR: 'it returns false'. Refute it at one input. -/
def angleBetweenWrong : ChangeSpec := { name := "angleBetween", fn := fun _ => fun
  | [d1, d2, d3] => { results := [.lit (.bool false)], args := [d1, d2, d3] }
  | _ => none }
def AngleBetweenWrongFalsely : Prop := angleBetweenRow.holds Tryd.pinned (OpenSpec.ofChange angleBetweenWrong)

/-- 'dancestudiolaw02.AngleBack': WHATEVER THE INPUT: true; the input reads as it did. -/
def angleBackSpec : ChangeSpec := { name := "angleBack", fn := fun _ => fun
  | [d1, d2, d3] => { results := [.lit (.bool true)], args := [d1, d2, d3] }
  | _ => none }
def angleBackRow : OpenClaim := { program := "ytimckeecmjiemaadoor", sum := "9c7c7e15530e14cfa87b89059519487ee4c31742ad6ade9a68a019c40c6af658", func := "dancestudio/dancestudiolaw02.AngleBack", spec := "angleBack", named := ["dancestudio/angle.sines"], apart := false, laid := [("dancestudio/angle.sines", laid_dancestudio_angle_sines)] }
def AngleBackSaid : Prop := angleBackRow.holds Tryd.pinned (OpenSpec.ofChange angleBackSpec)

/-- ITS FALSE NEIGHBOUR: 'it returns false'. Refute it at one input. -/
def angleBackWrong : ChangeSpec := { name := "angleBack", fn := fun _ => fun
  | [d1, d2, d3] => { results := [.lit (.bool false)], args := [d1, d2, d3] }
  | _ => none }
def AngleBackWrongFalsely : Prop := angleBackRow.holds Tryd.pinned (OpenSpec.ofChange angleBackWrong)

/-- 'dancestudiolaw02.AngleTurned': WHATEVER THE INPUT: true; the input reads as it did. -/
def angleTurnedSpec : ChangeSpec := { name := "angleTurned", fn := fun _ => fun
  | [d1, d2] => { results := [.lit (.bool true)], args := [d1, d2] }
  | _ => none }
def angleTurnedRow : OpenClaim := { program := "ytimckeecmjiemaadoor", sum := "9c7c7e15530e14cfa87b89059519487ee4c31742ad6ade9a68a019c40c6af658", func := "dancestudio/dancestudiolaw02.AngleTurned", spec := "angleTurned", named := ["dancestudio/angle.sines"], apart := false, laid := [("dancestudio/angle.sines", laid_dancestudio_angle_sines)] }
def AngleTurnedSaid : Prop := angleTurnedRow.holds Tryd.pinned (OpenSpec.ofChange angleTurnedSpec)

/-- ITS FALSE NEIGHBOUR: 'it returns false'. Refute it at one input. -/
def angleTurnedWrong : ChangeSpec := { name := "angleTurned", fn := fun _ => fun
  | [d1, d2] => { results := [.lit (.bool false)], args := [d1, d2] }
  | _ => none }
def AngleTurnedWrongFalsely : Prop := angleTurnedRow.holds Tryd.pinned (OpenSpec.ofChange angleTurnedWrong)

/-- 'dancestudiolaw02.AngleTurns': WHATEVER THE INPUT: true; the input reads as it did. -/
def angleTurnsSpec : ChangeSpec := { name := "angleTurns", fn := fun _ => fun
  | [d1, d2] => { results := [.lit (.bool true)], args := [d1, d2] }
  | _ => none }
def angleTurnsRow : OpenClaim := { program := "ytimckeecmjiemaadoor", sum := "9c7c7e15530e14cfa87b89059519487ee4c31742ad6ade9a68a019c40c6af658", func := "dancestudio/dancestudiolaw02.AngleTurns", spec := "angleTurns", named := ["dancestudio/angle.sines"], apart := false, laid := [("dancestudio/angle.sines", laid_dancestudio_angle_sines)] }
def AngleTurnsSaid : Prop := angleTurnsRow.holds Tryd.pinned (OpenSpec.ofChange angleTurnsSpec)

/-- ITS FALSE NEIGHBOUR: 'it returns false'. Refute it at one input. -/
def angleTurnsWrong : ChangeSpec := { name := "angleTurns", fn := fun _ => fun
  | [d1, d2] => { results := [.lit (.bool false)], args := [d1, d2] }
  | _ => none }
def AngleTurnsWrongFalsely : Prop := angleTurnsRow.holds Tryd.pinned (OpenSpec.ofChange angleTurnsWrong)

/-- 'dancestudiolaw02.AngleImage': WHATEVER THE INPUT: true; the input reads as it did. -/
def angleImageSpec : ChangeSpec := { name := "angleImage", fn := fun _ => fun
  | [d1, d2] => { results := [.lit (.bool true)], args := [d1, d2] }
  | _ => none }
def angleImageRow : OpenClaim := { program := "ytimckeecmjiemaadoor", sum := "9c7c7e15530e14cfa87b89059519487ee4c31742ad6ade9a68a019c40c6af658", func := "dancestudio/dancestudiolaw02.AngleImage", spec := "angleImage", named := ["dancestudio/angle.sines"], apart := false, laid := [("dancestudio/angle.sines", laid_dancestudio_angle_sines)] }
def AngleImageSaid : Prop := angleImageRow.holds Tryd.pinned (OpenSpec.ofChange angleImageSpec)

/-- ITS FALSE NEIGHBOUR: 'it returns false'. Refute it at one input. -/
def angleImageWrong : ChangeSpec := { name := "angleImage", fn := fun _ => fun
  | [d1, d2] => { results := [.lit (.bool false)], args := [d1, d2] }
  | _ => none }
def AngleImageWrongFalsely : Prop := angleImageRow.holds Tryd.pinned (OpenSpec.ofChange angleImageWrong)

/- THE SECOND FORM. 'bulk': how many values and letters a reading holds, each counted each time it is reached (what is shared counts as often as it is met; a slice's spare places count too). A statement '..UptoSaid' is the law's where the arguments, and the package variables that the reading takes, are together of bulk at most 1048576: NARROWER than '..Said'. Prove '..Said' where nothing that the law and all that it calls make is longer than what came in: it says more and counts as full. Else prove '..UptoSaid'. A law counts once. -/
mutual
def uptoBulk {H : Type} : DataW H → Nat
  | .lit (.string bytes) => bytes.length + 1
  | .lit _ => 1
  | .nil => 1
  | .ptr d => uptoBulk d + 1
  | .slice elems spare => uptoBulkAll elems + uptoBulkAll spare + 1
  | .agg parts => uptoBulkAll parts + 1
  | .iface _ d => uptoBulk d + 1
  | .map entries => uptoBulkEntries entries + 1
  | .held _ => 1
def uptoBulkAll {H : Type} : List (DataW H) → Nat
  | [] => 0
  | d :: r => uptoBulk d + uptoBulkAll r
def uptoBulkEntries {H : Type} : List (Lit × DataW H) → Nat
  | [] => 0
  | x :: r => uptoBulkEntry x + uptoBulkEntries r
def uptoBulkEntry {H : Type} : Lit × DataW H → Nat
  | (.string bytes, d) => bytes.length + uptoBulk d + 1
  | (_, d) => uptoBulk d + 1
 end
def uptoSmall : (H : Type) → List (DataW H) → Bool := fun _ ds => decide (uptoBulkAll ds ≤ 1048576)
def OpenSpec.upto (s : _root_.Go.ChangeSpec) : _root_.Go.OpenSpec := { _root_.Go.OpenSpec.ofChange s with cond := some uptoSmall }

/-- 'dancestudiolaw02.AngleNorm', WHERE WHAT IT READS IS OF BULK AT MOST 1048576: true; the input reads as it did. -/
def angleNormUptoRow : OpenClaim := { program := "ytimckeecmjiemaadoor", sum := "9c7c7e15530e14cfa87b89059519487ee4c31742ad6ade9a68a019c40c6af658", func := "dancestudio/dancestudiolaw02.AngleNorm", spec := "angleNorm", named := ["dancestudio/angle.sines"], apart := false, laid := [("dancestudio/angle.sines", laid_dancestudio_angle_sines)], narrowed := true }
def AngleNormUptoSaid : Prop := angleNormUptoRow.holds Tryd.pinned (OpenSpec.upto angleNormSpec)

/-- 'dancestudiolaw02.AngleSines', WHERE WHAT IT READS IS OF BULK AT MOST 1048576: true; the input reads as it did. -/
def angleSinesUptoRow : OpenClaim := { program := "ytimckeecmjiemaadoor", sum := "9c7c7e15530e14cfa87b89059519487ee4c31742ad6ade9a68a019c40c6af658", func := "dancestudio/dancestudiolaw02.AngleSines", spec := "angleSines", named := ["dancestudio/angle.sines"], apart := false, laid := [("dancestudio/angle.sines", laid_dancestudio_angle_sines)], narrowed := true }
def AngleSinesUptoSaid : Prop := angleSinesUptoRow.holds Tryd.pinned (OpenSpec.upto angleSinesSpec)

/-- 'dancestudiolaw02.AngleCircle', WHERE WHAT IT READS IS OF BULK AT MOST 1048576: true; the input reads as it did. -/
def angleCircleUptoRow : OpenClaim := { program := "ytimckeecmjiemaadoor", sum := "9c7c7e15530e14cfa87b89059519487ee4c31742ad6ade9a68a019c40c6af658", func := "dancestudio/dancestudiolaw02.AngleCircle", spec := "angleCircle", named := ["dancestudio/angle.sines"], apart := false, laid := [("dancestudio/angle.sines", laid_dancestudio_angle_sines)], narrowed := true }
def AngleCircleUptoSaid : Prop := angleCircleUptoRow.holds Tryd.pinned (OpenSpec.upto angleCircleSpec)

/-- 'dancestudiolaw02.AngleBetween', WHERE WHAT IT READS IS OF BULK AT MOST 1048576: true; the input reads as it did. -/
def angleBetweenUptoRow : OpenClaim := { program := "ytimckeecmjiemaadoor", sum := "9c7c7e15530e14cfa87b89059519487ee4c31742ad6ade9a68a019c40c6af658", func := "dancestudio/dancestudiolaw02.AngleBetween", spec := "angleBetween", named := ["dancestudio/angle.sines"], apart := false, laid := [("dancestudio/angle.sines", laid_dancestudio_angle_sines)], narrowed := true }
def AngleBetweenUptoSaid : Prop := angleBetweenUptoRow.holds Tryd.pinned (OpenSpec.upto angleBetweenSpec)

/-- 'dancestudiolaw02.AngleBack', WHERE WHAT IT READS IS OF BULK AT MOST 1048576: true; the input reads as it did. -/
def angleBackUptoRow : OpenClaim := { program := "ytimckeecmjiemaadoor", sum := "9c7c7e15530e14cfa87b89059519487ee4c31742ad6ade9a68a019c40c6af658", func := "dancestudio/dancestudiolaw02.AngleBack", spec := "angleBack", named := ["dancestudio/angle.sines"], apart := false, laid := [("dancestudio/angle.sines", laid_dancestudio_angle_sines)], narrowed := true }
def AngleBackUptoSaid : Prop := angleBackUptoRow.holds Tryd.pinned (OpenSpec.upto angleBackSpec)

/-- 'dancestudiolaw02.AngleTurned', WHERE WHAT IT READS IS OF BULK AT MOST 1048576: true; the input reads as it did. -/
def angleTurnedUptoRow : OpenClaim := { program := "ytimckeecmjiemaadoor", sum := "9c7c7e15530e14cfa87b89059519487ee4c31742ad6ade9a68a019c40c6af658", func := "dancestudio/dancestudiolaw02.AngleTurned", spec := "angleTurned", named := ["dancestudio/angle.sines"], apart := false, laid := [("dancestudio/angle.sines", laid_dancestudio_angle_sines)], narrowed := true }
def AngleTurnedUptoSaid : Prop := angleTurnedUptoRow.holds Tryd.pinned (OpenSpec.upto angleTurnedSpec)

/-- 'dancestudiolaw02.AngleTurns', WHERE WHAT IT READS IS OF BULK AT MOST 1048576: true; the input reads as it did. -/
def angleTurnsUptoRow : OpenClaim := { program := "ytimckeecmjiemaadoor", sum := "9c7c7e15530e14cfa87b89059519487ee4c31742ad6ade9a68a019c40c6af658", func := "dancestudio/dancestudiolaw02.AngleTurns", spec := "angleTurns", named := ["dancestudio/angle.sines"], apart := false, laid := [("dancestudio/angle.sines", laid_dancestudio_angle_sines)], narrowed := true }
def AngleTurnsUptoSaid : Prop := angleTurnsUptoRow.holds Tryd.pinned (OpenSpec.upto angleTurnsSpec)

/-- 'dancestudiolaw02.AngleImage', WHERE WHAT IT READS IS OF BULK AT MOST 1048576: true; the input reads as it did. -/
def angleImageUptoRow : OpenClaim := { program := "ytimckeecmjiemaadoor", sum := "9c7c7e15530e14cfa87b89059519487ee4c31742ad6ade9a68a019c40c6af658", func := "dancestudio/dancestudiolaw02.AngleImage", spec := "angleImage", named := ["dancestudio/angle.sines"], apart := false, laid := [("dancestudio/angle.sines", laid_dancestudio_angle_sines)], narrowed := true }
def AngleImageUptoSaid : Prop := angleImageUptoRow.holds Tryd.pinned (OpenSpec.upto angleImageSpec)

end Rows
end Go.Proofs.YtimckeecmjiemaaDoor
