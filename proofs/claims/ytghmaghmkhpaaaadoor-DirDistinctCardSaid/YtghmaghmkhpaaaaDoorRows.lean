/-
  NARROWER THAN 'FOR EVERY INPUT', by the rows' own cells (each row's printed sentence says how): DirChecks: laid · DirRotates: laid · DirNames: laid · DirParses: laid · DirGroup: laid · DirEighths: laid · DirBack: laid · DirDistinct: laid.
  DERIVED. THE GIVEN ROWS OF THIS SEAT. 8 by the template 'for every input the law returns true; each argument reads behind the call as it read before'; 0 by the template 'total and deterministic' (their statements: YtghmaghmkhpaaaaDoorTotals.lean).
  GIVEN WITH THE SEED: the statements are not yours to turn. If you find one false, say at which input.
  Laid BY PROGRAM, IN A SANDBOX (cutbox-rows.mjs): the forced cells as the released guide's own fill.sh prints them over the translation 79fb5d75a3ed1707… (all of the seat's roots in one cut). By AI agents, Wed Nov 11 2026. No macro, syntax, notation, axiom, sorry.
-/
import Derived.Test.YtghmaghmkhpaaaaDoorChecked
import GoSem.Claim
import GoSem.ClaimJoined
import GoSem.ClaimMapViews
import Derived.JoinedTies
import Derived.KernelRfl
namespace Go.Proofs.YtghmaghmkhpaaaaDoor
/- THE CELL 'sum', in the pinned program and in every row, IS THE sha256 OF THE DUMP (.gsa) THAT YtghmaghmkhpaaaaDoorProg.lean LOADS. Nothing in Lean hashes anything: it is a label: what it is worth is what the hold of that sum in a sandbox is worth. -/
noncomputable def Tryd.pinned : Pinned := { name := "ytghmaghmkhpaaaadoor", sum := "79fb5d75a3ed1707ac0bcc5258b5342a9f6b275176a03822c97885afff1f6d77", checked := Tryd.checked }
namespace Rows
def none {H : Type} : Left H := { results := [], args := [] }

/- WHAT THE LISTED PACKAGE-LEVEL VARIABLES READ AS WHEN THE CALL BEGINS. Each datum BY PROGRAM (the guide's laid-datum.mjs) off the statement by which the dump's own 'gosem.cut.vars' lays the variable. In a bare row this is a premise. The card (YtghmaghmkhpaaaaDoorCards.lean) ties it to the program's text. -/
def laid_dancestudio_dir_dirs {H : Type} : DataW H := .agg [.lit (.string [112, 108, 97, 99, 101]), .lit (.string [102, 111, 114, 119, 97, 114, 100]), .lit (.string [102, 111, 114, 119, 97, 114, 100, 45, 114, 105, 103, 104, 116]), .lit (.string [114, 105, 103, 104, 116]), .lit (.string [98, 97, 99, 107, 45, 114, 105, 103, 104, 116]), .lit (.string [98, 97, 99, 107]), .lit (.string [98, 97, 99, 107, 45, 108, 101, 102, 116]), .lit (.string [108, 101, 102, 116]), .lit (.string [102, 111, 114, 119, 97, 114, 100, 45, 108, 101, 102, 116])]
def laid_dancestudio_dir_levels {H : Type} : DataW H := .agg [.lit (.string [108, 111, 119]), .lit (.string [109, 105, 100, 100, 108, 101]), .lit (.string [104, 105, 103, 104])]

/-- 'dancestudiolaw16.DirChecks': WHATEVER THE INPUT: true; the input reads as it did. -/
def dirChecksSpec : ChangeSpec := { name := "dirChecks", fn := fun _ => fun
  | [d1, d2] => { results := [.lit (.bool true)], args := [d1, d2] }
  | _ => none }
def dirChecksRow : OpenClaim := { program := "ytghmaghmkhpaaaadoor", sum := "79fb5d75a3ed1707ac0bcc5258b5342a9f6b275176a03822c97885afff1f6d77", func := "dancestudio/dancestudiolaw16.DirChecks", spec := "dirChecks", named := ["dancestudio/dir.dirs", "dancestudio/dir.levels"], apart := false, laid := [("dancestudio/dir.dirs", laid_dancestudio_dir_dirs), ("dancestudio/dir.levels", laid_dancestudio_dir_levels)] }
def DirChecksSaid : Prop := dirChecksRow.holds Tryd.pinned (OpenSpec.ofChange dirChecksSpec)

/-- ITS FALSE NEIGHBOUR: 'it returns false'. Refute it at one input. -/
def dirChecksWrong : ChangeSpec := { name := "dirChecks", fn := fun _ => fun
  | [d1, d2] => { results := [.lit (.bool false)], args := [d1, d2] }
  | _ => none }
def DirChecksWrongFalsely : Prop := dirChecksRow.holds Tryd.pinned (OpenSpec.ofChange dirChecksWrong)

/-- 'dancestudiolaw16.DirRotates': WHATEVER THE INPUT: true; the input reads as it did. -/
def dirRotatesSpec : ChangeSpec := { name := "dirRotates", fn := fun _ => fun
  | [d1, d2] => { results := [.lit (.bool true)], args := [d1, d2] }
  | _ => none }
def dirRotatesRow : OpenClaim := { program := "ytghmaghmkhpaaaadoor", sum := "79fb5d75a3ed1707ac0bcc5258b5342a9f6b275176a03822c97885afff1f6d77", func := "dancestudio/dancestudiolaw16.DirRotates", spec := "dirRotates", named := ["dancestudio/dir.dirs", "dancestudio/dir.levels"], apart := false, laid := [("dancestudio/dir.dirs", laid_dancestudio_dir_dirs), ("dancestudio/dir.levels", laid_dancestudio_dir_levels)] }
def DirRotatesSaid : Prop := dirRotatesRow.holds Tryd.pinned (OpenSpec.ofChange dirRotatesSpec)

/-- ITS FALSE NEIGHBOUR: 'it returns false'. Refute it at one input. -/
def dirRotatesWrong : ChangeSpec := { name := "dirRotates", fn := fun _ => fun
  | [d1, d2] => { results := [.lit (.bool false)], args := [d1, d2] }
  | _ => none }
def DirRotatesWrongFalsely : Prop := dirRotatesRow.holds Tryd.pinned (OpenSpec.ofChange dirRotatesWrong)

/-- 'dancestudiolaw16.DirNames': WHATEVER THE INPUT: true; the input reads as it did. -/
def dirNamesSpec : ChangeSpec := { name := "dirNames", fn := fun _ => fun
  | [d1, d2] => { results := [.lit (.bool true)], args := [d1, d2] }
  | _ => none }
def dirNamesRow : OpenClaim := { program := "ytghmaghmkhpaaaadoor", sum := "79fb5d75a3ed1707ac0bcc5258b5342a9f6b275176a03822c97885afff1f6d77", func := "dancestudio/dancestudiolaw16.DirNames", spec := "dirNames", named := ["dancestudio/dir.dirs", "dancestudio/dir.levels"], apart := false, laid := [("dancestudio/dir.dirs", laid_dancestudio_dir_dirs), ("dancestudio/dir.levels", laid_dancestudio_dir_levels)] }
def DirNamesSaid : Prop := dirNamesRow.holds Tryd.pinned (OpenSpec.ofChange dirNamesSpec)

/-- ITS FALSE NEIGHBOUR: 'it returns false'. Refute it at one input. -/
def dirNamesWrong : ChangeSpec := { name := "dirNames", fn := fun _ => fun
  | [d1, d2] => { results := [.lit (.bool false)], args := [d1, d2] }
  | _ => none }
def DirNamesWrongFalsely : Prop := dirNamesRow.holds Tryd.pinned (OpenSpec.ofChange dirNamesWrong)

/-- 'dancestudiolaw16.DirParses': WHATEVER THE INPUT: true; the input reads as it did. -/
def dirParsesSpec : ChangeSpec := { name := "dirParses", fn := fun _ => fun
  | [d] => { results := [.lit (.bool true)], args := [d] }
  | _ => none }
def dirParsesRow : OpenClaim := { program := "ytghmaghmkhpaaaadoor", sum := "79fb5d75a3ed1707ac0bcc5258b5342a9f6b275176a03822c97885afff1f6d77", func := "dancestudio/dancestudiolaw16.DirParses", spec := "dirParses", named := ["dancestudio/dir.dirs", "dancestudio/dir.levels"], apart := false, laid := [("dancestudio/dir.dirs", laid_dancestudio_dir_dirs), ("dancestudio/dir.levels", laid_dancestudio_dir_levels)] }
def DirParsesSaid : Prop := dirParsesRow.holds Tryd.pinned (OpenSpec.ofChange dirParsesSpec)

/-- ITS FALSE NEIGHBOUR: 'it returns false'. Refute it at one input. -/
def dirParsesWrong : ChangeSpec := { name := "dirParses", fn := fun _ => fun
  | [d] => { results := [.lit (.bool false)], args := [d] }
  | _ => none }
def DirParsesWrongFalsely : Prop := dirParsesRow.holds Tryd.pinned (OpenSpec.ofChange dirParsesWrong)

/-- 'dancestudiolaw16.DirGroup': WHATEVER THE INPUT: true; the input reads as it did. -/
def dirGroupSpec : ChangeSpec := { name := "dirGroup", fn := fun _ => fun
  | [d1, d2, d3] => { results := [.lit (.bool true)], args := [d1, d2, d3] }
  | _ => none }
def dirGroupRow : OpenClaim := { program := "ytghmaghmkhpaaaadoor", sum := "79fb5d75a3ed1707ac0bcc5258b5342a9f6b275176a03822c97885afff1f6d77", func := "dancestudio/dancestudiolaw16.DirGroup", spec := "dirGroup", named := ["dancestudio/dir.dirs", "dancestudio/dir.levels"], apart := false, laid := [("dancestudio/dir.dirs", laid_dancestudio_dir_dirs), ("dancestudio/dir.levels", laid_dancestudio_dir_levels)] }
def DirGroupSaid : Prop := dirGroupRow.holds Tryd.pinned (OpenSpec.ofChange dirGroupSpec)

/-- ITS FALSE NEIGHBOUR: 'it returns false'. Refute it at one input. -/
def dirGroupWrong : ChangeSpec := { name := "dirGroup", fn := fun _ => fun
  | [d1, d2, d3] => { results := [.lit (.bool false)], args := [d1, d2, d3] }
  | _ => none }
def DirGroupWrongFalsely : Prop := dirGroupRow.holds Tryd.pinned (OpenSpec.ofChange dirGroupWrong)

/-- 'dancestudiolaw16.DirEighths': WHATEVER THE INPUT: true; the input reads as it did. -/
def dirEighthsSpec : ChangeSpec := { name := "dirEighths", fn := fun _ => fun
  | [d1, d2] => { results := [.lit (.bool true)], args := [d1, d2] }
  | _ => none }
def dirEighthsRow : OpenClaim := { program := "ytghmaghmkhpaaaadoor", sum := "79fb5d75a3ed1707ac0bcc5258b5342a9f6b275176a03822c97885afff1f6d77", func := "dancestudio/dancestudiolaw16.DirEighths", spec := "dirEighths", named := ["dancestudio/dir.dirs", "dancestudio/dir.levels"], apart := false, laid := [("dancestudio/dir.dirs", laid_dancestudio_dir_dirs), ("dancestudio/dir.levels", laid_dancestudio_dir_levels)] }
def DirEighthsSaid : Prop := dirEighthsRow.holds Tryd.pinned (OpenSpec.ofChange dirEighthsSpec)

/-- ITS FALSE NEIGHBOUR: 'it returns false'. Refute it at one input. -/
def dirEighthsWrong : ChangeSpec := { name := "dirEighths", fn := fun _ => fun
  | [d1, d2] => { results := [.lit (.bool false)], args := [d1, d2] }
  | _ => none }
def DirEighthsWrongFalsely : Prop := dirEighthsRow.holds Tryd.pinned (OpenSpec.ofChange dirEighthsWrong)

/-- 'dancestudiolaw16.DirBack': WHATEVER THE INPUT: true; the input reads as it did. -/
def dirBackSpec : ChangeSpec := { name := "dirBack", fn := fun _ => fun
  | [d1, d2, d3] => { results := [.lit (.bool true)], args := [d1, d2, d3] }
  | _ => none }
def dirBackRow : OpenClaim := { program := "ytghmaghmkhpaaaadoor", sum := "79fb5d75a3ed1707ac0bcc5258b5342a9f6b275176a03822c97885afff1f6d77", func := "dancestudio/dancestudiolaw16.DirBack", spec := "dirBack", named := ["dancestudio/dir.dirs", "dancestudio/dir.levels"], apart := false, laid := [("dancestudio/dir.dirs", laid_dancestudio_dir_dirs), ("dancestudio/dir.levels", laid_dancestudio_dir_levels)] }
def DirBackSaid : Prop := dirBackRow.holds Tryd.pinned (OpenSpec.ofChange dirBackSpec)

/-- ITS FALSE NEIGHBOUR: 'it returns false'. Refute it at one input. -/
def dirBackWrong : ChangeSpec := { name := "dirBack", fn := fun _ => fun
  | [d1, d2, d3] => { results := [.lit (.bool false)], args := [d1, d2, d3] }
  | _ => none }
def DirBackWrongFalsely : Prop := dirBackRow.holds Tryd.pinned (OpenSpec.ofChange dirBackWrong)

/-- 'dancestudiolaw16.DirDistinct': WHATEVER THE INPUT: true; the input reads as it did. -/
def dirDistinctSpec : ChangeSpec := { name := "dirDistinct", fn := fun _ => fun
  | [d1, d2, d3] => { results := [.lit (.bool true)], args := [d1, d2, d3] }
  | _ => none }
def dirDistinctRow : OpenClaim := { program := "ytghmaghmkhpaaaadoor", sum := "79fb5d75a3ed1707ac0bcc5258b5342a9f6b275176a03822c97885afff1f6d77", func := "dancestudio/dancestudiolaw16.DirDistinct", spec := "dirDistinct", named := ["dancestudio/dir.dirs", "dancestudio/dir.levels"], apart := false, laid := [("dancestudio/dir.dirs", laid_dancestudio_dir_dirs), ("dancestudio/dir.levels", laid_dancestudio_dir_levels)] }
def DirDistinctSaid : Prop := dirDistinctRow.holds Tryd.pinned (OpenSpec.ofChange dirDistinctSpec)

/-- ITS FALSE NEIGHBOUR: 'it returns false'. Refute it at one input. -/
def dirDistinctWrong : ChangeSpec := { name := "dirDistinct", fn := fun _ => fun
  | [d1, d2, d3] => { results := [.lit (.bool false)], args := [d1, d2, d3] }
  | _ => none }
def DirDistinctWrongFalsely : Prop := dirDistinctRow.holds Tryd.pinned (OpenSpec.ofChange dirDistinctWrong)

/- THE SECOND FORM. 'bulk': how many values and letters a reading holds, each counted each time it is reached (what is shared counts as often as it is met; a slice's spare places count too). A statement '..UptoSaid' is the law's where the arguments, and the package variables that the reading takes, are together of bulk at most 1048576: NARROWER than '..Said'. Prove '..Said' where nothing that the law and all that it calls make is longer than what came in: it says more and counts as full. Else prove '..UptoSaid'. A law counts once. -/
mutual
def uptoBulk {H : Type} : DataW H → Nat
  | .lit (.string bytes) => bytes.length + 1
  | .lit _ => 1
  | .nil => 1
  | .ptr d => uptoBulk d + 1
  | .slice elems spare => uptoBulkAll elems + uptoBulkAll spare + 1
  | .agg parts => uptoBulkAll parts + 1
  | .iface _ d => uptoBulk d + 1
  | .map entries => uptoBulkEntries entries + 1
  | .held _ => 1
def uptoBulkAll {H : Type} : List (DataW H) → Nat
  | [] => 0
  | d :: r => uptoBulk d + uptoBulkAll r
def uptoBulkEntries {H : Type} : List (Lit × DataW H) → Nat
  | [] => 0
  | x :: r => uptoBulkEntry x + uptoBulkEntries r
def uptoBulkEntry {H : Type} : Lit × DataW H → Nat
  | (.string bytes, d) => bytes.length + uptoBulk d + 1
  | (_, d) => uptoBulk d + 1
 end
def uptoSmall : (H : Type) → List (DataW H) → Bool := fun _ ds => decide (uptoBulkAll ds ≤ 1048576)
def OpenSpec.upto (s : _root_.Go.ChangeSpec) : _root_.Go.OpenSpec := { _root_.Go.OpenSpec.ofChange s with cond := some uptoSmall }

/-- 'dancestudiolaw16.DirChecks', WHERE WHAT IT READS IS OF BULK AT MOST 1048576: true; the input reads as it did. -/
def dirChecksUptoRow : OpenClaim := { program := "ytghmaghmkhpaaaadoor", sum := "79fb5d75a3ed1707ac0bcc5258b5342a9f6b275176a03822c97885afff1f6d77", func := "dancestudio/dancestudiolaw16.DirChecks", spec := "dirChecks", named := ["dancestudio/dir.dirs", "dancestudio/dir.levels"], apart := false, laid := [("dancestudio/dir.dirs", laid_dancestudio_dir_dirs), ("dancestudio/dir.levels", laid_dancestudio_dir_levels)], narrowed := true }
def DirChecksUptoSaid : Prop := dirChecksUptoRow.holds Tryd.pinned (OpenSpec.upto dirChecksSpec)

/-- 'dancestudiolaw16.DirRotates', WHERE WHAT IT READS IS OF BULK AT MOST 1048576: true; the input reads as it did. -/
def dirRotatesUptoRow : OpenClaim := { program := "ytghmaghmkhpaaaadoor", sum := "79fb5d75a3ed1707ac0bcc5258b5342a9f6b275176a03822c97885afff1f6d77", func := "dancestudio/dancestudiolaw16.DirRotates", spec := "dirRotates", named := ["dancestudio/dir.dirs", "dancestudio/dir.levels"], apart := false, laid := [("dancestudio/dir.dirs", laid_dancestudio_dir_dirs), ("dancestudio/dir.levels", laid_dancestudio_dir_levels)], narrowed := true }
def DirRotatesUptoSaid : Prop := dirRotatesUptoRow.holds Tryd.pinned (OpenSpec.upto dirRotatesSpec)

/-- 'dancestudiolaw16.DirNames', WHERE WHAT IT READS IS OF BULK AT MOST 1048576: true; the input reads as it did. -/
def dirNamesUptoRow : OpenClaim := { program := "ytghmaghmkhpaaaadoor", sum := "79fb5d75a3ed1707ac0bcc5258b5342a9f6b275176a03822c97885afff1f6d77", func := "dancestudio/dancestudiolaw16.DirNames", spec := "dirNames", named := ["dancestudio/dir.dirs", "dancestudio/dir.levels"], apart := false, laid := [("dancestudio/dir.dirs", laid_dancestudio_dir_dirs), ("dancestudio/dir.levels", laid_dancestudio_dir_levels)], narrowed := true }
def DirNamesUptoSaid : Prop := dirNamesUptoRow.holds Tryd.pinned (OpenSpec.upto dirNamesSpec)

/-- 'dancestudiolaw16.DirParses', WHERE WHAT IT READS IS OF BULK AT MOST 1048576: true; the input reads as it did. -/
def dirParsesUptoRow : OpenClaim := { program := "ytghmaghmkhpaaaadoor", sum := "79fb5d75a3ed1707ac0bcc5258b5342a9f6b275176a03822c97885afff1f6d77", func := "dancestudio/dancestudiolaw16.DirParses", spec := "dirParses", named := ["dancestudio/dir.dirs", "dancestudio/dir.levels"], apart := false, laid := [("dancestudio/dir.dirs", laid_dancestudio_dir_dirs), ("dancestudio/dir.levels", laid_dancestudio_dir_levels)], narrowed := true }
def DirParsesUptoSaid : Prop := dirParsesUptoRow.holds Tryd.pinned (OpenSpec.upto dirParsesSpec)

/-- 'dancestudiolaw16.DirGroup', WHERE WHAT IT READS IS OF BULK AT MOST 1048576: true; the input reads as it did. -/
def dirGroupUptoRow : OpenClaim := { program := "ytghmaghmkhpaaaadoor", sum := "79fb5d75a3ed1707ac0bcc5258b5342a9f6b275176a03822c97885afff1f6d77", func := "dancestudio/dancestudiolaw16.DirGroup", spec := "dirGroup", named := ["dancestudio/dir.dirs", "dancestudio/dir.levels"], apart := false, laid := [("dancestudio/dir.dirs", laid_dancestudio_dir_dirs), ("dancestudio/dir.levels", laid_dancestudio_dir_levels)], narrowed := true }
def DirGroupUptoSaid : Prop := dirGroupUptoRow.holds Tryd.pinned (OpenSpec.upto dirGroupSpec)

/-- 'dancestudiolaw16.DirEighths', WHERE WHAT IT READS IS OF BULK AT MOST 1048576: true; the input reads as it did. -/
def dirEighthsUptoRow : OpenClaim := { program := "ytghmaghmkhpaaaadoor", sum := "79fb5d75a3ed1707ac0bcc5258b5342a9f6b275176a03822c97885afff1f6d77", func := "dancestudio/dancestudiolaw16.DirEighths", spec := "dirEighths", named := ["dancestudio/dir.dirs", "dancestudio/dir.levels"], apart := false, laid := [("dancestudio/dir.dirs", laid_dancestudio_dir_dirs), ("dancestudio/dir.levels", laid_dancestudio_dir_levels)], narrowed := true }
def DirEighthsUptoSaid : Prop := dirEighthsUptoRow.holds Tryd.pinned (OpenSpec.upto dirEighthsSpec)

/-- 'dancestudiolaw16.DirBack', WHERE WHAT IT READS IS OF BULK AT MOST 1048576: true; the input reads as it did. -/
def dirBackUptoRow : OpenClaim := { program := "ytghmaghmkhpaaaadoor", sum := "79fb5d75a3ed1707ac0bcc5258b5342a9f6b275176a03822c97885afff1f6d77", func := "dancestudio/dancestudiolaw16.DirBack", spec := "dirBack", named := ["dancestudio/dir.dirs", "dancestudio/dir.levels"], apart := false, laid := [("dancestudio/dir.dirs", laid_dancestudio_dir_dirs), ("dancestudio/dir.levels", laid_dancestudio_dir_levels)], narrowed := true }
def DirBackUptoSaid : Prop := dirBackUptoRow.holds Tryd.pinned (OpenSpec.upto dirBackSpec)

/-- 'dancestudiolaw16.DirDistinct', WHERE WHAT IT READS IS OF BULK AT MOST 1048576: true; the input reads as it did. -/
def dirDistinctUptoRow : OpenClaim := { program := "ytghmaghmkhpaaaadoor", sum := "79fb5d75a3ed1707ac0bcc5258b5342a9f6b275176a03822c97885afff1f6d77", func := "dancestudio/dancestudiolaw16.DirDistinct", spec := "dirDistinct", named := ["dancestudio/dir.dirs", "dancestudio/dir.levels"], apart := false, laid := [("dancestudio/dir.dirs", laid_dancestudio_dir_dirs), ("dancestudio/dir.levels", laid_dancestudio_dir_levels)], narrowed := true }
def DirDistinctUptoSaid : Prop := dirDistinctUptoRow.holds Tryd.pinned (OpenSpec.upto dirDistinctSpec)

end Rows
end Go.Proofs.YtghmaghmkhpaaaaDoor
