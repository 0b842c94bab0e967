/-
  DERIVED. GIVEN WITH THE SEED: THE CARDS: each row of YtghmaghmkhpaaaaDoorRows.lean that lists a variable, with what it lists TIED to the program's text (the seventh form; the later family's looks); each row that meets fmt, with fmt's text TOLD by the authors' own Lean function (tested against real Go, not proved from fmt's source: count such statements apart). THE CARD IS WHAT COUNTS. Prove the row's statement (the work); the ties are given (YtghmaghmkhpaaaaDoorTie.lean); close each card by the builder's one call (the guide's Derived/Test/ToyasCard.lean, 'card_holds'). Laid BY PROGRAM, IN A SANDBOX (cutbox-door.mjs). By AI agents, Wed Nov 11 2026. No macro, syntax, notation, axiom, sorry.
-/
import Derived.Test.YtghmaghmkhpaaaaDoorRows
import GoSem.ClaimSeven
namespace Go.Proofs.YtghmaghmkhpaaaaDoor
namespace Rows

/-- THE TIED CARD OF 'dancestudiolaw16.DirChecks'. -/
def dirChecksCard : Claim7 := { stood := { row := dirChecksRow, standIns := [], harness := (true, "3e400c55e4b26c23c92f4f0e21ad35e506bc61a303e1c6f2b17e3bc9c8db5c47"), looks := false }, kinds := [], alts := [], laidByText := true, laidKinds := [.data, .data], laidTests := true, laidLooks := .later }
def DirChecksCardSaid : Prop := Claim7.holds Tryd.pinned (.plain (OpenSpec.ofChange dirChecksSpec)) dirChecksCard

/-- THE TIED CARD OF 'dancestudiolaw16.DirRotates'. -/
def dirRotatesCard : Claim7 := { stood := { row := dirRotatesRow, standIns := [], harness := (true, "3e400c55e4b26c23c92f4f0e21ad35e506bc61a303e1c6f2b17e3bc9c8db5c47"), looks := false }, kinds := [], alts := [], laidByText := true, laidKinds := [.data, .data], laidTests := true, laidLooks := .later }
def DirRotatesCardSaid : Prop := Claim7.holds Tryd.pinned (.plain (OpenSpec.ofChange dirRotatesSpec)) dirRotatesCard

/-- THE TIED CARD OF 'dancestudiolaw16.DirNames'. -/
def dirNamesCard : Claim7 := { stood := { row := dirNamesRow, standIns := [], harness := (true, "3e400c55e4b26c23c92f4f0e21ad35e506bc61a303e1c6f2b17e3bc9c8db5c47"), looks := false }, kinds := [], alts := [], laidByText := true, laidKinds := [.data, .data], laidTests := true, laidLooks := .later }
def DirNamesCardSaid : Prop := Claim7.holds Tryd.pinned (.plain (OpenSpec.ofChange dirNamesSpec)) dirNamesCard

/-- THE TIED CARD OF 'dancestudiolaw16.DirParses'. -/
def dirParsesCard : Claim7 := { stood := { row := dirParsesRow, standIns := [], harness := (true, "3e400c55e4b26c23c92f4f0e21ad35e506bc61a303e1c6f2b17e3bc9c8db5c47"), looks := false }, kinds := [], alts := [], laidByText := true, laidKinds := [.data, .data], laidTests := true, laidLooks := .later }
def DirParsesCardSaid : Prop := Claim7.holds Tryd.pinned (.plain (OpenSpec.ofChange dirParsesSpec)) dirParsesCard

/-- THE TIED CARD OF 'dancestudiolaw16.DirGroup'. -/
def dirGroupCard : Claim7 := { stood := { row := dirGroupRow, standIns := [], harness := (true, "3e400c55e4b26c23c92f4f0e21ad35e506bc61a303e1c6f2b17e3bc9c8db5c47"), looks := false }, kinds := [], alts := [], laidByText := true, laidKinds := [.data, .data], laidTests := true, laidLooks := .later }
def DirGroupCardSaid : Prop := Claim7.holds Tryd.pinned (.plain (OpenSpec.ofChange dirGroupSpec)) dirGroupCard

/-- THE TIED CARD OF 'dancestudiolaw16.DirEighths'. -/
def dirEighthsCard : Claim7 := { stood := { row := dirEighthsRow, standIns := [], harness := (true, "3e400c55e4b26c23c92f4f0e21ad35e506bc61a303e1c6f2b17e3bc9c8db5c47"), looks := false }, kinds := [], alts := [], laidByText := true, laidKinds := [.data, .data], laidTests := true, laidLooks := .later }
def DirEighthsCardSaid : Prop := Claim7.holds Tryd.pinned (.plain (OpenSpec.ofChange dirEighthsSpec)) dirEighthsCard

/-- THE TIED CARD OF 'dancestudiolaw16.DirBack'. -/
def dirBackCard : Claim7 := { stood := { row := dirBackRow, standIns := [], harness := (true, "3e400c55e4b26c23c92f4f0e21ad35e506bc61a303e1c6f2b17e3bc9c8db5c47"), looks := false }, kinds := [], alts := [], laidByText := true, laidKinds := [.data, .data], laidTests := true, laidLooks := .later }
def DirBackCardSaid : Prop := Claim7.holds Tryd.pinned (.plain (OpenSpec.ofChange dirBackSpec)) dirBackCard

/-- THE TIED CARD OF 'dancestudiolaw16.DirDistinct'. -/
def dirDistinctCard : Claim7 := { stood := { row := dirDistinctRow, standIns := [], harness := (true, "3e400c55e4b26c23c92f4f0e21ad35e506bc61a303e1c6f2b17e3bc9c8db5c47"), looks := false }, kinds := [], alts := [], laidByText := true, laidKinds := [.data, .data], laidTests := true, laidLooks := .later }
def DirDistinctCardSaid : Prop := Claim7.holds Tryd.pinned (.plain (OpenSpec.ofChange dirDistinctSpec)) dirDistinctCard

/-- THE SECOND FORM's CARD OF 'dancestudiolaw16.DirChecks'. -/
def dirChecksUptoCard : Claim7 := { stood := { row := dirChecksUptoRow, standIns := [], harness := (true, "3e400c55e4b26c23c92f4f0e21ad35e506bc61a303e1c6f2b17e3bc9c8db5c47"), looks := false }, kinds := [], alts := [], laidByText := true, laidKinds := [.data, .data], laidTests := true, laidLooks := .later }
def DirChecksUptoCardSaid : Prop := Claim7.holds Tryd.pinned (.plain (OpenSpec.upto dirChecksSpec)) dirChecksUptoCard

/-- THE SECOND FORM's CARD OF 'dancestudiolaw16.DirRotates'. -/
def dirRotatesUptoCard : Claim7 := { stood := { row := dirRotatesUptoRow, standIns := [], harness := (true, "3e400c55e4b26c23c92f4f0e21ad35e506bc61a303e1c6f2b17e3bc9c8db5c47"), looks := false }, kinds := [], alts := [], laidByText := true, laidKinds := [.data, .data], laidTests := true, laidLooks := .later }
def DirRotatesUptoCardSaid : Prop := Claim7.holds Tryd.pinned (.plain (OpenSpec.upto dirRotatesSpec)) dirRotatesUptoCard

/-- THE SECOND FORM's CARD OF 'dancestudiolaw16.DirNames'. -/
def dirNamesUptoCard : Claim7 := { stood := { row := dirNamesUptoRow, standIns := [], harness := (true, "3e400c55e4b26c23c92f4f0e21ad35e506bc61a303e1c6f2b17e3bc9c8db5c47"), looks := false }, kinds := [], alts := [], laidByText := true, laidKinds := [.data, .data], laidTests := true, laidLooks := .later }
def DirNamesUptoCardSaid : Prop := Claim7.holds Tryd.pinned (.plain (OpenSpec.upto dirNamesSpec)) dirNamesUptoCard

/-- THE SECOND FORM's CARD OF 'dancestudiolaw16.DirParses'. -/
def dirParsesUptoCard : Claim7 := { stood := { row := dirParsesUptoRow, standIns := [], harness := (true, "3e400c55e4b26c23c92f4f0e21ad35e506bc61a303e1c6f2b17e3bc9c8db5c47"), looks := false }, kinds := [], alts := [], laidByText := true, laidKinds := [.data, .data], laidTests := true, laidLooks := .later }
def DirParsesUptoCardSaid : Prop := Claim7.holds Tryd.pinned (.plain (OpenSpec.upto dirParsesSpec)) dirParsesUptoCard

/-- THE SECOND FORM's CARD OF 'dancestudiolaw16.DirGroup'. -/
def dirGroupUptoCard : Claim7 := { stood := { row := dirGroupUptoRow, standIns := [], harness := (true, "3e400c55e4b26c23c92f4f0e21ad35e506bc61a303e1c6f2b17e3bc9c8db5c47"), looks := false }, kinds := [], alts := [], laidByText := true, laidKinds := [.data, .data], laidTests := true, laidLooks := .later }
def DirGroupUptoCardSaid : Prop := Claim7.holds Tryd.pinned (.plain (OpenSpec.upto dirGroupSpec)) dirGroupUptoCard

/-- THE SECOND FORM's CARD OF 'dancestudiolaw16.DirEighths'. -/
def dirEighthsUptoCard : Claim7 := { stood := { row := dirEighthsUptoRow, standIns := [], harness := (true, "3e400c55e4b26c23c92f4f0e21ad35e506bc61a303e1c6f2b17e3bc9c8db5c47"), looks := false }, kinds := [], alts := [], laidByText := true, laidKinds := [.data, .data], laidTests := true, laidLooks := .later }
def DirEighthsUptoCardSaid : Prop := Claim7.holds Tryd.pinned (.plain (OpenSpec.upto dirEighthsSpec)) dirEighthsUptoCard

/-- THE SECOND FORM's CARD OF 'dancestudiolaw16.DirBack'. -/
def dirBackUptoCard : Claim7 := { stood := { row := dirBackUptoRow, standIns := [], harness := (true, "3e400c55e4b26c23c92f4f0e21ad35e506bc61a303e1c6f2b17e3bc9c8db5c47"), looks := false }, kinds := [], alts := [], laidByText := true, laidKinds := [.data, .data], laidTests := true, laidLooks := .later }
def DirBackUptoCardSaid : Prop := Claim7.holds Tryd.pinned (.plain (OpenSpec.upto dirBackSpec)) dirBackUptoCard

/-- THE SECOND FORM's CARD OF 'dancestudiolaw16.DirDistinct'. -/
def dirDistinctUptoCard : Claim7 := { stood := { row := dirDistinctUptoRow, standIns := [], harness := (true, "3e400c55e4b26c23c92f4f0e21ad35e506bc61a303e1c6f2b17e3bc9c8db5c47"), looks := false }, kinds := [], alts := [], laidByText := true, laidKinds := [.data, .data], laidTests := true, laidLooks := .later }
def DirDistinctUptoCardSaid : Prop := Claim7.holds Tryd.pinned (.plain (OpenSpec.upto dirDistinctSpec)) dirDistinctUptoCard
end Rows
end Go.Proofs.YtghmaghmkhpaaaaDoor
