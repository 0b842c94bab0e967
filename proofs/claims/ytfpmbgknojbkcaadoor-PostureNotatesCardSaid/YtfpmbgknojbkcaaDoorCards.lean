/-
  DERIVED. GIVEN WITH THE SEED: THE CARDS: each row of YtfpmbgknojbkcaaDoorRows.lean that lists a variable, with what it lists TIED to the program's text (the seventh form; the later family's looks); each row that meets fmt, with fmt's text TOLD by the authors' own Lean function (tested against real Go, not proved from fmt's source: count such statements apart). THE CARD IS WHAT COUNTS. Prove the row's statement (the work); the ties are given (YtfpmbgknojbkcaaDoorTie.lean); close each card by the builder's one call (the guide's Derived/Test/ToyasCard.lean, 'card_holds'). Laid BY PROGRAM, IN A SANDBOX (cutbox-door.mjs). By AI agents, Wed Nov 11 2026. No macro, syntax, notation, axiom, sorry.
-/
import Derived.Test.YtfpmbgknojbkcaaDoorRows
import GoSem.ClaimSeven
namespace Go.Proofs.YtfpmbgknojbkcaaDoor
namespace Rows

/-- THE TIED CARD OF 'dancestudiolaw19.PostureChecks'. -/
def postureChecksCard : Claim7 := { stood := { row := postureChecksRow, standIns := [], harness := (true, "010fe12ed578b25099a754a763569cce210c68c30634523be92ac42057a67197"), looks := false }, kinds := [], alts := [], laidByText := true, laidKinds := [.data], laidTests := true, laidLooks := .later }
def PostureChecksCardSaid : Prop := Claim7.holds Tryd.pinned (.plain (OpenSpec.ofChange postureChecksSpec)) postureChecksCard

/-- THE TIED CARD OF 'dancestudiolaw19.PostureNotates'. -/
def postureNotatesCard : Claim7 := { stood := { row := postureNotatesRow, standIns := [], harness := (true, "010fe12ed578b25099a754a763569cce210c68c30634523be92ac42057a67197"), looks := false }, kinds := [], alts := [], laidByText := true, laidKinds := [.data], laidTests := true, laidLooks := .later }
def PostureNotatesCardSaid : Prop := Claim7.holds Tryd.pinned (.plain (OpenSpec.ofChange postureNotatesSpec)) postureNotatesCard

/-- THE TIED CARD OF 'dancestudiolaw19.PostureRotates'. -/
def postureRotatesCard : Claim7 := { stood := { row := postureRotatesRow, standIns := [], harness := (true, "010fe12ed578b25099a754a763569cce210c68c30634523be92ac42057a67197"), looks := false }, kinds := [], alts := [], laidByText := true, laidKinds := [.data], laidTests := true, laidLooks := .later }
def PostureRotatesCardSaid : Prop := Claim7.holds Tryd.pinned (.plain (OpenSpec.ofChange postureRotatesSpec)) postureRotatesCard

/-- THE TIED CARD OF 'dancestudiolaw19.PostureBack'. -/
def postureBackCard : Claim7 := { stood := { row := postureBackRow, standIns := [], harness := (true, "010fe12ed578b25099a754a763569cce210c68c30634523be92ac42057a67197"), looks := false }, kinds := [], alts := [], laidByText := true, laidKinds := [.data], laidTests := true, laidLooks := .later }
def PostureBackCardSaid : Prop := Claim7.holds Tryd.pinned (.plain (OpenSpec.ofChange postureBackSpec)) postureBackCard

/-- THE TIED CARD OF 'dancestudiolaw19.PostureNotated'. -/
def postureNotatedCard : Claim7 := { stood := { row := postureNotatedRow, standIns := [], harness := (true, "010fe12ed578b25099a754a763569cce210c68c30634523be92ac42057a67197"), looks := false }, kinds := [], alts := [], laidByText := true, laidKinds := [.data], laidTests := true, laidLooks := .later }
def PostureNotatedCardSaid : Prop := Claim7.holds Tryd.pinned (.plain (OpenSpec.ofChange postureNotatedSpec)) postureNotatedCard

/-- THE TIED CARD OF 'dancestudiolaw19.PostureMirrors'. -/
def postureMirrorsCard : Claim7 := { stood := { row := postureMirrorsRow, standIns := [], harness := (true, "010fe12ed578b25099a754a763569cce210c68c30634523be92ac42057a67197"), looks := false }, kinds := [], alts := [], laidByText := true, laidKinds := [.data], laidTests := true, laidLooks := .later }
def PostureMirrorsCardSaid : Prop := Claim7.holds Tryd.pinned (.plain (OpenSpec.ofChange postureMirrorsSpec)) postureMirrorsCard

/-- THE TIED CARD OF 'dancestudiolaw19.PostureMoves'. -/
def postureMovesCard : Claim7 := { stood := { row := postureMovesRow, standIns := [], harness := (true, "010fe12ed578b25099a754a763569cce210c68c30634523be92ac42057a67197"), looks := false }, kinds := [], alts := [], laidByText := true, laidKinds := [.data], laidTests := true, laidLooks := .later }
def PostureMovesCardSaid : Prop := Claim7.holds Tryd.pinned (.plain (OpenSpec.ofChange postureMovesSpec)) postureMovesCard

/-- THE TIED CARD OF 'dancestudiolaw19.PosturePoses'. -/
def posturePosesCard : Claim7 := { stood := { row := posturePosesRow, standIns := [], harness := (true, "010fe12ed578b25099a754a763569cce210c68c30634523be92ac42057a67197"), looks := false }, kinds := [], alts := [], laidByText := true, laidKinds := [.data], laidTests := true, laidLooks := .later }
def PosturePosesCardSaid : Prop := Claim7.holds Tryd.pinned (.plain (OpenSpec.ofChange posturePosesSpec)) posturePosesCard

/-- THE SECOND FORM's CARD OF 'dancestudiolaw19.PostureChecks'. -/
def postureChecksUptoCard : Claim7 := { stood := { row := postureChecksUptoRow, standIns := [], harness := (true, "010fe12ed578b25099a754a763569cce210c68c30634523be92ac42057a67197"), looks := false }, kinds := [], alts := [], laidByText := true, laidKinds := [.data], laidTests := true, laidLooks := .later }
def PostureChecksUptoCardSaid : Prop := Claim7.holds Tryd.pinned (.plain (OpenSpec.upto postureChecksSpec)) postureChecksUptoCard

/-- THE SECOND FORM's CARD OF 'dancestudiolaw19.PostureNotates'. -/
def postureNotatesUptoCard : Claim7 := { stood := { row := postureNotatesUptoRow, standIns := [], harness := (true, "010fe12ed578b25099a754a763569cce210c68c30634523be92ac42057a67197"), looks := false }, kinds := [], alts := [], laidByText := true, laidKinds := [.data], laidTests := true, laidLooks := .later }
def PostureNotatesUptoCardSaid : Prop := Claim7.holds Tryd.pinned (.plain (OpenSpec.upto postureNotatesSpec)) postureNotatesUptoCard

/-- THE SECOND FORM's CARD OF 'dancestudiolaw19.PostureRotates'. -/
def postureRotatesUptoCard : Claim7 := { stood := { row := postureRotatesUptoRow, standIns := [], harness := (true, "010fe12ed578b25099a754a763569cce210c68c30634523be92ac42057a67197"), looks := false }, kinds := [], alts := [], laidByText := true, laidKinds := [.data], laidTests := true, laidLooks := .later }
def PostureRotatesUptoCardSaid : Prop := Claim7.holds Tryd.pinned (.plain (OpenSpec.upto postureRotatesSpec)) postureRotatesUptoCard

/-- THE SECOND FORM's CARD OF 'dancestudiolaw19.PostureBack'. -/
def postureBackUptoCard : Claim7 := { stood := { row := postureBackUptoRow, standIns := [], harness := (true, "010fe12ed578b25099a754a763569cce210c68c30634523be92ac42057a67197"), looks := false }, kinds := [], alts := [], laidByText := true, laidKinds := [.data], laidTests := true, laidLooks := .later }
def PostureBackUptoCardSaid : Prop := Claim7.holds Tryd.pinned (.plain (OpenSpec.upto postureBackSpec)) postureBackUptoCard

/-- THE SECOND FORM's CARD OF 'dancestudiolaw19.PostureNotated'. -/
def postureNotatedUptoCard : Claim7 := { stood := { row := postureNotatedUptoRow, standIns := [], harness := (true, "010fe12ed578b25099a754a763569cce210c68c30634523be92ac42057a67197"), looks := false }, kinds := [], alts := [], laidByText := true, laidKinds := [.data], laidTests := true, laidLooks := .later }
def PostureNotatedUptoCardSaid : Prop := Claim7.holds Tryd.pinned (.plain (OpenSpec.upto postureNotatedSpec)) postureNotatedUptoCard

/-- THE SECOND FORM's CARD OF 'dancestudiolaw19.PostureMirrors'. -/
def postureMirrorsUptoCard : Claim7 := { stood := { row := postureMirrorsUptoRow, standIns := [], harness := (true, "010fe12ed578b25099a754a763569cce210c68c30634523be92ac42057a67197"), looks := false }, kinds := [], alts := [], laidByText := true, laidKinds := [.data], laidTests := true, laidLooks := .later }
def PostureMirrorsUptoCardSaid : Prop := Claim7.holds Tryd.pinned (.plain (OpenSpec.upto postureMirrorsSpec)) postureMirrorsUptoCard

/-- THE SECOND FORM's CARD OF 'dancestudiolaw19.PostureMoves'. -/
def postureMovesUptoCard : Claim7 := { stood := { row := postureMovesUptoRow, standIns := [], harness := (true, "010fe12ed578b25099a754a763569cce210c68c30634523be92ac42057a67197"), looks := false }, kinds := [], alts := [], laidByText := true, laidKinds := [.data], laidTests := true, laidLooks := .later }
def PostureMovesUptoCardSaid : Prop := Claim7.holds Tryd.pinned (.plain (OpenSpec.upto postureMovesSpec)) postureMovesUptoCard

/-- THE SECOND FORM's CARD OF 'dancestudiolaw19.PosturePoses'. -/
def posturePosesUptoCard : Claim7 := { stood := { row := posturePosesUptoRow, standIns := [], harness := (true, "010fe12ed578b25099a754a763569cce210c68c30634523be92ac42057a67197"), looks := false }, kinds := [], alts := [], laidByText := true, laidKinds := [.data], laidTests := true, laidLooks := .later }
def PosturePosesUptoCardSaid : Prop := Claim7.holds Tryd.pinned (.plain (OpenSpec.upto posturePosesSpec)) posturePosesUptoCard
end Rows
end Go.Proofs.YtfpmbgknojbkcaaDoor
