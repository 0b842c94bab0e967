/-
  DERIVED. GIVEN WITH THE SEED: THE CARDS: each row of YtmcbhieaacinpaaDoorRows.lean that lists a variable, with what it lists TIED to the program's text (the seventh form; the later family's looks); each row that meets fmt, with fmt's text TOLD by the authors' own Lean function (tested against real Go, not proved from fmt's source: count such statements apart). THE CARD IS WHAT COUNTS. Prove the row's statement (the work); the ties are given (YtmcbhieaacinpaaDoorTie.lean); close each card by the builder's one call (the guide's Derived/Test/ToyasCard.lean, 'card_holds'). Laid BY PROGRAM, IN A SANDBOX (cutbox-door.mjs). By AI agents, Wed Nov 11 2026. No macro, syntax, notation, axiom, sorry.
-/
import Derived.Test.YtmcbhieaacinpaaDoorRows
import GoSem.ClaimSeven
namespace Go.Proofs.YtmcbhieaacinpaaDoor
namespace Rows

/-- THE TIED CARD OF 'dancestudiolaw20.JointsOf'. -/
def jointsOfCard : Claim7 := { stood := { row := jointsOfRow, standIns := [], harness := (true, "e9da73f75443f9c8fe04fbd5ef6c4e7791dd772d85d3c3830c911de533e744dd"), looks := false }, kinds := [], alts := [], laidByText := true, laidKinds := [.data, .data], laidTests := true, laidLooks := .later }
def JointsOfCardSaid : Prop := Claim7.holds Tryd.pinned (.plain (OpenSpec.ofChange jointsOfSpec)) jointsOfCard

/-- THE TIED CARD OF 'dancestudiolaw20.JointsMoved'. -/
def jointsMovedCard : Claim7 := { stood := { row := jointsMovedRow, standIns := [], harness := (true, "e9da73f75443f9c8fe04fbd5ef6c4e7791dd772d85d3c3830c911de533e744dd"), looks := false }, kinds := [], alts := [], laidByText := true, laidKinds := [.data, .data], laidTests := true, laidLooks := .later }
def JointsMovedCardSaid : Prop := Claim7.holds Tryd.pinned (.plain (OpenSpec.ofChange jointsMovedSpec)) jointsMovedCard

/-- THE TIED CARD OF 'dancestudiolaw20.JointsFloor'. -/
def jointsFloorCard : Claim7 := { stood := { row := jointsFloorRow, standIns := [], harness := (true, "e9da73f75443f9c8fe04fbd5ef6c4e7791dd772d85d3c3830c911de533e744dd"), looks := false }, kinds := [], alts := [], laidByText := true, laidKinds := [.data, .data], laidTests := true, laidLooks := .later }
def JointsFloorCardSaid : Prop := Claim7.holds Tryd.pinned (.plain (OpenSpec.ofChange jointsFloorSpec)) jointsFloorCard

/-- THE TIED CARD OF 'dancestudiolaw20.JointsEnd'. -/
def jointsEndCard : Claim7 := { stood := { row := jointsEndRow, standIns := [], harness := (true, "e9da73f75443f9c8fe04fbd5ef6c4e7791dd772d85d3c3830c911de533e744dd"), looks := false }, kinds := [], alts := [], laidByText := true, laidKinds := [.data, .data], laidTests := true, laidLooks := .later }
def JointsEndCardSaid : Prop := Claim7.holds Tryd.pinned (.plain (OpenSpec.ofChange jointsEndSpec)) jointsEndCard

/-- THE TIED CARD OF 'dancestudiolaw20.JointsDist'. -/
def jointsDistCard : Claim7 := { stood := { row := jointsDistRow, standIns := [], harness := (true, "e9da73f75443f9c8fe04fbd5ef6c4e7791dd772d85d3c3830c911de533e744dd"), looks := false }, kinds := [], alts := [], laidByText := true, laidKinds := [.data, .data], laidTests := true, laidLooks := .later }
def JointsDistCardSaid : Prop := Claim7.holds Tryd.pinned (.plain (OpenSpec.ofChange jointsDistSpec)) jointsDistCard

/-- THE TIED CARD OF 'dancestudiolaw20.JointsQuarters'. -/
def jointsQuartersCard : Claim7 := { stood := { row := jointsQuartersRow, standIns := [], harness := (true, "e9da73f75443f9c8fe04fbd5ef6c4e7791dd772d85d3c3830c911de533e744dd"), looks := false }, kinds := [], alts := [], laidByText := true, laidKinds := [.data, .data], laidTests := true, laidLooks := .later }
def JointsQuartersCardSaid : Prop := Claim7.holds Tryd.pinned (.plain (OpenSpec.ofChange jointsQuartersSpec)) jointsQuartersCard

/-- THE TIED CARD OF 'dancestudiolaw20.JointsMirror'. -/
def jointsMirrorCard : Claim7 := { stood := { row := jointsMirrorRow, standIns := [], harness := (true, "e9da73f75443f9c8fe04fbd5ef6c4e7791dd772d85d3c3830c911de533e744dd"), looks := false }, kinds := [], alts := [], laidByText := true, laidKinds := [.data, .data], laidTests := true, laidLooks := .later }
def JointsMirrorCardSaid : Prop := Claim7.holds Tryd.pinned (.plain (OpenSpec.ofChange jointsMirrorSpec)) jointsMirrorCard

/-- THE SECOND FORM's CARD OF 'dancestudiolaw20.JointsOf'. -/
def jointsOfUptoCard : Claim7 := { stood := { row := jointsOfUptoRow, standIns := [], harness := (true, "e9da73f75443f9c8fe04fbd5ef6c4e7791dd772d85d3c3830c911de533e744dd"), looks := false }, kinds := [], alts := [], laidByText := true, laidKinds := [.data, .data], laidTests := true, laidLooks := .later }
def JointsOfUptoCardSaid : Prop := Claim7.holds Tryd.pinned (.plain (OpenSpec.upto jointsOfSpec)) jointsOfUptoCard

/-- THE SECOND FORM's CARD OF 'dancestudiolaw20.JointsMoved'. -/
def jointsMovedUptoCard : Claim7 := { stood := { row := jointsMovedUptoRow, standIns := [], harness := (true, "e9da73f75443f9c8fe04fbd5ef6c4e7791dd772d85d3c3830c911de533e744dd"), looks := false }, kinds := [], alts := [], laidByText := true, laidKinds := [.data, .data], laidTests := true, laidLooks := .later }
def JointsMovedUptoCardSaid : Prop := Claim7.holds Tryd.pinned (.plain (OpenSpec.upto jointsMovedSpec)) jointsMovedUptoCard

/-- THE SECOND FORM's CARD OF 'dancestudiolaw20.JointsFloor'. -/
def jointsFloorUptoCard : Claim7 := { stood := { row := jointsFloorUptoRow, standIns := [], harness := (true, "e9da73f75443f9c8fe04fbd5ef6c4e7791dd772d85d3c3830c911de533e744dd"), looks := false }, kinds := [], alts := [], laidByText := true, laidKinds := [.data, .data], laidTests := true, laidLooks := .later }
def JointsFloorUptoCardSaid : Prop := Claim7.holds Tryd.pinned (.plain (OpenSpec.upto jointsFloorSpec)) jointsFloorUptoCard

/-- THE SECOND FORM's CARD OF 'dancestudiolaw20.JointsEnd'. -/
def jointsEndUptoCard : Claim7 := { stood := { row := jointsEndUptoRow, standIns := [], harness := (true, "e9da73f75443f9c8fe04fbd5ef6c4e7791dd772d85d3c3830c911de533e744dd"), looks := false }, kinds := [], alts := [], laidByText := true, laidKinds := [.data, .data], laidTests := true, laidLooks := .later }
def JointsEndUptoCardSaid : Prop := Claim7.holds Tryd.pinned (.plain (OpenSpec.upto jointsEndSpec)) jointsEndUptoCard

/-- THE SECOND FORM's CARD OF 'dancestudiolaw20.JointsDist'. -/
def jointsDistUptoCard : Claim7 := { stood := { row := jointsDistUptoRow, standIns := [], harness := (true, "e9da73f75443f9c8fe04fbd5ef6c4e7791dd772d85d3c3830c911de533e744dd"), looks := false }, kinds := [], alts := [], laidByText := true, laidKinds := [.data, .data], laidTests := true, laidLooks := .later }
def JointsDistUptoCardSaid : Prop := Claim7.holds Tryd.pinned (.plain (OpenSpec.upto jointsDistSpec)) jointsDistUptoCard

/-- THE SECOND FORM's CARD OF 'dancestudiolaw20.JointsQuarters'. -/
def jointsQuartersUptoCard : Claim7 := { stood := { row := jointsQuartersUptoRow, standIns := [], harness := (true, "e9da73f75443f9c8fe04fbd5ef6c4e7791dd772d85d3c3830c911de533e744dd"), looks := false }, kinds := [], alts := [], laidByText := true, laidKinds := [.data, .data], laidTests := true, laidLooks := .later }
def JointsQuartersUptoCardSaid : Prop := Claim7.holds Tryd.pinned (.plain (OpenSpec.upto jointsQuartersSpec)) jointsQuartersUptoCard

/-- THE SECOND FORM's CARD OF 'dancestudiolaw20.JointsMirror'. -/
def jointsMirrorUptoCard : Claim7 := { stood := { row := jointsMirrorUptoRow, standIns := [], harness := (true, "e9da73f75443f9c8fe04fbd5ef6c4e7791dd772d85d3c3830c911de533e744dd"), looks := false }, kinds := [], alts := [], laidByText := true, laidKinds := [.data, .data], laidTests := true, laidLooks := .later }
def JointsMirrorUptoCardSaid : Prop := Claim7.holds Tryd.pinned (.plain (OpenSpec.upto jointsMirrorSpec)) jointsMirrorUptoCard
end Rows
end Go.Proofs.YtmcbhieaacinpaaDoor
