/-
  DERIVED. GIVEN WITH THE SEED: THE CARDS: each row of YtggiamcgkiaicaaDoorRows.lean that lists a variable, with what it lists TIED to the program's text (the seventh form; the later family's looks); each row that meets fmt, with fmt's text TOLD by the authors' own Lean function (tested against real Go, not proved from fmt's source: count such statements apart). THE CARD IS WHAT COUNTS. Prove the row's statement (the work); the ties are given (YtggiamcgkiaicaaDoorTie.lean); close each card by the builder's one call (the guide's Derived/Test/ToyasCard.lean, 'card_holds'). Laid BY PROGRAM, IN A SANDBOX (cutbox-door.mjs). By AI agents, Wed Nov 11 2026. No macro, syntax, notation, axiom, sorry.
-/
import Derived.Test.YtggiamcgkiaicaaDoorRows
import GoSem.ClaimSeven
namespace Go.Proofs.YtggiamcgkiaicaaDoor
namespace Rows

/-- THE TIED CARD OF 'dancestudiolaw21.BalanceCenters'. -/
def balanceCentersCard : Claim7 := { stood := { row := balanceCentersRow, standIns := [], harness := (true, "4ec7737a1395c1e4c63200c2172e2a6104c267471c82400236d32df7e18bb150"), looks := false }, kinds := [], alts := [], laidByText := true, laidKinds := [.data, .data], laidTests := true, laidLooks := .later }
def BalanceCentersCardSaid : Prop := Claim7.holds Tryd.pinned (.plain (OpenSpec.ofChange balanceCentersSpec)) balanceCentersCard

/-- THE TIED CARD OF 'dancestudiolaw21.BalanceStable'. -/
def balanceStableCard : Claim7 := { stood := { row := balanceStableRow, standIns := [], harness := (true, "4ec7737a1395c1e4c63200c2172e2a6104c267471c82400236d32df7e18bb150"), looks := false }, kinds := [], alts := [], laidByText := true, laidKinds := [.data, .data], laidTests := true, laidLooks := .later }
def BalanceStableCardSaid : Prop := Claim7.holds Tryd.pinned (.plain (OpenSpec.ofChange balanceStableSpec)) balanceStableCard

/-- THE TIED CARD OF 'dancestudiolaw21.BalanceFirst'. -/
def balanceFirstCard : Claim7 := { stood := { row := balanceFirstRow, standIns := [], harness := (true, "4ec7737a1395c1e4c63200c2172e2a6104c267471c82400236d32df7e18bb150"), looks := false }, kinds := [], alts := [], laidByText := true, laidKinds := [.data, .data], laidTests := true, laidLooks := .later }
def BalanceFirstCardSaid : Prop := Claim7.holds Tryd.pinned (.plain (OpenSpec.ofChange balanceFirstSpec)) balanceFirstCard

/-- THE TIED CARD OF 'dancestudiolaw21.BalanceMoves'. -/
def balanceMovesCard : Claim7 := { stood := { row := balanceMovesRow, standIns := [], harness := (true, "4ec7737a1395c1e4c63200c2172e2a6104c267471c82400236d32df7e18bb150"), looks := false }, kinds := [], alts := [], laidByText := true, laidKinds := [.data, .data], laidTests := true, laidLooks := .later }
def BalanceMovesCardSaid : Prop := Claim7.holds Tryd.pinned (.plain (OpenSpec.ofChange balanceMovesSpec)) balanceMovesCard

/-- THE TIED CARD OF 'dancestudiolaw21.BalanceFeet'. -/
def balanceFeetCard : Claim7 := { stood := { row := balanceFeetRow, standIns := [], harness := (true, "4ec7737a1395c1e4c63200c2172e2a6104c267471c82400236d32df7e18bb150"), looks := false }, kinds := [], alts := [], laidByText := true, laidKinds := [.data, .data], laidTests := true, laidLooks := .later }
def BalanceFeetCardSaid : Prop := Claim7.holds Tryd.pinned (.plain (OpenSpec.ofChange balanceFeetSpec)) balanceFeetCard

/-- THE TIED CARD OF 'dancestudiolaw21.BalanceTicks'. -/
def balanceTicksCard : Claim7 := { stood := { row := balanceTicksRow, standIns := [], harness := (true, "4ec7737a1395c1e4c63200c2172e2a6104c267471c82400236d32df7e18bb150"), looks := false }, kinds := [], alts := [], laidByText := true, laidKinds := [.data, .data], laidTests := true, laidLooks := .later }
def BalanceTicksCardSaid : Prop := Claim7.holds Tryd.pinned (.plain (OpenSpec.ofChange balanceTicksSpec)) balanceTicksCard

/-- THE TIED CARD OF 'dancestudiolaw21.BalanceMirror'. -/
def balanceMirrorCard : Claim7 := { stood := { row := balanceMirrorRow, standIns := [], harness := (true, "4ec7737a1395c1e4c63200c2172e2a6104c267471c82400236d32df7e18bb150"), looks := false }, kinds := [], alts := [], laidByText := true, laidKinds := [.data, .data], laidTests := true, laidLooks := .later }
def BalanceMirrorCardSaid : Prop := Claim7.holds Tryd.pinned (.plain (OpenSpec.ofChange balanceMirrorSpec)) balanceMirrorCard

/-- THE SECOND FORM's CARD OF 'dancestudiolaw21.BalanceCenters'. -/
def balanceCentersUptoCard : Claim7 := { stood := { row := balanceCentersUptoRow, standIns := [], harness := (true, "4ec7737a1395c1e4c63200c2172e2a6104c267471c82400236d32df7e18bb150"), looks := false }, kinds := [], alts := [], laidByText := true, laidKinds := [.data, .data], laidTests := true, laidLooks := .later }
def BalanceCentersUptoCardSaid : Prop := Claim7.holds Tryd.pinned (.plain (OpenSpec.upto balanceCentersSpec)) balanceCentersUptoCard

/-- THE SECOND FORM's CARD OF 'dancestudiolaw21.BalanceStable'. -/
def balanceStableUptoCard : Claim7 := { stood := { row := balanceStableUptoRow, standIns := [], harness := (true, "4ec7737a1395c1e4c63200c2172e2a6104c267471c82400236d32df7e18bb150"), looks := false }, kinds := [], alts := [], laidByText := true, laidKinds := [.data, .data], laidTests := true, laidLooks := .later }
def BalanceStableUptoCardSaid : Prop := Claim7.holds Tryd.pinned (.plain (OpenSpec.upto balanceStableSpec)) balanceStableUptoCard

/-- THE SECOND FORM's CARD OF 'dancestudiolaw21.BalanceFirst'. -/
def balanceFirstUptoCard : Claim7 := { stood := { row := balanceFirstUptoRow, standIns := [], harness := (true, "4ec7737a1395c1e4c63200c2172e2a6104c267471c82400236d32df7e18bb150"), looks := false }, kinds := [], alts := [], laidByText := true, laidKinds := [.data, .data], laidTests := true, laidLooks := .later }
def BalanceFirstUptoCardSaid : Prop := Claim7.holds Tryd.pinned (.plain (OpenSpec.upto balanceFirstSpec)) balanceFirstUptoCard

/-- THE SECOND FORM's CARD OF 'dancestudiolaw21.BalanceMoves'. -/
def balanceMovesUptoCard : Claim7 := { stood := { row := balanceMovesUptoRow, standIns := [], harness := (true, "4ec7737a1395c1e4c63200c2172e2a6104c267471c82400236d32df7e18bb150"), looks := false }, kinds := [], alts := [], laidByText := true, laidKinds := [.data, .data], laidTests := true, laidLooks := .later }
def BalanceMovesUptoCardSaid : Prop := Claim7.holds Tryd.pinned (.plain (OpenSpec.upto balanceMovesSpec)) balanceMovesUptoCard

/-- THE SECOND FORM's CARD OF 'dancestudiolaw21.BalanceFeet'. -/
def balanceFeetUptoCard : Claim7 := { stood := { row := balanceFeetUptoRow, standIns := [], harness := (true, "4ec7737a1395c1e4c63200c2172e2a6104c267471c82400236d32df7e18bb150"), looks := false }, kinds := [], alts := [], laidByText := true, laidKinds := [.data, .data], laidTests := true, laidLooks := .later }
def BalanceFeetUptoCardSaid : Prop := Claim7.holds Tryd.pinned (.plain (OpenSpec.upto balanceFeetSpec)) balanceFeetUptoCard

/-- THE SECOND FORM's CARD OF 'dancestudiolaw21.BalanceTicks'. -/
def balanceTicksUptoCard : Claim7 := { stood := { row := balanceTicksUptoRow, standIns := [], harness := (true, "4ec7737a1395c1e4c63200c2172e2a6104c267471c82400236d32df7e18bb150"), looks := false }, kinds := [], alts := [], laidByText := true, laidKinds := [.data, .data], laidTests := true, laidLooks := .later }
def BalanceTicksUptoCardSaid : Prop := Claim7.holds Tryd.pinned (.plain (OpenSpec.upto balanceTicksSpec)) balanceTicksUptoCard

/-- THE SECOND FORM's CARD OF 'dancestudiolaw21.BalanceMirror'. -/
def balanceMirrorUptoCard : Claim7 := { stood := { row := balanceMirrorUptoRow, standIns := [], harness := (true, "4ec7737a1395c1e4c63200c2172e2a6104c267471c82400236d32df7e18bb150"), looks := false }, kinds := [], alts := [], laidByText := true, laidKinds := [.data, .data], laidTests := true, laidLooks := .later }
def BalanceMirrorUptoCardSaid : Prop := Claim7.holds Tryd.pinned (.plain (OpenSpec.upto balanceMirrorSpec)) balanceMirrorUptoCard
end Rows
end Go.Proofs.YtggiamcgkiaicaaDoor
