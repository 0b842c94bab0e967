/-
  DERIVED. GIVEN WITH THE SEED: THE CARDS: each row of YtpfoanamlhgnkaaDoorRows.lean that lists a variable, with what it lists TIED to the program's text (the seventh form; the later family's looks); each row that meets fmt, with fmt's text TOLD by the authors' own Lean function (tested against real Go, not proved from fmt's source: count such statements apart). THE CARD IS WHAT COUNTS. Prove the row's statement (the work); the ties are given (YtpfoanamlhgnkaaDoorTie.lean); close each card by the builder's one call (the guide's Derived/Test/ToyasCard.lean, 'card_holds'). Laid BY PROGRAM, IN A SANDBOX (cutbox-door.mjs). By AI agents, Wed Nov 11 2026. No macro, syntax, notation, axiom, sorry.
-/
import Derived.Test.YtpfoanamlhgnkaaDoorRows
import GoSem.ClaimSeven
namespace Go.Proofs.YtpfoanamlhgnkaaDoor
namespace Rows

/-- THE TIED CARD OF 'dancestudiolaw17.BuildCheck'. -/
def buildCheckCard : Claim7 := { stood := { row := buildCheckRow, standIns := [], harness := (true, "b16399ab67a1149a665af37dec75c2da82d499d749223e5fb33420734e6693ba"), looks := false }, kinds := [], alts := [], laidByText := true, laidKinds := [.data], laidTests := true, laidLooks := .later }
def BuildCheckCardSaid : Prop := Claim7.holds Tryd.pinned (.plain (OpenSpec.ofChange buildCheckSpec)) buildCheckCard

/-- THE TIED CARD OF 'dancestudiolaw17.BuildStep'. -/
def buildStepCard : Claim7 := { stood := { row := buildStepRow, standIns := [], harness := (true, "b16399ab67a1149a665af37dec75c2da82d499d749223e5fb33420734e6693ba"), looks := false }, kinds := [], alts := [], laidByText := true, laidKinds := [.data], laidTests := true, laidLooks := .later }
def BuildStepCardSaid : Prop := Claim7.holds Tryd.pinned (.plain (OpenSpec.ofChange buildStepSpec)) buildStepCard

/-- THE TIED CARD OF 'dancestudiolaw17.BuildMass'. -/
def buildMassCard : Claim7 := { stood := { row := buildMassRow, standIns := [], harness := (true, "b16399ab67a1149a665af37dec75c2da82d499d749223e5fb33420734e6693ba"), looks := false }, kinds := [], alts := [], laidByText := true, laidKinds := [.data], laidTests := true, laidLooks := .later }
def BuildMassCardSaid : Prop := Claim7.holds Tryd.pinned (.plain (OpenSpec.ofChange buildMassSpec)) buildMassCard

/-- THE TIED CARD OF 'dancestudiolaw17.BuildScaled'. -/
def buildScaledCard : Claim7 := { stood := { row := buildScaledRow, standIns := [], harness := (true, "b16399ab67a1149a665af37dec75c2da82d499d749223e5fb33420734e6693ba"), looks := false }, kinds := [], alts := [], laidByText := true, laidKinds := [.data], laidTests := true, laidLooks := .later }
def BuildScaledCardSaid : Prop := Claim7.holds Tryd.pinned (.plain (OpenSpec.ofChange buildScaledSpec)) buildScaledCard

/-- THE TIED CARD OF 'dancestudiolaw17.BuildSteps'. -/
def buildStepsCard : Claim7 := { stood := { row := buildStepsRow, standIns := [], harness := (true, "b16399ab67a1149a665af37dec75c2da82d499d749223e5fb33420734e6693ba"), looks := false }, kinds := [], alts := [], laidByText := true, laidKinds := [.data], laidTests := true, laidLooks := .later }
def BuildStepsCardSaid : Prop := Claim7.holds Tryd.pinned (.plain (OpenSpec.ofChange buildStepsSpec)) buildStepsCard

/-- THE TIED CARD OF 'dancestudiolaw17.BuildLength'. -/
def buildLengthCard : Claim7 := { stood := { row := buildLengthRow, standIns := [], harness := (true, "b16399ab67a1149a665af37dec75c2da82d499d749223e5fb33420734e6693ba"), looks := false }, kinds := [], alts := [], laidByText := true, laidKinds := [.data], laidTests := true, laidLooks := .later }
def BuildLengthCardSaid : Prop := Claim7.holds Tryd.pinned (.plain (OpenSpec.ofChange buildLengthSpec)) buildLengthCard

/-- THE TIED CARD OF 'dancestudiolaw17.BuildGrows'. -/
def buildGrowsCard : Claim7 := { stood := { row := buildGrowsRow, standIns := [], harness := (true, "b16399ab67a1149a665af37dec75c2da82d499d749223e5fb33420734e6693ba"), looks := false }, kinds := [], alts := [], laidByText := true, laidKinds := [.data], laidTests := true, laidLooks := .later }
def BuildGrowsCardSaid : Prop := Claim7.holds Tryd.pinned (.plain (OpenSpec.ofChange buildGrowsSpec)) buildGrowsCard

/-- THE SECOND FORM's CARD OF 'dancestudiolaw17.BuildCheck'. -/
def buildCheckUptoCard : Claim7 := { stood := { row := buildCheckUptoRow, standIns := [], harness := (true, "b16399ab67a1149a665af37dec75c2da82d499d749223e5fb33420734e6693ba"), looks := false }, kinds := [], alts := [], laidByText := true, laidKinds := [.data], laidTests := true, laidLooks := .later }
def BuildCheckUptoCardSaid : Prop := Claim7.holds Tryd.pinned (.plain (OpenSpec.upto buildCheckSpec)) buildCheckUptoCard

/-- THE SECOND FORM's CARD OF 'dancestudiolaw17.BuildStep'. -/
def buildStepUptoCard : Claim7 := { stood := { row := buildStepUptoRow, standIns := [], harness := (true, "b16399ab67a1149a665af37dec75c2da82d499d749223e5fb33420734e6693ba"), looks := false }, kinds := [], alts := [], laidByText := true, laidKinds := [.data], laidTests := true, laidLooks := .later }
def BuildStepUptoCardSaid : Prop := Claim7.holds Tryd.pinned (.plain (OpenSpec.upto buildStepSpec)) buildStepUptoCard

/-- THE SECOND FORM's CARD OF 'dancestudiolaw17.BuildMass'. -/
def buildMassUptoCard : Claim7 := { stood := { row := buildMassUptoRow, standIns := [], harness := (true, "b16399ab67a1149a665af37dec75c2da82d499d749223e5fb33420734e6693ba"), looks := false }, kinds := [], alts := [], laidByText := true, laidKinds := [.data], laidTests := true, laidLooks := .later }
def BuildMassUptoCardSaid : Prop := Claim7.holds Tryd.pinned (.plain (OpenSpec.upto buildMassSpec)) buildMassUptoCard

/-- THE SECOND FORM's CARD OF 'dancestudiolaw17.BuildScaled'. -/
def buildScaledUptoCard : Claim7 := { stood := { row := buildScaledUptoRow, standIns := [], harness := (true, "b16399ab67a1149a665af37dec75c2da82d499d749223e5fb33420734e6693ba"), looks := false }, kinds := [], alts := [], laidByText := true, laidKinds := [.data], laidTests := true, laidLooks := .later }
def BuildScaledUptoCardSaid : Prop := Claim7.holds Tryd.pinned (.plain (OpenSpec.upto buildScaledSpec)) buildScaledUptoCard

/-- THE SECOND FORM's CARD OF 'dancestudiolaw17.BuildSteps'. -/
def buildStepsUptoCard : Claim7 := { stood := { row := buildStepsUptoRow, standIns := [], harness := (true, "b16399ab67a1149a665af37dec75c2da82d499d749223e5fb33420734e6693ba"), looks := false }, kinds := [], alts := [], laidByText := true, laidKinds := [.data], laidTests := true, laidLooks := .later }
def BuildStepsUptoCardSaid : Prop := Claim7.holds Tryd.pinned (.plain (OpenSpec.upto buildStepsSpec)) buildStepsUptoCard

/-- THE SECOND FORM's CARD OF 'dancestudiolaw17.BuildLength'. -/
def buildLengthUptoCard : Claim7 := { stood := { row := buildLengthUptoRow, standIns := [], harness := (true, "b16399ab67a1149a665af37dec75c2da82d499d749223e5fb33420734e6693ba"), looks := false }, kinds := [], alts := [], laidByText := true, laidKinds := [.data], laidTests := true, laidLooks := .later }
def BuildLengthUptoCardSaid : Prop := Claim7.holds Tryd.pinned (.plain (OpenSpec.upto buildLengthSpec)) buildLengthUptoCard

/-- THE SECOND FORM's CARD OF 'dancestudiolaw17.BuildGrows'. -/
def buildGrowsUptoCard : Claim7 := { stood := { row := buildGrowsUptoRow, standIns := [], harness := (true, "b16399ab67a1149a665af37dec75c2da82d499d749223e5fb33420734e6693ba"), looks := false }, kinds := [], alts := [], laidByText := true, laidKinds := [.data], laidTests := true, laidLooks := .later }
def BuildGrowsUptoCardSaid : Prop := Claim7.holds Tryd.pinned (.plain (OpenSpec.upto buildGrowsSpec)) buildGrowsUptoCard
end Rows
end Go.Proofs.YtpfoanamlhgnkaaDoor
