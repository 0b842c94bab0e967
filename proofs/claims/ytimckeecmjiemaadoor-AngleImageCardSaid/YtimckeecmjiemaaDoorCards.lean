/-
  DERIVED. GIVEN WITH THE SEED: THE CARDS: each row of YtimckeecmjiemaaDoorRows.lean that lists a variable, with what it lists TIED to the program's text (the seventh form; the later family's looks); each row that meets fmt, with fmt's text TOLD by the authors' own Lean function (tested against real Go, not proved from fmt's source: count such statements apart). THE CARD IS WHAT COUNTS. Prove the row's statement (the work); the ties are given (YtimckeecmjiemaaDoorTie.lean); close each card by the builder's one call (the guide's Derived/Test/ToyasCard.lean, 'card_holds'). Laid BY PROGRAM, IN A SANDBOX (cutbox-door.mjs). By AI agents, Wed Nov 11 2026. No macro, syntax, notation, axiom, sorry.
-/
import Derived.Test.YtimckeecmjiemaaDoorRows
import GoSem.ClaimSeven
namespace Go.Proofs.YtimckeecmjiemaaDoor
namespace Rows

/-- THE TIED CARD OF 'dancestudiolaw02.AngleNorm'. -/
def angleNormCard : Claim7 := { stood := { row := angleNormRow, standIns := [], harness := (true, "1d1ca839eb348a8dac661ba74dda528ffa5c81ae19f355b3054680d5637a6dee"), looks := false }, kinds := [], alts := [], laidByText := true, laidKinds := [.data], laidTests := true, laidLooks := .later }
def AngleNormCardSaid : Prop := Claim7.holds Tryd.pinned (.plain (OpenSpec.ofChange angleNormSpec)) angleNormCard

/-- THE TIED CARD OF 'dancestudiolaw02.AngleSines'. -/
def angleSinesCard : Claim7 := { stood := { row := angleSinesRow, standIns := [], harness := (true, "1d1ca839eb348a8dac661ba74dda528ffa5c81ae19f355b3054680d5637a6dee"), looks := false }, kinds := [], alts := [], laidByText := true, laidKinds := [.data], laidTests := true, laidLooks := .later }
def AngleSinesCardSaid : Prop := Claim7.holds Tryd.pinned (.plain (OpenSpec.ofChange angleSinesSpec)) angleSinesCard

/-- THE TIED CARD OF 'dancestudiolaw02.AngleCircle'. -/
def angleCircleCard : Claim7 := { stood := { row := angleCircleRow, standIns := [], harness := (true, "1d1ca839eb348a8dac661ba74dda528ffa5c81ae19f355b3054680d5637a6dee"), looks := false }, kinds := [], alts := [], laidByText := true, laidKinds := [.data], laidTests := true, laidLooks := .later }
def AngleCircleCardSaid : Prop := Claim7.holds Tryd.pinned (.plain (OpenSpec.ofChange angleCircleSpec)) angleCircleCard

/-- THE TIED CARD OF 'dancestudiolaw02.AngleBetween'. -/
def angleBetweenCard : Claim7 := { stood := { row := angleBetweenRow, standIns := [], harness := (true, "1d1ca839eb348a8dac661ba74dda528ffa5c81ae19f355b3054680d5637a6dee"), looks := false }, kinds := [], alts := [], laidByText := true, laidKinds := [.data], laidTests := true, laidLooks := .later }
def AngleBetweenCardSaid : Prop := Claim7.holds Tryd.pinned (.plain (OpenSpec.ofChange angleBetweenSpec)) angleBetweenCard

/-- THE TIED CARD OF 'dancestudiolaw02.AngleBack'. -/
def angleBackCard : Claim7 := { stood := { row := angleBackRow, standIns := [], harness := (true, "1d1ca839eb348a8dac661ba74dda528ffa5c81ae19f355b3054680d5637a6dee"), looks := false }, kinds := [], alts := [], laidByText := true, laidKinds := [.data], laidTests := true, laidLooks := .later }
def AngleBackCardSaid : Prop := Claim7.holds Tryd.pinned (.plain (OpenSpec.ofChange angleBackSpec)) angleBackCard

/-- THE TIED CARD OF 'dancestudiolaw02.AngleTurned'. -/
def angleTurnedCard : Claim7 := { stood := { row := angleTurnedRow, standIns := [], harness := (true, "1d1ca839eb348a8dac661ba74dda528ffa5c81ae19f355b3054680d5637a6dee"), looks := false }, kinds := [], alts := [], laidByText := true, laidKinds := [.data], laidTests := true, laidLooks := .later }
def AngleTurnedCardSaid : Prop := Claim7.holds Tryd.pinned (.plain (OpenSpec.ofChange angleTurnedSpec)) angleTurnedCard

/-- THE TIED CARD OF 'dancestudiolaw02.AngleTurns'. -/
def angleTurnsCard : Claim7 := { stood := { row := angleTurnsRow, standIns := [], harness := (true, "1d1ca839eb348a8dac661ba74dda528ffa5c81ae19f355b3054680d5637a6dee"), looks := false }, kinds := [], alts := [], laidByText := true, laidKinds := [.data], laidTests := true, laidLooks := .later }
def AngleTurnsCardSaid : Prop := Claim7.holds Tryd.pinned (.plain (OpenSpec.ofChange angleTurnsSpec)) angleTurnsCard

/-- THE TIED CARD OF 'dancestudiolaw02.AngleImage'. -/
def angleImageCard : Claim7 := { stood := { row := angleImageRow, standIns := [], harness := (true, "1d1ca839eb348a8dac661ba74dda528ffa5c81ae19f355b3054680d5637a6dee"), looks := false }, kinds := [], alts := [], laidByText := true, laidKinds := [.data], laidTests := true, laidLooks := .later }
def AngleImageCardSaid : Prop := Claim7.holds Tryd.pinned (.plain (OpenSpec.ofChange angleImageSpec)) angleImageCard

/-- THE SECOND FORM's CARD OF 'dancestudiolaw02.AngleNorm'. -/
def angleNormUptoCard : Claim7 := { stood := { row := angleNormUptoRow, standIns := [], harness := (true, "1d1ca839eb348a8dac661ba74dda528ffa5c81ae19f355b3054680d5637a6dee"), looks := false }, kinds := [], alts := [], laidByText := true, laidKinds := [.data], laidTests := true, laidLooks := .later }
def AngleNormUptoCardSaid : Prop := Claim7.holds Tryd.pinned (.plain (OpenSpec.upto angleNormSpec)) angleNormUptoCard

/-- THE SECOND FORM's CARD OF 'dancestudiolaw02.AngleSines'. -/
def angleSinesUptoCard : Claim7 := { stood := { row := angleSinesUptoRow, standIns := [], harness := (true, "1d1ca839eb348a8dac661ba74dda528ffa5c81ae19f355b3054680d5637a6dee"), looks := false }, kinds := [], alts := [], laidByText := true, laidKinds := [.data], laidTests := true, laidLooks := .later }
def AngleSinesUptoCardSaid : Prop := Claim7.holds Tryd.pinned (.plain (OpenSpec.upto angleSinesSpec)) angleSinesUptoCard

/-- THE SECOND FORM's CARD OF 'dancestudiolaw02.AngleCircle'. -/
def angleCircleUptoCard : Claim7 := { stood := { row := angleCircleUptoRow, standIns := [], harness := (true, "1d1ca839eb348a8dac661ba74dda528ffa5c81ae19f355b3054680d5637a6dee"), looks := false }, kinds := [], alts := [], laidByText := true, laidKinds := [.data], laidTests := true, laidLooks := .later }
def AngleCircleUptoCardSaid : Prop := Claim7.holds Tryd.pinned (.plain (OpenSpec.upto angleCircleSpec)) angleCircleUptoCard

/-- THE SECOND FORM's CARD OF 'dancestudiolaw02.AngleBetween'. -/
def angleBetweenUptoCard : Claim7 := { stood := { row := angleBetweenUptoRow, standIns := [], harness := (true, "1d1ca839eb348a8dac661ba74dda528ffa5c81ae19f355b3054680d5637a6dee"), looks := false }, kinds := [], alts := [], laidByText := true, laidKinds := [.data], laidTests := true, laidLooks := .later }
def AngleBetweenUptoCardSaid : Prop := Claim7.holds Tryd.pinned (.plain (OpenSpec.upto angleBetweenSpec)) angleBetweenUptoCard

/-- THE SECOND FORM's CARD OF 'dancestudiolaw02.AngleBack'. -/
def angleBackUptoCard : Claim7 := { stood := { row := angleBackUptoRow, standIns := [], harness := (true, "1d1ca839eb348a8dac661ba74dda528ffa5c81ae19f355b3054680d5637a6dee"), looks := false }, kinds := [], alts := [], laidByText := true, laidKinds := [.data], laidTests := true, laidLooks := .later }
def AngleBackUptoCardSaid : Prop := Claim7.holds Tryd.pinned (.plain (OpenSpec.upto angleBackSpec)) angleBackUptoCard

/-- THE SECOND FORM's CARD OF 'dancestudiolaw02.AngleTurned'. -/
def angleTurnedUptoCard : Claim7 := { stood := { row := angleTurnedUptoRow, standIns := [], harness := (true, "1d1ca839eb348a8dac661ba74dda528ffa5c81ae19f355b3054680d5637a6dee"), looks := false }, kinds := [], alts := [], laidByText := true, laidKinds := [.data], laidTests := true, laidLooks := .later }
def AngleTurnedUptoCardSaid : Prop := Claim7.holds Tryd.pinned (.plain (OpenSpec.upto angleTurnedSpec)) angleTurnedUptoCard

/-- THE SECOND FORM's CARD OF 'dancestudiolaw02.AngleTurns'. -/
def angleTurnsUptoCard : Claim7 := { stood := { row := angleTurnsUptoRow, standIns := [], harness := (true, "1d1ca839eb348a8dac661ba74dda528ffa5c81ae19f355b3054680d5637a6dee"), looks := false }, kinds := [], alts := [], laidByText := true, laidKinds := [.data], laidTests := true, laidLooks := .later }
def AngleTurnsUptoCardSaid : Prop := Claim7.holds Tryd.pinned (.plain (OpenSpec.upto angleTurnsSpec)) angleTurnsUptoCard

/-- THE SECOND FORM's CARD OF 'dancestudiolaw02.AngleImage'. -/
def angleImageUptoCard : Claim7 := { stood := { row := angleImageUptoRow, standIns := [], harness := (true, "1d1ca839eb348a8dac661ba74dda528ffa5c81ae19f355b3054680d5637a6dee"), looks := false }, kinds := [], alts := [], laidByText := true, laidKinds := [.data], laidTests := true, laidLooks := .later }
def AngleImageUptoCardSaid : Prop := Claim7.holds Tryd.pinned (.plain (OpenSpec.upto angleImageSpec)) angleImageUptoCard
end Rows
end Go.Proofs.YtimckeecmjiemaaDoor
