/-
  DERIVED. GIVEN WITH THE SEED: THE CARDS: each row of YtknmgdnhongcnaaGreatDoorRows.lean that lists a variable, with what it lists TIED to the program's text (the seventh form; the later family's looks); each row that meets fmt, with fmt's text TOLD by the authors' own Lean function (tested against real Go, not proved from fmt's source: count such statements apart). THE CARD IS WHAT COUNTS. Prove the row's statement (the work); the ties are given (YtknmgdnhongcnaaGreatDoorTie.lean); close each card by the builder's one call (the guide's Derived/Test/ToyasCard.lean, 'card_holds'). Laid BY PROGRAM, IN A SANDBOX (cutbox-door.mjs). By AI agents, Wed Nov 11 2026. No macro, syntax, notation, axiom, sorry.
-/
import Derived.Test.YtknmgdnhongcnaaGreatDoorRows
import GoSem.ClaimSeven
namespace Go.Proofs.YtknmgdnhongcnaaGreatDoor
namespace Rows

/-- THE TIED CARD OF 'voussoirlaw51.PathsTrue'. -/
def pathsTrueCard : Claim7 := { stood := { row := pathsTrueRow, standIns := [], harness := (true, "9ee8397f8fbd8cdd0ab2d34617cea25cf78ee5c43ea992d2ee4c39b5da4418df"), looks := false }, kinds := [], alts := [], laidByText := true, laidKinds := [.widerDeep], laidTests := true, laidLooks := .later }
def PathsTrueCardSaid : Prop := Claim7.holds Tryz.pinned (.plain (OpenSpec.ofChange pathsTrueSpec)) pathsTrueCard

/-- THE TIED CARD OF 'voussoirlaw51.PathsLassos'. -/
def pathsLassosCard : Claim7 := { stood := { row := pathsLassosRow, standIns := [], harness := (true, "9ee8397f8fbd8cdd0ab2d34617cea25cf78ee5c43ea992d2ee4c39b5da4418df"), looks := false }, kinds := [], alts := [], laidByText := true, laidKinds := [.widerDeep], laidTests := true, laidLooks := .later }
def PathsLassosCardSaid : Prop := Claim7.holds Tryz.pinned (.plain (OpenSpec.ofChange pathsLassosSpec)) pathsLassosCard

/-- THE TIED CARD OF 'voussoirlaw51.PathsChecks'. -/
def pathsChecksCard : Claim7 := { stood := { row := pathsChecksRow, standIns := [], harness := (true, "9ee8397f8fbd8cdd0ab2d34617cea25cf78ee5c43ea992d2ee4c39b5da4418df"), looks := false }, kinds := [], alts := [], laidByText := true, laidKinds := [.widerDeep], laidTests := true, laidLooks := .later }
def PathsChecksCardSaid : Prop := Claim7.holds Tryz.pinned (.plain (OpenSpec.ofChange pathsChecksSpec)) pathsChecksCard

/-- THE TIED CARD OF 'voussoirlaw51.PathsSteps'. -/
def pathsStepsCard : Claim7 := { stood := { row := pathsStepsRow, standIns := [], harness := (true, "9ee8397f8fbd8cdd0ab2d34617cea25cf78ee5c43ea992d2ee4c39b5da4418df"), looks := false }, kinds := [], alts := [], laidByText := true, laidKinds := [.widerDeep], laidTests := true, laidLooks := .later }
def PathsStepsCardSaid : Prop := Claim7.holds Tryz.pinned (.plain (OpenSpec.ofChange pathsStepsSpec)) pathsStepsCard

/-- THE SECOND FORM's CARD OF 'voussoirlaw51.PathsTrue'. -/
def pathsTrueUptoCard : Claim7 := { stood := { row := pathsTrueUptoRow, standIns := [], harness := (true, "9ee8397f8fbd8cdd0ab2d34617cea25cf78ee5c43ea992d2ee4c39b5da4418df"), looks := false }, kinds := [], alts := [], laidByText := true, laidKinds := [.widerDeep], laidTests := true, laidLooks := .later }
def PathsTrueUptoCardSaid : Prop := Claim7.holds Tryz.pinned (.plain (OpenSpec.upto pathsTrueSpec)) pathsTrueUptoCard

/-- THE SECOND FORM's CARD OF 'voussoirlaw51.PathsLassos'. -/
def pathsLassosUptoCard : Claim7 := { stood := { row := pathsLassosUptoRow, standIns := [], harness := (true, "9ee8397f8fbd8cdd0ab2d34617cea25cf78ee5c43ea992d2ee4c39b5da4418df"), looks := false }, kinds := [], alts := [], laidByText := true, laidKinds := [.widerDeep], laidTests := true, laidLooks := .later }
def PathsLassosUptoCardSaid : Prop := Claim7.holds Tryz.pinned (.plain (OpenSpec.upto pathsLassosSpec)) pathsLassosUptoCard

/-- THE SECOND FORM's CARD OF 'voussoirlaw51.PathsChecks'. -/
def pathsChecksUptoCard : Claim7 := { stood := { row := pathsChecksUptoRow, standIns := [], harness := (true, "9ee8397f8fbd8cdd0ab2d34617cea25cf78ee5c43ea992d2ee4c39b5da4418df"), looks := false }, kinds := [], alts := [], laidByText := true, laidKinds := [.widerDeep], laidTests := true, laidLooks := .later }
def PathsChecksUptoCardSaid : Prop := Claim7.holds Tryz.pinned (.plain (OpenSpec.upto pathsChecksSpec)) pathsChecksUptoCard

/-- THE SECOND FORM's CARD OF 'voussoirlaw51.PathsSteps'. -/
def pathsStepsUptoCard : Claim7 := { stood := { row := pathsStepsUptoRow, standIns := [], harness := (true, "9ee8397f8fbd8cdd0ab2d34617cea25cf78ee5c43ea992d2ee4c39b5da4418df"), looks := false }, kinds := [], alts := [], laidByText := true, laidKinds := [.widerDeep], laidTests := true, laidLooks := .later }
def PathsStepsUptoCardSaid : Prop := Claim7.holds Tryz.pinned (.plain (OpenSpec.upto pathsStepsSpec)) pathsStepsUptoCard
end Rows
end Go.Proofs.YtknmgdnhongcnaaGreatDoor
