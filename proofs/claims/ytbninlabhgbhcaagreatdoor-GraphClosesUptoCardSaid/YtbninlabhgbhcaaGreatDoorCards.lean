/-
  DERIVED. GIVEN WITH THE SEED: THE CARDS: each row of YtbninlabhgbhcaaGreatDoorRows.lean that lists a variable, with what it lists TIED to the program's text (the seventh form; the later family's looks); each row that meets fmt, with fmt's text TOLD by the authors' own Lean function (tested against real Go, not proved from fmt's source: count such statements apart). THE CARD IS WHAT COUNTS. Prove the row's statement (the work); the ties are given (YtbninlabhgbhcaaGreatDoorTie.lean); close each card by the builder's one call (the guide's Derived/Test/ToyasCard.lean, 'card_holds'). Laid BY PROGRAM, IN A SANDBOX (cutbox-door.mjs). By AI agents, Wed Nov 11 2026. No macro, syntax, notation, axiom, sorry.
-/
import Derived.Test.YtbninlabhgbhcaaGreatDoorRows
import GoSem.ClaimSeven
namespace Go.Proofs.YtbninlabhgbhcaaGreatDoor
namespace Rows

/-- THE TIED CARD OF 'voussoirlaw40.GraphOf'. -/
def graphOfCard : Claim7 := { stood := { row := graphOfRow, standIns := [], harness := (true, "3217c40d63f8c26230b756fd1177d983c3010aca70337aed1e3115cf6c21046b"), looks := false }, kinds := [], alts := [], laidByText := true, laidKinds := [.widerDeep], laidTests := true, laidLooks := .later }
def GraphOfCardSaid : Prop := Claim7.holds Tryz.pinned (.plain (OpenSpec.ofChange graphOfSpec)) graphOfCard

/-- THE TIED CARD OF 'voussoirlaw40.GraphMany'. -/
def graphManyCard : Claim7 := { stood := { row := graphManyRow, standIns := [], harness := (true, "3217c40d63f8c26230b756fd1177d983c3010aca70337aed1e3115cf6c21046b"), looks := false }, kinds := [], alts := [], laidByText := true, laidKinds := [.widerDeep], laidTests := true, laidLooks := .later }
def GraphManyCardSaid : Prop := Claim7.holds Tryz.pinned (.plain (OpenSpec.ofChange graphManySpec)) graphManyCard

/-- THE TIED CARD OF 'voussoirlaw40.GraphCloses'. -/
def graphClosesCard : Claim7 := { stood := { row := graphClosesRow, standIns := [], harness := (true, "3217c40d63f8c26230b756fd1177d983c3010aca70337aed1e3115cf6c21046b"), looks := false }, kinds := [], alts := [], laidByText := true, laidKinds := [.widerDeep], laidTests := true, laidLooks := .later }
def GraphClosesCardSaid : Prop := Claim7.holds Tryz.pinned (.plain (OpenSpec.ofChange graphClosesSpec)) graphClosesCard

/-- THE TIED CARD OF 'voussoirlaw40.GraphAsks'. -/
def graphAsksCard : Claim7 := { stood := { row := graphAsksRow, standIns := [], harness := (true, "3217c40d63f8c26230b756fd1177d983c3010aca70337aed1e3115cf6c21046b"), looks := false }, kinds := [], alts := [], laidByText := true, laidKinds := [.widerDeep], laidTests := true, laidLooks := .later }
def GraphAsksCardSaid : Prop := Claim7.holds Tryz.pinned (.plain (OpenSpec.ofChange graphAsksSpec)) graphAsksCard

/-- THE SECOND FORM's CARD OF 'voussoirlaw40.GraphOf'. -/
def graphOfUptoCard : Claim7 := { stood := { row := graphOfUptoRow, standIns := [], harness := (true, "3217c40d63f8c26230b756fd1177d983c3010aca70337aed1e3115cf6c21046b"), looks := false }, kinds := [], alts := [], laidByText := true, laidKinds := [.widerDeep], laidTests := true, laidLooks := .later }
def GraphOfUptoCardSaid : Prop := Claim7.holds Tryz.pinned (.plain (OpenSpec.upto graphOfSpec)) graphOfUptoCard

/-- THE SECOND FORM's CARD OF 'voussoirlaw40.GraphMany'. -/
def graphManyUptoCard : Claim7 := { stood := { row := graphManyUptoRow, standIns := [], harness := (true, "3217c40d63f8c26230b756fd1177d983c3010aca70337aed1e3115cf6c21046b"), looks := false }, kinds := [], alts := [], laidByText := true, laidKinds := [.widerDeep], laidTests := true, laidLooks := .later }
def GraphManyUptoCardSaid : Prop := Claim7.holds Tryz.pinned (.plain (OpenSpec.upto graphManySpec)) graphManyUptoCard

/-- THE SECOND FORM's CARD OF 'voussoirlaw40.GraphCloses'. -/
def graphClosesUptoCard : Claim7 := { stood := { row := graphClosesUptoRow, standIns := [], harness := (true, "3217c40d63f8c26230b756fd1177d983c3010aca70337aed1e3115cf6c21046b"), looks := false }, kinds := [], alts := [], laidByText := true, laidKinds := [.widerDeep], laidTests := true, laidLooks := .later }
def GraphClosesUptoCardSaid : Prop := Claim7.holds Tryz.pinned (.plain (OpenSpec.upto graphClosesSpec)) graphClosesUptoCard

/-- THE SECOND FORM's CARD OF 'voussoirlaw40.GraphAsks'. -/
def graphAsksUptoCard : Claim7 := { stood := { row := graphAsksUptoRow, standIns := [], harness := (true, "3217c40d63f8c26230b756fd1177d983c3010aca70337aed1e3115cf6c21046b"), looks := false }, kinds := [], alts := [], laidByText := true, laidKinds := [.widerDeep], laidTests := true, laidLooks := .later }
def GraphAsksUptoCardSaid : Prop := Claim7.holds Tryz.pinned (.plain (OpenSpec.upto graphAsksSpec)) graphAsksUptoCard
end Rows
end Go.Proofs.YtbninlabhgbhcaaGreatDoor
