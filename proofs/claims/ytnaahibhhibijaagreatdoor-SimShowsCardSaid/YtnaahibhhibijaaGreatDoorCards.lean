/-
  DERIVED. GIVEN WITH THE SEED: THE CARDS: each row of YtnaahibhhibijaaGreatDoorRows.lean that lists a variable, with what it lists TIED to the program's text (the seventh form; the later family's looks); each row that meets fmt, with fmt's text TOLD by the authors' own Lean function (tested against real Go, not proved from fmt's source: count such statements apart). THE CARD IS WHAT COUNTS. Prove the row's statement (the work); the ties are given (YtnaahibhhibijaaGreatDoorTie.lean); close each card by the builder's one call (the guide's Derived/Test/ToyasCard.lean, 'card_holds'). Laid BY PROGRAM, IN A SANDBOX (cutbox-door.mjs). By AI agents, Wed Nov 11 2026. No macro, syntax, notation, axiom, sorry.
-/
import Derived.Test.YtnaahibhhibijaaGreatDoorRows
import GoSem.ClaimSeven
namespace Go.Proofs.YtnaahibhhibijaaGreatDoor
namespace Rows

/-- THE TIED CARD OF 'voussoirlaw54.SimWalks'. -/
def simWalksCard : Claim7 := { stood := { row := simWalksRow, standIns := [], harness := (true, "0ff7a5f7eb3abfa001d70a79ed4dfadb66b27a282e50a368aaec6aa02b1dfc91"), looks := false }, kinds := [], alts := [], laidByText := true, laidKinds := [.widerDeep], laidTests := true, laidLooks := .later }
def SimWalksCardSaid : Prop := Claim7.holds Tryz.pinned (.plain (OpenSpec.ofChange simWalksSpec)) simWalksCard

/-- THE TIED CARD OF 'voussoirlaw54.SimShows'. -/
def simShowsCard : Claim7 := { stood := { row := simShowsRow, standIns := [], harness := (true, "0ff7a5f7eb3abfa001d70a79ed4dfadb66b27a282e50a368aaec6aa02b1dfc91"), looks := false }, kinds := [], alts := [], laidByText := true, laidKinds := [.widerDeep], laidTests := true, laidLooks := .later }
def SimShowsCardSaid : Prop := Claim7.holds Tryz.pinned (.plain (OpenSpec.ofChange simShowsSpec)) simShowsCard

/-- THE TIED CARD OF 'voussoirlaw54.SimStarts'. -/
def simStartsCard : Claim7 := { stood := { row := simStartsRow, standIns := [], harness := (true, "0ff7a5f7eb3abfa001d70a79ed4dfadb66b27a282e50a368aaec6aa02b1dfc91"), looks := false }, kinds := [], alts := [], laidByText := true, laidKinds := [.widerDeep], laidTests := true, laidLooks := .later }
def SimStartsCardSaid : Prop := Claim7.holds Tryz.pinned (.plain (OpenSpec.ofChange simStartsSpec)) simStartsCard

/-- THE TIED CARD OF 'voussoirlaw54.SimSteps'. -/
def simStepsCard : Claim7 := { stood := { row := simStepsRow, standIns := [], harness := (true, "0ff7a5f7eb3abfa001d70a79ed4dfadb66b27a282e50a368aaec6aa02b1dfc91"), looks := false }, kinds := [], alts := [], laidByText := true, laidKinds := [.widerDeep], laidTests := true, laidLooks := .later }
def SimStepsCardSaid : Prop := Claim7.holds Tryz.pinned (.plain (OpenSpec.ofChange simStepsSpec)) simStepsCard

/-- THE SECOND FORM's CARD OF 'voussoirlaw54.SimWalks'. -/
def simWalksUptoCard : Claim7 := { stood := { row := simWalksUptoRow, standIns := [], harness := (true, "0ff7a5f7eb3abfa001d70a79ed4dfadb66b27a282e50a368aaec6aa02b1dfc91"), looks := false }, kinds := [], alts := [], laidByText := true, laidKinds := [.widerDeep], laidTests := true, laidLooks := .later }
def SimWalksUptoCardSaid : Prop := Claim7.holds Tryz.pinned (.plain (OpenSpec.upto simWalksSpec)) simWalksUptoCard

/-- THE SECOND FORM's CARD OF 'voussoirlaw54.SimShows'. -/
def simShowsUptoCard : Claim7 := { stood := { row := simShowsUptoRow, standIns := [], harness := (true, "0ff7a5f7eb3abfa001d70a79ed4dfadb66b27a282e50a368aaec6aa02b1dfc91"), looks := false }, kinds := [], alts := [], laidByText := true, laidKinds := [.widerDeep], laidTests := true, laidLooks := .later }
def SimShowsUptoCardSaid : Prop := Claim7.holds Tryz.pinned (.plain (OpenSpec.upto simShowsSpec)) simShowsUptoCard

/-- THE SECOND FORM's CARD OF 'voussoirlaw54.SimStarts'. -/
def simStartsUptoCard : Claim7 := { stood := { row := simStartsUptoRow, standIns := [], harness := (true, "0ff7a5f7eb3abfa001d70a79ed4dfadb66b27a282e50a368aaec6aa02b1dfc91"), looks := false }, kinds := [], alts := [], laidByText := true, laidKinds := [.widerDeep], laidTests := true, laidLooks := .later }
def SimStartsUptoCardSaid : Prop := Claim7.holds Tryz.pinned (.plain (OpenSpec.upto simStartsSpec)) simStartsUptoCard

/-- THE SECOND FORM's CARD OF 'voussoirlaw54.SimSteps'. -/
def simStepsUptoCard : Claim7 := { stood := { row := simStepsUptoRow, standIns := [], harness := (true, "0ff7a5f7eb3abfa001d70a79ed4dfadb66b27a282e50a368aaec6aa02b1dfc91"), looks := false }, kinds := [], alts := [], laidByText := true, laidKinds := [.widerDeep], laidTests := true, laidLooks := .later }
def SimStepsUptoCardSaid : Prop := Claim7.holds Tryz.pinned (.plain (OpenSpec.upto simStepsSpec)) simStepsUptoCard
end Rows
end Go.Proofs.YtnaahibhhibijaaGreatDoor
