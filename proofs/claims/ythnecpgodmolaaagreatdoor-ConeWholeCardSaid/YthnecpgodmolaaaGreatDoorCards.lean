/-
  DERIVED. GIVEN WITH THE SEED: THE CARDS: each row of YthnecpgodmolaaaGreatDoorRows.lean that lists a variable, with what it lists TIED to the program's text (the seventh form; the later family's looks); each row that meets fmt, with fmt's text TOLD by the authors' own Lean function (tested against real Go, not proved from fmt's source: count such statements apart). THE CARD IS WHAT COUNTS. Prove the row's statement (the work); the ties are given (YthnecpgodmolaaaGreatDoorTie.lean); close each card by the builder's one call (the guide's Derived/Test/ToyasCard.lean, 'card_holds'). Laid BY PROGRAM, IN A SANDBOX (cutbox-door.mjs). By AI agents, Wed Nov 11 2026. No macro, syntax, notation, axiom, sorry.
-/
import Derived.Test.YthnecpgodmolaaaGreatDoorRows
import GoSem.ClaimSeven
namespace Go.Proofs.YthnecpgodmolaaaGreatDoor
namespace Rows

/-- THE TIED CARD OF 'voussoirlaw55.ConeCuts'. -/
def coneCutsCard : Claim7 := { stood := { row := coneCutsRow, standIns := [], harness := (true, "f8aa0609533202028627723e6eaac88e7b888487519aa3e9fcc603bfe39d605b"), looks := false }, kinds := [], alts := [], laidByText := true, laidKinds := [.widerDeep], laidTests := true, laidLooks := .later }
def ConeCutsCardSaid : Prop := Claim7.holds Tryz.pinned (.plain (OpenSpec.ofChange coneCutsSpec)) coneCutsCard

/-- THE TIED CARD OF 'voussoirlaw55.ConeRight'. -/
def coneRightCard : Claim7 := { stood := { row := coneRightRow, standIns := [], harness := (true, "f8aa0609533202028627723e6eaac88e7b888487519aa3e9fcc603bfe39d605b"), looks := false }, kinds := [], alts := [], laidByText := true, laidKinds := [.widerDeep], laidTests := true, laidLooks := .later }
def ConeRightCardSaid : Prop := Claim7.holds Tryz.pinned (.plain (OpenSpec.ofChange coneRightSpec)) coneRightCard

/-- THE TIED CARD OF 'voussoirlaw55.ConeWhole'. -/
def coneWholeCard : Claim7 := { stood := { row := coneWholeRow, standIns := [], harness := (true, "f8aa0609533202028627723e6eaac88e7b888487519aa3e9fcc603bfe39d605b"), looks := false }, kinds := [], alts := [], laidByText := true, laidKinds := [.widerDeep], laidTests := true, laidLooks := .later }
def ConeWholeCardSaid : Prop := Claim7.holds Tryz.pinned (.plain (OpenSpec.ofChange coneWholeSpec)) coneWholeCard

/-- THE TIED CARD OF 'voussoirlaw55.ConeSpecs'. -/
def coneSpecsCard : Claim7 := { stood := { row := coneSpecsRow, standIns := [], harness := (true, "f8aa0609533202028627723e6eaac88e7b888487519aa3e9fcc603bfe39d605b"), looks := false }, kinds := [], alts := [], laidByText := true, laidKinds := [.widerDeep], laidTests := true, laidLooks := .later }
def ConeSpecsCardSaid : Prop := Claim7.holds Tryz.pinned (.plain (OpenSpec.ofChange coneSpecsSpec)) coneSpecsCard

/-- THE SECOND FORM's CARD OF 'voussoirlaw55.ConeCuts'. -/
def coneCutsUptoCard : Claim7 := { stood := { row := coneCutsUptoRow, standIns := [], harness := (true, "f8aa0609533202028627723e6eaac88e7b888487519aa3e9fcc603bfe39d605b"), looks := false }, kinds := [], alts := [], laidByText := true, laidKinds := [.widerDeep], laidTests := true, laidLooks := .later }
def ConeCutsUptoCardSaid : Prop := Claim7.holds Tryz.pinned (.plain (OpenSpec.upto coneCutsSpec)) coneCutsUptoCard

/-- THE SECOND FORM's CARD OF 'voussoirlaw55.ConeRight'. -/
def coneRightUptoCard : Claim7 := { stood := { row := coneRightUptoRow, standIns := [], harness := (true, "f8aa0609533202028627723e6eaac88e7b888487519aa3e9fcc603bfe39d605b"), looks := false }, kinds := [], alts := [], laidByText := true, laidKinds := [.widerDeep], laidTests := true, laidLooks := .later }
def ConeRightUptoCardSaid : Prop := Claim7.holds Tryz.pinned (.plain (OpenSpec.upto coneRightSpec)) coneRightUptoCard

/-- THE SECOND FORM's CARD OF 'voussoirlaw55.ConeWhole'. -/
def coneWholeUptoCard : Claim7 := { stood := { row := coneWholeUptoRow, standIns := [], harness := (true, "f8aa0609533202028627723e6eaac88e7b888487519aa3e9fcc603bfe39d605b"), looks := false }, kinds := [], alts := [], laidByText := true, laidKinds := [.widerDeep], laidTests := true, laidLooks := .later }
def ConeWholeUptoCardSaid : Prop := Claim7.holds Tryz.pinned (.plain (OpenSpec.upto coneWholeSpec)) coneWholeUptoCard

/-- THE SECOND FORM's CARD OF 'voussoirlaw55.ConeSpecs'. -/
def coneSpecsUptoCard : Claim7 := { stood := { row := coneSpecsUptoRow, standIns := [], harness := (true, "f8aa0609533202028627723e6eaac88e7b888487519aa3e9fcc603bfe39d605b"), looks := false }, kinds := [], alts := [], laidByText := true, laidKinds := [.widerDeep], laidTests := true, laidLooks := .later }
def ConeSpecsUptoCardSaid : Prop := Claim7.holds Tryz.pinned (.plain (OpenSpec.upto coneSpecsSpec)) coneSpecsUptoCard
end Rows
end Go.Proofs.YthnecpgodmolaaaGreatDoor
