/-
  DERIVED. GIVEN WITH THE SEED: THE CARDS: each row of YtflimngmpmlogaaDoorRows.lean that lists a variable, with what it lists TIED to the program's text (the seventh form; the later family's looks); each row that meets fmt, with fmt's text TOLD by the authors' own Lean function (tested against real Go, not proved from fmt's source: count such statements apart). THE CARD IS WHAT COUNTS. Prove the row's statement (the work); the ties are given (YtflimngmpmlogaaDoorTie.lean); close each card by the builder's one call (the guide's Derived/Test/ToyasCard.lean, 'card_holds'). Laid BY PROGRAM, IN A SANDBOX (cutbox-door.mjs). By AI agents, Wed Nov 11 2026. No macro, syntax, notation, axiom, sorry.
-/
import Derived.Test.YtflimngmpmlogaaDoorRows
import GoSem.ClaimSeven
namespace Go.Proofs.YtflimngmpmlogaaDoor
namespace Rows

/-- THE TIED CARD OF 'voussoirlaw37.EncCodes'. -/
def encCodesCard : Claim7 := { stood := { row := encCodesRow, standIns := [], harness := (true, "5dd99393ebdd62bbb8c824a03fc68ac847f922f9315e227bacfebf963365e317"), looks := false }, kinds := [], alts := [], laidByText := true, laidKinds := [.widerDeep], laidTests := true, laidLooks := .later }
def EncCodesCardSaid : Prop := Claim7.holds Tryd.pinned (.plain (OpenSpec.ofChange encCodesSpec)) encCodesCard

/-- THE TIED CARD OF 'voussoirlaw37.EncBack'. -/
def encBackCard : Claim7 := { stood := { row := encBackRow, standIns := [], harness := (true, "5dd99393ebdd62bbb8c824a03fc68ac847f922f9315e227bacfebf963365e317"), looks := false }, kinds := [], alts := [], laidByText := true, laidKinds := [.widerDeep], laidTests := true, laidLooks := .later }
def EncBackCardSaid : Prop := Claim7.holds Tryd.pinned (.plain (OpenSpec.ofChange encBackSpec)) encBackCard

/-- THE TIED CARD OF 'voussoirlaw37.EncLays'. -/
def encLaysCard : Claim7 := { stood := { row := encLaysRow, standIns := [], harness := (true, "5dd99393ebdd62bbb8c824a03fc68ac847f922f9315e227bacfebf963365e317"), looks := false }, kinds := [], alts := [], laidByText := true, laidKinds := [.widerDeep], laidTests := true, laidLooks := .later }
def EncLaysCardSaid : Prop := Claim7.holds Tryd.pinned (.plain (OpenSpec.ofChange encLaysSpec)) encLaysCard

/-- THE SECOND FORM's CARD OF 'voussoirlaw37.EncCodes'. -/
def encCodesUptoCard : Claim7 := { stood := { row := encCodesUptoRow, standIns := [], harness := (true, "5dd99393ebdd62bbb8c824a03fc68ac847f922f9315e227bacfebf963365e317"), looks := false }, kinds := [], alts := [], laidByText := true, laidKinds := [.widerDeep], laidTests := true, laidLooks := .later }
def EncCodesUptoCardSaid : Prop := Claim7.holds Tryd.pinned (.plain (OpenSpec.upto encCodesSpec)) encCodesUptoCard

/-- THE SECOND FORM's CARD OF 'voussoirlaw37.EncBack'. -/
def encBackUptoCard : Claim7 := { stood := { row := encBackUptoRow, standIns := [], harness := (true, "5dd99393ebdd62bbb8c824a03fc68ac847f922f9315e227bacfebf963365e317"), looks := false }, kinds := [], alts := [], laidByText := true, laidKinds := [.widerDeep], laidTests := true, laidLooks := .later }
def EncBackUptoCardSaid : Prop := Claim7.holds Tryd.pinned (.plain (OpenSpec.upto encBackSpec)) encBackUptoCard

/-- THE SECOND FORM's CARD OF 'voussoirlaw37.EncLays'. -/
def encLaysUptoCard : Claim7 := { stood := { row := encLaysUptoRow, standIns := [], harness := (true, "5dd99393ebdd62bbb8c824a03fc68ac847f922f9315e227bacfebf963365e317"), looks := false }, kinds := [], alts := [], laidByText := true, laidKinds := [.widerDeep], laidTests := true, laidLooks := .later }
def EncLaysUptoCardSaid : Prop := Claim7.holds Tryd.pinned (.plain (OpenSpec.upto encLaysSpec)) encLaysUptoCard
end Rows
end Go.Proofs.YtflimngmpmlogaaDoor
