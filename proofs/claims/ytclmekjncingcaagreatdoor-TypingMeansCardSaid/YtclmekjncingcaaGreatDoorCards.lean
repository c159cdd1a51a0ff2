/-
  DERIVED. GIVEN WITH THE SEED: THE CARDS: each row of YtclmekjncingcaaGreatDoorRows.lean that lists a variable, with what it lists TIED to the program's text (the seventh form; the later family's looks); each row that meets fmt, with fmt's text TOLD by the authors' own Lean function (tested against real Go, not proved from fmt's source: count such statements apart). THE CARD IS WHAT COUNTS. Prove the row's statement (the work); the ties are given (YtclmekjncingcaaGreatDoorTie.lean); close each card by the builder's one call (the guide's Derived/Test/ToyasCard.lean, 'card_holds'). Laid BY PROGRAM, IN A SANDBOX (cutbox-door.mjs). By AI agents, Wed Nov 11 2026. No macro, syntax, notation, axiom, sorry.
-/
import Derived.Test.YtclmekjncingcaaGreatDoorRows
import GoSem.ClaimSeven
namespace Go.Proofs.YtclmekjncingcaaGreatDoor
namespace Rows

/-- THE TIED CARD OF 'voussoirlaw36.TypingChecks'. -/
def typingChecksCard : Claim7 := { stood := { row := typingChecksRow, standIns := [], harness := (true, "e9aedc23f10effbdcbd8c0ab5d8ecdfe73c1771cd98c57d1a8f9190188932f99"), looks := false }, kinds := [], alts := [], laidByText := true, laidKinds := [.widerDeep], laidTests := true, laidLooks := .later }
def TypingChecksCardSaid : Prop := Claim7.holds Tryz.pinned (.plain (OpenSpec.ofChange typingChecksSpec)) typingChecksCard

/-- THE TIED CARD OF 'voussoirlaw36.TypingMeans'. -/
def typingMeansCard : Claim7 := { stood := { row := typingMeansRow, standIns := [], harness := (true, "e9aedc23f10effbdcbd8c0ab5d8ecdfe73c1771cd98c57d1a8f9190188932f99"), looks := false }, kinds := [], alts := [], laidByText := true, laidKinds := [.widerDeep], laidTests := true, laidLooks := .later }
def TypingMeansCardSaid : Prop := Claim7.holds Tryz.pinned (.plain (OpenSpec.ofChange typingMeansSpec)) typingMeansCard

/-- THE SECOND FORM's CARD OF 'voussoirlaw36.TypingChecks'. -/
def typingChecksUptoCard : Claim7 := { stood := { row := typingChecksUptoRow, standIns := [], harness := (true, "e9aedc23f10effbdcbd8c0ab5d8ecdfe73c1771cd98c57d1a8f9190188932f99"), looks := false }, kinds := [], alts := [], laidByText := true, laidKinds := [.widerDeep], laidTests := true, laidLooks := .later }
def TypingChecksUptoCardSaid : Prop := Claim7.holds Tryz.pinned (.plain (OpenSpec.upto typingChecksSpec)) typingChecksUptoCard

/-- THE SECOND FORM's CARD OF 'voussoirlaw36.TypingMeans'. -/
def typingMeansUptoCard : Claim7 := { stood := { row := typingMeansUptoRow, standIns := [], harness := (true, "e9aedc23f10effbdcbd8c0ab5d8ecdfe73c1771cd98c57d1a8f9190188932f99"), looks := false }, kinds := [], alts := [], laidByText := true, laidKinds := [.widerDeep], laidTests := true, laidLooks := .later }
def TypingMeansUptoCardSaid : Prop := Claim7.holds Tryz.pinned (.plain (OpenSpec.upto typingMeansSpec)) typingMeansUptoCard
end Rows
end Go.Proofs.YtclmekjncingcaaGreatDoor
