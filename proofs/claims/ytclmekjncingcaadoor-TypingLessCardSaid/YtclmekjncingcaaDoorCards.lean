/-
  DERIVED. GIVEN WITH THE SEED: THE CARDS: each row of YtclmekjncingcaaDoorRows.lean that lists a variable, with what it lists TIED to the program's text (the seventh form; the later family's looks); each row that meets fmt, with fmt's text TOLD by the authors' own Lean function (tested against real Go, not proved from fmt's source: count such statements apart). THE CARD IS WHAT COUNTS. Prove the row's statement (the work); the ties are given (YtclmekjncingcaaDoorTie.lean); close each card by the builder's one call (the guide's Derived/Test/ToyasCard.lean, 'card_holds'). Laid BY PROGRAM, IN A SANDBOX (cutbox-door.mjs). By AI agents, Wed Nov 11 2026. No macro, syntax, notation, axiom, sorry.
-/
import Derived.Test.YtclmekjncingcaaDoorRows
import GoSem.ClaimSeven
namespace Go.Proofs.YtclmekjncingcaaDoor
namespace Rows

/-- THE TIED CARD OF 'voussoirlaw36.TypingVars'. -/
def typingVarsCard : Claim7 := { stood := { row := typingVarsRow, standIns := [], harness := (true, "3e5635bd86519a4b0523d3f313f38e02b96cdfb2ed87ec9ebdc9ed20d985a9de"), looks := false }, kinds := [], alts := [], laidByText := true, laidKinds := [.widerDeep], laidTests := true, laidLooks := .later }
def TypingVarsCardSaid : Prop := Claim7.holds Tryd.pinned (.plain (OpenSpec.ofChange typingVarsSpec)) typingVarsCard

/-- THE TIED CARD OF 'voussoirlaw36.TypingIs'. -/
def typingIsCard : Claim7 := { stood := { row := typingIsRow, standIns := [], harness := (true, "3e5635bd86519a4b0523d3f313f38e02b96cdfb2ed87ec9ebdc9ed20d985a9de"), looks := false }, kinds := [], alts := [], laidByText := true, laidKinds := [.widerDeep], laidTests := true, laidLooks := .later }
def TypingIsCardSaid : Prop := Claim7.holds Tryd.pinned (.plain (OpenSpec.ofChange typingIsSpec)) typingIsCard

/-- THE TIED CARD OF 'voussoirlaw36.TypingLess'. -/
def typingLessCard : Claim7 := { stood := { row := typingLessRow, standIns := [], harness := (true, "3e5635bd86519a4b0523d3f313f38e02b96cdfb2ed87ec9ebdc9ed20d985a9de"), looks := false }, kinds := [], alts := [], laidByText := true, laidKinds := [.widerDeep], laidTests := true, laidLooks := .later }
def TypingLessCardSaid : Prop := Claim7.holds Tryd.pinned (.plain (OpenSpec.ofChange typingLessSpec)) typingLessCard

/-- THE SECOND FORM's CARD OF 'voussoirlaw36.TypingVars'. -/
def typingVarsUptoCard : Claim7 := { stood := { row := typingVarsUptoRow, standIns := [], harness := (true, "3e5635bd86519a4b0523d3f313f38e02b96cdfb2ed87ec9ebdc9ed20d985a9de"), looks := false }, kinds := [], alts := [], laidByText := true, laidKinds := [.widerDeep], laidTests := true, laidLooks := .later }
def TypingVarsUptoCardSaid : Prop := Claim7.holds Tryd.pinned (.plain (OpenSpec.upto typingVarsSpec)) typingVarsUptoCard

/-- THE SECOND FORM's CARD OF 'voussoirlaw36.TypingIs'. -/
def typingIsUptoCard : Claim7 := { stood := { row := typingIsUptoRow, standIns := [], harness := (true, "3e5635bd86519a4b0523d3f313f38e02b96cdfb2ed87ec9ebdc9ed20d985a9de"), looks := false }, kinds := [], alts := [], laidByText := true, laidKinds := [.widerDeep], laidTests := true, laidLooks := .later }
def TypingIsUptoCardSaid : Prop := Claim7.holds Tryd.pinned (.plain (OpenSpec.upto typingIsSpec)) typingIsUptoCard

/-- THE SECOND FORM's CARD OF 'voussoirlaw36.TypingLess'. -/
def typingLessUptoCard : Claim7 := { stood := { row := typingLessUptoRow, standIns := [], harness := (true, "3e5635bd86519a4b0523d3f313f38e02b96cdfb2ed87ec9ebdc9ed20d985a9de"), looks := false }, kinds := [], alts := [], laidByText := true, laidKinds := [.widerDeep], laidTests := true, laidLooks := .later }
def TypingLessUptoCardSaid : Prop := Claim7.holds Tryd.pinned (.plain (OpenSpec.upto typingLessSpec)) typingLessUptoCard
end Rows
end Go.Proofs.YtclmekjncingcaaDoor
