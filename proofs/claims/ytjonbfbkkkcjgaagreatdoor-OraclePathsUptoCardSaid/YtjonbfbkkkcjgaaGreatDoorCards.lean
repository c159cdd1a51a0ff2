/-
  DERIVED. GIVEN WITH THE SEED: THE CARDS: each row of YtjonbfbkkkcjgaaGreatDoorRows.lean that lists a variable, with what it lists TIED to the program's text (the seventh form; the later family's looks); each row that meets fmt, with fmt's text TOLD by the authors' own Lean function (tested against real Go, not proved from fmt's source: count such statements apart). THE CARD IS WHAT COUNTS. Prove the row's statement (the work); the ties are given (YtjonbfbkkkcjgaaGreatDoorTie.lean); close each card by the builder's one call (the guide's Derived/Test/ToyasCard.lean, 'card_holds'). Laid BY PROGRAM, IN A SANDBOX (cutbox-door.mjs). By AI agents, Wed Nov 11 2026. No macro, syntax, notation, axiom, sorry.
-/
import Derived.Test.YtjonbfbkkkcjgaaGreatDoorRows
import GoSem.ClaimSeven
namespace Go.Proofs.YtjonbfbkkkcjgaaGreatDoor
namespace Rows

/-- THE TIED CARD OF 'voussoirlaw41.OracleSat'. -/
def oracleSatCard : Claim7 := { stood := { row := oracleSatRow, standIns := [], harness := (true, "5812e0848e3fc51170c4909369e199e81ee5e2a79c2f67a3305650cea3e28052"), looks := false }, kinds := [], alts := [], laidByText := true, laidKinds := [.widerDeep], laidTests := true, laidLooks := .later }
def OracleSatCardSaid : Prop := Claim7.holds Tryz.pinned (.plain (OpenSpec.ofChange oracleSatSpec)) oracleSatCard

/-- THE TIED CARD OF 'voussoirlaw41.OraclePaths'. -/
def oraclePathsCard : Claim7 := { stood := { row := oraclePathsRow, standIns := [], harness := (true, "5812e0848e3fc51170c4909369e199e81ee5e2a79c2f67a3305650cea3e28052"), looks := false }, kinds := [], alts := [], laidByText := true, laidKinds := [.widerDeep], laidTests := true, laidLooks := .later }
def OraclePathsCardSaid : Prop := Claim7.holds Tryz.pinned (.plain (OpenSpec.ofChange oraclePathsSpec)) oraclePathsCard

/-- THE TIED CARD OF 'voussoirlaw41.OracleTurns'. -/
def oracleTurnsCard : Claim7 := { stood := { row := oracleTurnsRow, standIns := [], harness := (true, "5812e0848e3fc51170c4909369e199e81ee5e2a79c2f67a3305650cea3e28052"), looks := false }, kinds := [], alts := [], laidByText := true, laidKinds := [.widerDeep], laidTests := true, laidLooks := .later }
def OracleTurnsCardSaid : Prop := Claim7.holds Tryz.pinned (.plain (OpenSpec.ofChange oracleTurnsSpec)) oracleTurnsCard

/-- THE TIED CARD OF 'voussoirlaw41.OracleGoes'. -/
def oracleGoesCard : Claim7 := { stood := { row := oracleGoesRow, standIns := [], harness := (true, "5812e0848e3fc51170c4909369e199e81ee5e2a79c2f67a3305650cea3e28052"), looks := false }, kinds := [], alts := [], laidByText := true, laidKinds := [.widerDeep], laidTests := true, laidLooks := .later }
def OracleGoesCardSaid : Prop := Claim7.holds Tryz.pinned (.plain (OpenSpec.ofChange oracleGoesSpec)) oracleGoesCard

/-- THE SECOND FORM's CARD OF 'voussoirlaw41.OracleSat'. -/
def oracleSatUptoCard : Claim7 := { stood := { row := oracleSatUptoRow, standIns := [], harness := (true, "5812e0848e3fc51170c4909369e199e81ee5e2a79c2f67a3305650cea3e28052"), looks := false }, kinds := [], alts := [], laidByText := true, laidKinds := [.widerDeep], laidTests := true, laidLooks := .later }
def OracleSatUptoCardSaid : Prop := Claim7.holds Tryz.pinned (.plain (OpenSpec.upto oracleSatSpec)) oracleSatUptoCard

/-- THE SECOND FORM's CARD OF 'voussoirlaw41.OraclePaths'. -/
def oraclePathsUptoCard : Claim7 := { stood := { row := oraclePathsUptoRow, standIns := [], harness := (true, "5812e0848e3fc51170c4909369e199e81ee5e2a79c2f67a3305650cea3e28052"), looks := false }, kinds := [], alts := [], laidByText := true, laidKinds := [.widerDeep], laidTests := true, laidLooks := .later }
def OraclePathsUptoCardSaid : Prop := Claim7.holds Tryz.pinned (.plain (OpenSpec.upto oraclePathsSpec)) oraclePathsUptoCard

/-- THE SECOND FORM's CARD OF 'voussoirlaw41.OracleTurns'. -/
def oracleTurnsUptoCard : Claim7 := { stood := { row := oracleTurnsUptoRow, standIns := [], harness := (true, "5812e0848e3fc51170c4909369e199e81ee5e2a79c2f67a3305650cea3e28052"), looks := false }, kinds := [], alts := [], laidByText := true, laidKinds := [.widerDeep], laidTests := true, laidLooks := .later }
def OracleTurnsUptoCardSaid : Prop := Claim7.holds Tryz.pinned (.plain (OpenSpec.upto oracleTurnsSpec)) oracleTurnsUptoCard

/-- THE SECOND FORM's CARD OF 'voussoirlaw41.OracleGoes'. -/
def oracleGoesUptoCard : Claim7 := { stood := { row := oracleGoesUptoRow, standIns := [], harness := (true, "5812e0848e3fc51170c4909369e199e81ee5e2a79c2f67a3305650cea3e28052"), looks := false }, kinds := [], alts := [], laidByText := true, laidKinds := [.widerDeep], laidTests := true, laidLooks := .later }
def OracleGoesUptoCardSaid : Prop := Claim7.holds Tryz.pinned (.plain (OpenSpec.upto oracleGoesSpec)) oracleGoesUptoCard
end Rows
end Go.Proofs.YtjonbfbkkkcjgaaGreatDoor
