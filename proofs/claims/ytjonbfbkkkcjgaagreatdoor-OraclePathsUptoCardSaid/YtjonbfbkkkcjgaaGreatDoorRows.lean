/-
  NARROWER THAN 'FOR EVERY INPUT', by the rows' own cells (each row's printed sentence says how): OracleSat: loops, laid · OraclePaths: loops, laid · OracleTurns: loops, laid · OracleGoes: loops, laid.
  DERIVED. THE GIVEN ROWS OF THIS SEAT. 4 by the template 'for every input the law returns true; each argument reads behind the call as it read before'; 0 by the template 'total and deterministic' (their statements: YtjonbfbkkkcjgaaGreatDoorTotals.lean).
  GIVEN WITH THE SEED: the statements are not yours to turn. If you find one false, say at which input.
  Laid BY PROGRAM, IN A SANDBOX (cutbox-rows.mjs): the forced cells as the released guide's own fill.sh prints them over the translation 3a6216d8e1032562… (all of the seat's roots in one cut). By AI agents, Wed Nov 11 2026. No macro, syntax, notation, axiom, sorry.
-/
import Derived.Test.YtjonbfbkkkcjgaaGreatDoorChecked
import GoSem.Claim
import GoSem.ClaimJoined
import GoSem.ClaimMapViews
import Derived.JoinedTies
import Derived.KernelRfl
namespace Go.Proofs.YtjonbfbkkkcjgaaGreatDoor
/- THE CELL 'sum', in the pinned program and in every row, IS THE sha256 OF THE DUMP (.gsa) THAT YtjonbfbkkkcjgaaGreatDoorProg.lean LOADS. Nothing in Lean hashes anything: it is a label: what it is worth is what the hold of that sum in a sandbox is worth. -/
noncomputable def Tryz.pinned : Pinned := { name := "ytjonbfbkkkcjgaagreatdoor", sum := "3a6216d8e10325621b80a67e1306bd08ddbc2ae547de5a5986c0ae6280c4f4d0", checked := Tryz.checked }
namespace Rows
def none {H : Type} : Left H := { results := [], args := [] }

/- WHAT THE LISTED PACKAGE-LEVEL VARIABLES READ AS WHEN THE CALL BEGINS. Each datum BY PROGRAM (the guide's laid-datum.mjs) off the statement by which the dump's own 'gosem.cut.vars' lays the variable. In a bare row this is a premise. The card (YtjonbfbkkkcjgaaGreatDoorCards.lean) ties it to the program's text. -/
def laid_voussoir_lexi_words {H : Type} : DataW H := .agg [.lit (.string [65]), .lit (.string [65, 70]), .lit (.string [65, 71]), .lit (.string [65, 88]), .lit (.string [69]), .lit (.string [69, 70]), .lit (.string [69, 71]), .lit (.string [69, 88]), .lit (.string [85]), .lit (.string [98, 111, 111, 108]), .lit (.string [100, 101, 102]), .lit (.string [101, 108, 115, 101]), .lit (.string [102, 97, 105, 114]), .lit (.string [102, 97, 108, 115, 101]), .lit (.string [105, 102]), .lit (.string [105, 110, 105, 116]), .lit (.string [105, 110, 118, 97, 114]), .lit (.string [109, 111, 100]), .lit (.string [110, 101, 120, 116]), .lit (.string [115, 112, 101, 99]), .lit (.string [116, 104, 101, 110]), .lit (.string [116, 114, 97, 110, 115]), .lit (.string [116, 114, 117, 101]), .lit (.string [118, 97, 114])]

/-- 'voussoirlaw41.OracleSat': WHATEVER THE INPUT: true; the input reads as it did. -/
def oracleSatSpec : ChangeSpec := { name := "oracleSat", fn := fun _ => fun
  | [d1, d2] => { results := [.lit (.bool true)], args := [d1, d2] }
  | _ => none }
def oracleSatRow : OpenClaim := { program := "ytjonbfbkkkcjgaagreatdoor", sum := "3a6216d8e10325621b80a67e1306bd08ddbc2ae547de5a5986c0ae6280c4f4d0", func := "voussoir/voussoirlaw41.OracleSat", spec := "oracleSat", unfollowed := true, recurses := true, named := ["voussoir/lexi.words"], loops := true, apart := false, laid := [("voussoir/lexi.words", laid_voussoir_lexi_words)] }
def OracleSatSaid : Prop := oracleSatRow.holds Tryz.pinned (OpenSpec.ofChange oracleSatSpec)

/-- ITS FALSE NEIGHBOUR: 'it returns false'. Refute it at one input. -/
def oracleSatWrong : ChangeSpec := { name := "oracleSat", fn := fun _ => fun
  | [d1, d2] => { results := [.lit (.bool false)], args := [d1, d2] }
  | _ => none }
def OracleSatWrongFalsely : Prop := oracleSatRow.holds Tryz.pinned (OpenSpec.ofChange oracleSatWrong)

/-- 'voussoirlaw41.OraclePaths': WHATEVER THE INPUT: true; the input reads as it did. -/
def oraclePathsSpec : ChangeSpec := { name := "oraclePaths", fn := fun _ => fun
  | [d1, d2, d3] => { results := [.lit (.bool true)], args := [d1, d2, d3] }
  | _ => none }
def oraclePathsRow : OpenClaim := { program := "ytjonbfbkkkcjgaagreatdoor", sum := "3a6216d8e10325621b80a67e1306bd08ddbc2ae547de5a5986c0ae6280c4f4d0", func := "voussoir/voussoirlaw41.OraclePaths", spec := "oraclePaths", unfollowed := true, recurses := true, named := ["voussoir/lexi.words"], loops := true, apart := false, laid := [("voussoir/lexi.words", laid_voussoir_lexi_words)] }
def OraclePathsSaid : Prop := oraclePathsRow.holds Tryz.pinned (OpenSpec.ofChange oraclePathsSpec)

/-- ITS FALSE NEIGHBOUR: 'it returns false'. Refute it at one input. -/
def oraclePathsWrong : ChangeSpec := { name := "oraclePaths", fn := fun _ => fun
  | [d1, d2, d3] => { results := [.lit (.bool false)], args := [d1, d2, d3] }
  | _ => none }
def OraclePathsWrongFalsely : Prop := oraclePathsRow.holds Tryz.pinned (OpenSpec.ofChange oraclePathsWrong)

/-- 'voussoirlaw41.OracleTurns': WHATEVER THE INPUT: true; the input reads as it did. -/
def oracleTurnsSpec : ChangeSpec := { name := "oracleTurns", fn := fun _ => fun
  | [d1, d2, d3] => { results := [.lit (.bool true)], args := [d1, d2, d3] }
  | _ => none }
def oracleTurnsRow : OpenClaim := { program := "ytjonbfbkkkcjgaagreatdoor", sum := "3a6216d8e10325621b80a67e1306bd08ddbc2ae547de5a5986c0ae6280c4f4d0", func := "voussoir/voussoirlaw41.OracleTurns", spec := "oracleTurns", unfollowed := true, recurses := true, named := ["voussoir/lexi.words"], loops := true, apart := false, laid := [("voussoir/lexi.words", laid_voussoir_lexi_words)] }
def OracleTurnsSaid : Prop := oracleTurnsRow.holds Tryz.pinned (OpenSpec.ofChange oracleTurnsSpec)

/-- ITS FALSE NEIGHBOUR: 'it returns false'. Refute it at one input. -/
def oracleTurnsWrong : ChangeSpec := { name := "oracleTurns", fn := fun _ => fun
  | [d1, d2, d3] => { results := [.lit (.bool false)], args := [d1, d2, d3] }
  | _ => none }
def OracleTurnsWrongFalsely : Prop := oracleTurnsRow.holds Tryz.pinned (OpenSpec.ofChange oracleTurnsWrong)

/-- 'voussoirlaw41.OracleGoes': WHATEVER THE INPUT: true; the input reads as it did. -/
def oracleGoesSpec : ChangeSpec := { name := "oracleGoes", fn := fun _ => fun
  | [d1, d2, d3] => { results := [.lit (.bool true)], args := [d1, d2, d3] }
  | _ => none }
def oracleGoesRow : OpenClaim := { program := "ytjonbfbkkkcjgaagreatdoor", sum := "3a6216d8e10325621b80a67e1306bd08ddbc2ae547de5a5986c0ae6280c4f4d0", func := "voussoir/voussoirlaw41.OracleGoes", spec := "oracleGoes", unfollowed := true, recurses := true, named := ["voussoir/lexi.words"], loops := true, apart := false, laid := [("voussoir/lexi.words", laid_voussoir_lexi_words)] }
def OracleGoesSaid : Prop := oracleGoesRow.holds Tryz.pinned (OpenSpec.ofChange oracleGoesSpec)

/-- ITS FALSE NEIGHBOUR: 'it returns false'. Refute it at one input. -/
def oracleGoesWrong : ChangeSpec := { name := "oracleGoes", fn := fun _ => fun
  | [d1, d2, d3] => { results := [.lit (.bool false)], args := [d1, d2, d3] }
  | _ => none }
def OracleGoesWrongFalsely : Prop := oracleGoesRow.holds Tryz.pinned (OpenSpec.ofChange oracleGoesWrong)

/- THE SECOND FORM. 'bulk': how many values and letters a reading holds, each counted each time it is reached (what is shared counts as often as it is met; a slice's spare places count too). A statement '..UptoSaid' is the law's where the arguments, and the package variables that the reading takes, are together of bulk at most 1048576: NARROWER than '..Said'. Prove '..Said' where nothing that the law and all that it calls make is longer than what came in: it says more and counts as full. Else prove '..UptoSaid'. A law counts once. -/
mutual
def uptoBulk {H : Type} : DataW H → Nat
  | .lit (.string bytes) => bytes.length + 1
  | .lit _ => 1
  | .nil => 1
  | .ptr d => uptoBulk d + 1
  | .slice elems spare => uptoBulkAll elems + uptoBulkAll spare + 1
  | .agg parts => uptoBulkAll parts + 1
  | .iface _ d => uptoBulk d + 1
  | .map entries => uptoBulkEntries entries + 1
  | .held _ => 1
def uptoBulkAll {H : Type} : List (DataW H) → Nat
  | [] => 0
  | d :: r => uptoBulk d + uptoBulkAll r
def uptoBulkEntries {H : Type} : List (Lit × DataW H) → Nat
  | [] => 0
  | x :: r => uptoBulkEntry x + uptoBulkEntries r
def uptoBulkEntry {H : Type} : Lit × DataW H → Nat
  | (.string bytes, d) => bytes.length + uptoBulk d + 1
  | (_, d) => uptoBulk d + 1
 end
def uptoSmall : (H : Type) → List (DataW H) → Bool := fun _ ds => decide (uptoBulkAll ds ≤ 1048576)
def OpenSpec.upto (s : _root_.Go.ChangeSpec) : _root_.Go.OpenSpec := { _root_.Go.OpenSpec.ofChange s with cond := some uptoSmall }

/-- 'voussoirlaw41.OracleSat', WHERE WHAT IT READS IS OF BULK AT MOST 1048576: true; the input reads as it did. -/
def oracleSatUptoRow : OpenClaim := { program := "ytjonbfbkkkcjgaagreatdoor", sum := "3a6216d8e10325621b80a67e1306bd08ddbc2ae547de5a5986c0ae6280c4f4d0", func := "voussoir/voussoirlaw41.OracleSat", spec := "oracleSat", unfollowed := true, recurses := true, named := ["voussoir/lexi.words"], loops := true, apart := false, laid := [("voussoir/lexi.words", laid_voussoir_lexi_words)], narrowed := true }
def OracleSatUptoSaid : Prop := oracleSatUptoRow.holds Tryz.pinned (OpenSpec.upto oracleSatSpec)

/-- 'voussoirlaw41.OraclePaths', WHERE WHAT IT READS IS OF BULK AT MOST 1048576: true; the input reads as it did. -/
def oraclePathsUptoRow : OpenClaim := { program := "ytjonbfbkkkcjgaagreatdoor", sum := "3a6216d8e10325621b80a67e1306bd08ddbc2ae547de5a5986c0ae6280c4f4d0", func := "voussoir/voussoirlaw41.OraclePaths", spec := "oraclePaths", unfollowed := true, recurses := true, named := ["voussoir/lexi.words"], loops := true, apart := false, laid := [("voussoir/lexi.words", laid_voussoir_lexi_words)], narrowed := true }
def OraclePathsUptoSaid : Prop := oraclePathsUptoRow.holds Tryz.pinned (OpenSpec.upto oraclePathsSpec)

/-- 'voussoirlaw41.OracleTurns', WHERE WHAT IT READS IS OF BULK AT MOST 1048576: true; the input reads as it did. -/
def oracleTurnsUptoRow : OpenClaim := { program := "ytjonbfbkkkcjgaagreatdoor", sum := "3a6216d8e10325621b80a67e1306bd08ddbc2ae547de5a5986c0ae6280c4f4d0", func := "voussoir/voussoirlaw41.OracleTurns", spec := "oracleTurns", unfollowed := true, recurses := true, named := ["voussoir/lexi.words"], loops := true, apart := false, laid := [("voussoir/lexi.words", laid_voussoir_lexi_words)], narrowed := true }
def OracleTurnsUptoSaid : Prop := oracleTurnsUptoRow.holds Tryz.pinned (OpenSpec.upto oracleTurnsSpec)

/-- 'voussoirlaw41.OracleGoes', WHERE WHAT IT READS IS OF BULK AT MOST 1048576: true; the input reads as it did. -/
def oracleGoesUptoRow : OpenClaim := { program := "ytjonbfbkkkcjgaagreatdoor", sum := "3a6216d8e10325621b80a67e1306bd08ddbc2ae547de5a5986c0ae6280c4f4d0", func := "voussoir/voussoirlaw41.OracleGoes", spec := "oracleGoes", unfollowed := true, recurses := true, named := ["voussoir/lexi.words"], loops := true, apart := false, laid := [("voussoir/lexi.words", laid_voussoir_lexi_words)], narrowed := true }
def OracleGoesUptoSaid : Prop := oracleGoesUptoRow.holds Tryz.pinned (OpenSpec.upto oracleGoesSpec)

end Rows
end Go.Proofs.YtjonbfbkkkcjgaaGreatDoor
