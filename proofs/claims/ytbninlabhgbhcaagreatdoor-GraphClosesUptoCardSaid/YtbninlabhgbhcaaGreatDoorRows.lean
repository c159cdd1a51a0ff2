/-
  NARROWER THAN 'FOR EVERY INPUT', by the rows' own cells (each row's printed sentence says how): GraphOf: loops, laid · GraphMany: laid · GraphCloses: loops, laid · GraphAsks: loops, laid.
  DERIVED. THE GIVEN ROWS OF THIS SEAT. 4 by the template 'for every input the law returns true; each argument reads behind the call as it read before'; 0 by the template 'total and deterministic' (their statements: YtbninlabhgbhcaaGreatDoorTotals.lean).
  GIVEN WITH THE SEED: the statements are not yours to turn. If you find one false, say at which input.
  Laid BY PROGRAM, IN A SANDBOX (cutbox-rows.mjs): the forced cells as the released guide's own fill.sh prints them over the translation c24108738446ae11… (all of the seat's roots in one cut). By AI agents, Wed Nov 11 2026. No macro, syntax, notation, axiom, sorry.
-/
import Derived.Test.YtbninlabhgbhcaaGreatDoorChecked
import GoSem.Claim
import GoSem.ClaimJoined
import GoSem.ClaimMapViews
import Derived.JoinedTies
import Derived.KernelRfl
namespace Go.Proofs.YtbninlabhgbhcaaGreatDoor
/- THE CELL 'sum', in the pinned program and in every row, IS THE sha256 OF THE DUMP (.gsa) THAT YtbninlabhgbhcaaGreatDoorProg.lean LOADS. Nothing in Lean hashes anything: it is a label: what it is worth is what the hold of that sum in a sandbox is worth. -/
noncomputable def Tryz.pinned : Pinned := { name := "ytbninlabhgbhcaagreatdoor", sum := "c24108738446ae116f05b1f6016ff90d4878be3f282eae4b943af0580549c6ff", checked := Tryz.checked }
namespace Rows
def none {H : Type} : Left H := { results := [], args := [] }

/- WHAT THE LISTED PACKAGE-LEVEL VARIABLES READ AS WHEN THE CALL BEGINS. Each datum BY PROGRAM (the guide's laid-datum.mjs) off the statement by which the dump's own 'gosem.cut.vars' lays the variable. In a bare row this is a premise. The card (YtbninlabhgbhcaaGreatDoorCards.lean) ties it to the program's text. -/
def laid_voussoir_lexi_words {H : Type} : DataW H := .agg [.lit (.string [65]), .lit (.string [65, 70]), .lit (.string [65, 71]), .lit (.string [65, 88]), .lit (.string [69]), .lit (.string [69, 70]), .lit (.string [69, 71]), .lit (.string [69, 88]), .lit (.string [85]), .lit (.string [98, 111, 111, 108]), .lit (.string [100, 101, 102]), .lit (.string [101, 108, 115, 101]), .lit (.string [102, 97, 105, 114]), .lit (.string [102, 97, 108, 115, 101]), .lit (.string [105, 102]), .lit (.string [105, 110, 105, 116]), .lit (.string [105, 110, 118, 97, 114]), .lit (.string [109, 111, 100]), .lit (.string [110, 101, 120, 116]), .lit (.string [115, 112, 101, 99]), .lit (.string [116, 104, 101, 110]), .lit (.string [116, 114, 97, 110, 115]), .lit (.string [116, 114, 117, 101]), .lit (.string [118, 97, 114])]

/-- 'voussoirlaw40.GraphOf': WHATEVER THE INPUT: true; the input reads as it did. -/
def graphOfSpec : ChangeSpec := { name := "graphOf", fn := fun _ => fun
  | [d] => { results := [.lit (.bool true)], args := [d] }
  | _ => none }
def graphOfRow : OpenClaim := { program := "ytbninlabhgbhcaagreatdoor", sum := "c24108738446ae116f05b1f6016ff90d4878be3f282eae4b943af0580549c6ff", func := "voussoir/voussoirlaw40.GraphOf", spec := "graphOf", unfollowed := true, recurses := true, named := ["voussoir/lexi.words"], loops := true, apart := false, laid := [("voussoir/lexi.words", laid_voussoir_lexi_words)] }
def GraphOfSaid : Prop := graphOfRow.holds Tryz.pinned (OpenSpec.ofChange graphOfSpec)

/-- ITS FALSE NEIGHBOUR: 'it returns false'. Refute it at one input. -/
def graphOfWrong : ChangeSpec := { name := "graphOf", fn := fun _ => fun
  | [d] => { results := [.lit (.bool false)], args := [d] }
  | _ => none }
def GraphOfWrongFalsely : Prop := graphOfRow.holds Tryz.pinned (OpenSpec.ofChange graphOfWrong)

/-- 'voussoirlaw40.GraphMany': WHATEVER THE INPUT: true; the input reads as it did. -/
def graphManySpec : ChangeSpec := { name := "graphMany", fn := fun _ => fun
  | [d] => { results := [.lit (.bool true)], args := [d] }
  | _ => none }
def graphManyRow : OpenClaim := { program := "ytbninlabhgbhcaagreatdoor", sum := "c24108738446ae116f05b1f6016ff90d4878be3f282eae4b943af0580549c6ff", func := "voussoir/voussoirlaw40.GraphMany", spec := "graphMany", unfollowed := true, recurses := true, named := ["voussoir/lexi.words"], apart := false, laid := [("voussoir/lexi.words", laid_voussoir_lexi_words)] }
def GraphManySaid : Prop := graphManyRow.holds Tryz.pinned (OpenSpec.ofChange graphManySpec)

/-- ITS FALSE NEIGHBOUR: 'it returns false'. Refute it at one input. -/
def graphManyWrong : ChangeSpec := { name := "graphMany", fn := fun _ => fun
  | [d] => { results := [.lit (.bool false)], args := [d] }
  | _ => none }
def GraphManyWrongFalsely : Prop := graphManyRow.holds Tryz.pinned (OpenSpec.ofChange graphManyWrong)

/-- 'voussoirlaw40.GraphCloses': WHATEVER THE INPUT: true; the input reads as it did. -/
def graphClosesSpec : ChangeSpec := { name := "graphCloses", fn := fun _ => fun
  | [d1, d2, d3] => { results := [.lit (.bool true)], args := [d1, d2, d3] }
  | _ => none }
def graphClosesRow : OpenClaim := { program := "ytbninlabhgbhcaagreatdoor", sum := "c24108738446ae116f05b1f6016ff90d4878be3f282eae4b943af0580549c6ff", func := "voussoir/voussoirlaw40.GraphCloses", spec := "graphCloses", unfollowed := true, recurses := true, named := ["voussoir/lexi.words"], loops := true, apart := false, laid := [("voussoir/lexi.words", laid_voussoir_lexi_words)] }
def GraphClosesSaid : Prop := graphClosesRow.holds Tryz.pinned (OpenSpec.ofChange graphClosesSpec)

/-- ITS FALSE NEIGHBOUR: 'it returns false'. Refute it at one input. -/
def graphClosesWrong : ChangeSpec := { name := "graphCloses", fn := fun _ => fun
  | [d1, d2, d3] => { results := [.lit (.bool false)], args := [d1, d2, d3] }
  | _ => none }
def GraphClosesWrongFalsely : Prop := graphClosesRow.holds Tryz.pinned (OpenSpec.ofChange graphClosesWrong)

/-- 'voussoirlaw40.GraphAsks': WHATEVER THE INPUT: true; the input reads as it did. -/
def graphAsksSpec : ChangeSpec := { name := "graphAsks", fn := fun _ => fun
  | [d1, d2, d3] => { results := [.lit (.bool true)], args := [d1, d2, d3] }
  | _ => none }
def graphAsksRow : OpenClaim := { program := "ytbninlabhgbhcaagreatdoor", sum := "c24108738446ae116f05b1f6016ff90d4878be3f282eae4b943af0580549c6ff", func := "voussoir/voussoirlaw40.GraphAsks", spec := "graphAsks", unfollowed := true, recurses := true, named := ["voussoir/lexi.words"], loops := true, apart := false, laid := [("voussoir/lexi.words", laid_voussoir_lexi_words)] }
def GraphAsksSaid : Prop := graphAsksRow.holds Tryz.pinned (OpenSpec.ofChange graphAsksSpec)

/-- ITS FALSE NEIGHBOUR: 'it returns false'. Refute it at one input. -/
def graphAsksWrong : ChangeSpec := { name := "graphAsks", fn := fun _ => fun
  | [d1, d2, d3] => { results := [.lit (.bool false)], args := [d1, d2, d3] }
  | _ => none }
def GraphAsksWrongFalsely : Prop := graphAsksRow.holds Tryz.pinned (OpenSpec.ofChange graphAsksWrong)

/- THE SECOND FORM. 'bulk': how many values and letters a reading holds, each counted each time it is reached (what is shared counts as often as it is met; a slice's spare places count too). A statement '..UptoSaid' is the law's where the arguments, and the package variables that the reading takes, are together of bulk at most 1048576: NARROWER than '..Said'. Prove '..Said' where nothing that the law and all that it calls make is longer than what came in: it says more and counts as full. Else prove '..UptoSaid'. A law counts once. -/
mutual
def uptoBulk {H : Type} : DataW H → Nat
  | .lit (.string bytes) => bytes.length + 1
  | .lit _ => 1
  | .nil => 1
  | .ptr d => uptoBulk d + 1
  | .slice elems spare => uptoBulkAll elems + uptoBulkAll spare + 1
  | .agg parts => uptoBulkAll parts + 1
  | .iface _ d => uptoBulk d + 1
  | .map entries => uptoBulkEntries entries + 1
  | .held _ => 1
def uptoBulkAll {H : Type} : List (DataW H) → Nat
  | [] => 0
  | d :: r => uptoBulk d + uptoBulkAll r
def uptoBulkEntries {H : Type} : List (Lit × DataW H) → Nat
  | [] => 0
  | x :: r => uptoBulkEntry x + uptoBulkEntries r
def uptoBulkEntry {H : Type} : Lit × DataW H → Nat
  | (.string bytes, d) => bytes.length + uptoBulk d + 1
  | (_, d) => uptoBulk d + 1
 end
def uptoSmall : (H : Type) → List (DataW H) → Bool := fun _ ds => decide (uptoBulkAll ds ≤ 1048576)
def OpenSpec.upto (s : _root_.Go.ChangeSpec) : _root_.Go.OpenSpec := { _root_.Go.OpenSpec.ofChange s with cond := some uptoSmall }

/-- 'voussoirlaw40.GraphOf', WHERE WHAT IT READS IS OF BULK AT MOST 1048576: true; the input reads as it did. -/
def graphOfUptoRow : OpenClaim := { program := "ytbninlabhgbhcaagreatdoor", sum := "c24108738446ae116f05b1f6016ff90d4878be3f282eae4b943af0580549c6ff", func := "voussoir/voussoirlaw40.GraphOf", spec := "graphOf", unfollowed := true, recurses := true, named := ["voussoir/lexi.words"], loops := true, apart := false, laid := [("voussoir/lexi.words", laid_voussoir_lexi_words)], narrowed := true }
def GraphOfUptoSaid : Prop := graphOfUptoRow.holds Tryz.pinned (OpenSpec.upto graphOfSpec)

/-- 'voussoirlaw40.GraphMany', WHERE WHAT IT READS IS OF BULK AT MOST 1048576: true; the input reads as it did. -/
def graphManyUptoRow : OpenClaim := { program := "ytbninlabhgbhcaagreatdoor", sum := "c24108738446ae116f05b1f6016ff90d4878be3f282eae4b943af0580549c6ff", func := "voussoir/voussoirlaw40.GraphMany", spec := "graphMany", unfollowed := true, recurses := true, named := ["voussoir/lexi.words"], apart := false, laid := [("voussoir/lexi.words", laid_voussoir_lexi_words)], narrowed := true }
def GraphManyUptoSaid : Prop := graphManyUptoRow.holds Tryz.pinned (OpenSpec.upto graphManySpec)

/-- 'voussoirlaw40.GraphCloses', WHERE WHAT IT READS IS OF BULK AT MOST 1048576: true; the input reads as it did. -/
def graphClosesUptoRow : OpenClaim := { program := "ytbninlabhgbhcaagreatdoor", sum := "c24108738446ae116f05b1f6016ff90d4878be3f282eae4b943af0580549c6ff", func := "voussoir/voussoirlaw40.GraphCloses", spec := "graphCloses", unfollowed := true, recurses := true, named := ["voussoir/lexi.words"], loops := true, apart := false, laid := [("voussoir/lexi.words", laid_voussoir_lexi_words)], narrowed := true }
def GraphClosesUptoSaid : Prop := graphClosesUptoRow.holds Tryz.pinned (OpenSpec.upto graphClosesSpec)

/-- 'voussoirlaw40.GraphAsks', WHERE WHAT IT READS IS OF BULK AT MOST 1048576: true; the input reads as it did. -/
def graphAsksUptoRow : OpenClaim := { program := "ytbninlabhgbhcaagreatdoor", sum := "c24108738446ae116f05b1f6016ff90d4878be3f282eae4b943af0580549c6ff", func := "voussoir/voussoirlaw40.GraphAsks", spec := "graphAsks", unfollowed := true, recurses := true, named := ["voussoir/lexi.words"], loops := true, apart := false, laid := [("voussoir/lexi.words", laid_voussoir_lexi_words)], narrowed := true }
def GraphAsksUptoSaid : Prop := graphAsksUptoRow.holds Tryz.pinned (OpenSpec.upto graphAsksSpec)

end Rows
end Go.Proofs.YtbninlabhgbhcaaGreatDoor
