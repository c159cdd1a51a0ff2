/-
  NARROWER THAN 'FOR EVERY INPUT', by the rows' own cells (each row's printed sentence says how): PathsTrue: loops, laid · PathsLassos: loops, laid · PathsChecks: loops, laid · PathsSteps: loops, laid.
  DERIVED. THE GIVEN ROWS OF THIS SEAT. 4 by the template 'for every input the law returns true; each argument reads behind the call as it read before'; 0 by the template 'total and deterministic' (their statements: YtknmgdnhongcnaaGreatDoorTotals.lean).
  GIVEN WITH THE SEED: the statements are not yours to turn. If you find one false, say at which input.
  Laid BY PROGRAM, IN A SANDBOX (cutbox-rows.mjs): the forced cells as the released guide's own fill.sh prints them over the translation a96da942d2010c42… (all of the seat's roots in one cut). By AI agents, Wed Nov 11 2026. No macro, syntax, notation, axiom, sorry.
-/
import Derived.Test.YtknmgdnhongcnaaGreatDoorChecked
import GoSem.Claim
import GoSem.ClaimJoined
import GoSem.ClaimMapViews
import Derived.JoinedTies
import Derived.KernelRfl
namespace Go.Proofs.YtknmgdnhongcnaaGreatDoor
/- THE CELL 'sum', in the pinned program and in every row, IS THE sha256 OF THE DUMP (.gsa) THAT YtknmgdnhongcnaaGreatDoorProg.lean LOADS. Nothing in Lean hashes anything: it is a label: what it is worth is what the hold of that sum in a sandbox is worth. -/
noncomputable def Tryz.pinned : Pinned := { name := "ytknmgdnhongcnaagreatdoor", sum := "a96da942d2010c42053a1a7382b4d47be7bc178f0e0d73a9ee7b431cf2b8a81d", checked := Tryz.checked }
namespace Rows
def none {H : Type} : Left H := { results := [], args := [] }

/- WHAT THE LISTED PACKAGE-LEVEL VARIABLES READ AS WHEN THE CALL BEGINS. Each datum BY PROGRAM (the guide's laid-datum.mjs) off the statement by which the dump's own 'gosem.cut.vars' lays the variable. In a bare row this is a premise. The card (YtknmgdnhongcnaaGreatDoorCards.lean) ties it to the program's text. -/
def laid_voussoir_lexi_words {H : Type} : DataW H := .agg [.lit (.string [65]), .lit (.string [65, 70]), .lit (.string [65, 71]), .lit (.string [65, 88]), .lit (.string [69]), .lit (.string [69, 70]), .lit (.string [69, 71]), .lit (.string [69, 88]), .lit (.string [85]), .lit (.string [98, 111, 111, 108]), .lit (.string [100, 101, 102]), .lit (.string [101, 108, 115, 101]), .lit (.string [102, 97, 105, 114]), .lit (.string [102, 97, 108, 115, 101]), .lit (.string [105, 102]), .lit (.string [105, 110, 105, 116]), .lit (.string [105, 110, 118, 97, 114]), .lit (.string [109, 111, 100]), .lit (.string [110, 101, 120, 116]), .lit (.string [115, 112, 101, 99]), .lit (.string [116, 104, 101, 110]), .lit (.string [116, 114, 97, 110, 115]), .lit (.string [116, 114, 117, 101]), .lit (.string [118, 97, 114])]

/-- 'voussoirlaw51.PathsTrue': WHATEVER THE INPUT: true; the input reads as it did. -/
def pathsTrueSpec : ChangeSpec := { name := "pathsTrue", fn := fun _ => fun
  | [d1, d2, d3] => { results := [.lit (.bool true)], args := [d1, d2, d3] }
  | _ => none }
def pathsTrueRow : OpenClaim := { program := "ytknmgdnhongcnaagreatdoor", sum := "a96da942d2010c42053a1a7382b4d47be7bc178f0e0d73a9ee7b431cf2b8a81d", func := "voussoir/voussoirlaw51.PathsTrue", spec := "pathsTrue", unfollowed := true, recurses := true, named := ["voussoir/lexi.words"], loops := true, apart := false, laid := [("voussoir/lexi.words", laid_voussoir_lexi_words)] }
def PathsTrueSaid : Prop := pathsTrueRow.holds Tryz.pinned (OpenSpec.ofChange pathsTrueSpec)

/-- ITS FALSE NEIGHBOUR: 'it returns false'. Refute it at one input. -/
def pathsTrueWrong : ChangeSpec := { name := "pathsTrue", fn := fun _ => fun
  | [d1, d2, d3] => { results := [.lit (.bool false)], args := [d1, d2, d3] }
  | _ => none }
def PathsTrueWrongFalsely : Prop := pathsTrueRow.holds Tryz.pinned (OpenSpec.ofChange pathsTrueWrong)

/-- 'voussoirlaw51.PathsLassos': WHATEVER THE INPUT: true; the input reads as it did. -/
def pathsLassosSpec : ChangeSpec := { name := "pathsLassos", fn := fun _ => fun
  | [d1, d2, d3] => { results := [.lit (.bool true)], args := [d1, d2, d3] }
  | _ => none }
def pathsLassosRow : OpenClaim := { program := "ytknmgdnhongcnaagreatdoor", sum := "a96da942d2010c42053a1a7382b4d47be7bc178f0e0d73a9ee7b431cf2b8a81d", func := "voussoir/voussoirlaw51.PathsLassos", spec := "pathsLassos", unfollowed := true, recurses := true, named := ["voussoir/lexi.words"], loops := true, apart := false, laid := [("voussoir/lexi.words", laid_voussoir_lexi_words)] }
def PathsLassosSaid : Prop := pathsLassosRow.holds Tryz.pinned (OpenSpec.ofChange pathsLassosSpec)

/-- ITS FALSE NEIGHBOUR: 'it returns false'. Refute it at one input. -/
def pathsLassosWrong : ChangeSpec := { name := "pathsLassos", fn := fun _ => fun
  | [d1, d2, d3] => { results := [.lit (.bool false)], args := [d1, d2, d3] }
  | _ => none }
def PathsLassosWrongFalsely : Prop := pathsLassosRow.holds Tryz.pinned (OpenSpec.ofChange pathsLassosWrong)

/-- 'voussoirlaw51.PathsChecks': WHATEVER THE INPUT: true; the input reads as it did. -/
def pathsChecksSpec : ChangeSpec := { name := "pathsChecks", fn := fun _ => fun
  | [d1, d2, d3, d4] => { results := [.lit (.bool true)], args := [d1, d2, d3, d4] }
  | _ => none }
def pathsChecksRow : OpenClaim := { program := "ytknmgdnhongcnaagreatdoor", sum := "a96da942d2010c42053a1a7382b4d47be7bc178f0e0d73a9ee7b431cf2b8a81d", func := "voussoir/voussoirlaw51.PathsChecks", spec := "pathsChecks", unfollowed := true, recurses := true, named := ["voussoir/lexi.words"], loops := true, apart := false, laid := [("voussoir/lexi.words", laid_voussoir_lexi_words)] }
def PathsChecksSaid : Prop := pathsChecksRow.holds Tryz.pinned (OpenSpec.ofChange pathsChecksSpec)

/-- ITS FALSE NEIGHBOUR: 'it returns false'. Refute it at one input. -/
def pathsChecksWrong : ChangeSpec := { name := "pathsChecks", fn := fun _ => fun
  | [d1, d2, d3, d4] => { results := [.lit (.bool false)], args := [d1, d2, d3, d4] }
  | _ => none }
def PathsChecksWrongFalsely : Prop := pathsChecksRow.holds Tryz.pinned (OpenSpec.ofChange pathsChecksWrong)

/-- 'voussoirlaw51.PathsSteps': WHATEVER THE INPUT: true; the input reads as it did. -/
def pathsStepsSpec : ChangeSpec := { name := "pathsSteps", fn := fun _ => fun
  | [d1, d2, d3] => { results := [.lit (.bool true)], args := [d1, d2, d3] }
  | _ => none }
def pathsStepsRow : OpenClaim := { program := "ytknmgdnhongcnaagreatdoor", sum := "a96da942d2010c42053a1a7382b4d47be7bc178f0e0d73a9ee7b431cf2b8a81d", func := "voussoir/voussoirlaw51.PathsSteps", spec := "pathsSteps", unfollowed := true, recurses := true, named := ["voussoir/lexi.words"], loops := true, apart := false, laid := [("voussoir/lexi.words", laid_voussoir_lexi_words)] }
def PathsStepsSaid : Prop := pathsStepsRow.holds Tryz.pinned (OpenSpec.ofChange pathsStepsSpec)

/-- ITS FALSE NEIGHBOUR: 'it returns false'. Refute it at one input. -/
def pathsStepsWrong : ChangeSpec := { name := "pathsSteps", fn := fun _ => fun
  | [d1, d2, d3] => { results := [.lit (.bool false)], args := [d1, d2, d3] }
  | _ => none }
def PathsStepsWrongFalsely : Prop := pathsStepsRow.holds Tryz.pinned (OpenSpec.ofChange pathsStepsWrong)

/- THE SECOND FORM. 'bulk': how many values and letters a reading holds, each counted each time it is reached (what is shared counts as often as it is met; a slice's spare places count too). A statement '..UptoSaid' is the law's where the arguments, and the package variables that the reading takes, are together of bulk at most 1048576: NARROWER than '..Said'. Prove '..Said' where nothing that the law and all that it calls make is longer than what came in: it says more and counts as full. Else prove '..UptoSaid'. A law counts once. -/
mutual
def uptoBulk {H : Type} : DataW H → Nat
  | .lit (.string bytes) => bytes.length + 1
  | .lit _ => 1
  | .nil => 1
  | .ptr d => uptoBulk d + 1
  | .slice elems spare => uptoBulkAll elems + uptoBulkAll spare + 1
  | .agg parts => uptoBulkAll parts + 1
  | .iface _ d => uptoBulk d + 1
  | .map entries => uptoBulkEntries entries + 1
  | .held _ => 1
def uptoBulkAll {H : Type} : List (DataW H) → Nat
  | [] => 0
  | d :: r => uptoBulk d + uptoBulkAll r
def uptoBulkEntries {H : Type} : List (Lit × DataW H) → Nat
  | [] => 0
  | x :: r => uptoBulkEntry x + uptoBulkEntries r
def uptoBulkEntry {H : Type} : Lit × DataW H → Nat
  | (.string bytes, d) => bytes.length + uptoBulk d + 1
  | (_, d) => uptoBulk d + 1
 end
def uptoSmall : (H : Type) → List (DataW H) → Bool := fun _ ds => decide (uptoBulkAll ds ≤ 1048576)
def OpenSpec.upto (s : _root_.Go.ChangeSpec) : _root_.Go.OpenSpec := { _root_.Go.OpenSpec.ofChange s with cond := some uptoSmall }

/-- 'voussoirlaw51.PathsTrue', WHERE WHAT IT READS IS OF BULK AT MOST 1048576: true; the input reads as it did. -/
def pathsTrueUptoRow : OpenClaim := { program := "ytknmgdnhongcnaagreatdoor", sum := "a96da942d2010c42053a1a7382b4d47be7bc178f0e0d73a9ee7b431cf2b8a81d", func := "voussoir/voussoirlaw51.PathsTrue", spec := "pathsTrue", unfollowed := true, recurses := true, named := ["voussoir/lexi.words"], loops := true, apart := false, laid := [("voussoir/lexi.words", laid_voussoir_lexi_words)], narrowed := true }
def PathsTrueUptoSaid : Prop := pathsTrueUptoRow.holds Tryz.pinned (OpenSpec.upto pathsTrueSpec)

/-- 'voussoirlaw51.PathsLassos', WHERE WHAT IT READS IS OF BULK AT MOST 1048576: true; the input reads as it did. -/
def pathsLassosUptoRow : OpenClaim := { program := "ytknmgdnhongcnaagreatdoor", sum := "a96da942d2010c42053a1a7382b4d47be7bc178f0e0d73a9ee7b431cf2b8a81d", func := "voussoir/voussoirlaw51.PathsLassos", spec := "pathsLassos", unfollowed := true, recurses := true, named := ["voussoir/lexi.words"], loops := true, apart := false, laid := [("voussoir/lexi.words", laid_voussoir_lexi_words)], narrowed := true }
def PathsLassosUptoSaid : Prop := pathsLassosUptoRow.holds Tryz.pinned (OpenSpec.upto pathsLassosSpec)

/-- 'voussoirlaw51.PathsChecks', WHERE WHAT IT READS IS OF BULK AT MOST 1048576: true; the input reads as it did. -/
def pathsChecksUptoRow : OpenClaim := { program := "ytknmgdnhongcnaagreatdoor", sum := "a96da942d2010c42053a1a7382b4d47be7bc178f0e0d73a9ee7b431cf2b8a81d", func := "voussoir/voussoirlaw51.PathsChecks", spec := "pathsChecks", unfollowed := true, recurses := true, named := ["voussoir/lexi.words"], loops := true, apart := false, laid := [("voussoir/lexi.words", laid_voussoir_lexi_words)], narrowed := true }
def PathsChecksUptoSaid : Prop := pathsChecksUptoRow.holds Tryz.pinned (OpenSpec.upto pathsChecksSpec)

/-- 'voussoirlaw51.PathsSteps', WHERE WHAT IT READS IS OF BULK AT MOST 1048576: true; the input reads as it did. -/
def pathsStepsUptoRow : OpenClaim := { program := "ytknmgdnhongcnaagreatdoor", sum := "a96da942d2010c42053a1a7382b4d47be7bc178f0e0d73a9ee7b431cf2b8a81d", func := "voussoir/voussoirlaw51.PathsSteps", spec := "pathsSteps", unfollowed := true, recurses := true, named := ["voussoir/lexi.words"], loops := true, apart := false, laid := [("voussoir/lexi.words", laid_voussoir_lexi_words)], narrowed := true }
def PathsStepsUptoSaid : Prop := pathsStepsUptoRow.holds Tryz.pinned (OpenSpec.upto pathsStepsSpec)

end Rows
end Go.Proofs.YtknmgdnhongcnaaGreatDoor
