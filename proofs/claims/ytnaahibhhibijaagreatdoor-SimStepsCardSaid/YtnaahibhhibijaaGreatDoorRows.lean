/-
  NARROWER THAN 'FOR EVERY INPUT', by the rows' own cells (each row's printed sentence says how): SimWalks: loops, laid · SimShows: loops, laid · SimStarts: loops, laid · SimSteps: loops, laid.
  DERIVED. THE GIVEN ROWS OF THIS SEAT. 4 by the template 'for every input the law returns true; each argument reads behind the call as it read before'; 0 by the template 'total and deterministic' (their statements: YtnaahibhhibijaaGreatDoorTotals.lean).
  GIVEN WITH THE SEED: the statements are not yours to turn. If you find one false, say at which input.
  Laid BY PROGRAM, IN A SANDBOX (cutbox-rows.mjs): the forced cells as the released guide's own fill.sh prints them over the translation cb44e845f09b3f56… (all of the seat's roots in one cut). By AI agents, Wed Nov 11 2026. No macro, syntax, notation, axiom, sorry.
-/
import Derived.Test.YtnaahibhhibijaaGreatDoorChecked
import GoSem.Claim
import GoSem.ClaimJoined
import GoSem.ClaimMapViews
import Derived.JoinedTies
import Derived.KernelRfl
namespace Go.Proofs.YtnaahibhhibijaaGreatDoor
/- THE CELL 'sum', in the pinned program and in every row, IS THE sha256 OF THE DUMP (.gsa) THAT YtnaahibhhibijaaGreatDoorProg.lean LOADS. Nothing in Lean hashes anything: it is a label: what it is worth is what the hold of that sum in a sandbox is worth. -/
noncomputable def Tryz.pinned : Pinned := { name := "ytnaahibhhibijaagreatdoor", sum := "cb44e845f09b3f562f9d03fd2a8de89f6c7694845cf3225dd4aec25f3312df44", checked := Tryz.checked }
namespace Rows
def none {H : Type} : Left H := { results := [], args := [] }

/- WHAT THE LISTED PACKAGE-LEVEL VARIABLES READ AS WHEN THE CALL BEGINS. Each datum BY PROGRAM (the guide's laid-datum.mjs) off the statement by which the dump's own 'gosem.cut.vars' lays the variable. In a bare row this is a premise. The card (YtnaahibhhibijaaGreatDoorCards.lean) ties it to the program's text. -/
def laid_voussoir_lexi_words {H : Type} : DataW H := .agg [.lit (.string [65]), .lit (.string [65, 70]), .lit (.string [65, 71]), .lit (.string [65, 88]), .lit (.string [69]), .lit (.string [69, 70]), .lit (.string [69, 71]), .lit (.string [69, 88]), .lit (.string [85]), .lit (.string [98, 111, 111, 108]), .lit (.string [100, 101, 102]), .lit (.string [101, 108, 115, 101]), .lit (.string [102, 97, 105, 114]), .lit (.string [102, 97, 108, 115, 101]), .lit (.string [105, 102]), .lit (.string [105, 110, 105, 116]), .lit (.string [105, 110, 118, 97, 114]), .lit (.string [109, 111, 100]), .lit (.string [110, 101, 120, 116]), .lit (.string [115, 112, 101, 99]), .lit (.string [116, 104, 101, 110]), .lit (.string [116, 114, 97, 110, 115]), .lit (.string [116, 114, 117, 101]), .lit (.string [118, 97, 114])]

/-- 'voussoirlaw54.SimWalks': WHATEVER THE INPUT: true; the input reads as it did. -/
def simWalksSpec : ChangeSpec := { name := "simWalks", fn := fun _ => fun
  | [d1, d2] => { results := [.lit (.bool true)], args := [d1, d2] }
  | _ => none }
def simWalksRow : OpenClaim := { program := "ytnaahibhhibijaagreatdoor", sum := "cb44e845f09b3f562f9d03fd2a8de89f6c7694845cf3225dd4aec25f3312df44", func := "voussoir/voussoirlaw54.SimWalks", spec := "simWalks", inPlace := ["internal/abi.NoEscape", "internal/bytealg.MakeNoZero"], unfollowed := true, recurses := true, named := ["voussoir/lexi.words"], loops := true, apart := false, laid := [("voussoir/lexi.words", laid_voussoir_lexi_words)] }
def SimWalksSaid : Prop := simWalksRow.holds Tryz.pinned (OpenSpec.ofChange simWalksSpec)

/-- ITS FALSE NEIGHBOUR: 'it returns false'. Refute it at one input. -/
def simWalksWrong : ChangeSpec := { name := "simWalks", fn := fun _ => fun
  | [d1, d2] => { results := [.lit (.bool false)], args := [d1, d2] }
  | _ => none }
def SimWalksWrongFalsely : Prop := simWalksRow.holds Tryz.pinned (OpenSpec.ofChange simWalksWrong)

/-- 'voussoirlaw54.SimShows': WHATEVER THE INPUT: true; the input reads as it did. -/
def simShowsSpec : ChangeSpec := { name := "simShows", fn := fun _ => fun
  | [d1, d2] => { results := [.lit (.bool true)], args := [d1, d2] }
  | _ => none }
def simShowsRow : OpenClaim := { program := "ytnaahibhhibijaagreatdoor", sum := "cb44e845f09b3f562f9d03fd2a8de89f6c7694845cf3225dd4aec25f3312df44", func := "voussoir/voussoirlaw54.SimShows", spec := "simShows", inPlace := ["internal/abi.NoEscape", "internal/bytealg.MakeNoZero"], unfollowed := true, recurses := true, named := ["voussoir/lexi.words"], loops := true, apart := false, laid := [("voussoir/lexi.words", laid_voussoir_lexi_words)] }
def SimShowsSaid : Prop := simShowsRow.holds Tryz.pinned (OpenSpec.ofChange simShowsSpec)

/-- ITS FALSE NEIGHBOUR: 'it returns false'. Refute it at one input. -/
def simShowsWrong : ChangeSpec := { name := "simShows", fn := fun _ => fun
  | [d1, d2] => { results := [.lit (.bool false)], args := [d1, d2] }
  | _ => none }
def SimShowsWrongFalsely : Prop := simShowsRow.holds Tryz.pinned (OpenSpec.ofChange simShowsWrong)

/-- 'voussoirlaw54.SimStarts': WHATEVER THE INPUT: true; the input reads as it did. -/
def simStartsSpec : ChangeSpec := { name := "simStarts", fn := fun _ => fun
  | [d1, d2, d3] => { results := [.lit (.bool true)], args := [d1, d2, d3] }
  | _ => none }
def simStartsRow : OpenClaim := { program := "ytnaahibhhibijaagreatdoor", sum := "cb44e845f09b3f562f9d03fd2a8de89f6c7694845cf3225dd4aec25f3312df44", func := "voussoir/voussoirlaw54.SimStarts", spec := "simStarts", inPlace := ["internal/abi.NoEscape", "internal/bytealg.MakeNoZero"], unfollowed := true, recurses := true, named := ["voussoir/lexi.words"], loops := true, apart := false, laid := [("voussoir/lexi.words", laid_voussoir_lexi_words)] }
def SimStartsSaid : Prop := simStartsRow.holds Tryz.pinned (OpenSpec.ofChange simStartsSpec)

/-- ITS FALSE NEIGHBOUR: 'it returns false'. Refute it at one input. -/
def simStartsWrong : ChangeSpec := { name := "simStarts", fn := fun _ => fun
  | [d1, d2, d3] => { results := [.lit (.bool false)], args := [d1, d2, d3] }
  | _ => none }
def SimStartsWrongFalsely : Prop := simStartsRow.holds Tryz.pinned (OpenSpec.ofChange simStartsWrong)

/-- 'voussoirlaw54.SimSteps': WHATEVER THE INPUT: true; the input reads as it did. -/
def simStepsSpec : ChangeSpec := { name := "simSteps", fn := fun _ => fun
  | [d1, d2, d3] => { results := [.lit (.bool true)], args := [d1, d2, d3] }
  | _ => none }
def simStepsRow : OpenClaim := { program := "ytnaahibhhibijaagreatdoor", sum := "cb44e845f09b3f562f9d03fd2a8de89f6c7694845cf3225dd4aec25f3312df44", func := "voussoir/voussoirlaw54.SimSteps", spec := "simSteps", inPlace := ["internal/abi.NoEscape", "internal/bytealg.MakeNoZero"], unfollowed := true, recurses := true, named := ["voussoir/lexi.words"], loops := true, apart := false, laid := [("voussoir/lexi.words", laid_voussoir_lexi_words)] }
def SimStepsSaid : Prop := simStepsRow.holds Tryz.pinned (OpenSpec.ofChange simStepsSpec)

/-- ITS FALSE NEIGHBOUR: 'it returns false'. Refute it at one input. -/
def simStepsWrong : ChangeSpec := { name := "simSteps", fn := fun _ => fun
  | [d1, d2, d3] => { results := [.lit (.bool false)], args := [d1, d2, d3] }
  | _ => none }
def SimStepsWrongFalsely : Prop := simStepsRow.holds Tryz.pinned (OpenSpec.ofChange simStepsWrong)

/- THE SECOND FORM. 'bulk': how many values and letters a reading holds, each counted each time it is reached (what is shared counts as often as it is met; a slice's spare places count too). A statement '..UptoSaid' is the law's where the arguments, and the package variables that the reading takes, are together of bulk at most 1048576: NARROWER than '..Said'. Prove '..Said' where nothing that the law and all that it calls make is longer than what came in: it says more and counts as full. Else prove '..UptoSaid'. A law counts once. -/
mutual
def uptoBulk {H : Type} : DataW H → Nat
  | .lit (.string bytes) => bytes.length + 1
  | .lit _ => 1
  | .nil => 1
  | .ptr d => uptoBulk d + 1
  | .slice elems spare => uptoBulkAll elems + uptoBulkAll spare + 1
  | .agg parts => uptoBulkAll parts + 1
  | .iface _ d => uptoBulk d + 1
  | .map entries => uptoBulkEntries entries + 1
  | .held _ => 1
def uptoBulkAll {H : Type} : List (DataW H) → Nat
  | [] => 0
  | d :: r => uptoBulk d + uptoBulkAll r
def uptoBulkEntries {H : Type} : List (Lit × DataW H) → Nat
  | [] => 0
  | x :: r => uptoBulkEntry x + uptoBulkEntries r
def uptoBulkEntry {H : Type} : Lit × DataW H → Nat
  | (.string bytes, d) => bytes.length + uptoBulk d + 1
  | (_, d) => uptoBulk d + 1
 end
def uptoSmall : (H : Type) → List (DataW H) → Bool := fun _ ds => decide (uptoBulkAll ds ≤ 1048576)
def OpenSpec.upto (s : _root_.Go.ChangeSpec) : _root_.Go.OpenSpec := { _root_.Go.OpenSpec.ofChange s with cond := some uptoSmall }

/-- 'voussoirlaw54.SimWalks', WHERE WHAT IT READS IS OF BULK AT MOST 1048576: true; the input reads as it did. -/
def simWalksUptoRow : OpenClaim := { program := "ytnaahibhhibijaagreatdoor", sum := "cb44e845f09b3f562f9d03fd2a8de89f6c7694845cf3225dd4aec25f3312df44", func := "voussoir/voussoirlaw54.SimWalks", spec := "simWalks", inPlace := ["internal/abi.NoEscape", "internal/bytealg.MakeNoZero"], unfollowed := true, recurses := true, named := ["voussoir/lexi.words"], loops := true, apart := false, laid := [("voussoir/lexi.words", laid_voussoir_lexi_words)], narrowed := true }
def SimWalksUptoSaid : Prop := simWalksUptoRow.holds Tryz.pinned (OpenSpec.upto simWalksSpec)

/-- 'voussoirlaw54.SimShows', WHERE WHAT IT READS IS OF BULK AT MOST 1048576: true; the input reads as it did. -/
def simShowsUptoRow : OpenClaim := { program := "ytnaahibhhibijaagreatdoor", sum := "cb44e845f09b3f562f9d03fd2a8de89f6c7694845cf3225dd4aec25f3312df44", func := "voussoir/voussoirlaw54.SimShows", spec := "simShows", inPlace := ["internal/abi.NoEscape", "internal/bytealg.MakeNoZero"], unfollowed := true, recurses := true, named := ["voussoir/lexi.words"], loops := true, apart := false, laid := [("voussoir/lexi.words", laid_voussoir_lexi_words)], narrowed := true }
def SimShowsUptoSaid : Prop := simShowsUptoRow.holds Tryz.pinned (OpenSpec.upto simShowsSpec)

/-- 'voussoirlaw54.SimStarts', WHERE WHAT IT READS IS OF BULK AT MOST 1048576: true; the input reads as it did. -/
def simStartsUptoRow : OpenClaim := { program := "ytnaahibhhibijaagreatdoor", sum := "cb44e845f09b3f562f9d03fd2a8de89f6c7694845cf3225dd4aec25f3312df44", func := "voussoir/voussoirlaw54.SimStarts", spec := "simStarts", inPlace := ["internal/abi.NoEscape", "internal/bytealg.MakeNoZero"], unfollowed := true, recurses := true, named := ["voussoir/lexi.words"], loops := true, apart := false, laid := [("voussoir/lexi.words", laid_voussoir_lexi_words)], narrowed := true }
def SimStartsUptoSaid : Prop := simStartsUptoRow.holds Tryz.pinned (OpenSpec.upto simStartsSpec)

/-- 'voussoirlaw54.SimSteps', WHERE WHAT IT READS IS OF BULK AT MOST 1048576: true; the input reads as it did. -/
def simStepsUptoRow : OpenClaim := { program := "ytnaahibhhibijaagreatdoor", sum := "cb44e845f09b3f562f9d03fd2a8de89f6c7694845cf3225dd4aec25f3312df44", func := "voussoir/voussoirlaw54.SimSteps", spec := "simSteps", inPlace := ["internal/abi.NoEscape", "internal/bytealg.MakeNoZero"], unfollowed := true, recurses := true, named := ["voussoir/lexi.words"], loops := true, apart := false, laid := [("voussoir/lexi.words", laid_voussoir_lexi_words)], narrowed := true }
def SimStepsUptoSaid : Prop := simStepsUptoRow.holds Tryz.pinned (OpenSpec.upto simStepsSpec)

end Rows
end Go.Proofs.YtnaahibhhibijaaGreatDoor
