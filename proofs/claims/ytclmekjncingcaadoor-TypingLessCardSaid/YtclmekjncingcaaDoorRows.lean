/-
  NARROWER THAN 'FOR EVERY INPUT', by the rows' own cells (each row's printed sentence says how): TypingVars: laid · TypingIs: laid · TypingLess: loops, laid.
  DERIVED. THE GIVEN ROWS OF THIS SEAT. 3 by the template 'for every input the law returns true; each argument reads behind the call as it read before'; 0 by the template 'total and deterministic' (their statements: YtclmekjncingcaaDoorTotals.lean).
  GIVEN WITH THE SEED: the statements are not yours to turn. If you find one false, say at which input.
  Laid BY PROGRAM, IN A SANDBOX (cutbox-rows.mjs): the forced cells as the released guide's own fill.sh prints them over the translation 47e2dfbad8a1bdd7… (all of the seat's roots in one cut). By AI agents, Wed Nov 11 2026. No macro, syntax, notation, axiom, sorry.
-/
import Derived.Test.YtclmekjncingcaaDoorChecked
import GoSem.Claim
import GoSem.ClaimJoined
import GoSem.ClaimMapViews
import Derived.JoinedTies
import Derived.KernelRfl
namespace Go.Proofs.YtclmekjncingcaaDoor
/- THE CELL 'sum', in the pinned program and in every row, IS THE sha256 OF THE DUMP (.gsa) THAT YtclmekjncingcaaDoorProg.lean LOADS. Nothing in Lean hashes anything: it is a label: what it is worth is what the hold of that sum in a sandbox is worth. -/
noncomputable def Tryd.pinned : Pinned := { name := "ytclmekjncingcaadoor", sum := "47e2dfbad8a1bdd7c1a0a714d72e4b76327259988ae224cc2511e6cb6fa68369", checked := Tryd.checked }
namespace Rows
def none {H : Type} : Left H := { results := [], args := [] }

/- WHAT THE LISTED PACKAGE-LEVEL VARIABLES READ AS WHEN THE CALL BEGINS. Each datum BY PROGRAM (the guide's laid-datum.mjs) off the statement by which the dump's own 'gosem.cut.vars' lays the variable. In a bare row this is a premise. The card (YtclmekjncingcaaDoorCards.lean) ties it to the program's text. -/
def laid_voussoir_lexi_words {H : Type} : DataW H := .agg [.lit (.string [65]), .lit (.string [65, 70]), .lit (.string [65, 71]), .lit (.string [65, 88]), .lit (.string [69]), .lit (.string [69, 70]), .lit (.string [69, 71]), .lit (.string [69, 88]), .lit (.string [85]), .lit (.string [98, 111, 111, 108]), .lit (.string [100, 101, 102]), .lit (.string [101, 108, 115, 101]), .lit (.string [102, 97, 105, 114]), .lit (.string [102, 97, 108, 115, 101]), .lit (.string [105, 102]), .lit (.string [105, 110, 105, 116]), .lit (.string [105, 110, 118, 97, 114]), .lit (.string [109, 111, 100]), .lit (.string [110, 101, 120, 116]), .lit (.string [115, 112, 101, 99]), .lit (.string [116, 104, 101, 110]), .lit (.string [116, 114, 97, 110, 115]), .lit (.string [116, 114, 117, 101]), .lit (.string [118, 97, 114])]

/-- 'voussoirlaw36.TypingVars': WHATEVER THE INPUT: true; the input reads as it did. -/
def typingVarsSpec : ChangeSpec := { name := "typingVars", fn := fun _ => fun
  | [d] => { results := [.lit (.bool true)], args := [d] }
  | _ => none }
def typingVarsRow : OpenClaim := { program := "ytclmekjncingcaadoor", sum := "47e2dfbad8a1bdd7c1a0a714d72e4b76327259988ae224cc2511e6cb6fa68369", func := "voussoir/voussoirlaw36.TypingVars", spec := "typingVars", unfollowed := true, recurses := true, named := ["voussoir/lexi.words"], apart := false, laid := [("voussoir/lexi.words", laid_voussoir_lexi_words)] }
def TypingVarsSaid : Prop := typingVarsRow.holds Tryd.pinned (OpenSpec.ofChange typingVarsSpec)

/-- ITS FALSE NEIGHBOUR: 'it returns false'. Refute it at one input. -/
def typingVarsWrong : ChangeSpec := { name := "typingVars", fn := fun _ => fun
  | [d] => { results := [.lit (.bool false)], args := [d] }
  | _ => none }
def TypingVarsWrongFalsely : Prop := typingVarsRow.holds Tryd.pinned (OpenSpec.ofChange typingVarsWrong)

/-- 'voussoirlaw36.TypingIs': WHATEVER THE INPUT: true; the input reads as it did. -/
def typingIsSpec : ChangeSpec := { name := "typingIs", fn := fun _ => fun
  | [d1, d2] => { results := [.lit (.bool true)], args := [d1, d2] }
  | _ => none }
def typingIsRow : OpenClaim := { program := "ytclmekjncingcaadoor", sum := "47e2dfbad8a1bdd7c1a0a714d72e4b76327259988ae224cc2511e6cb6fa68369", func := "voussoir/voussoirlaw36.TypingIs", spec := "typingIs", unfollowed := true, recurses := true, named := ["voussoir/lexi.words"], apart := false, laid := [("voussoir/lexi.words", laid_voussoir_lexi_words)] }
def TypingIsSaid : Prop := typingIsRow.holds Tryd.pinned (OpenSpec.ofChange typingIsSpec)

/-- ITS FALSE NEIGHBOUR: 'it returns false'. Refute it at one input. -/
def typingIsWrong : ChangeSpec := { name := "typingIs", fn := fun _ => fun
  | [d1, d2] => { results := [.lit (.bool false)], args := [d1, d2] }
  | _ => none }
def TypingIsWrongFalsely : Prop := typingIsRow.holds Tryd.pinned (OpenSpec.ofChange typingIsWrong)

/-- 'voussoirlaw36.TypingLess': WHATEVER THE INPUT: true; the input reads as it did. -/
def typingLessSpec : ChangeSpec := { name := "typingLess", fn := fun _ => fun
  | [d1, d2, d3] => { results := [.lit (.bool true)], args := [d1, d2, d3] }
  | _ => none }
def typingLessRow : OpenClaim := { program := "ytclmekjncingcaadoor", sum := "47e2dfbad8a1bdd7c1a0a714d72e4b76327259988ae224cc2511e6cb6fa68369", func := "voussoir/voussoirlaw36.TypingLess", spec := "typingLess", unfollowed := true, recurses := true, named := ["voussoir/lexi.words"], loops := true, apart := false, laid := [("voussoir/lexi.words", laid_voussoir_lexi_words)] }
def TypingLessSaid : Prop := typingLessRow.holds Tryd.pinned (OpenSpec.ofChange typingLessSpec)

/-- ITS FALSE NEIGHBOUR: 'it returns false'. Refute it at one input. -/
def typingLessWrong : ChangeSpec := { name := "typingLess", fn := fun _ => fun
  | [d1, d2, d3] => { results := [.lit (.bool false)], args := [d1, d2, d3] }
  | _ => none }
def TypingLessWrongFalsely : Prop := typingLessRow.holds Tryd.pinned (OpenSpec.ofChange typingLessWrong)

/- THE SECOND FORM. 'bulk': how many values and letters a reading holds, each counted each time it is reached (what is shared counts as often as it is met; a slice's spare places count too). A statement '..UptoSaid' is the law's where the arguments, and the package variables that the reading takes, are together of bulk at most 1048576: NARROWER than '..Said'. Prove '..Said' where nothing that the law and all that it calls make is longer than what came in: it says more and counts as full. Else prove '..UptoSaid'. A law counts once. -/
mutual
def uptoBulk {H : Type} : DataW H → Nat
  | .lit (.string bytes) => bytes.length + 1
  | .lit _ => 1
  | .nil => 1
  | .ptr d => uptoBulk d + 1
  | .slice elems spare => uptoBulkAll elems + uptoBulkAll spare + 1
  | .agg parts => uptoBulkAll parts + 1
  | .iface _ d => uptoBulk d + 1
  | .map entries => uptoBulkEntries entries + 1
  | .held _ => 1
def uptoBulkAll {H : Type} : List (DataW H) → Nat
  | [] => 0
  | d :: r => uptoBulk d + uptoBulkAll r
def uptoBulkEntries {H : Type} : List (Lit × DataW H) → Nat
  | [] => 0
  | x :: r => uptoBulkEntry x + uptoBulkEntries r
def uptoBulkEntry {H : Type} : Lit × DataW H → Nat
  | (.string bytes, d) => bytes.length + uptoBulk d + 1
  | (_, d) => uptoBulk d + 1
 end
def uptoSmall : (H : Type) → List (DataW H) → Bool := fun _ ds => decide (uptoBulkAll ds ≤ 1048576)
def OpenSpec.upto (s : _root_.Go.ChangeSpec) : _root_.Go.OpenSpec := { _root_.Go.OpenSpec.ofChange s with cond := some uptoSmall }

/-- 'voussoirlaw36.TypingVars', WHERE WHAT IT READS IS OF BULK AT MOST 1048576: true; the input reads as it did. -/
def typingVarsUptoRow : OpenClaim := { program := "ytclmekjncingcaadoor", sum := "47e2dfbad8a1bdd7c1a0a714d72e4b76327259988ae224cc2511e6cb6fa68369", func := "voussoir/voussoirlaw36.TypingVars", spec := "typingVars", unfollowed := true, recurses := true, named := ["voussoir/lexi.words"], apart := false, laid := [("voussoir/lexi.words", laid_voussoir_lexi_words)], narrowed := true }
def TypingVarsUptoSaid : Prop := typingVarsUptoRow.holds Tryd.pinned (OpenSpec.upto typingVarsSpec)

/-- 'voussoirlaw36.TypingIs', WHERE WHAT IT READS IS OF BULK AT MOST 1048576: true; the input reads as it did. -/
def typingIsUptoRow : OpenClaim := { program := "ytclmekjncingcaadoor", sum := "47e2dfbad8a1bdd7c1a0a714d72e4b76327259988ae224cc2511e6cb6fa68369", func := "voussoir/voussoirlaw36.TypingIs", spec := "typingIs", unfollowed := true, recurses := true, named := ["voussoir/lexi.words"], apart := false, laid := [("voussoir/lexi.words", laid_voussoir_lexi_words)], narrowed := true }
def TypingIsUptoSaid : Prop := typingIsUptoRow.holds Tryd.pinned (OpenSpec.upto typingIsSpec)

/-- 'voussoirlaw36.TypingLess', WHERE WHAT IT READS IS OF BULK AT MOST 1048576: true; the input reads as it did. -/
def typingLessUptoRow : OpenClaim := { program := "ytclmekjncingcaadoor", sum := "47e2dfbad8a1bdd7c1a0a714d72e4b76327259988ae224cc2511e6cb6fa68369", func := "voussoir/voussoirlaw36.TypingLess", spec := "typingLess", unfollowed := true, recurses := true, named := ["voussoir/lexi.words"], loops := true, apart := false, laid := [("voussoir/lexi.words", laid_voussoir_lexi_words)], narrowed := true }
def TypingLessUptoSaid : Prop := typingLessUptoRow.holds Tryd.pinned (OpenSpec.upto typingLessSpec)

end Rows
end Go.Proofs.YtclmekjncingcaaDoor
