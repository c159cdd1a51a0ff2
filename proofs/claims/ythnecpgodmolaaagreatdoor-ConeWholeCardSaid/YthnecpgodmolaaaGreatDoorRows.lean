/-
  NARROWER THAN 'FOR EVERY INPUT', by the rows' own cells (each row's printed sentence says how): ConeCuts: loops, laid · ConeRight: loops, laid · ConeWhole: loops, laid · ConeSpecs: loops, laid.
  DERIVED. THE GIVEN ROWS OF THIS SEAT. 4 by the template 'for every input the law returns true; each argument reads behind the call as it read before'; 0 by the template 'total and deterministic' (their statements: YthnecpgodmolaaaGreatDoorTotals.lean).
  GIVEN WITH THE SEED: the statements are not yours to turn. If you find one false, say at which input.
  Laid BY PROGRAM, IN A SANDBOX (cutbox-rows.mjs): the forced cells as the released guide's own fill.sh prints them over the translation 57b57bac2c909096… (all of the seat's roots in one cut). By AI agents, Wed Nov 11 2026. No macro, syntax, notation, axiom, sorry.
-/
import Derived.Test.YthnecpgodmolaaaGreatDoorChecked
import GoSem.Claim
import GoSem.ClaimJoined
import GoSem.ClaimMapViews
import Derived.JoinedTies
import Derived.KernelRfl
namespace Go.Proofs.YthnecpgodmolaaaGreatDoor
/- THE CELL 'sum', in the pinned program and in every row, IS THE sha256 OF THE DUMP (.gsa) THAT YthnecpgodmolaaaGreatDoorProg.lean LOADS. Nothing in Lean hashes anything: it is a label: what it is worth is what the hold of that sum in a sandbox is worth. -/
noncomputable def Tryz.pinned : Pinned := { name := "ythnecpgodmolaaagreatdoor", sum := "57b57bac2c909096655d9a0f9681fab5e7cb938a6f5b8f6d6c2347bc5f61dbb3", checked := Tryz.checked }
namespace Rows
def none {H : Type} : Left H := { results := [], args := [] }

/- WHAT THE LISTED PACKAGE-LEVEL VARIABLES READ AS WHEN THE CALL BEGINS. Each datum BY PROGRAM (the guide's laid-datum.mjs) off the statement by which the dump's own 'gosem.cut.vars' lays the variable. In a bare row this is a premise. The card (YthnecpgodmolaaaGreatDoorCards.lean) ties it to the program's text. -/
def laid_voussoir_lexi_words {H : Type} : DataW H := .agg [.lit (.string [65]), .lit (.string [65, 70]), .lit (.string [65, 71]), .lit (.string [65, 88]), .lit (.string [69]), .lit (.string [69, 70]), .lit (.string [69, 71]), .lit (.string [69, 88]), .lit (.string [85]), .lit (.string [98, 111, 111, 108]), .lit (.string [100, 101, 102]), .lit (.string [101, 108, 115, 101]), .lit (.string [102, 97, 105, 114]), .lit (.string [102, 97, 108, 115, 101]), .lit (.string [105, 102]), .lit (.string [105, 110, 105, 116]), .lit (.string [105, 110, 118, 97, 114]), .lit (.string [109, 111, 100]), .lit (.string [110, 101, 120, 116]), .lit (.string [115, 112, 101, 99]), .lit (.string [116, 104, 101, 110]), .lit (.string [116, 114, 97, 110, 115]), .lit (.string [116, 114, 117, 101]), .lit (.string [118, 97, 114])]

/-- 'voussoirlaw55.ConeCuts': WHATEVER THE INPUT: true; the input reads as it did. -/
def coneCutsSpec : ChangeSpec := { name := "coneCuts", fn := fun _ => fun
  | [d1, d2] => { results := [.lit (.bool true)], args := [d1, d2] }
  | _ => none }
def coneCutsRow : OpenClaim := { program := "ythnecpgodmolaaagreatdoor", sum := "57b57bac2c909096655d9a0f9681fab5e7cb938a6f5b8f6d6c2347bc5f61dbb3", func := "voussoir/voussoirlaw55.ConeCuts", spec := "coneCuts", unfollowed := true, recurses := true, named := ["voussoir/lexi.words"], loops := true, apart := false, laid := [("voussoir/lexi.words", laid_voussoir_lexi_words)] }
def ConeCutsSaid : Prop := coneCutsRow.holds Tryz.pinned (OpenSpec.ofChange coneCutsSpec)

/-- ITS FALSE NEIGHBOUR: 'it returns false'. Refute it at one input. -/
def coneCutsWrong : ChangeSpec := { name := "coneCuts", fn := fun _ => fun
  | [d1, d2] => { results := [.lit (.bool false)], args := [d1, d2] }
  | _ => none }
def ConeCutsWrongFalsely : Prop := coneCutsRow.holds Tryz.pinned (OpenSpec.ofChange coneCutsWrong)

/-- 'voussoirlaw55.ConeRight': WHATEVER THE INPUT: true; the input reads as it did. -/
def coneRightSpec : ChangeSpec := { name := "coneRight", fn := fun _ => fun
  | [d1, d2] => { results := [.lit (.bool true)], args := [d1, d2] }
  | _ => none }
def coneRightRow : OpenClaim := { program := "ythnecpgodmolaaagreatdoor", sum := "57b57bac2c909096655d9a0f9681fab5e7cb938a6f5b8f6d6c2347bc5f61dbb3", func := "voussoir/voussoirlaw55.ConeRight", spec := "coneRight", unfollowed := true, recurses := true, named := ["voussoir/lexi.words"], loops := true, apart := false, laid := [("voussoir/lexi.words", laid_voussoir_lexi_words)] }
def ConeRightSaid : Prop := coneRightRow.holds Tryz.pinned (OpenSpec.ofChange coneRightSpec)

/-- ITS FALSE NEIGHBOUR: 'it returns false'. Refute it at one input. -/
def coneRightWrong : ChangeSpec := { name := "coneRight", fn := fun _ => fun
  | [d1, d2] => { results := [.lit (.bool false)], args := [d1, d2] }
  | _ => none }
def ConeRightWrongFalsely : Prop := coneRightRow.holds Tryz.pinned (OpenSpec.ofChange coneRightWrong)

/-- 'voussoirlaw55.ConeWhole': WHATEVER THE INPUT: true; the input reads as it did. -/
def coneWholeSpec : ChangeSpec := { name := "coneWhole", fn := fun _ => fun
  | [d1, d2] => { results := [.lit (.bool true)], args := [d1, d2] }
  | _ => none }
def coneWholeRow : OpenClaim := { program := "ythnecpgodmolaaagreatdoor", sum := "57b57bac2c909096655d9a0f9681fab5e7cb938a6f5b8f6d6c2347bc5f61dbb3", func := "voussoir/voussoirlaw55.ConeWhole", spec := "coneWhole", unfollowed := true, recurses := true, named := ["voussoir/lexi.words"], loops := true, apart := false, laid := [("voussoir/lexi.words", laid_voussoir_lexi_words)] }
def ConeWholeSaid : Prop := coneWholeRow.holds Tryz.pinned (OpenSpec.ofChange coneWholeSpec)

/-- ITS FALSE NEIGHBOUR: 'it returns false'. Refute it at one input. -/
def coneWholeWrong : ChangeSpec := { name := "coneWhole", fn := fun _ => fun
  | [d1, d2] => { results := [.lit (.bool false)], args := [d1, d2] }
  | _ => none }
def ConeWholeWrongFalsely : Prop := coneWholeRow.holds Tryz.pinned (OpenSpec.ofChange coneWholeWrong)

/-- 'voussoirlaw55.ConeSpecs': WHATEVER THE INPUT: true; the input reads as it did. -/
def coneSpecsSpec : ChangeSpec := { name := "coneSpecs", fn := fun _ => fun
  | [d1, d2] => { results := [.lit (.bool true)], args := [d1, d2] }
  | _ => none }
def coneSpecsRow : OpenClaim := { program := "ythnecpgodmolaaagreatdoor", sum := "57b57bac2c909096655d9a0f9681fab5e7cb938a6f5b8f6d6c2347bc5f61dbb3", func := "voussoir/voussoirlaw55.ConeSpecs", spec := "coneSpecs", unfollowed := true, recurses := true, named := ["voussoir/lexi.words"], loops := true, apart := false, laid := [("voussoir/lexi.words", laid_voussoir_lexi_words)] }
def ConeSpecsSaid : Prop := coneSpecsRow.holds Tryz.pinned (OpenSpec.ofChange coneSpecsSpec)

/-- ITS FALSE NEIGHBOUR: 'it returns false'. Refute it at one input. -/
def coneSpecsWrong : ChangeSpec := { name := "coneSpecs", fn := fun _ => fun
  | [d1, d2] => { results := [.lit (.bool false)], args := [d1, d2] }
  | _ => none }
def ConeSpecsWrongFalsely : Prop := coneSpecsRow.holds Tryz.pinned (OpenSpec.ofChange coneSpecsWrong)

/- THE SECOND FORM. 'bulk': how many values and letters a reading holds, each counted each time it is reached (what is shared counts as often as it is met; a slice's spare places count too). A statement '..UptoSaid' is the law's where the arguments, and the package variables that the reading takes, are together of bulk at most 1048576: NARROWER than '..Said'. Prove '..Said' where nothing that the law and all that it calls make is longer than what came in: it says more and counts as full. Else prove '..UptoSaid'. A law counts once. -/
mutual
def uptoBulk {H : Type} : DataW H → Nat
  | .lit (.string bytes) => bytes.length + 1
  | .lit _ => 1
  | .nil => 1
  | .ptr d => uptoBulk d + 1
  | .slice elems spare => uptoBulkAll elems + uptoBulkAll spare + 1
  | .agg parts => uptoBulkAll parts + 1
  | .iface _ d => uptoBulk d + 1
  | .map entries => uptoBulkEntries entries + 1
  | .held _ => 1
def uptoBulkAll {H : Type} : List (DataW H) → Nat
  | [] => 0
  | d :: r => uptoBulk d + uptoBulkAll r
def uptoBulkEntries {H : Type} : List (Lit × DataW H) → Nat
  | [] => 0
  | x :: r => uptoBulkEntry x + uptoBulkEntries r
def uptoBulkEntry {H : Type} : Lit × DataW H → Nat
  | (.string bytes, d) => bytes.length + uptoBulk d + 1
  | (_, d) => uptoBulk d + 1
 end
def uptoSmall : (H : Type) → List (DataW H) → Bool := fun _ ds => decide (uptoBulkAll ds ≤ 1048576)
def OpenSpec.upto (s : _root_.Go.ChangeSpec) : _root_.Go.OpenSpec := { _root_.Go.OpenSpec.ofChange s with cond := some uptoSmall }

/-- 'voussoirlaw55.ConeCuts', WHERE WHAT IT READS IS OF BULK AT MOST 1048576: true; the input reads as it did. -/
def coneCutsUptoRow : OpenClaim := { program := "ythnecpgodmolaaagreatdoor", sum := "57b57bac2c909096655d9a0f9681fab5e7cb938a6f5b8f6d6c2347bc5f61dbb3", func := "voussoir/voussoirlaw55.ConeCuts", spec := "coneCuts", unfollowed := true, recurses := true, named := ["voussoir/lexi.words"], loops := true, apart := false, laid := [("voussoir/lexi.words", laid_voussoir_lexi_words)], narrowed := true }
def ConeCutsUptoSaid : Prop := coneCutsUptoRow.holds Tryz.pinned (OpenSpec.upto coneCutsSpec)

/-- 'voussoirlaw55.ConeRight', WHERE WHAT IT READS IS OF BULK AT MOST 1048576: true; the input reads as it did. -/
def coneRightUptoRow : OpenClaim := { program := "ythnecpgodmolaaagreatdoor", sum := "57b57bac2c909096655d9a0f9681fab5e7cb938a6f5b8f6d6c2347bc5f61dbb3", func := "voussoir/voussoirlaw55.ConeRight", spec := "coneRight", unfollowed := true, recurses := true, named := ["voussoir/lexi.words"], loops := true, apart := false, laid := [("voussoir/lexi.words", laid_voussoir_lexi_words)], narrowed := true }
def ConeRightUptoSaid : Prop := coneRightUptoRow.holds Tryz.pinned (OpenSpec.upto coneRightSpec)

/-- 'voussoirlaw55.ConeWhole', WHERE WHAT IT READS IS OF BULK AT MOST 1048576: true; the input reads as it did. -/
def coneWholeUptoRow : OpenClaim := { program := "ythnecpgodmolaaagreatdoor", sum := "57b57bac2c909096655d9a0f9681fab5e7cb938a6f5b8f6d6c2347bc5f61dbb3", func := "voussoir/voussoirlaw55.ConeWhole", spec := "coneWhole", unfollowed := true, recurses := true, named := ["voussoir/lexi.words"], loops := true, apart := false, laid := [("voussoir/lexi.words", laid_voussoir_lexi_words)], narrowed := true }
def ConeWholeUptoSaid : Prop := coneWholeUptoRow.holds Tryz.pinned (OpenSpec.upto coneWholeSpec)

/-- 'voussoirlaw55.ConeSpecs', WHERE WHAT IT READS IS OF BULK AT MOST 1048576: true; the input reads as it did. -/
def coneSpecsUptoRow : OpenClaim := { program := "ythnecpgodmolaaagreatdoor", sum := "57b57bac2c909096655d9a0f9681fab5e7cb938a6f5b8f6d6c2347bc5f61dbb3", func := "voussoir/voussoirlaw55.ConeSpecs", spec := "coneSpecs", unfollowed := true, recurses := true, named := ["voussoir/lexi.words"], loops := true, apart := false, laid := [("voussoir/lexi.words", laid_voussoir_lexi_words)], narrowed := true }
def ConeSpecsUptoSaid : Prop := coneSpecsUptoRow.holds Tryz.pinned (OpenSpec.upto coneSpecsSpec)

end Rows
end Go.Proofs.YthnecpgodmolaaaGreatDoor
