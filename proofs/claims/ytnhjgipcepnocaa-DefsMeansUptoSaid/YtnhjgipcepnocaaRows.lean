/-
  NARROWER THAN 'FOR EVERY INPUT', by the rows' own cells (each row's printed sentence says how): DefsOrders: loops · DefsInlines: loops · DefsForms: loops · DefsFlats: loops · DefsMeans: loops.
  DERIVED. THE GIVEN ROWS OF THIS SEAT. 6 by the template 'for every input the law returns true; each argument reads behind the call as it read before'; 0 by the template 'total and deterministic' (their statements: YtnhjgipcepnocaaTotals.lean).
  GIVEN WITH THE SEED: the statements are not yours to turn. If you find one false, say at which input.
  Laid BY PROGRAM, IN A SANDBOX (cutbox-rows.mjs): the forced cells as the released guide's own fill.sh prints them over the translation 31b2fe626437d074… (all of the seat's roots in one cut). By AI agents, Wed Nov 11 2026. No macro, syntax, notation, axiom, sorry.
-/
import Derived.Test.YtnhjgipcepnocaaChecked
import GoSem.Claim
import GoSem.ClaimJoined
import GoSem.ClaimMapViews
import Derived.JoinedTies
import Derived.KernelRfl
namespace Go.Proofs.Ytnhjgipcepnocaa
/- THE CELL 'sum', in the pinned program and in every row, IS THE sha256 OF THE DUMP (.gsa) THAT YtnhjgipcepnocaaProg.lean LOADS. Nothing in Lean hashes anything: it is a label: what it is worth is what the hold of that sum in a sandbox is worth. -/
noncomputable def Try.pinned : Pinned := { name := "ytnhjgipcepnocaa", sum := "31b2fe626437d074e8a1dc860872a2a6b3fdc040fd1eb189c42b87fc52d519fa", checked := Try.checked }
namespace Rows
def none {H : Type} : Left H := { results := [], args := [] }

/-- 'voussoirlaw35.DefsOrders': WHATEVER THE INPUT: true; the input reads as it did. -/
def defsOrdersSpec : ChangeSpec := { name := "defsOrders", fn := fun _ => fun
  | [d] => { results := [.lit (.bool true)], args := [d] }
  | _ => none }
def defsOrdersRow : OpenClaim := { program := "ytnhjgipcepnocaa", sum := "31b2fe626437d074e8a1dc860872a2a6b3fdc040fd1eb189c42b87fc52d519fa", func := "voussoir/voussoirlaw35.DefsOrders", spec := "defsOrders", unfollowed := true, recurses := true, loops := true, apart := false }
def DefsOrdersSaid : Prop := defsOrdersRow.holds Try.pinned (OpenSpec.ofChange defsOrdersSpec)

/-- ITS FALSE NEIGHBOUR: 'it returns false'. Refute it at one input. -/
def defsOrdersWrong : ChangeSpec := { name := "defsOrders", fn := fun _ => fun
  | [d] => { results := [.lit (.bool false)], args := [d] }
  | _ => none }
def DefsOrdersWrongFalsely : Prop := defsOrdersRow.holds Try.pinned (OpenSpec.ofChange defsOrdersWrong)

/-- 'voussoirlaw35.DefsInlines': WHATEVER THE INPUT: true; the input reads as it did. -/
def defsInlinesSpec : ChangeSpec := { name := "defsInlines", fn := fun _ => fun
  | [d1, d2] => { results := [.lit (.bool true)], args := [d1, d2] }
  | _ => none }
def defsInlinesRow : OpenClaim := { program := "ytnhjgipcepnocaa", sum := "31b2fe626437d074e8a1dc860872a2a6b3fdc040fd1eb189c42b87fc52d519fa", func := "voussoir/voussoirlaw35.DefsInlines", spec := "defsInlines", unfollowed := true, recurses := true, loops := true, apart := false }
def DefsInlinesSaid : Prop := defsInlinesRow.holds Try.pinned (OpenSpec.ofChange defsInlinesSpec)

/-- ITS FALSE NEIGHBOUR: 'it returns false'. Refute it at one input. -/
def defsInlinesWrong : ChangeSpec := { name := "defsInlines", fn := fun _ => fun
  | [d1, d2] => { results := [.lit (.bool false)], args := [d1, d2] }
  | _ => none }
def DefsInlinesWrongFalsely : Prop := defsInlinesRow.holds Try.pinned (OpenSpec.ofChange defsInlinesWrong)

/-- 'voussoirlaw35.DefsDoubles': WHATEVER THE INPUT: true; the input reads as it did. -/
def defsDoublesSpec : ChangeSpec := { name := "defsDoubles", fn := fun _ => fun
  | [d1, d2] => { results := [.lit (.bool true)], args := [d1, d2] }
  | _ => none }
def defsDoublesRow : OpenClaim := { program := "ytnhjgipcepnocaa", sum := "31b2fe626437d074e8a1dc860872a2a6b3fdc040fd1eb189c42b87fc52d519fa", func := "voussoir/voussoirlaw35.DefsDoubles", spec := "defsDoubles", unfollowed := true, recurses := true, apart := false }
def DefsDoublesSaid : Prop := defsDoublesRow.holds Try.pinned (OpenSpec.ofChange defsDoublesSpec)

/-- ITS FALSE NEIGHBOUR: 'it returns false'. Refute it at one input. -/
def defsDoublesWrong : ChangeSpec := { name := "defsDoubles", fn := fun _ => fun
  | [d1, d2] => { results := [.lit (.bool false)], args := [d1, d2] }
  | _ => none }
def DefsDoublesWrongFalsely : Prop := defsDoublesRow.holds Try.pinned (OpenSpec.ofChange defsDoublesWrong)

/-- 'voussoirlaw35.DefsForms': WHATEVER THE INPUT: true; the input reads as it did. -/
def defsFormsSpec : ChangeSpec := { name := "defsForms", fn := fun _ => fun
  | [d1, d2] => { results := [.lit (.bool true)], args := [d1, d2] }
  | _ => none }
def defsFormsRow : OpenClaim := { program := "ytnhjgipcepnocaa", sum := "31b2fe626437d074e8a1dc860872a2a6b3fdc040fd1eb189c42b87fc52d519fa", func := "voussoir/voussoirlaw35.DefsForms", spec := "defsForms", unfollowed := true, recurses := true, loops := true, apart := false }
def DefsFormsSaid : Prop := defsFormsRow.holds Try.pinned (OpenSpec.ofChange defsFormsSpec)

/-- ITS FALSE NEIGHBOUR: 'it returns false'. Refute it at one input. -/
def defsFormsWrong : ChangeSpec := { name := "defsForms", fn := fun _ => fun
  | [d1, d2] => { results := [.lit (.bool false)], args := [d1, d2] }
  | _ => none }
def DefsFormsWrongFalsely : Prop := defsFormsRow.holds Try.pinned (OpenSpec.ofChange defsFormsWrong)

/-- 'voussoirlaw35.DefsFlats': WHATEVER THE INPUT: true; the input reads as it did. -/
def defsFlatsSpec : ChangeSpec := { name := "defsFlats", fn := fun _ => fun
  | [d] => { results := [.lit (.bool true)], args := [d] }
  | _ => none }
def defsFlatsRow : OpenClaim := { program := "ytnhjgipcepnocaa", sum := "31b2fe626437d074e8a1dc860872a2a6b3fdc040fd1eb189c42b87fc52d519fa", func := "voussoir/voussoirlaw35.DefsFlats", spec := "defsFlats", unfollowed := true, recurses := true, loops := true, apart := false }
def DefsFlatsSaid : Prop := defsFlatsRow.holds Try.pinned (OpenSpec.ofChange defsFlatsSpec)

/-- ITS FALSE NEIGHBOUR: 'it returns false'. Refute it at one input. -/
def defsFlatsWrong : ChangeSpec := { name := "defsFlats", fn := fun _ => fun
  | [d] => { results := [.lit (.bool false)], args := [d] }
  | _ => none }
def DefsFlatsWrongFalsely : Prop := defsFlatsRow.holds Try.pinned (OpenSpec.ofChange defsFlatsWrong)

/-- 'voussoirlaw35.DefsMeans': WHATEVER THE INPUT: true; the input reads as it did. -/
def defsMeansSpec : ChangeSpec := { name := "defsMeans", fn := fun _ => fun
  | [d1, d2, d3, d4] => { results := [.lit (.bool true)], args := [d1, d2, d3, d4] }
  | _ => none }
def defsMeansRow : OpenClaim := { program := "ytnhjgipcepnocaa", sum := "31b2fe626437d074e8a1dc860872a2a6b3fdc040fd1eb189c42b87fc52d519fa", func := "voussoir/voussoirlaw35.DefsMeans", spec := "defsMeans", unfollowed := true, recurses := true, loops := true, apart := false }
def DefsMeansSaid : Prop := defsMeansRow.holds Try.pinned (OpenSpec.ofChange defsMeansSpec)

/-- ITS FALSE NEIGHBOUR: 'it returns false'. Refute it at one input. -/
def defsMeansWrong : ChangeSpec := { name := "defsMeans", fn := fun _ => fun
  | [d1, d2, d3, d4] => { results := [.lit (.bool false)], args := [d1, d2, d3, d4] }
  | _ => none }
def DefsMeansWrongFalsely : Prop := defsMeansRow.holds Try.pinned (OpenSpec.ofChange defsMeansWrong)

/- THE SECOND FORM. 'bulk': how many values and letters a reading holds, each counted each time it is reached (what is shared counts as often as it is met; a slice's spare places count too). A statement '..UptoSaid' is the law's where the arguments, and the package variables that the reading takes, are together of bulk at most 1048576: NARROWER than '..Said'. Prove '..Said' where nothing that the law and all that it calls make is longer than what came in: it says more and counts as full. Else prove '..UptoSaid'. A law counts once. -/
mutual
def uptoBulk {H : Type} : DataW H → Nat
  | .lit (.string bytes) => bytes.length + 1
  | .lit _ => 1
  | .nil => 1
  | .ptr d => uptoBulk d + 1
  | .slice elems spare => uptoBulkAll elems + uptoBulkAll spare + 1
  | .agg parts => uptoBulkAll parts + 1
  | .iface _ d => uptoBulk d + 1
  | .map entries => uptoBulkEntries entries + 1
  | .held _ => 1
def uptoBulkAll {H : Type} : List (DataW H) → Nat
  | [] => 0
  | d :: r => uptoBulk d + uptoBulkAll r
def uptoBulkEntries {H : Type} : List (Lit × DataW H) → Nat
  | [] => 0
  | x :: r => uptoBulkEntry x + uptoBulkEntries r
def uptoBulkEntry {H : Type} : Lit × DataW H → Nat
  | (.string bytes, d) => bytes.length + uptoBulk d + 1
  | (_, d) => uptoBulk d + 1
 end
def uptoSmall : (H : Type) → List (DataW H) → Bool := fun _ ds => decide (uptoBulkAll ds ≤ 1048576)
def OpenSpec.upto (s : _root_.Go.ChangeSpec) : _root_.Go.OpenSpec := { _root_.Go.OpenSpec.ofChange s with cond := some uptoSmall }

/-- 'voussoirlaw35.DefsOrders', WHERE WHAT IT READS IS OF BULK AT MOST 1048576: true; the input reads as it did. -/
def defsOrdersUptoRow : OpenClaim := { program := "ytnhjgipcepnocaa", sum := "31b2fe626437d074e8a1dc860872a2a6b3fdc040fd1eb189c42b87fc52d519fa", func := "voussoir/voussoirlaw35.DefsOrders", spec := "defsOrders", unfollowed := true, recurses := true, loops := true, apart := false, narrowed := true }
def DefsOrdersUptoSaid : Prop := defsOrdersUptoRow.holds Try.pinned (OpenSpec.upto defsOrdersSpec)

/-- 'voussoirlaw35.DefsInlines', WHERE WHAT IT READS IS OF BULK AT MOST 1048576: true; the input reads as it did. -/
def defsInlinesUptoRow : OpenClaim := { program := "ytnhjgipcepnocaa", sum := "31b2fe626437d074e8a1dc860872a2a6b3fdc040fd1eb189c42b87fc52d519fa", func := "voussoir/voussoirlaw35.DefsInlines", spec := "defsInlines", unfollowed := true, recurses := true, loops := true, apart := false, narrowed := true }
def DefsInlinesUptoSaid : Prop := defsInlinesUptoRow.holds Try.pinned (OpenSpec.upto defsInlinesSpec)

/-- 'voussoirlaw35.DefsDoubles', WHERE WHAT IT READS IS OF BULK AT MOST 1048576: true; the input reads as it did. -/
def defsDoublesUptoRow : OpenClaim := { program := "ytnhjgipcepnocaa", sum := "31b2fe626437d074e8a1dc860872a2a6b3fdc040fd1eb189c42b87fc52d519fa", func := "voussoir/voussoirlaw35.DefsDoubles", spec := "defsDoubles", unfollowed := true, recurses := true, apart := false, narrowed := true }
def DefsDoublesUptoSaid : Prop := defsDoublesUptoRow.holds Try.pinned (OpenSpec.upto defsDoublesSpec)

/-- 'voussoirlaw35.DefsForms', WHERE WHAT IT READS IS OF BULK AT MOST 1048576: true; the input reads as it did. -/
def defsFormsUptoRow : OpenClaim := { program := "ytnhjgipcepnocaa", sum := "31b2fe626437d074e8a1dc860872a2a6b3fdc040fd1eb189c42b87fc52d519fa", func := "voussoir/voussoirlaw35.DefsForms", spec := "defsForms", unfollowed := true, recurses := true, loops := true, apart := false, narrowed := true }
def DefsFormsUptoSaid : Prop := defsFormsUptoRow.holds Try.pinned (OpenSpec.upto defsFormsSpec)

/-- 'voussoirlaw35.DefsFlats', WHERE WHAT IT READS IS OF BULK AT MOST 1048576: true; the input reads as it did. -/
def defsFlatsUptoRow : OpenClaim := { program := "ytnhjgipcepnocaa", sum := "31b2fe626437d074e8a1dc860872a2a6b3fdc040fd1eb189c42b87fc52d519fa", func := "voussoir/voussoirlaw35.DefsFlats", spec := "defsFlats", unfollowed := true, recurses := true, loops := true, apart := false, narrowed := true }
def DefsFlatsUptoSaid : Prop := defsFlatsUptoRow.holds Try.pinned (OpenSpec.upto defsFlatsSpec)

/-- 'voussoirlaw35.DefsMeans', WHERE WHAT IT READS IS OF BULK AT MOST 1048576: true; the input reads as it did. -/
def defsMeansUptoRow : OpenClaim := { program := "ytnhjgipcepnocaa", sum := "31b2fe626437d074e8a1dc860872a2a6b3fdc040fd1eb189c42b87fc52d519fa", func := "voussoir/voussoirlaw35.DefsMeans", spec := "defsMeans", unfollowed := true, recurses := true, loops := true, apart := false, narrowed := true }
def DefsMeansUptoSaid : Prop := defsMeansUptoRow.holds Try.pinned (OpenSpec.upto defsMeansSpec)

end Rows
end Go.Proofs.Ytnhjgipcepnocaa
