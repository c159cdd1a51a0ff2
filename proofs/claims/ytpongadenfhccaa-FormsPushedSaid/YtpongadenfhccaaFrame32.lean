/- Facts of this seat's program, and a world for the witness. No condition. -/
import Derived.Test.YtpongadenfhccaaTies
import Derived.Test.YtpongadenfhccaaEngD
import Derived.Test.YtpongadenfhccaaRows
set_option linter.all false
set_option linter.unnecessarySimpa false
namespace Go.Am
open Go.Proofs Go.Proofs.Ytpongadenfhccaa
open Go.ChangeShapes Go.WideShapes Go.ChangeAt Go.RowKit
set_option linter.unusedVariables false
set_option maxRecDepth 100000
theorem own32 : ownKnob Try.prog.godebug = none := by kernel_rfl
theorem laidOut32 : laidOutB Try.prog = true := by kernel_rfl
theorem mapsRowed32 : mapsRowed Try.prog = true := by kernel_rfl
theorem full32 : ((List.range Try.prog.types.size).all fun t => match Try.prog.underlying t with | some (.slice e) => decide (0 < Try.prog.cellsOf e) | _ => true) = true := by kernel_rfl
theorem gok32 {m : Mem} : GOk G32 m := fun g cs h => by cases h
noncomputable def world32 (os : Os) : World := World.holding Try.prog os ⟨#[], #[], []⟩
end Go.Am
