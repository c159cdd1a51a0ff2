/- Facts of this seat's program, its table, and a world for the witness. No condition. -/
import Derived.Test.YtflimngmpmlogaaDoorTies
import Derived.Test.YtflimngmpmlogaaDoorEngD
import Derived.Test.YtflimngmpmlogaaDoorCards
import Derived.Test.YtflimngmpmlogaaDoorTie
set_option linter.all false
set_option linter.unnecessarySimpa false
namespace Go.Am
open Go.Proofs Go.Proofs.YtflimngmpmlogaaDoor
open Go.ChangeShapes Go.WideShapes Go.ChangeAt Go.RowKit
set_option linter.unusedVariables false
set_option maxRecDepth 100000

theorem own37 : ownKnob Tryd.prog.godebug = none := by kernel_rfl
theorem laidOut37 : laidOutB Tryd.prog = true := by kernel_rfl
theorem mapsRowed37 : mapsRowed Tryd.prog = true := by kernel_rfl
theorem full37 : ((List.range Tryd.prog.types.size).all fun t => match Tryd.prog.underlying t with | some (.slice e) => decide (0 < Tryd.prog.cellsOf e) | _ => true) = true := by kernel_rfl

/-- What the listed table is. -/
@[reducible] def tab37 : List (Nat × TypeId × Ty × List D) := [(0, 79, .arr 24 .str, wordsD)]
theorem gok37 {W : World} (h : laidMetH Tryd.prog Rows.encCodesRow.laid W) : GOk G37 (fun b : Nat => W.heap[b]?) := by
  have h' : laidMet Tryd.prog Rows.encCodesRow.laid W := h
  obtain ⟨ps, hv, _, _⟩ := h'
  refine gok_of tab37 ?_ (gok_of_laid _ tab37 ps hv rfl ?_)
  · intro g cs hg
    unfold G37 at hg
    split at hg
    · rename_i h0
      cases hg
      exact ⟨_, List.mem_singleton.2 rfl, h0.symm, rfl⟩
    · cases hg
  · intro i x g hx hg
    match i, hx, hg with
    | 0, hx, hg =>
      cases hx
      cases hg
      exact ⟨by kernel_rfl, by kernel_rfl, by kernel_rfl, by kernel_rfl⟩
    | i + 1, hx, hg => exact absurd hg (by simp)

noncomputable def cells37 : Array Value := (wordsD.map fun d => match d with
  | .val v => v
  | _ => undef).toArray
noncomputable def world37 (os : Os) : World :=
  { World.holding Tryd.prog os ⟨#[], #[], []⟩ with heap := (World.holding Tryd.prog os ⟨#[], #[], []⟩).heap.modify 0 fun
      | .cells _ t frozen => .cells cells37 t frozen
      | o => o }
@[reducible] def argsA : Array Value := #[.slice none 0 0, .slice none 0 0, .slice none 0 0]
theorem laidA (os : Os) : laidMet Tryd.prog Rows.encCodesRow.laid ((world37 os).forCall (fun _ _ => 0) ⟨#[], argsA, []⟩).memory :=
  laidMet_of_run' 8 (by kernel_rfl) (by kernel_rfl)
end Go.Am
