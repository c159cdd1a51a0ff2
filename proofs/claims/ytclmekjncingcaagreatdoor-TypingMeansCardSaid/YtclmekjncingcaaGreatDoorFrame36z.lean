/- Facts of this seat's program, its table, and a world for the witness. No condition. -/
import Derived.Test.YtclmekjncingcaaGreatDoorTies
import Derived.Test.YtclmekjncingcaaGreatDoorEngD
import Derived.Test.YtclmekjncingcaaGreatDoorCards
import Derived.Test.YtclmekjncingcaaGreatDoorTie
set_option linter.all false
set_option linter.unnecessarySimpa false
namespace Go.Am
open Go.Proofs Go.Proofs.YtclmekjncingcaaGreatDoor
open Go.ChangeShapes Go.WideShapes Go.ChangeAt Go.RowKit
set_option linter.unusedVariables false
set_option maxRecDepth 100000

theorem own36z : ownKnob Tryz.prog.godebug = none := by kernel_rfl
theorem laidOut36z : laidOutB Tryz.prog = true := by kernel_rfl
theorem mapsRowed36z : mapsRowed Tryz.prog = true := by kernel_rfl
theorem full36z : ((List.range Tryz.prog.types.size).all fun t => match Tryz.prog.underlying t with | some (.slice e) => decide (0 < Tryz.prog.cellsOf e) | _ => true) = true := by kernel_rfl

/-- What the listed table is. -/
@[reducible] def tab36z : List (Nat × TypeId × Ty × List D) := [(0, 113, .arr 24 .str, wordsD)]
theorem gok36z {W : World} (h : laidMetH Tryz.prog Rows.typingChecksRow.laid W) : GOk G36z (fun b : Nat => W.heap[b]?) := by
  have h' : laidMet Tryz.prog Rows.typingChecksRow.laid W := h
  obtain ⟨ps, hv, _, _⟩ := h'
  refine gok_of tab36z ?_ (gok_of_laid _ tab36z ps hv rfl ?_)
  · intro g cs hg
    unfold G36z at hg
    split at hg
    · rename_i h0
      cases hg
      exact ⟨_, List.mem_singleton.2 rfl, h0.symm, rfl⟩
    · cases hg
  · intro i x g hx hg
    match i, hx, hg with
    | 0, hx, hg =>
      cases hx
      cases hg
      exact ⟨by kernel_rfl, by kernel_rfl, by kernel_rfl, by kernel_rfl, by kernel_rfl, by kernel_rfl⟩
    | i + 1, hx, hg => exact absurd hg (by simp)

noncomputable def cells36z : Array Value := (wordsD.map fun d => match d with
  | .val v => v
  | _ => undef).toArray
noncomputable def world36z (os : Os) : World :=
  { World.holding Tryz.prog os ⟨#[], #[], []⟩ with heap := (World.holding Tryz.prog os ⟨#[], #[], []⟩).heap.modify 0 fun
      | .cells _ t frozen => .cells cells36z t frozen
      | o => o }
end Go.Am
