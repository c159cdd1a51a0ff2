/- Facts of this seat's program, its table, and a world for the witness. No condition. -/
import Derived.Test.YtclmekjncingcaaDoorTies
import Derived.Test.YtclmekjncingcaaDoorEngD
import Derived.Test.YtclmekjncingcaaDoorCards
import Derived.Test.YtclmekjncingcaaDoorTie
set_option linter.all false
set_option linter.unnecessarySimpa false
namespace Go.Am
open Go.Proofs Go.Proofs.YtclmekjncingcaaDoor
open Go.ChangeShapes Go.WideShapes Go.ChangeAt Go.RowKit
set_option linter.unusedVariables false
set_option maxRecDepth 100000

theorem own36d : ownKnob Tryd.prog.godebug = none := by kernel_rfl
theorem laidOut36d : laidOutB Tryd.prog = true := by kernel_rfl
theorem mapsRowed36d : mapsRowed Tryd.prog = true := by kernel_rfl
theorem full36d : ((List.range Tryd.prog.types.size).all fun t => match Tryd.prog.underlying t with | some (.slice e) => decide (0 < Tryd.prog.cellsOf e) | _ => true) = true := by kernel_rfl

/-- What the listed table is. -/
@[reducible] def tab36d : List (Nat × TypeId × Ty × List D) := [(0, 87, .arr 24 .str, wordsD)]
theorem gok36d {W : World} (h : laidMetH Tryd.prog Rows.typingIsRow.laid W) : GOk G36d (fun b : Nat => W.heap[b]?) := by
  have h' : laidMet Tryd.prog Rows.typingIsRow.laid W := h
  obtain ⟨ps, hv, _, _⟩ := h'
  refine gok_of tab36d ?_ (gok_of_laid _ tab36d ps hv rfl ?_)
  · intro g cs hg
    unfold G36d at hg
    split at hg
    · rename_i h0
      cases hg
      exact ⟨_, List.mem_singleton.2 rfl, h0.symm, rfl⟩
    · cases hg
  · intro i x g hx hg
    match i, hx, hg with
    | 0, hx, hg =>
      cases hx
      cases hg
      exact ⟨by kernel_rfl, by kernel_rfl, by kernel_rfl, by kernel_rfl, by kernel_rfl, by kernel_rfl⟩
    | i + 1, hx, hg => exact absurd hg (by simp)

noncomputable def cells36d : Array Value := (wordsD.map fun d => match d with
  | .val v => v
  | _ => undef).toArray
noncomputable def world36d (os : Os) : World :=
  { World.holding Tryd.prog os ⟨#[], #[], []⟩ with heap := (World.holding Tryd.prog os ⟨#[], #[], []⟩).heap.modify 0 fun
      | .cells _ t frozen => .cells cells36d t frozen
      | o => o }
@[reducible] def argsA : Array Value := #[.slice none 0 0, .slice none 0 0, .slice none 0 0]
theorem laidA (os : Os) : laidMet Tryd.prog Rows.typingIsRow.laid ((world36d os).forCall (fun _ _ => 0) ⟨#[], argsA, []⟩).memory :=
  laidMet_of_run' 8 (by kernel_rfl) (by kernel_rfl)
end Go.Am
