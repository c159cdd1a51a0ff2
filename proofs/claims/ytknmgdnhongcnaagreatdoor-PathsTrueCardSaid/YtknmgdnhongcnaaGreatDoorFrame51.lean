/- Facts of this seat's program, its table, and a world for the witness. No condition. -/
import Derived.Test.YtknmgdnhongcnaaGreatDoorTies
import Derived.Test.YtknmgdnhongcnaaGreatDoorEngD
import Derived.Test.YtknmgdnhongcnaaGreatDoorCards
import Derived.Test.YtknmgdnhongcnaaGreatDoorTie
set_option linter.all false
set_option linter.unnecessarySimpa false
namespace Go.Am
open Go.Proofs Go.Proofs.YtknmgdnhongcnaaGreatDoor
open Go.ChangeShapes Go.WideShapes Go.ChangeAt Go.RowKit
set_option linter.unusedVariables false
set_option maxRecDepth 100000
theorem aoC:ownKnob Tryz.prog.godebug=none:=by kernel_rfl
theorem aoD:laidOutB Tryz.prog=true:=by kernel_rfl
theorem aoE:mapsRowed Tryz.prog=true:=by kernel_rfl
theorem aoF:((List.range Tryz.prog.types.size).all fun t=>match Tryz.prog.underlying t with|some (.slice e)=>decide (0<Tryz.prog.cellsOf e)|_=>true)=true:=by kernel_rfl
@[reducible] def W5:List (Nat×TypeId×Ty×List D):=[(0,234,.arr 24 .str,BP)]
theorem aoG{W:World}(h:laidMetH Tryz.prog Rows.pathsStepsRow.laid W):iz aO (fun b:Nat=>W.heap[b]?):=by
 have bh:laidMet Tryz.prog Rows.pathsStepsRow.laid W:=h
 obtain ⟨hY,aM,_,_⟩:=bh
 refine aeF W5 ?_ (SN _ W5 hY aM rfl ?_)
 ·intro g cs bx
  unfold aO at bx
  split at bx
  ·rename_i aq
   cases bx
   exact ⟨_,List.mem_singleton.2 rfl,aq.symm,rfl⟩
  ·cases bx
 ·intro i x g ah bx
  match i,ah,bx with
  |0,ah,bx=>
   cases ah
   cases bx
   exact ⟨by kernel_rfl,by kernel_rfl,by kernel_rfl,by kernel_rfl,by kernel_rfl,by kernel_rfl⟩
  |i+1,ah,bx=>exact absurd bx (by simp)
noncomputable def aoH:Array Value:=(BP.map fun d=>match d with
 | .val v=>v
 |_=>undef).toArray
noncomputable def Om(os:Os):World:=
 {World.holding Tryz.prog os ⟨#[], #[],[]⟩ with heap:=(World.holding Tryz.prog os ⟨#[], #[],[]⟩).heap.modify 0 fun
   | .cells _ t frozen=> .cells aoH t frozen
   |o=>o}
end Go.Am
