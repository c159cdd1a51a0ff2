/- Facts of this seat's program, its table, and a world for the witness. No condition. -/
import Derived.Test.YtknmgdnhongcnaaGreatDoorTies
import Derived.Test.YtknmgdnhongcnaaGreatDoorEngD
import Derived.Test.YtknmgdnhongcnaaGreatDoorCards
import Derived.Test.YtknmgdnhongcnaaGreatDoorTie
set_option linter.all false
set_option linter.unnecessarySimpa false
namespace Go.Am
open Go.Proofs Go.Proofs.YtknmgdnhongcnaaGreatDoor
open Go.ChangeShapes Go.WideShapes Go.ChangeAt Go.RowKit
set_option linter.unusedVariables false
set_option maxRecDepth 100000
theorem anF:ownKnob Tryz.prog.godebug=none:=by kernel_rfl
theorem anG:laidOutB Tryz.prog=true:=by kernel_rfl
theorem anH:mapsRowed Tryz.prog=true:=by kernel_rfl
theorem anI:((List.range Tryz.prog.types.size).all fun t=>match Tryz.prog.underlying t with|some (.slice e)=>decide (0<Tryz.prog.cellsOf e)|_=>true)=true:=by kernel_rfl
@[reducible] def WG:List (Nat×TypeId×Ty×List D):=[(0,234,.arr 24 .str,BI)]
theorem anJ{W:World}(h:laidMetH Tryz.prog Rows.pathsStepsRow.laid W):iL aR (fun b:Nat=>W.heap[b]?):=by
 have bm:laidMet Tryz.prog Rows.pathsStepsRow.laid W:=h
 obtain ⟨h8,aM,_,_⟩:=bm
 refine aef WG ?_ (So _ WG h8 aM rfl ?_)
 ·intro g cs bD
  unfold aR at bD
  split at bD
  ·rename_i ar
   cases bD
   exact ⟨_,List.mem_singleton.2 rfl,ar.symm,rfl⟩
  ·cases bD
 ·intro i x g ag bD
  match i,ag,bD with
  |0,ag,bD=>
   cases ag
   cases bD
   exact ⟨by kernel_rfl,by kernel_rfl,by kernel_rfl,by kernel_rfl,by kernel_rfl,by kernel_rfl⟩
  |i+1,ag,bD=>exact absurd bD (by simp)
noncomputable def anK:Array Value:=(BI.map fun d=>match d with
 | .val v=>v
 |_=>undef).toArray
noncomputable def NZ(os:Os):World:=
 {World.holding Tryz.prog os ⟨#[], #[],[]⟩ with heap:=(World.holding Tryz.prog os ⟨#[], #[],[]⟩).heap.modify 0 fun
   | .cells _ t frozen=> .cells anK t frozen
   |o=>o}
end Go.Am
