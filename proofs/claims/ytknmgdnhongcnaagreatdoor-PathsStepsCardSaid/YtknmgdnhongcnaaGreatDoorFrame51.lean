/- Facts of this seat's program, its table, and a world for the witness. No condition. -/
import Derived.Test.YtknmgdnhongcnaaGreatDoorTies
import Derived.Test.YtknmgdnhongcnaaGreatDoorEngD
import Derived.Test.YtknmgdnhongcnaaGreatDoorCards
import Derived.Test.YtknmgdnhongcnaaGreatDoorTie
set_option linter.all false
set_option linter.unnecessarySimpa false
namespace Go.Am
open Go.Proofs Go.Proofs.YtknmgdnhongcnaaGreatDoor
open Go.ChangeShapes Go.WideShapes Go.ChangeAt Go.RowKit
set_option linter.unusedVariables false
set_option maxRecDepth 100000
theorem anJ:ownKnob Tryz.prog.godebug=none:=by kernel_rfl
theorem anK:laidOutB Tryz.prog=true:=by kernel_rfl
theorem anL:mapsRowed Tryz.prog=true:=by kernel_rfl
theorem anM:((List.range Tryz.prog.types.size).all fun t=>match Tryz.prog.underlying t with|some (.slice e)=>decide (0<Tryz.prog.cellsOf e)|_=>true)=true:=by kernel_rfl
@[reducible] def WJ:List (Nat×TypeId×Ty×List D):=[(0,234,.arr 24 .str,BF)]
theorem anN{W:World}(h:laidMetH Tryz.prog Rows.pathsStepsRow.laid W):iF aP (fun b:Nat=>W.heap[b]?):=by
 have bj:laidMet Tryz.prog Rows.pathsStepsRow.laid W:=h
 obtain ⟨h2,aM,_,_⟩:=bj
 refine aeb WJ ?_ (Sp _ WJ h2 aM rfl ?_)
 ·intro g cs bD
  unfold aP at bD
  split at bD
  ·rename_i aq
   cases bD
   exact ⟨_,List.mem_singleton.2 rfl,aq.symm,rfl⟩
  ·cases bD
 ·intro i x g af bD
  match i,af,bD with
  |0,af,bD=>
   cases af
   cases bD
   exact ⟨by kernel_rfl,by kernel_rfl,by kernel_rfl,by kernel_rfl,by kernel_rfl,by kernel_rfl⟩
  |i+1,af,bD=>exact absurd bD (by simp)
noncomputable def anO:Array Value:=(BF.map fun d=>match d with
 | .val v=>v
 |_=>undef).toArray
noncomputable def N3(os:Os):World:=
 {World.holding Tryz.prog os ⟨#[], #[],[]⟩ with heap:=(World.holding Tryz.prog os ⟨#[], #[],[]⟩).heap.modify 0 fun
   | .cells _ t frozen=> .cells anO t frozen
   |o=>o}
end Go.Am
