/- Facts of this seat's program, its table, and a world for the witness. No condition. -/
import Derived.Test.YthnecpgodmolaaaGreatDoorTies
import Derived.Test.YthnecpgodmolaaaGreatDoorEngD
import Derived.Test.YthnecpgodmolaaaGreatDoorCards
import Derived.Test.YthnecpgodmolaaaGreatDoorTie
set_option linter.all false
set_option linter.unnecessarySimpa false
namespace Go.Am
open Go.Proofs Go.Proofs.YthnecpgodmolaaaGreatDoor
open Go.ChangeShapes Go.WideShapes Go.ChangeAt Go.RowKit
set_option maxRecDepth 100000
theorem auu:ownKnob Tryz.prog.godebug=none:=by kernel_rfl
theorem auv:laidOutB Tryz.prog=true:=by kernel_rfl
theorem auw:mapsRowed Tryz.prog=true:=by kernel_rfl
theorem auy:((List.range Tryz.prog.types.size).all λt=>match Tryz.prog.underlying t with|some (.slice e)=>decide (0<Tryz.prog.cellsOf e)|_=>true)=true:=by kernel_rfl
@[reducible] def adU:List (Nat×TypeId×fc×List D):=[(0,201,.arr 24 .str,FX)]
theorem auz{W:World}(h:laidMetH Tryz.prog Rows.coneCutsRow.laid W):kB a1 (λb:Nat=>W.heap[b]?):=by
 have bx:laidMet Tryz.prog Rows.coneCutsRow.laid W:=h;obtain⟨j0,a3,_,_⟩:=bx;refine alR adU ?_ (Zq _ adU j0 a3 rfl ?_)
 .intro g cs b5;unfold a1 at b5;split at b5;.rename_i ar;cases b5;exact⟨_,List.mem_singleton.2 rfl,ar.symm,rfl⟩
  cases b5
 intro i x g ag b5
 match i,ag,b5 with
 |0,ag,b5=>cases ag;cases b5;exact⟨by kernel_rfl,by kernel_rfl,by kernel_rfl,by kernel_rfl,by kernel_rfl,by kernel_rfl⟩
 |i+1,ag,b5=>exact absurd b5 (by simp)
noncomputable def auA:Array Value:=(FX.map λd=>match d with| .val v=>v|_=>undef).toArray
noncomputable def UG(os:Os):World:={World.holding Tryz.prog os ⟨#[], #[],[]⟩with heap:=(World.holding Tryz.prog os ⟨#[], #[],[]⟩).heap.modify 0 λ
   | .cells _ t frozen=> .cells auA t frozen|o=>o}
end Go.Am
