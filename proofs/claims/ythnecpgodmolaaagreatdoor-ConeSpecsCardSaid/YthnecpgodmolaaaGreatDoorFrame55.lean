/- Facts of this seat's program, its table, and a world for the witness. No condition. -/
import Derived.Test.YthnecpgodmolaaaGreatDoorTies
import Derived.Test.YthnecpgodmolaaaGreatDoorEngD
import Derived.Test.YthnecpgodmolaaaGreatDoorCards
import Derived.Test.YthnecpgodmolaaaGreatDoorTie
set_option linter.all false
set_option linter.unnecessarySimpa false
namespace Go.Am
open Go.Proofs Go.Proofs.YthnecpgodmolaaaGreatDoor
open Go.ChangeShapes Go.WideShapes Go.ChangeAt Go.RowKit
set_option maxRecDepth 100000
theorem au4:ownKnob Tryz.prog.godebug=none:=by kernel_rfl
theorem au5:laidOutB Tryz.prog=true:=by kernel_rfl
theorem au6:mapsRowed Tryz.prog=true:=by kernel_rfl
theorem au7:((List.range Tryz.prog.types.size).all λt=>match Tryz.prog.underlying t with|some (.slice e)=>decide (0<Tryz.prog.cellsOf e)|_=>true)=true:=by kernel_rfl
@[reducible] def aeg:List (Nat×TypeId×fl×List D):=[(0,201,.arr 24 .str,FF)]
theorem au8{W:World}(h:laidMetH Tryz.prog Rows.coneCutsRow.laid W):kB aY (λb:Nat=>W.heap[b]?):=by
 have bD:laidMet Tryz.prog Rows.coneCutsRow.laid W:=h;obtain⟨j1,a6,_,_⟩:=bD;refine al2 aeg ?_ (ZF _ aeg j1 a6 rfl ?_)
 .intro g cs b8;unfold aY at b8;split at b8;.rename_i au;cases b8;exact⟨_,List.mem_singleton.2 rfl,au.symm,rfl⟩
  cases b8
 intro i x g ag b8
 match i,ag,b8 with
 |0,ag,b8=>cases ag;cases b8;exact⟨by kernel_rfl,by kernel_rfl,by kernel_rfl,by kernel_rfl,by kernel_rfl,by kernel_rfl⟩
 |i+1,ag,b8=>exact absurd b8 (by simp)
noncomputable def au9:Array Value:=(FF.map λd=>match d with| .val v=>v|_=>undef).toArray
noncomputable def UM(os:Os):World:={World.holding Tryz.prog os ⟨#[], #[],[]⟩with heap:=(World.holding Tryz.prog os ⟨#[], #[],[]⟩).heap.modify 0 λ
   | .cells _ t frozen=> .cells au9 t frozen|o=>o}
end Go.Am
