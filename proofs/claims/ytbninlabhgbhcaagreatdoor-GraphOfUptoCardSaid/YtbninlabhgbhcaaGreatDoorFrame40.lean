/- Facts of this seat's program, its table, and a world for the witness. No condition. -/
import Derived.Test.YtbninlabhgbhcaaGreatDoorTies
import Derived.Test.YtbninlabhgbhcaaGreatDoorEngD
import Derived.Test.YtbninlabhgbhcaaGreatDoorCards
import Derived.Test.YtbninlabhgbhcaaGreatDoorTie
set_option linter.all false
set_option linter.unnecessarySimpa false
namespace Go.Am
open Go.Proofs Go.Proofs.YtbninlabhgbhcaaGreatDoor
open Go.ChangeShapes Go.WideShapes Go.ChangeAt Go.RowKit
set_option maxRecDepth 100000
theorem aei:ownKnob Tryz.prog.godebug=none:=by kernel_rfl
theorem aej:laidOutB Tryz.prog=true:=by kernel_rfl
theorem aek:mapsRowed Tryz.prog=true:=by kernel_rfl
theorem ael:((List.range Tryz.prog.types.size).all λt=>match Tryz.prog.underlying t with|some (.slice e)=>decide (0<Tryz.prog.cellsOf e)|_=>true)=true:=by kernel_rfl
@[reducible] def aem:List (Nat×TypeId×eJ×List D):=[(0,221,.arr 24 .str,FN)]
theorem aen{W:World}(h:laidMetH Tryz.prog Rows.graphOfRow.laid W):kk a0 (λb:Nat=>W.heap[b]?):=by
 have bD:laidMet Tryz.prog Rows.graphOfRow.laid W:=h;obtain⟨iw,aN,_,_⟩:=bD;refine amG aem ?_ (ZJ _ aem iw aN rfl ?_)
 .intro g cs bG;unfold a0 at bG;split at bG;.rename_i ar;cases bG;exact⟨_,List.mem_singleton.2 rfl,ar.symm,rfl⟩
  cases bG
 intro i x g ah bG
 match i,ah,bG with
 |0,ah,bG=>cases ah;cases bG;exact⟨by kernel_rfl,by kernel_rfl,by kernel_rfl,by kernel_rfl,by kernel_rfl,by kernel_rfl⟩
 |i+1,ah,bG=>exact absurd bG (by simp)
noncomputable def axg:Array Value:=(FN.map λd=>match d with| .val v=>v|_=>undef).toArray
noncomputable def DD(os:Os):World:={World.holding Tryz.prog os ⟨#[], #[],[]⟩with heap:=(World.holding Tryz.prog os ⟨#[], #[],[]⟩).heap.modify 0 λ
   | .cells _ t frozen=> .cells axg t frozen|o=>o}
end Go.Am
