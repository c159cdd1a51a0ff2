/- Facts of this seat's program, its table, and a world for the witness. No condition. -/
import Derived.Test.YtbninlabhgbhcaaGreatDoorTies
import Derived.Test.YtbninlabhgbhcaaGreatDoorEngD
import Derived.Test.YtbninlabhgbhcaaGreatDoorCards
import Derived.Test.YtbninlabhgbhcaaGreatDoorTie
set_option linter.all false
set_option linter.unnecessarySimpa false
namespace Go.Am
open Go.Proofs Go.Proofs.YtbninlabhgbhcaaGreatDoor
open Go.ChangeShapes Go.WideShapes Go.ChangeAt Go.RowKit
set_option maxRecDepth 100000
theorem avu:ownKnob Tryz.prog.godebug=none:=by kernel_rfl
theorem avv:laidOutB Tryz.prog=true:=by kernel_rfl
theorem avw:mapsRowed Tryz.prog=true:=by kernel_rfl
theorem avx:((List.range Tryz.prog.types.size).all λt=>match Tryz.prog.underlying t with|some (.slice e)=>decide (0<Tryz.prog.cellsOf e)|_=>true)=true:=by kernel_rfl
@[reducible] def aei:List (Nat×TypeId×eC×List D):=[(0,221,.arr 24 .str,GC)]
theorem avy{W:World}(h:laidMetH Tryz.prog Rows.graphOfRow.laid W):kf dj (λb:Nat=>W.heap[b]?):=by
 have bC:laidMet Tryz.prog Rows.graphOfRow.laid W:=h;obtain⟨iO,aS,_,_⟩:=bC;refine am9 aei ?_ (Z4 _ aei iO aS rfl ?_)
 .intro g cs bQ;unfold dj at bQ;split at bQ;.rename_i au;cases bQ;exact⟨_,xbO.2 rfl,au.symm,rfl⟩
  cases bQ
 intro i x g ad bQ
 match i,ad,bQ with
 |0,ad,bQ=>cases ad;cases bQ;exact⟨by kernel_rfl,by kernel_rfl,by kernel_rfl,by kernel_rfl,by kernel_rfl,by kernel_rfl⟩
 |i+1,ad,bQ=>exact absurd bQ (by simp)
noncomputable def avz:Array Value:=(GC.map λd=>match d with| .val v=>v|_=>undef).toArray
noncomputable def UZ(os:Os):World:={World.holding Tryz.prog os ⟨#[], #[],[]⟩with heap:=(World.holding Tryz.prog os ⟨#[], #[],[]⟩).heap.modify 0 λ
   | .cells _ t frozen=> .cells avz t frozen|o=>o}
end Go.Am
