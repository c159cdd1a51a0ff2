/- Facts of this seat's program, its table, and a world for the witness. No condition. -/
import Derived.Test.YtjonbfbkkkcjgaaGreatDoorTiesB
import Derived.Test.YtjonbfbkkkcjgaaGreatDoorEngD
import Derived.Test.YtjonbfbkkkcjgaaGreatDoorCards
import Derived.Test.YtjonbfbkkkcjgaaGreatDoorTie
set_option linter.all false
set_option linter.unnecessarySimpa false
namespace Go.Am
open Go.Proofs Go.Proofs.YtjonbfbkkkcjgaaGreatDoor
open Go.ChangeShapes Go.WideShapes Go.ChangeAt Go.RowKit
set_option maxRecDepth 100000
theorem Ue:ownKnob Tryz.prog.godebug=none:=by kernel_rfl
theorem Uf:laidOutB Tryz.prog=true:=by kernel_rfl
theorem Ug:mapsRowed Tryz.prog=true:=by kernel_rfl
theorem Uh:((List.range Tryz.prog.types.size).all λt=>match Tryz.prog.underlying t with|some (.slice e)=>decide (0<Tryz.prog.cellsOf e)|_=>true)=true:=by kernel_rfl
@[reducible] def Ui:List (Nat×TypeId×dc×lZ):=[(0,259,.arr 24 .str,yB)]
theorem Uj{W:World}(h:laidMetH Tryz.prog Rows.oracleSatRow.laid W):gk bQ (λb:Nat=>W.heap[b]?):=by
 have d:laidMet Tryz.prog Rows.oracleSatRow.laid W:=h;obtain⟨f,e,_,_⟩:=d;refine ab1 Ui ?_ (PH _ Ui f e rfl ?_)
 .intro g cs a;unfold bQ at a;split at a;.rename_i ak;cases a;exact⟨_,xcg.2 rfl,ak.symm,rfl⟩
  cases a
 intro i x g c a
 match i,c,a with
 |0,c,a=>cases c;cases a;exact⟨by kernel_rfl,by kernel_rfl,by kernel_rfl,by kernel_rfl,by kernel_rfl,by kernel_rfl⟩
 |i+1,c,a=>exact absurd a sZ
noncomputable def aie:Array Value:=(yB.map λd=>match d with| .val v=>v|_=>undef).toArray
noncomputable def w4(os:Os):World:={World.holding Tryz.prog os ⟨#[], #[],[]⟩with heap:=(World.holding Tryz.prog os ⟨#[], #[],[]⟩).heap.modify 0 λ
   | .cells _ t frozen=> .cells aie t frozen|o=>o}
end Go.Am
