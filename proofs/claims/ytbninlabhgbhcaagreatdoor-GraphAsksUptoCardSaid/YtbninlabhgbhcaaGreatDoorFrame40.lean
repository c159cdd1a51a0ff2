/- Facts of this seat's program, its table, and a world for the witness. No condition. -/
import Derived.Test.YtbninlabhgbhcaaGreatDoorTies
import Derived.Test.YtbninlabhgbhcaaGreatDoorEngD
import Derived.Test.YtbninlabhgbhcaaGreatDoorCards
import Derived.Test.YtbninlabhgbhcaaGreatDoorTie
set_option linter.all false
set_option linter.unnecessarySimpa false
namespace Go.Am
open Go.Proofs Go.Proofs.YtbninlabhgbhcaaGreatDoor
open Go.ChangeShapes Go.WideShapes Go.ChangeAt Go.RowKit
set_option maxRecDepth 100000
theorem aw9:ownKnob Tryz.prog.godebug=none:=by kernel_rfl
theorem axa:laidOutB Tryz.prog=true:=by kernel_rfl
theorem axb:mapsRowed Tryz.prog=true:=by kernel_rfl
theorem axc:((List.range Tryz.prog.types.size).all λt=>match Tryz.prog.underlying t with|some (.slice e)=>decide (0<Tryz.prog.cellsOf e)|_=>true)=true:=by kernel_rfl
@[reducible] def afF:List (Nat×TypeId×eH×List D):=[(0,221,.arr 24 .str,Hx)]
theorem axd{W:World}(h:laidMetH Tryz.prog Rows.graphOfRow.laid W):kz db (λb:Nat=>W.heap[b]?):=by
 have bB:laidMet Tryz.prog Rows.graphOfRow.laid W:=h;obtain⟨iT,aS,_,_⟩:=bB;refine aoD afF ?_ (aa3 _ afF iT aS rfl ?_)
 .intro g cs bL;unfold db at bL;split at bL;.rename_i ar;cases bL;exact⟨_,xbF.2 rfl,ar.symm,rfl⟩
  cases bL
 intro i x g ad bL
 match i,ad,bL with
 |0,ad,bL=>cases ad;cases bL;exact⟨by kernel_rfl,by kernel_rfl,by kernel_rfl,by kernel_rfl,by kernel_rfl,by kernel_rfl⟩
 |i+1,ad,bL=>exact absurd bL (by simp)
noncomputable def axe:Array Value:=(Hx.map λd=>match d with| .val v=>v|_=>undef).toArray
noncomputable def V2(os:Os):World:={World.holding Tryz.prog os ⟨#[], #[],[]⟩with heap:=(World.holding Tryz.prog os ⟨#[], #[],[]⟩).heap.modify 0 λ
   | .cells _ t frozen=> .cells axe t frozen|o=>o}
end Go.Am
