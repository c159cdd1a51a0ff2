/- Facts of this seat's program, its table, and a world for the witness. No condition. -/
import Derived.Test.YtknmgdnhongcnaaGreatDoorTies
import Derived.Test.YtknmgdnhongcnaaGreatDoorEngD
import Derived.Test.YtknmgdnhongcnaaGreatDoorCards
import Derived.Test.YtknmgdnhongcnaaGreatDoorTie
set_option linter.all false
set_option linter.unnecessarySimpa false
namespace Go.Am
open Go.Proofs Go.Proofs.YtknmgdnhongcnaaGreatDoor
open Go.ChangeShapes Go.WideShapes Go.ChangeAt Go.RowKit
set_option maxRecDepth 100000
theorem ayF:ownKnob Tryz.prog.godebug=none:=by kernel_rfl
theorem ayG:laidOutB Tryz.prog=true:=by kernel_rfl
theorem ayH:mapsRowed Tryz.prog=true:=by kernel_rfl
theorem ayI:((List.range Tryz.prog.types.size).all λt=>match Tryz.prog.underlying t with|some (.slice e)=>decide (0<Tryz.prog.cellsOf e)|_=>true)=true:=by kernel_rfl
@[reducible] def af8:List (Nat×TypeId×eY×List D):=[(0,234,.arr 24 .str,H3)]
theorem ayJ{W:World}(h:laidMetH Tryz.prog Rows.pathsStepsRow.laid W):k2 aW (λb:Nat=>W.heap[b]?):=by
 have bL:laidMet Tryz.prog Rows.pathsStepsRow.laid W:=h;obtain⟨kn,aN,_,_⟩:=bL;refine aoB af8 ?_ (abH _ af8 kn aN rfl ?_)
 .intro g cs bV;unfold aW at bV;split at bV;.rename_i ao;cases bV;exact⟨_,xbr.2 rfl,ao.symm,rfl⟩
  cases bV
 intro i x g af bV
 match i,af,bV with
 |0,af,bV=>cases af;cases bV;exact⟨by kernel_rfl,by kernel_rfl,by kernel_rfl,by kernel_rfl,by kernel_rfl,by kernel_rfl⟩
 |i+1,af,bV=>exact absurd bV (by simp)
noncomputable def ayK:Array Value:=(H3.map λd=>match d with| .val v=>v|_=>undef).toArray
noncomputable def WJ(os:Os):World:={World.holding Tryz.prog os ⟨#[], #[],[]⟩with heap:=(World.holding Tryz.prog os ⟨#[], #[],[]⟩).heap.modify 0 λ
   | .cells _ t frozen=> .cells ayK t frozen|o=>o}
end Go.Am
