/- Facts of this seat's program, its table, and a world for the witness. No condition. -/
import Derived.Test.YtnaahibhhibijaaGreatDoorTies
import Derived.Test.YtnaahibhhibijaaGreatDoorEngD
import Derived.Test.YtnaahibhhibijaaGreatDoorCards
import Derived.Test.YtnaahibhhibijaaGreatDoorTie
set_option linter.all false
set_option linter.unnecessarySimpa false
namespace Go.Am
open Go.Proofs Go.Proofs.YtnaahibhhibijaaGreatDoor
open Go.ChangeShapes Go.WideShapes Go.ChangeAt Go.RowKit
set_option maxRecDepth 100000
theorem NH:ownKnob Tryz.prog.godebug=none:=by kernel_rfl
theorem NI:laidOutB Tryz.prog=true:=by kernel_rfl
theorem NJ:mapsRowed Tryz.prog=true:=by kernel_rfl
theorem NK:((List.range Tryz.prog.types.size).all λt=>match Tryz.prog.underlying t with|some (.slice e)=>decide (0<Tryz.prog.cellsOf e)|_=>true)=true:=by kernel_rfl
@[reducible] def adk:List (Nat×TypeId×eu×List D):=[(0,221,.arr 24 .str,F3)]
theorem NL{W:World}(h:laidMetH Tryz.prog Rows.simStepsRow.laid W):jv a1 (λb:Nat=>W.heap[b]?):=by
 have bs:laidMet Tryz.prog Rows.simStepsRow.laid W:=h;obtain⟨jy,aK,_,_⟩:=bs;refine alU adk ?_ (Y1 _ adk jy aK rfl ?_)
 .intro g cs bB;unfold a1 at bB;split at bB;.rename_i aq;cases bB;exact⟨_,List.mem_singleton.2 rfl,aq.symm,rfl⟩
  cases bB
 intro i x g ae bB
 match i,ae,bB with
 |0,ae,bB=>cases ae;cases bB;exact⟨by kernel_rfl,by kernel_rfl,by kernel_rfl,by kernel_rfl,by kernel_rfl,by kernel_rfl⟩
 |i+1,ae,bB=>exact absurd bB (by simp)
noncomputable def auP:Array Value:=(F3.map λd=>match d with| .val v=>v|_=>undef).toArray
noncomputable def qA(os:Os):World:={World.holding Tryz.prog os ⟨#[], #[],[]⟩with heap:=(World.holding Tryz.prog os ⟨#[], #[],[]⟩).heap.modify 0 λ
   | .cells _ t frozen=> .cells auP t frozen|o=>o}
end Go.Am
