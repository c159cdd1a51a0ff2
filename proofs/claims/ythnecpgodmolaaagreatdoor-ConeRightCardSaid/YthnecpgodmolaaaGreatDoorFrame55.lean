/- Facts of this seat's program, its table, and a world for the witness. No condition. -/
import Derived.Test.YthnecpgodmolaaaGreatDoorTies
import Derived.Test.YthnecpgodmolaaaGreatDoorEngD
import Derived.Test.YthnecpgodmolaaaGreatDoorCards
import Derived.Test.YthnecpgodmolaaaGreatDoorTie
set_option linter.all false
set_option linter.unnecessarySimpa false
namespace Go.Am
open Go.Proofs Go.Proofs.YthnecpgodmolaaaGreatDoor
open Go.ChangeShapes Go.WideShapes Go.ChangeAt Go.RowKit
set_option maxRecDepth 100000
theorem atH:ownKnob Tryz.prog.godebug=none:=by kernel_rfl
theorem atI:laidOutB Tryz.prog=true:=by kernel_rfl
theorem atJ:mapsRowed Tryz.prog=true:=by kernel_rfl
theorem atK:((List.range Tryz.prog.types.size).all λt=>match Tryz.prog.underlying t with|some (.slice e)=>decide (0<Tryz.prog.cellsOf e)|_=>true)=true:=by kernel_rfl
@[reducible] def adj:List (Nat×TypeId×fw×List D):=[(0,201,.arr 24 .str,Fa)]
theorem atL{W:World}(h:laidMetH Tryz.prog Rows.coneCutsRow.laid W):kp a0 (λb:Nat=>W.heap[b]?):=by
 have bx:laidMet Tryz.prog Rows.coneCutsRow.laid W:=h;obtain⟨jS,a6,_,_⟩:=bx;refine akZ adj ?_ (YP _ adj jS a6 rfl ?_)
 .intro g cs cb;unfold a0 at cb;split at cb;.rename_i au;cases cb;exact⟨_,List.mem_singleton.2 rfl,au.symm,rfl⟩
  cases cb
 intro i x g ag cb
 match i,ag,cb with
 |0,ag,cb=>cases ag;cases cb;exact⟨by kernel_rfl,by kernel_rfl,by kernel_rfl,by kernel_rfl,by kernel_rfl,by kernel_rfl⟩
 |i+1,ag,cb=>exact absurd cb (by simp)
noncomputable def atM:Array Value:=(Fa.map λd=>match d with| .val v=>v|_=>undef).toArray
noncomputable def T5(os:Os):World:={World.holding Tryz.prog os ⟨#[], #[],[]⟩with heap:=(World.holding Tryz.prog os ⟨#[], #[],[]⟩).heap.modify 0 λ
   | .cells _ t frozen=> .cells atM t frozen|o=>o}
end Go.Am
