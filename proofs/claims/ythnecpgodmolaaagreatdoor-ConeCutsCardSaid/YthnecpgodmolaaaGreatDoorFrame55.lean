/- Facts of this seat's program, its table, and a world for the witness. No condition. -/
import Derived.Test.YthnecpgodmolaaaGreatDoorTies
import Derived.Test.YthnecpgodmolaaaGreatDoorEngD
import Derived.Test.YthnecpgodmolaaaGreatDoorCards
import Derived.Test.YthnecpgodmolaaaGreatDoorTie
set_option linter.all false
set_option linter.unnecessarySimpa false
namespace Go.Am
open Go.Proofs Go.Proofs.YthnecpgodmolaaaGreatDoor
open Go.ChangeShapes Go.WideShapes Go.ChangeAt Go.RowKit
set_option maxRecDepth 100000
theorem atv:ownKnob Tryz.prog.godebug=none:=by kernel_rfl
theorem atw:laidOutB Tryz.prog=true:=by kernel_rfl
theorem atx:mapsRowed Tryz.prog=true:=by kernel_rfl
theorem aty:((List.range Tryz.prog.types.size).all λt=>match Tryz.prog.underlying t with|some (.slice e)=>decide (0<Tryz.prog.cellsOf e)|_=>true)=true:=by kernel_rfl
@[reducible] def ac7:List (Nat×TypeId×e4×List D):=[(0,201,.arr 24 .str,Fb)]
theorem atz{W:World}(h:laidMetH Tryz.prog Rows.coneCutsRow.laid W):kn a0 (λb:Nat=>W.heap[b]?):=by
 have bz:laidMet Tryz.prog Rows.coneCutsRow.laid W:=h;obtain⟨jR,a6,_,_⟩:=bz;refine akH ac7 ?_ (YC _ ac7 jR a6 rfl ?_)
 .intro g cs cc;unfold a0 at cc;split at cc;.rename_i au;cases cc;exact⟨_,List.mem_singleton.2 rfl,au.symm,rfl⟩
  cases cc
 intro i x g ag cc
 match i,ag,cc with
 |0,ag,cc=>cases ag;cases cc;exact⟨by kernel_rfl,by kernel_rfl,by kernel_rfl,by kernel_rfl,by kernel_rfl,by kernel_rfl⟩
 |i+1,ag,cc=>exact absurd cc (by simp)
noncomputable def atA:Array Value:=(Fb.map λd=>match d with| .val v=>v|_=>undef).toArray
noncomputable def TY(os:Os):World:={World.holding Tryz.prog os ⟨#[], #[],[]⟩with heap:=(World.holding Tryz.prog os ⟨#[], #[],[]⟩).heap.modify 0 λ
   | .cells _ t frozen=> .cells atA t frozen|o=>o}
end Go.Am
