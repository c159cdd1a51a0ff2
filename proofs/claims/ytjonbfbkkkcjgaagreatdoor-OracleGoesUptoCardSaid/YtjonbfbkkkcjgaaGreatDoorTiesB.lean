/- That the functions of the program compute this. No condition. -/
import Derived.Test.YtjonbfbkkkcjgaaGreatDoorHandS
import Derived.KernelRfl
set_option linter.all false
set_option linter.unnecessarySimpa false
namespace Go.Am
open Go.Proofs
set_option maxRecDepth 100000
def afe(n:Nat):aU 9 (DR n):=s9 ⟨dn bR,bS,gh n [aQ aeW,aQ Rb,aQ afd,aQ Rc],n,[],bD [],bD [],bD [],dG [],dr [],dL [28,37,46],dF []⟩ (S:=⟨b8,cW,ak,b7⟩)
def aff(n:Nat):aU 6 (DT n):=gL (bm n [aQ aeV,aQ afe,aQ aeX,aQ Qy,aQ Qz,aQ aeY,aQ DY] (bN true [([11],[1,2,11,12,13,69,70,71]),([15],[1,2,11,12,13,14,16,17,69,70,71,76,77,78])]) [] (bN true [([0],[]),([1],[1,2,11,12,13,69,70,71]),([2],[1,2,11,12,13,14,16,17,69,70,71])]))
end Go.Am
