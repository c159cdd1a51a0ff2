/- That the functions of the program compute this. No condition. -/
import Derived.Test.YtjonbfbkkkcjgaaGreatDoorHandS
import Derived.KernelRfl
set_option linter.all false
set_option linter.unnecessarySimpa false
namespace Go.Am
open Go.Proofs
set_option maxRecDepth 100000
def ag7(n:Nat):aU 9 (Fh n):=uk ⟨dm bV,bW,gD n [aP agG,aP S0,aP Tg,aP KZ],n,[],bF [],bF [],bF [],dJ [],dq [],dO [28,37,46],dI []⟩ (S:=⟨ca,cZ,ak,b8⟩)
def ag8(n:Nat):aU 3 (wR n):=cx (bp n [aP agE,aP agF,aP ag7,aP Tg,aP agS,aP KZ] [] [] [])
end Go.Am
