/- That the functions of the program compute this. No condition. -/
import Derived.Test.YtjonbfbkkkcjgaaGreatDoorHandS
import Derived.KernelRfl
set_option linter.all false
set_option linter.unnecessarySimpa false
namespace Go.Am
open Go.Proofs
set_option maxRecDepth 100000
def Tl(n:Nat):aT 9 (s8 n):=uj ⟨dn bV,bQ,gu n [aQ agV,aQ S7,aQ KW,aQ FH],n,[],bE [],bE [],bE [],dG [],dq [],dH [28,37,46],dF []⟩ (S:=⟨cb,c0,ak,b9⟩)
def ahh(n:Nat):aT 4 (Fv n):=fo (bq n [aQ S9,aQ Tl,aQ FB,aQ FJ,aQ FH,aQ Sr,aQ agX,aQ Ss,aQ FI,aQ agY,aQ St,aQ agZ] [] [] [])
def ahi(n:Nat)(a0:D)(aG:D)(c9:lZ)(a:lZ){r:D}(h:Ky n a0 aG c9 a=some r):cF bV bQ 25 [a0,aG,.ref c9 0,.ref a 0] (·=r):=cY (bq n [aQ KW,aQ FH] [] [] []) cb c0 ak b9 Tryz.func25 (br (br (e0 e6 (e0 e6 le_nil)))) h
def ahj(n:Nat):aT 25 (pR n):=by
 intro a r h;unfold pR at h;split at h
 case h_2=>cases h
 split at h
 case h_2=>cases h
 split at h
 case h_2=>cases h
 exact ahi n _ _ _ _ h
def ahk(n:Nat):aT 5 (tg n):=fo ⟨dn bV,bQ,gu n [aQ S9,aQ agU,aQ Tl,aQ KW,aQ ag0,aQ ag1,aQ ag2,aQ ahj],n,[],bE [],bE [],bE [],dG [],dq [],dH [47],dF []⟩ (S:=⟨cb,c0,ak,b9⟩)
end Go.Am
