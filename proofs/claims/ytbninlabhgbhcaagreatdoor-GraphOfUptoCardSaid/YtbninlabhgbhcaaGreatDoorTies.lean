/- That the functions of the program compute this. No condition. -/
import Derived.Test.YtbninlabhgbhcaaGreatDoorCode
import Derived.Test.YtbninlabhgbhcaaGreatDoorProg
import Derived.KernelRfl
set_option linter.all false
set_option linter.unnecessarySimpa false
namespace Go.Am
open Go.Proofs
set_option maxRecDepth 100000
noncomputable abbrev aZ:Program:=Tryz.prog
theorem bu:aZ.follows .mixedOrders=true:=by kernel_rfl
def bz:dR aZ (dr aZ):=tok _
def a0:df:=λg=>if g=0 then some FN else none
noncomputable abbrev b6(n:Nat):=al6 aZ a0 n
def aY:g3 aZ a0 (dy []):=al3
def ar:kt aZ a0 (dx []):=al1
def bc{f:FuncId}{F:List D->Option D}{l:List (FuncId×(List D->Option D))}(h:bC aZ a0 f F)(bD:g3 aZ a0 (dy l)):g3 aZ a0 (dy ((f,F)::l)):=al4 h bD
def bA{t:Tmp}{e:B7}{l:List (Tmp×B7)}(h:dC aZ a0 e.s e.F)(bD:kt aZ a0 (dx l)):kt aZ a0 (dx ((t,e)::l)):=al2 h bD
def abK:eu:=⟨180,[.b (.d),.b (.d),.b (.ptr 10000 0),.b (.ptr 10001 0)],[a3 10000 1,a3 10001 1],.b (.d),[a3 10000 1,a3 10001 1]⟩
def TR:eu:=⟨183,[.b (.row 9000),.b (.d)],[aV 9000 1],.b (.row 9000),[aV 9000 1]⟩
def abL:eu:=⟨182,[.b (.d),.b (.d),.b (.ptr 10000 0),.b (.ptr 10001 0)],[(10000,.box [.b (.row 9000)]),(10001,.box [.b (.row 9001)]),aV 9000 1,aV 9001 1],.b (.d),[(10000,.box [.b (.row 9000)]),(10001,.box [.b (.row 9001)]),aV 9000 1,aV 9001 1]⟩
def AR:eu:=⟨179,[.b (.d),.b (.d),.fn (.func Z9) [] [.ptr 10000 0,.ptr 10001 0]],[a3 10000 1,a3 10001 1],.b (.d),[a3 10000 1,a3 10001 1]⟩
def AS:eu:=⟨179,[.b (.d),.b (.d),.fn (.func aaa) [] [.ptr 10000 0,.ptr 10001 0]],[(10000,.box [.b (.row 9000)]),(10001,.box [.b (.row 9001)]),aV 9000 1,aV 9001 1],.b (.d),[(10000,.box [.b (.row 9000)]),(10001,.box [.b (.row 9001)]),aV 9000 1,aV 9001 1]⟩
def abM:eu:=⟨187,[.b (.d),.b (.d),.b (.ptr 10000 0),.b (.ptr 10001 0)],[a3 10000 1,a3 10001 1],.b (.d),[a3 10000 1,a3 10001 1]⟩
def AT:eu:=⟨186,[.b (.d),.b (.d),.fn (.func aab) [] [.ptr 10000 0,.ptr 10001 0]],[a3 10000 1,a3 10001 1],.b (.d),[a3 10000 1,a3 10001 1]⟩
def xH:eu:=⟨184,[.b (.d),.b (.ptr 10000 0),.b (.ptr 10001 0),.b (.ptr 10002 0)],[a3 10000 1,(10001,.box [.b (.map 9000)]),(10002,.box [.fn (.func w9) [] [.ptr 10000 0,.ptr 10001 0,.ptr 10002 0]]),(9000,.map)],.b (.d),[a3 10000 1,(10001,.box [.b (.map 9000)]),(10002,.box [.fn (.func w9) [] [.ptr 10000 0,.ptr 10001 0,.ptr 10002 0]]),(9000,.map)]⟩
def abN:eu:=⟨150,[.b (.d),.b (.d)],[],.b (.map 9000),[(9000,.map)]⟩
def AU:eu:=⟨185,[.b (.d),.b (.d),.b (.ptr 10000 0),.b (.ptr 10001 0),.b (.ptr 10002 0),.b (.ptr 10003 0)],[a3 10000 1,a3 10001 1,a3 10002 1,(10003,.box [.fn (.func xa) [] [.ptr 10000 0,.ptr 10001 0,.ptr 10002 0,.ptr 10003 0]])],.b (.d),[a3 10000 1,a3 10001 1,a3 10002 1,(10003,.box [.fn (.func xa) [] [.ptr 10000 0,.ptr 10001 0,.ptr 10002 0,.ptr 10003 0]])]⟩
def AV:eu:=⟨153,[.b (.d),.b (.ptr 10000 0),.b (.ptr 10001 0)],[a3 10000 1,(10001,.box [.fn (.func Lq) [] [.ptr 10000 0,.ptr 10001 0]])],.b (.d),[a3 10000 1,(10001,.box [.fn (.func Lq) [] [.ptr 10000 0,.ptr 10001 0]])]⟩
def abO:eu:=⟨65,[.b (.d)],[],.b (.row 9000),[aV 9000 1]⟩
def AW:eu:=⟨102,[.b (.d),.b (.ptr 10000 0),.b (.ptr 10001 0),.b (.ptr 10002 0),.b (.ptr 10003 0),.b (.ptr 10004 0)],[(10000,.box [.fn (.func ze) [] [.ptr 10000 0,.ptr 10001 0,.ptr 10002 0,.ptr 10003 0,.ptr 10004 0]]),a3 10001 1,a3 10002 1,a3 10003 1,a3 10004 1],.b (.d),[(10000,.box [.fn (.func ze) [] [.ptr 10000 0,.ptr 10001 0,.ptr 10002 0,.ptr 10003 0,.ptr 10004 0]]),a3 10001 1,a3 10002 1,a3 10003 1,a3 10004 1]⟩
def MO:eu:=⟨40,[.b (.ptr 10000 0),.b (.d)],[(10000,.box [.b (.row 9000),.b (.row 9001)]),aV 9000 1,aV 9001 1],.b (.d),[(10000,.box [.b (.row 9000),.b (.row 9001)]),aV 9000 1,aV 9001 1]⟩
def TS:eu:=⟨41,[.b (.d),.fn (.func Rm) [.ptr 10000 0] []],[(10000,.box [.b (.row 9000),.b (.row 9001)]),aV 9000 1,aV 9001 1],.b (.d),[(10000,.box [.b (.row 9000),.b (.row 9001)]),aV 9000 1,aV 9001 1]⟩
def abP:eu:=⟨44,[.b (.d),.b (.ptr 10000 0),.b (.ptr 10001 0)],[(10000,.box [.fn (.func lb) [] [.dV 0]]),(10001,.box [.b (.ptr 10002 0)]),(10002,.box [.b (.row 9000),.b (.row 9001)]),aV 9000 1,aV 9001 1],.b (.d),[(10000,.box [.fn (.func lb) [] [.dV 0]]),(10001,.box [.b (.ptr 10002 0)]),(10002,.box [.b (.row 9000),.b (.row 9001)]),aV 9000 1,aV 9001 1]⟩
def abQ:eu:=⟨41,[.b (.d),.fn (.func Z8) [] [.ptr 10000 0,.ptr 10001 0]],[(10000,.box [.fn (.func lb) [] [.dV 0]]),(10001,.box [.b (.ptr 10002 0)]),(10002,.box [.b (.row 9000),.b (.row 9001)]),aV 9000 1,aV 9001 1],.b (.d),[(10000,.box [.fn (.func lb) [] [.dV 0]]),(10001,.box [.b (.ptr 10002 0)]),(10002,.box [.b (.row 9000),.b (.row 9001)]),aV 9000 1,aV 9001 1]⟩
def abR:eu:=⟨116,[.b (.row 10000),.b (.d),.b (.d)],[aV 10000 1],.b (.d),[aV 10000 1]⟩
def TT:eu:=⟨166,[.b (.row 10000),.b (.d),.b (.d),.b (.d)],[aV 10000 1],.b (.d),[aV 10000 1]⟩
def abS:eu:=⟨117,[.b (.row 10000),.b (.d),.b (.d)],[aV 10000 1],.b (.d),[aV 10000 1]⟩
def TU:eu:=⟨168,[.b (.ptr 10000 0)],[a3 10000 1],.b (.d),[a3 10000 1]⟩
def abT:eu:=⟨118,[.b (.row 10000),.b (.d),.b (.d)],[aV 10000 1],.b (.d),[aV 10000 1]⟩
def MP:eu:=⟨196,[.b (.d),.b (.d),.b (.d),.b (.ptr 10000 0)],[a3 10000 1],.b (.d),[a3 10000 1]⟩
def TV:eu:=⟨170,[.b (.d),.b (.d),.b (.d),.b (.d),.b (.ptr 10000 0)],[a3 10000 1],.b (.d),[a3 10000 1]⟩
def MQ:eu:=⟨169,[.b (.d),.b (.d),.b (.ptr 10000 0)],[a3 10000 1],.b (.d),[a3 10000 1]⟩
def abU:eu:=⟨120,[.b (.row 10000),.b (.d),.b (.d)],[aV 10000 1],.b (.d),[aV 10000 1]⟩
def abV:eu:=⟨121,[.b (.row 10000),.b (.d),.b (.d)],[aV 10000 1],.b (.d),[aV 10000 1]⟩
def abW:eu:=⟨123,[.b (.row 10000),.b (.d),.b (.d),.b (.d)],[aV 10000 1],.b (.d),[aV 10000 1]⟩
def abX:eu:=⟨124,[.b (.row 10000),.b (.d),.b (.d),.b (.d)],[aV 10000 1],.b (.d),[aV 10000 1]⟩
def xI:eu:=⟨79,[.b (.row 10000),.b (.d),.b (.d),.b (.d)],[aV 10000 1],.b (.d),[aV 10000 1]⟩
def abY:eu:=⟨45,[.b (.row 10000)],[aV 10000 1],.b (.d),[aV 10000 1]⟩
def abZ:eu:=⟨127,[.b (.row 10000),.b (.d),.b (.d),.b (.eY e0)],[aV 10000 1],.b (.d),[aV 10000 1]⟩
def TW:eu:=⟨171,[.b (.row 10000),.b (.d),.b (.d),.b (.d),.b (.eY e0)],[aV 10000 1],.b (.d),[aV 10000 1]⟩
def ab0:eu:=⟨128,[.b (.row 10000),.b (.d),.b (.d),.b (.eY e0)],[aV 10000 1],.b (.d),[aV 10000 1]⟩
def ab1:eu:=⟨129,[.b (.row 10000),.b (.d),.b (.d),.b (.eY e0)],[aV 10000 1],.b (.d),[aV 10000 1]⟩
def MR:eu:=⟨197,[.b (.d),.b (.d),.b (.d),.b (.ptr 10000 0),.b (.eY e0)],[a3 10000 1],.b (.d),[a3 10000 1]⟩
def TX:eu:=⟨173,[.b (.d),.b (.d),.b (.d),.b (.d),.b (.ptr 10000 0),.b (.eY e0)],[a3 10000 1],.b (.d),[a3 10000 1]⟩
def MS:eu:=⟨172,[.b (.d),.b (.d),.b (.ptr 10000 0),.b (.eY e0)],[a3 10000 1],.b (.d),[a3 10000 1]⟩
def ab2:eu:=⟨131,[.b (.row 10000),.b (.d),.b (.d),.b (.eY e0)],[aV 10000 1],.b (.d),[aV 10000 1]⟩
def ab3:eu:=⟨132,[.b (.row 10000),.b (.d),.b (.d),.b (.eY e0)],[aV 10000 1],.b (.d),[aV 10000 1]⟩
def ab4:eu:=⟨133,[.b (.row 10000),.b (.d),.b (.d),.b (.d),.b (.eY e0)],[aV 10000 1],.b (.d),[aV 10000 1]⟩
def ab5:eu:=⟨134,[.b (.row 10000),.b (.d),.b (.d),.b (.d),.b (.eY e0)],[aV 10000 1],.b (.d),[aV 10000 1]⟩
def xJ:eu:=⟨81,[.b (.row 10000),.b (.d),.b (.d),.b (.d),.b (.eY e0)],[aV 10000 1],.b (.d),[aV 10000 1]⟩
def ab6:eu:=⟨46,[.b (.row 10000),.b (.eY e0)],[aV 10000 1],.b (.d),[aV 10000 1]⟩
def ab7(n:Nat):bC aZ a0 136 (zf n):=cE (b6 n [] [] [] []) bz aY ar bu Tryz.func136
def arS(n:Nat):bC aZ a0 174 (FP n):=cE (b6 n [] [] [] []) bz aY ar bu Tryz.func174
def arT(n:Nat):bC aZ a0 137 (FR n):=ku (b6 n [(174,FP n),(136,zf n)] [(1,⟨[ai 0,ai 1,ai 2],[],[]⟩)] [] [(0,⟨[ai 1],[],[]⟩)]) bz (bc (arS n) (bc (ab7 n) aY)) ar bu Tryz.func137
def arU(n:Nat):bC aZ a0 139 (Lr n):=BV (b6 n [] [] [] []) bz aY ar bu Tryz.func139
def arV(n:Nat):bC aZ a0 138 (Cr n):=eb (b6 n [] [(2,⟨[ai 0,ai 1,ai 5],[],[]⟩)] [] [(0,⟨[],[],[]⟩)]) bz aY ar bu Tryz.func138
def TY(n:Nat):bC aZ a0 84 (s6 n):=cE (b6 n [(136,zf n),(137,FR n),(139,Lr n),(138,Cr n)] [] [] []) bz (bc (ab7 n) (bc (arT n) (bc (arU n) (bc (arV n) aY)))) ar bu Tryz.func84
def arW(n:Nat):bC aZ a0 85 (Cs n):=cE (b6 n [] [] [] []) bz aY ar bu Tryz.func85
def IF(n:Nat):bC aZ a0 58 (oV n):=cE (b6 n [] [] [(19000007,⟨[ai 3],[],[]⟩)] []) bz aY ar bu Tryz.func58
def arX(n:Nat):bC aZ a0 52 (FY n):=cE (b6 n [(84,s6 n),(85,Cs n),(58,oV n)] [(2,⟨[ai 0,ai 4],[],[]⟩),(7,⟨[ai 0,ai 4,ai 5],[],[]⟩)] [] [(0,⟨[],[],[]⟩),(1,⟨[ai 0,ai 4],[],[]⟩),(2,⟨[ai 0,ai 4],[],[]⟩)]) bz (bc (TY n) (bc (arW n) (bc (IF n) aY))) ar bu Tryz.func52
def arY(n:Nat):bC aZ a0 86 (FZ n):=cE (b6 n [] [(2,⟨[ai 0,ai 3],[],[]⟩)] [] [(0,⟨[ai 3],[],[]⟩)]) bz aY ar bu Tryz.func86
def arZ(n:Nat):bC aZ a0 53 (F0 n):=cE (b6 n [(58,oV n),(86,FZ n)] [(3,⟨[sp 1,ai 3,ai 4],[a3 1 8],[]⟩)] [] [(0,⟨[ai 3],[],[]⟩)]) bz (bc (IF n) (bc (arY n) aY)) ar bu Tryz.func53
def ab8(n:Nat):bC aZ a0 87 (zk n):=eb (b6 n [] [(2,⟨[ai 1,sp 2,ai 5],[a3 2 8],[]⟩)] [] [(0,⟨[],[],[]⟩)]) bz aY ar bu Tryz.func87
def ab9(n:Nat):bC aZ a0 88 (zl n):=eb (b6 n [] [(2,⟨[ai 1,sp 2,ai 5],[a3 2 8],[]⟩)] [] [(0,⟨[],[],[]⟩)]) bz aY ar bu Tryz.func88
def ar0(n:Nat):bC aZ a0 207 (F4 n):=eb (b6 n [] [(2,⟨[ai 0,ai 1,ai 5],[],[]⟩)] [] [(0,⟨[],[],[]⟩)]) bz aY ar bu Tryz.func207
def ar1(n:Nat):bC aZ a0 198 (zn n):=eb (b6 n [(207,F4 n)] [(6,⟨[ai 0,ai 1,bo 5 12,ai 6,ai 7],[aV 12 1],[]⟩)] [(28000009,⟨[ai 0,ai 1,bo 5 32,ai 6,ai 7],[aV 32 1],[]⟩),(41000013,⟨[bo 5 45],[aV 45 1],[]⟩)] [(0,⟨[ai 1,bo 5 12,ai 6],[aV 12 1],[]⟩)]) bz (bc (ar0 n) aY) ar bu Tryz.func198
def ar2(zo:List D->Option D)(n:Nat)(ad:D)(au:D)(ba:D)(ar3:bC aZ a0 175 zo){r:D}(h:F5 zo n ad au ba=some r):fb aZ a0 175 [ad,au,ba] (·=r):=fK (b6 n [(198,zn n),(175,zo)] [(4,⟨[ai 1,ai 2,sp 3,ai 7],[a3 3 4],[]⟩)] [(11000002,⟨[ai 1,ai 2,sp 3],[a3 3 4],[]⟩)] [(0,⟨[ai 2],[],[]⟩)]) bz (bc (ar1 n) (bc ar3 aY)) ar bu Tryz.func175 (cn (cn (cn le_nil))) h
def aca:∀n,bC aZ a0 175 (rG n)
 |0=>(λ_ _ h=>by cases h)
 |n+1=>by
  have ih:=aca n;exact(by
   intro aO r h;unfold rG at h;split at h
   case h_2=>cases h
   exact ar2 (rG n) n _ _ _ ih h)
def ar4(n:Nat):bC aZ a0 175 (rG n):=(aca n)
def TZ(n:Nat):bC aZ a0 140 (uU n):=cE (b6 n [(175,rG n)] [] [] []) bz (bc (ar4 n) aY) ar bu Tryz.func140
def ar5(n:Nat):bC aZ a0 89 (F6 n):=eb (b6 n [(140,uU n),(88,zl n)] [(4,⟨[sp 2,bo 5 15,bo 6 17,ai 7],[a3 2 8,aV 15 1,aV 17 1],[]⟩),(8,⟨[sp 2,bo 5 15,bo 6 17,ai 7,ai 8,ai 10],[a3 2 8,aV 15 1,aV 17 1],[]⟩)] [(57000012,⟨[sp 2,bo 5 15,bo 6 64,ai 7,ai 8,ai 10],[a3 2 8,aV 15 1,aV 64 1],[]⟩)] [(0,⟨[bo 5 15],[aV 15 1],[]⟩),(1,⟨[sp 2,bo 5 15,bo 6 17,ai 7],[a3 2 8,aV 15 1,aV 17 1],[]⟩),(2,⟨[sp 2,bo 5 15,bo 6 17,ai 7],[a3 2 8,aV 15 1,aV 17 1],[]⟩),(3,⟨[sp 2,bo 5 15,bo 6 64,ai 7,ai 8,ai 10],[a3 2 8,aV 15 1,aV 64 1],[]⟩)]) bz (bc (TZ n) (bc (ab9 n) aY)) ar bu Tryz.func89
def ar6(n:Nat):bC aZ a0 193 (Cv n):=cE (b6 n [] [] [(5003000,⟨[ai 0,ai 4,ai 5],[],[]⟩),(5004000,⟨[ai 0,ai 4,ai 5],[],[]⟩),(5005000,⟨[ai 0,ai 4,ai 5],[],[]⟩),(12010000,⟨[ai 0,ai 4,ai 12],[],[]⟩)] [(0,⟨[ai 0],[],[]⟩)]) bz aY ar bu Tryz.func193
def acb(n:Nat):bC aZ a0 161 (zs n):=eb (b6 n [(193,Cv n)] [] [(22000008,⟨[sp 2,ai 5,ai 6,ai 7,ai 8],[a3 2 4],[]⟩),(25000010,⟨[sp 2,ai 5,ai 6,ai 7,ai 8],[a3 2 4],[]⟩)] []) bz (bc (ar6 n) aY) ar bu Tryz.func161
def ar7(zt:List D->Option D)(n:Nat)(ad:D)(au:D)(ba:D)(ar8:bC aZ a0 157 zt){r:D}(h:Rz zt n ad au ba=some r):fb aZ a0 157 [ad,au,ba] (·=r):=fK (b6 n [(161,zs n),(157,zt)] [(8,⟨[ai 1,ai 2,sp 3,ai 9],[a3 3 4],[]⟩)] [] [(0,⟨[ai 2],[],[]⟩)]) bz (bc (acb n) (bc ar8 aY)) ar bu Tryz.func157 (cn (cn (cn le_nil))) h
def acd:∀n,bC aZ a0 157 (s7 n)
 |0=>(λ_ _ h=>by cases h)
 |n+1=>by
  have ih:=acd n;exact(by
   intro aO r h;unfold s7 at h;split at h
   case h_2=>cases h
   exact ar7 (s7 n) n _ _ _ ih h)
def ar9(n:Nat):bC aZ a0 157 (s7 n):=(acd n)
def T0(n:Nat):bC aZ a0 106 (uV n):=cE (b6 n [(157,s7 n)] [] [] []) bz (bc (ar9 n) aY) ar bu Tryz.func106
def ace(n:Nat):bC aZ a0 160 (xc n):=eb (b6 n [] [(2,⟨[ai 0,ai 1,ai 5],[],[]⟩)] [] [(0,⟨[],[],[]⟩)]) bz aY ar bu Tryz.func160
def asa(n:Nat):bC aZ a0 158 (Gb n):=eb (b6 n [(140,uU n),(160,xc n)] [(4,⟨[ai 1,bo 5 10,ai 6,ai 8],[aV 10 1],[]⟩)] [(29000008,⟨[ai 1,bo 5 33,ai 6,ai 8],[aV 33 1],[]⟩)] [(0,⟨[bo 5 10],[aV 10 1],[]⟩),(1,⟨[ai 1,bo 5 33,ai 6,ai 8],[aV 33 1],[]⟩)]) bz (bc (TZ n) (bc (ace n) aY)) ar bu Tryz.func158
def acf(n:Nat):bC aZ a0 159 (xd n):=eb (b6 n [] [(2,⟨[ai 0,ai 1,ai 5],[],[]⟩)] [] [(0,⟨[],[],[]⟩)]) bz aY ar bu Tryz.func159
def asb(zu:List D->Option D)(n:Nat)(ad:D)(au:D)(ba:D)(asc:bC aZ a0 107 zu){r:D}(h:Ly zu n ad au ba=some r):fb aZ a0 107 [ad,au,ba] (·=r):=fK ⟨(dr Tryz.prog).wO [42],a0,dy [(158,Gb n),(159,xd n),(107,zu)],n,[],bF [(3,⟨[ai 1,ai 2,ai 7,ai 8],[],[]⟩)],bF [(24000006,⟨[ai 1,ai 2,ai 7,ai 8],[],[]⟩)],bF [(0,⟨[ai 2],[],[]⟩),(1,⟨[ai 1,ai 2,ai 7,ai 8],[],[]⟩)],dI [(6,[0,1,2,3,4,5,6,7,12,13,14,15,8,9,10,11,16,17,18,19])],dx [],dO [],dH []⟩ ((tok _).wO _) (bc (asa n) (bc (acf n) (bc asc aY))) ar bu Tryz.func107 (cn (cn (cn le_nil))) h
def acg:∀n,bC aZ a0 107 (qw n)
 |0=>(λ_ _ h=>by cases h)
 |n+1=>by
  have ih:=acg n;exact(by
   intro aO r h;unfold qw at h;split at h
   case h_2=>cases h
   exact asb (qw n) n _ _ _ ih h)
def ach(n:Nat):bC aZ a0 107 (qw n):=(acg n)
def asd(n:Nat):bC aZ a0 108 (Ge n):=eb (b6 n [(107,qw n),(159,xd n)] [] [] []) bz (bc (ach n) (bc (acf n) aY)) ar bu Tryz.func108
def ase(xe:List D->Option D)(n:Nat)(ad:D)(au:D)(ba:D)(cx:D)(asf:bC aZ a0 109 xe){r:D}(h:rH xe n ad au ba cx=some r):fb aZ a0 109 [ad,au,ba,cx] (·=r):=fK (b6 n [(160,xc n),(109,xe),(161,zs n)] [(13,⟨[ai 1,ai 2,ai 3,sp 4,sp 8,bo 13 53,ai 14],[a3 4 4,a3 8 4,aV 53 4],[]⟩)] [(20000002,⟨[ai 1,ai 2,ai 3,sp 4,sp 8],[a3 4 4,a3 8 4],[]⟩)] [(0,⟨[ai 3,sp 4,sp 8,bo 13 53],[a3 4 4,a3 8 4,aV 53 4],[]⟩)]) bz (bc (ace n) (bc asf (bc (acb n) aY))) ar bu Tryz.func109 (cn (cn (cn (cn le_nil)))) h
def aci:∀n,bC aZ a0 109 (rI n)
 |0=>(λ_ _ h=>by cases h)
 |n+1=>by
  have ih:=aci n;exact(by
   intro aO r h;unfold rI at h;split at h
   case h_2=>cases h
   exact ase (rI n) n _ _ _ _ ih h)
def asg(n:Nat):bC aZ a0 109 (rI n):=(aci n)
def MT(n:Nat):bC aZ a0 71 (mm n):=eb (b6 n [(106,uV n),(107,qw n),(108,Ge n),(109,rI n)] [(6,⟨[ai 1,sp 2,sp 4,ai 7,ai 8],[a3 2 4,a3 4 4],[]⟩)] [] [(0,⟨[ai 1,sp 2,sp 4],[a3 2 4,a3 4 4],[]⟩)]) bz (bc (T0 n) (bc (ach n) (bc (asd n) (bc (asg n) aY)))) ar bu Tryz.func71
def acj(n:Nat):bC aZ a0 194 (qx n):=eb (b6 n [] [] [] []) bz aY ar bu Tryz.func194
def T1(n:Nat):bC aZ a0 77 (uX n):=eb (b6 n [] [(2,⟨[ai 0,ai 1,ai 5],[],[]⟩)] [] [(0,⟨[],[],[]⟩)]) bz aY ar bu Tryz.func77
def ash(n:Nat):bC aZ a0 205 (Gk n):=cE (b6 n [] [(2,⟨[ai 0,ai 3],[],[]⟩)] [] [(0,⟨[],[],[]⟩)]) bz aY ar bu Tryz.func205
def asi(n:Nat):bC aZ a0 206 (Gm n):=eb (b6 n [] [(4,⟨[bo 6 30,ai 7,ai 8,ai 9],[aV 30 1],[]⟩)] [] [(0,⟨[ai 7,ai 8],[],[]⟩)]) bz aY ar bu Tryz.func206
def asj(n:Nat):bC aZ a0 195 (zz n):=eb (b6 n [(205,Gk n),(194,qx n),(206,Gm n)] [] [(13005000,⟨[ai 1,sp 2,sp 4,sp 6,ai 7,ai 12,ai 13],[a3 2 4,a3 4 3,a3 6 3],[]⟩),(13006000,⟨[ai 1,sp 2,sp 4,sp 6,ai 7,ai 12,ai 13],[a3 2 4,a3 4 3,a3 6 3],[]⟩),(13007000,⟨[ai 1,sp 2,sp 4,sp 6,ai 7,ai 12,ai 13],[a3 2 4,a3 4 3,a3 6 3],[]⟩),(13008000,⟨[ai 1,sp 2,sp 4,sp 6,ai 7,ai 12,ai 13],[a3 2 4,a3 4 3,a3 6 3],[]⟩),(25013000,⟨[ai 1,sp 2,sp 4,sp 6,ai 7,ai 12,ai 25],[a3 2 4,a3 4 3,a3 6 3],[]⟩)] [(0,⟨[ai 1,sp 2,sp 4,sp 6,ai 7],[a3 2 4,a3 4 3,a3 6 3],[]⟩)]) bz (bc (ash n) (bc (acj n) (bc (asi n) aY))) ar bu Tryz.func195
def asl(zA:List D->Option D)(n:Nat)(ad:D)(au:D)(ba:D)(asm:bC aZ a0 162 zA){r:D}(h:u3 zA n ad au ba=some r):fb aZ a0 162 [ad,au,ba] (·=r):=fK (b6 n [(194,qx n),(77,uX n),(162,zA),(195,zz n)] [(18,⟨[ai 0,ai 2,sp 4,sp 6,bo 9 64,ai 10],[a3 4 4,a3 6 3,aV 64 3],[]⟩)] [(27007000,⟨[ai 0,ai 2,sp 4,sp 6,ai 27],[a3 4 4,a3 6 3],[]⟩)] [(1,⟨[sp 4,sp 6,bo 9 64],[a3 4 4,a3 6 3,aV 64 3],[]⟩)]) bz (bc (acj n) (bc (T1 n) (bc asm (bc (asj n) aY)))) ar bu Tryz.func162 (cn (cn (cn le_nil))) h
def ack:∀n,bC aZ a0 162 (mP n)
 |0=>(λ_ _ h=>by cases h)
 |n+1=>by
  have ih:=ack n;exact(by
   intro aO r h;unfold mP at h;split at h
   case h_2=>cases h
   exact asl (mP n) n _ _ _ ih h)
def asn(n:Nat):bC aZ a0 162 (mP n):=(ack n)
def acm(n:Nat):bC aZ a0 113 (xk n):=ku (b6 n [(106,uV n),(162,mP n)] [] [] []) bz (bc (T0 n) (bc (asn n) aY)) ar bu Tryz.func113
def T2(n:Nat):bC aZ a0 90 (s9 n):=ku (b6 n [(71,mm n),(113,xk n)] [] [] []) bz (bc (MT n) (bc (acm n) aY)) ar bu Tryz.func90
def aso(n:Nat):bC aZ a0 54 (xl n):=cE (b6 n [(84,s6 n),(87,zk n),(88,zl n),(89,F6 n),(90,s9 n)] [(2,⟨[sp 1,ai 4],[a3 1 8],[]⟩),(9,⟨[sp 1,ai 5],[a3 1 8],[]⟩),(14,⟨[sp 1,ai 6],[a3 1 8],[]⟩)] [] [(0,⟨[sp 1],[a3 1 8],[]⟩),(2,⟨[sp 1],[a3 1 8],[]⟩),(4,⟨[],[],[]⟩)]) bz (bc (TY n) (bc (ab8 n) (bc (ab9 n) (bc (ar5 n) (bc (T2 n) aY))))) ar bu Tryz.func54
def acn(n:Nat):bC aZ a0 91 (xm n):=ku (b6 n [(90,s9 n)] [] [] []) bz (bc (T2 n) aY) ar bu Tryz.func91
def asp(n:Nat):bC aZ a0 55 (u4 n):=ku (b6 n [(91,xm n)] [(2,⟨[ai 1,ai 2,sp 3,ai 8],[a3 3 8],[]⟩)] [] [(0,⟨[],[],[]⟩)]) bz (bc (acn n) aY) ar bu Tryz.func55
def asq(n:Nat):bC aZ a0 56 (CC n):=cE (b6 n [(87,zk n),(90,s9 n)] [(2,⟨[sp 1,ai 4],[a3 1 8],[]⟩),(8,⟨[sp 1,ai 4,ai 5,ai 6],[a3 1 8],[]⟩)] [(69000014,⟨[sp 1,ai 4,ai 8],[a3 1 8],[]⟩)] [(0,⟨[],[],[]⟩),(1,⟨[sp 1,ai 4],[a3 1 8],[]⟩),(2,⟨[sp 1,ai 4,ai 5],[a3 1 8],[]⟩)]) bz (bc (ab8 n) (bc (T2 n) aY)) ar bu Tryz.func56
def asr(n:Nat):bC aZ a0 199 (CD n):=cE (b6 n [] [] [(6005000,⟨[ai 3,ai 6],[],[]⟩),(6006000,⟨[ai 3,ai 6],[],[]⟩),(6007000,⟨[ai 3,ai 6],[],[]⟩),(6008000,⟨[ai 3,ai 6],[],[]⟩),(6009000,⟨[ai 3,ai 6],[],[]⟩),(6010000,⟨[ai 3,ai 6],[],[]⟩),(14013000,⟨[ai 14],[],[]⟩),(14014000,⟨[ai 14],[],[]⟩),(14015000,⟨[ai 14],[],[]⟩),(14016000,⟨[ai 14],[],[]⟩)] [(0,⟨[],[],[]⟩)]) bz aY ar bu Tryz.func199
def ass(n:Nat):bC aZ a0 200 (GC n):=cE (b6 n [] [] [] []) bz aY ar bu Tryz.func200
def ast(n:Nat):bC aZ a0 176 (u5 n):=cE (b6 n [(199,CD n),(106,uV n),(140,uU n),(200,GC n)] [] [(12000004,⟨[sp 1],[a3 1 6],[]⟩)] []) bz (bc (asr n) (bc (T0 n) (bc (TZ n) (bc (ass n) aY)))) ar bu Tryz.func176
def asu(zD:List D->Option D)(n:Nat)(ad:D)(au:D)(ba:D)(asv:bC aZ a0 141 zD){r:D}(h:RZ zD n ad au ba=some r):fb aZ a0 141 [ad,au,ba] (·=r):=fK (b6 n [(176,u5 n),(141,zD)] [(10,⟨[ai 1,ai 2,sp 3,ai 9],[a3 3 6],[]⟩)] [] [(0,⟨[ai 2],[],[]⟩)]) bz (bc (ast n) (bc asv aY)) ar bu Tryz.func141 (cn (cn (cn le_nil))) h
def aco:∀n,bC aZ a0 141 (ta n)
 |0=>(λ_ _ h=>by cases h)
 |n+1=>by
  have ih:=aco n;exact(by
   intro aO r h;unfold ta at h;split at h
   case h_2=>cases h
   exact asu (ta n) n _ _ _ ih h)
def asw(n:Nat):bC aZ a0 141 (ta n):=(aco n)
def acp(n:Nat):bC aZ a0 92 (zE n):=cE (b6 n [(141,ta n)] [] [] []) bz (bc (asw n) aY) ar bu Tryz.func92
def asx(zF:List D->Option D)(n:Nat)(ad:D)(au:D)(asy:bC aZ a0 93 zF){r:D}(h:GF zF n ad au=some r):fb aZ a0 93 [ad,au] (·=r):=fK (b6 n [(91,xm n),(93,zF)] [(4,⟨[sp 2,sp 3,ai 5],[a3 2 8,a3 3 6],[]⟩)] [] [(0,⟨[],[],[]⟩)]) bz (bc (acn n) (bc asy aY)) ar bu Tryz.func93 (cn (cn le_nil)) h
def acq:∀n,bC aZ a0 93 (tb n)
 |0=>(λ_ _ h=>by cases h)
 |n+1=>by
  have ih:=acq n;exact(by
   intro aO r h;unfold tb at h;split at h
   case h_2=>cases h
   exact asx (tb n) n _ _ ih h)
def asz(n:Nat):bC aZ a0 93 (tb n):=(acq n)
def asA(n:Nat):bC aZ a0 57 (CG n):=cE (b6 n [(84,s6 n),(92,zE n),(93,tb n)] [(2,⟨[sp 1,ai 4],[a3 1 8],[]⟩),(7,⟨[sp 1,ai 4,ai 5],[a3 1 8],[]⟩)] [(50000013,⟨[sp 1,ai 4,ai 6],[a3 1 8],[]⟩)] [(0,⟨[],[],[]⟩),(1,⟨[sp 1,ai 4],[a3 1 8],[]⟩),(2,⟨[sp 1,ai 4],[a3 1 8],[]⟩)]) bz (bc (TY n) (bc (acp n) (bc (asz n) aY))) ar bu Tryz.func57
def acr(n:Nat):bC aZ a0 22 (oZ n):=cE (b6 n [(52,FY n),(53,F0 n),(54,xl n),(55,u4 n),(56,CC n),(57,CG n)] [(3,⟨[sp 1,sp 2,bo 4 33,ai 5],[a3 1 8,a3 2 2,aV 33 1],[]⟩),(13,⟨[sp 1,sp 2,ai 6,ai 7,ai 8],[a3 1 8,a3 2 2],[]⟩)] [(68018017,⟨[sp 1,sp 2,ai 6,ai 7,ai 8],[a3 1 8,a3 2 2],[]⟩),(75020019,⟨[sp 1,sp 2,ai 6,ai 7,ai 8],[a3 1 8,a3 2 2],[]⟩),(84022021,⟨[sp 1,sp 2,ai 6,ai 7,ai 8],[a3 1 8,a3 2 2],[]⟩),(93024023,⟨[sp 1,sp 2,ai 6,ai 7,ai 8],[a3 1 8,a3 2 2],[]⟩),(100026025,⟨[sp 1,sp 2,ai 6,ai 7,ai 8],[a3 1 8,a3 2 2],[]⟩),(109028027,⟨[sp 1,sp 2,ai 6,ai 7,ai 8],[a3 1 8,a3 2 2],[]⟩),(118000029,⟨[sp 1,sp 2,ai 6,ai 7,ai 8],[a3 1 8,a3 2 2],[]⟩)] [(0,⟨[sp 1,sp 2],[a3 1 8,a3 2 2],[]⟩),(2,⟨[sp 2],[a3 2 2],[]⟩),(3,⟨[sp 1,sp 2,ai 6,ai 7,ai 8],[a3 1 8,a3 2 2],[]⟩),(4,⟨[sp 1,sp 2,ai 6,ai 7,ai 8],[a3 1 8,a3 2 2],[]⟩)]) bz (bc (arX n) (bc (arZ n) (bc (aso n) (bc (asp n) (bc (asq n) (bc (asA n) aY)))))) ar bu Tryz.func22
def acs(n:Nat):bC aZ a0 23 (xp n):=eb (b6 n [(58,oV n)] [(3,⟨[ai 0,ai 1,ai 5,ai 6],[],[]⟩)] [] [(0,⟨[],[],[]⟩)]) bz (bc (IF n) aY) ar bu Tryz.func23
def asB(n:Nat):bC aZ a0 7 (u6 n):=eb (b6 n [(22,oZ n),(23,xp n)] [] [] []) bz (bc (acr n) (bc (acs n) aY)) ar bu Tryz.func7
def asC(n:Nat):bC aZ a0 24 (R4 n):=BV ⟨dr aZ,a0,dy [],n,[],bF [],bF [],bF [],dI [],dx [],dO [17,23,28],dH []⟩ bz aY ar bu Tryz.func24
def acu(n:Nat):bC aZ a0 142 (zI n):=cE (b6 n [] [] [] []) bz aY ar bu Tryz.func142
def asD(n:Nat):bC aZ a0 177 (GI n):=cE (b6 n [] [] [] []) bz aY ar bu Tryz.func177
def asE(n:Nat):bC aZ a0 144 (GJ n):=cE (b6 n [(142,zI n),(177,GI n)] [] [] []) bz (bc (acu n) (bc (asD n) aY)) ar bu Tryz.func144
def asF(n:Nat)(ad:D){r:D}(h:R5 n ad=some r):fb aZ a0 143 [ad,(D.val (.func (.func FO) #[] #[]))] (·=r):=fK (b6 n [(144,GJ n)] [(2,⟨[ai 0,(1,.b (.eY FO)),ai 5],[],[]⟩)] [] [(0,⟨[ai 5],[],[]⟩)]) bz (bc (asE n) aY) ar bu Tryz.func143 (cn (cn le_nil)) h
def asG(n:Nat):bC aZ a0 143 (CJ n):=by
 intro aO r h;unfold CJ at h;split at h
 case h_2=>cases h
 obtain⟨an,h⟩:=k3 h;obtain rfl:=Zv an;exact asF n _ h
def asH(n:Nat):bC aZ a0 178 (CL n):=eb (b6 n [] [(2,⟨[ai 0,ai 1,ai 7,ai 8],[],[]⟩)] [] [(0,⟨[],[],[]⟩)]) bz aY ar bu Tryz.func178
def asI(n:Nat):bC aZ a0 145 (GL n):=eb (b6 n [(178,CL n)] [] [] []) bz (bc (asH n) aY) ar bu Tryz.func145
def T3(n:Nat):bC aZ a0 95 (tg n):=cE (b6 n [(142,zI n),(143,CJ n),(145,GL n)] [] [] []) bz (bc (acu n) (bc (asG n) (bc (asI n) aY))) ar bu Tryz.func95
def asJ(n:Nat)(ad:D)(x1:List D){r:D}(h:R8 n ad x1=some r):fb aZ a0 94 [ad,.ref x1 0] (·=r):=fK (b6 n [] [] [] []) bz aY ar bu Tryz.func94 (cn (rr sW le_nil)) h
def asK(n:Nat):bC aZ a0 94 (CM n):=by
 intro aO r h;unfold CM at h;split at h
 case h_2=>cases h
 split at h
 case h_2=>cases h
 exact asJ n _ _ h
def asL(n:Nat)(ad:D)(cO:D){r:D}(h:R9 n ad cO=some r):fb aZ a0 67 [ad,(D.fn (.func s5) [] [cO])] (·=r):=fK (b6 n [(94,CM n)] [(2,⟨[ai 0,(1,.b (.fd s5 1)),ai 7,ai 8],[],[]⟩)] [] [(0,⟨[],[],[]⟩)]) bz (bc (asK n) aY) ar bu Tryz.func67 (cn (cn le_nil)) h
def asM(n:Nat):bC aZ a0 67 (zK n):=by
 intro aO r h;unfold zK at h;split at h
 case h_2=>cases h
 split at h
 case h_2=>cases h
 rename_i an;obtain rfl:=nb an;exact asL n _ _ h
def asN(n:Nat)(ad:D)(cO:D){r:D}(h:Sa n ad cO=some r):fb aZ a0 96 [ad,(D.fn (.func s5) [] [cO])] (·=r):=fK (b6 n [(67,zK n)] [] [] []) bz (bc (asM n) aY) ar bu Tryz.func96 (cn (cn le_nil)) h
def asO(n:Nat):bC aZ a0 96 (CN n):=by
 intro aO r h;unfold CN at h;split at h
 case h_2=>cases h
 split at h
 case h_2=>cases h
 rename_i an;obtain rfl:=nb an;exact asN n _ _ h
def asP(n:Nat):bC aZ a0 59 (CO n):=cE (b6 n [(95,tg n),(96,CN n)] [(2,⟨[ai 0,ai 8,ai 9,ai 10],[],[]⟩)] [] [(0,⟨[],[],[]⟩)]) bz (bc (T3 n) (bc (asO n) aY)) ar bu Tryz.func59
def T4(n:Nat):bC aZ a0 61 (u7 n):=cE (b6 n [] [] [] []) bz aY ar bu Tryz.func61
def asQ(n:Nat):bC aZ a0 97 (GN n):=cE (b6 n [] [(2,⟨[ai 0,ai 4],[],[]⟩)] [] [(0,⟨[],[],[]⟩)]) bz aY ar bu Tryz.func97
def asR(n:Nat):bC aZ a0 60 (GO n):=cE (b6 n [(61,u7 n),(97,GN n)] [(3,⟨[ai 3,ai 7,ai 8,ai 9],[],[]⟩)] [] [(0,⟨[ai 3],[],[]⟩)]) bz (bc (T4 n) (bc (asQ n) aY)) ar bu Tryz.func60
def asS(n:Nat):bC aZ a0 251 (GP n):=cE (b6 n [] [] [] []) bz aY ar bu Tryz.func251
def asT(n:Nat):bC aZ a0 244 (GQ n):=cE (b6 n [] [] [] []) bz aY ar bu Tryz.func244
def asU(n:Nat):bC aZ a0 240 (rP n):=cE (b6 n [] [] [] []) bz aY ar bu Tryz.func240
def asV(n:Nat):bC aZ a0 236 (GS n):=cE (b6 n [] [] [] []) bz aY ar bu Tryz.func236
def asW(n:Nat):bC aZ a0 231 (GU n):=cE (b6 n [] [] [] []) bz aY ar bu Tryz.func231
def asX(n:Nat):bC aZ a0 224 (GV n):=cE (b6 n [] [] [] []) bz aY ar bu Tryz.func224
def asY(n:Nat)(ad:D)(x1:List D){r:D}(h:LF n ad x1=some r):fb aZ a0 254 [ad,.ref x1 0] (·=r):=fK (b6 n [] [] [] []) bz aY ar bu Tryz.func254 (cn (rr sW le_nil)) h
def asZ(n:Nat):bC aZ a0 254 (GW n):=by
 intro aO r h;unfold GW at h;split at h
 case h_2=>cases h
 split at h
 case h_2=>cases h
 exact asY n _ _ h
def as0(n:Nat)(ad:D)(cO:D){r:D}(h:GY n ad cO=some r):fb aZ a0 256 [ad,(D.fn (.func rD) [] [cO])] (·=r):=fK (b6 n [(254,GW n)] [(2,⟨[ai 0,(1,.b (.fd rD 1)),ai 7,ai 8],[],[]⟩)] [] [(0,⟨[],[],[]⟩)]) bz (bc (asZ n) aY) ar bu Tryz.func256 (cn (cn le_nil)) h
def as1(n:Nat):bC aZ a0 256 (zN n):=by
 intro aO r h;unfold zN at h;split at h
 case h_2=>cases h
 split at h
 case h_2=>cases h
 rename_i an;obtain rfl:=nb an;exact as0 n _ _ h
def as2(n:Nat)(ad:D)(cO:D){r:D}(h:LG n ad cO=some r):fb aZ a0 253 [ad,(D.fn (.func rD) [] [cO])] (·=r):=fK (b6 n [(256,zN n)] [] [] []) bz (bc (as1 n) aY) ar bu Tryz.func253 (cn (cn le_nil)) h
def as3(n:Nat):bC aZ a0 253 (zO n):=by
 intro aO r h;unfold zO at h;split at h
 case h_2=>cases h
 split at h
 case h_2=>cases h
 rename_i an;obtain rfl:=nb an;exact as2 n _ _ h
def as4(n:Nat):bC aZ a0 201 (GZ n):=cE (b6 n [] [] [(5004000,⟨[ai 4,ai 5],[],[]⟩),(5005000,⟨[ai 4,ai 5],[],[]⟩),(5006000,⟨[ai 4,ai 5],[],[]⟩),(12011000,⟨[ai 4,ai 12],[],[]⟩),(15014000,⟨[ai 4,ai 15],[],[]⟩),(15015000,⟨[ai 4,ai 15],[],[]⟩),(15016000,⟨[ai 4,ai 15],[],[]⟩),(15017000,⟨[ai 4,ai 15],[],[]⟩),(15018000,⟨[ai 4,ai 15],[],[]⟩),(15019000,⟨[ai 4,ai 15],[],[]⟩),(15020000,⟨[ai 4,ai 15],[],[]⟩),(15021000,⟨[ai 4,ai 15],[],[]⟩),(15022000,⟨[ai 4,ai 15],[],[]⟩)] []) bz aY ar bu Tryz.func201
def as5(n:Nat):bC aZ a0 181 (G0 n):=cE (b6 n [(201,GZ n)] [] [(18008007,⟨[sp 1,ai 3,ai 4,ai 5,ai 6],[a3 1 4],[]⟩),(20000009,⟨[sp 1,ai 3,ai 4,ai 5,ai 6],[a3 1 4],[]⟩)] [(0,⟨[sp 1,ai 3,ai 4,ai 5,ai 6],[a3 1 4],[]⟩)]) bz (bc (as4 n) aY) ar bu Tryz.func181
def as6(n:Nat):dC aZ a0 abK (G1 n):=fX ⟨dr aZ,a0,dy [(181,G0 n)],n,[10000,10001],bF [],bF [(10004003,⟨[(3,.b (.ptr 10001 0))],[a3 10001 1,a3 10000 1],[]⟩),(18000006,⟨[(3,.b (.ptr 10001 0))],[a3 10001 1,a3 10000 1],[]⟩)],bF [],dI [],dx [],dO [],dH []⟩ bz (bc (as5 n) aY) ar bu Tryz.func180 []
def acv(n:Nat):dC aZ a0 TR (xq n):=fX ⟨dr aZ,a0,dy [],n,[],bF [(2,⟨[bo 0 9000,ai 1,ai 5],[aV 9000 1],[]⟩)],bF [],bF [(0,⟨[bo 0 9000,ai 1,ai 5],[aV 9000 1],[]⟩)],dI [],dx [],dO [],dH []⟩ bz aY ar bu Tryz.func183 []
def as7(n:Nat):dC aZ a0 abL (zQ n):=fX ⟨dr aZ,a0,dy [],n,[10000,10001],bF [],bF [(9004003,⟨[],[(10000,.box [.b (.row 6010)]),(10001,.box [.b (.row 9001)]),aV 6010 1,aV 9001 1],[]⟩),(15000005,⟨[],[(10000,.box [.b (.row 9000)]),(10001,.box [.b (.row 6020)]),aV 9000 1,aV 6020 1],[]⟩)],bF [(0,⟨[],[(10000,.box [.b (.row 6010)]),(10001,.box [.b (.row 9001)]),aV 6010 1,aV 9001 1],[]⟩)],dI [],dx [(14,⟨TR,xq n,6010,[]⟩),(20,⟨TR,xq n,6020,[]⟩)],dO [],dH []⟩ bz aY (bA (acv n) (bA (acv n) ar)) bu Tryz.func182 []
def as8(zR:List D->Option (List D))(n:Nat)(as9:dC aZ a0 AR zR):dC aZ a0 AR (Sb zR n):=fX ⟨dr aZ,a0,dy [],n,[10000,10001],bF [(4,⟨[ai 1,(2,.fn (.func Z9) [] [.ptr 10000 0,.ptr 10001 0]),ai 15,ai 16,ai 17],[a3 10000 1,a3 10001 1],[]⟩)],bF [],bF [(0,⟨[],[a3 10000 1,a3 10001 1],[]⟩)],dI [],dx [(12,⟨abK,G1 n,6010,[]⟩),(25,⟨AR,zR,6020,[]⟩)],dO [],dH []⟩ bz aY (bA (as6 n) (bA as9 ar)) bu Tryz.func179 []
def acw:∀n,dC aZ a0 AR (vb n)
 |0=>uM (s:=AR) (uN (T:=dr aZ) (os:=λ_=>none) Tryz.func179) (λ_=>rfl)|n+1=>by have ih:=acw n;exact as8 (vb n) n ih
def ata(n:Nat):dC aZ a0 AR (vb n):=(acw n)
def T5(n:Nat):bC aZ a0 146 (th n):=cE ⟨dr aZ,a0,dy [],n,[],bF [],bF [],bF [],dI [],dx [(7,⟨AR,vb n,6010,[]⟩)],dO [],dH []⟩ bz aY (bA (ata n) ar) bu Tryz.func146
def atb(zS:List D->Option (List D))(n:Nat)(atc:dC aZ a0 AS zS):dC aZ a0 AS (Sc zS n):=fX ⟨dr aZ,a0,dy [],n,[10000,10001],bF [(4,⟨[ai 1,(2,.fn (.func aaa) [] [.ptr 10000 0,.ptr 10001 0]),ai 15,ai 16,ai 17],[(10000,.box [.b (.row 6010)]),(10001,.box [.b (.row 6011)]),aV 6010 1,aV 6011 1],[]⟩)],bF [],bF [(0,⟨[],[(10000,.box [.b (.row 6010)]),(10001,.box [.b (.row 6011)]),aV 6010 1,aV 6011 1],[]⟩)],dI [],dx [(12,⟨abL,zQ n,6010,[]⟩),(25,⟨AS,zS,6020,[]⟩)],dO [],dH []⟩ bz aY (bA (as7 n) (bA atc ar)) bu Tryz.func179 []
def acx:∀n,dC aZ a0 AS (vc n)
 |0=>uM (s:=AS) (uN (T:=dr aZ) (os:=λ_=>none) Tryz.func179) (λ_=>rfl)|n+1=>by have ih:=acx n;exact atb (vc n) n ih
def atd(n:Nat):dC aZ a0 AS (vc n):=(acx n)
def MU(n:Nat):bC aZ a0 149 (rQ n):=cE ⟨dr aZ,a0,dy [],n,[],bF [],bF [],bF [],dI [(2,[0,1,2,3])],dx [(6,⟨AS,vc n,6010,[.box 3 0 5900 1,.box 2 0 5901 1]⟩)],dO [],dH []⟩ bz aY (bA (atd n) ar) bu Tryz.func149
def ate(n:Nat):bC aZ a0 188 (zT n):=cE (b6 n [(146,th n),(149,rQ n)] [] [] []) bz (bc (T5 n) (bc (MU n) aY)) ar bu Tryz.func188
def atf(n:Nat):bC aZ a0 189 (G3 n):=cE (b6 n [] [] [(6005000,⟨[ai 3,ai 6],[],[]⟩),(6006000,⟨[ai 3,ai 6],[],[]⟩),(6007000,⟨[ai 3,ai 6],[],[]⟩),(6008000,⟨[ai 3,ai 6],[],[]⟩),(12011000,⟨[ai 12],[],[]⟩),(12012000,⟨[ai 12],[],[]⟩),(12013000,⟨[ai 12],[],[]⟩),(12014000,⟨[ai 12],[],[]⟩),(12015000,⟨[ai 12],[],[]⟩),(12016000,⟨[ai 12],[],[]⟩)] [(0,⟨[],[],[]⟩)]) bz aY ar bu Tryz.func189
def atg(n:Nat):dC aZ a0 abM (G4 n):=fX ⟨dr aZ,a0,dy [(188,zT n),(189,G3 n)],n,[10000,10001],bF [],bF [(40007006,⟨[(3,.b (.ptr 10001 0))],[a3 10001 1,a3 10000 1],[]⟩),(43009008,⟨[(3,.b (.ptr 10001 0))],[a3 10001 1,a3 10000 1],[]⟩),(46011010,⟨[(3,.b (.ptr 10001 0))],[a3 10001 1,a3 10000 1],[]⟩),(50013012,⟨[(3,.b (.ptr 10001 0))],[a3 10001 1,a3 10000 1],[]⟩),(65000014,⟨[(3,.b (.ptr 10001 0))],[a3 10001 1,a3 10000 1],[]⟩)],bF [(0,⟨[(3,.b (.ptr 10001 0))],[a3 10001 1,a3 10000 1],[]⟩)],dI [],dx [],dO [],dH []⟩ bz (bc (ate n) (bc (atf n) aY)) ar bu Tryz.func187 []
def ath(zU:List D->Option (List D))(n:Nat)(ati:dC aZ a0 AT zU):dC aZ a0 AT (Sd zU n):=fX ⟨dr aZ,a0,dy [],n,[10000,10001],bF [(4,⟨[ai 1,(2,.fn (.func aab) [] [.ptr 10000 0,.ptr 10001 0]),ai 15,ai 16,ai 17],[a3 10000 1,a3 10001 1],[]⟩)],bF [],bF [(0,⟨[],[a3 10000 1,a3 10001 1],[]⟩)],dI [],dx [(12,⟨abM,G4 n,6010,[]⟩),(25,⟨AT,zU,6020,[]⟩)],dO [],dH []⟩ bz aY (bA (atg n) (bA ati ar)) bu Tryz.func186 []
def acy:∀n,dC aZ a0 AT (vd n)
 |0=>uM (s:=AT) (uN (T:=dr aZ) (os:=λ_=>none) Tryz.func186) (λ_=>rfl)|n+1=>by have ih:=acy n;exact ath (vd n) n ih
def atj(n:Nat):dC aZ a0 AT (vd n):=(acy n)
def acz(n:Nat):bC aZ a0 152 (zV n):=cE ⟨dr aZ,a0,dy [],n,[],bF [],bF [],bF [],dI [],dx [(7,⟨AT,vd n,6010,[]⟩)],dO [],dH []⟩ bz aY (bA (atj n) ar) bu Tryz.func152
def T6(n:Nat):bC aZ a0 147 (ve n):=cE (b6 n [] [(3,⟨[(3,.b (.map 8)),ai 9,ai 10,ai 11],[(8,.map)],[]⟩)] [(24000007,⟨[(3,.b (.map 8)),ai 9,ai 10,ai 11],[(8,.map)],[]⟩)] [(0,⟨[(3,.b (.map 8))],[(8,.map)],[]⟩),(1,⟨[(3,.b (.map 8)),ai 9,ai 10,ai 11],[(8,.map)],[]⟩)]) bz aY ar bu Tryz.func147
def atk(n:Nat):bC aZ a0 148 (G7 n):=cE ⟨dr aZ,a0,dy [(147,ve n),(149,rQ n)],n,[],bF [(4,⟨[ai 3,bo 4 5002,ai 16,ai 17,ai 18],[aV 5002 1],[.slot 4 5002 1]⟩),(9,⟨[ai 3,bo 4 5002,bo 7 5001,ai 16,ai 17,ai 18,ai 28,ai 29,ai 30],[aV 5002 1,aV 5001 1],[.slot 7 5001 1]⟩)],bF [(40000013,⟨[ai 3,bo 4 5002,bo 7 44,ai 16,ai 17,ai 18,ai 28,ai 29,ai 30],[aV 5002 1,aV 44 1],[.slot 7 5000 1]⟩)],bF [(0,⟨[bo 4 5002],[aV 5002 1],[]⟩),(1,⟨[ai 3,bo 4 49,ai 16,ai 17,ai 18],[aV 49 1],[]⟩),(2,⟨[ai 3,bo 4 5002,bo 7 5001,ai 16,ai 17,ai 18],[aV 5002 1,aV 5001 1],[]⟩),(3,⟨[ai 3,bo 4 5002,bo 7 44,ai 16,ai 17,ai 18,ai 28,ai 29,ai 30],[aV 5002 1,aV 44 1],[]⟩)],dI [],dx [],dO [48],dH []⟩ bz (bc (T6 n) (bc (MU n) aY)) ar bu Tryz.func148
def atl(zW:List D->Option (List D))(n:Nat)(atm:dC aZ a0 xH zW):dC aZ a0 xH (LM zW n):=fX ⟨dr aZ,a0,dy [],n,[10000,10001,10002],bF [(1,⟨[(2,.b (.ptr 10001 0)),(3,.b (.ptr 10002 0)),ai 10,ai 11,ai 12],[(10001,.box [.b (.map 9000)]),(10002,.box [.fn (.func w9) [] [.ptr 10000 0,.ptr 10001 0,.ptr 10002 0]]),a3 10000 1,(9000,.map)],[]⟩)],bF [(19000004,⟨[(2,.b (.ptr 10001 0)),(3,.b (.ptr 10002 0)),ai 10,ai 11,ai 12],[(10001,.box [.b (.map 6010)]),(10002,.box [.fn (.func w9) [] [.ptr 10000 0,.ptr 10001 0,.ptr 10002 0]]),a3 10000 1,(6010,.map)],[]⟩)],bF [(0,⟨[],[a3 10000 1,(10001,.box [.b (.map 9000)]),(10002,.box [.fn (.func w9) [] [.ptr 10000 0,.ptr 10001 0,.ptr 10002 0]]),(9000,.map)],[]⟩),(1,⟨[(2,.b (.ptr 10001 0)),(3,.b (.ptr 10002 0)),ai 10,ai 11,ai 12],[(10001,.box [.b (.map 6010)]),(10002,.box [.fn (.func w9) [] [.ptr 10000 0,.ptr 10001 0,.ptr 10002 0]]),a3 10000 1,(6010,.map)],[]⟩)],dI [],dx [(24,⟨xH,zW,6010,[]⟩)],dO [],dH []⟩ bz aY (bA atm ar) bu Tryz.func184 []
def acA:∀n,dC aZ a0 xH (rR n)
 |0=>uM (s:=xH) (uN (T:=dr aZ) (os:=λ_=>none) Tryz.func184) (λ_=>rfl)|n+1=>by have ih:=acA n;exact atl (rR n) n ih
def acB(n:Nat):dC aZ a0 xH (rR n):=(acA n)
def atn(n:Nat):dC aZ a0 abN (G9 n):=fX ⟨dr aZ,a0,dy [],n,[],bF [(5,⟨[sp 5,sp 6,ai 11,ai 12,ai 13],[(5,.box [.b (.map 9)]),(6,.box [.fn (.func w9) [] [.ptr 2 0,.ptr 5 0,.ptr 6 0]]),(9,.map),a3 2 1],[]⟩)],bF [],bF [(0,⟨[sp 5],[(5,.box [.b (.map 9)]),(9,.map)],[]⟩)],dI [],dx [(19,⟨xH,rR n,6010,[]⟩)],dO [],dH []⟩ bz aY (bA (acB n) ar) bu Tryz.func150 []
def ato(n:Nat):bC aZ a0 150 (CP n):=eb ⟨dr aZ,a0,dy [],n,[],bF [(5,⟨[sp 5,sp 6,ai 11,ai 12,ai 13],[(5,.box [.b (.map 9)]),(6,.box [.fn (.func w9) [] [.ptr 2 0,.ptr 5 0,.ptr 6 0]]),(9,.map),a3 2 1],[]⟩)],bF [],bF [(0,⟨[sp 5],[(5,.box [.b (.map 9)]),(9,.map)],[]⟩)],dI [],dx [(19,⟨xH,rR n,6010,[]⟩)],dO [],dH []⟩ bz aY (bA (acB n) ar) bu Tryz.func150
def atp(vf:List D->Option (List D))(n:Nat)(atq:dC aZ a0 AU vf):dC aZ a0 AU (Hb vf n):=fX ⟨dr aZ,a0,dy [],n,[10000,10001,10002,10003],bF [(1,⟨[ai 1,(2,.b (.ptr 10000 0)),(3,.b (.ptr 10001 0)),(4,.b (.ptr 10002 0)),(5,.b (.ptr 10003 0)),sp 6,sp 8],[a3 10000 1,a3 10001 1,a3 10002 1,(10003,.box [.fn (.func xa) [] [.ptr 10000 0,.ptr 10001 0,.ptr 10002 0,.ptr 10003 0]]),a3 6 4,a3 8 4],[]⟩),(10,⟨[ai 1,(4,.b (.ptr 10002 0)),(5,.b (.ptr 10003 0)),sp 6,sp 8,bo 11 41,ai 43,ai 44,ai 45],[a3 10002 1,(10003,.box [.fn (.func xa) [] [.ptr 10000 0,.ptr 10001 0,.ptr 10002 0,.ptr 10003 0]]),a3 6 4,a3 8 4,aV 41 4,a3 10000 1,a3 10001 1],[]⟩)],bF [(55000013,⟨[ai 1,(4,.b (.ptr 10002 0)),(5,.b (.ptr 10003 0)),sp 6,sp 8,bo 11 41,ai 43,ai 44,ai 45],[a3 10002 1,(10003,.box [.fn (.func xa) [] [.ptr 10000 0,.ptr 10001 0,.ptr 10002 0,.ptr 10003 0]]),a3 6 4,a3 8 4,aV 41 4,a3 10000 1,a3 10001 1],[]⟩)],bF [(0,⟨[ai 1,(4,.b (.ptr 10002 0)),(5,.b (.ptr 10003 0)),sp 6,sp 8],[a3 10002 1,(10003,.box [.fn (.func xa) [] [.ptr 10000 0,.ptr 10001 0,.ptr 10002 0,.ptr 10003 0]]),a3 6 4,a3 8 4,a3 10000 1,a3 10001 1],[]⟩),(2,⟨[sp 6,sp 8,bo 11 41],[a3 6 4,a3 8 4,aV 41 4,a3 10000 1,a3 10001 1,a3 10002 1,(10003,.box [.fn (.func xa) [] [.ptr 10000 0,.ptr 10001 0,.ptr 10002 0,.ptr 10003 0]])],[]⟩),(3,⟨[ai 1,(4,.b (.ptr 10002 0)),(5,.b (.ptr 10003 0)),sp 6,sp 8,bo 11 41,ai 43,ai 44,ai 45],[a3 10002 1,(10003,.box [.fn (.func xa) [] [.ptr 10000 0,.ptr 10001 0,.ptr 10002 0,.ptr 10003 0]]),a3 6 4,a3 8 4,aV 41 4,a3 10000 1,a3 10001 1],[]⟩)],dI [],dx [(62,⟨AU,vf,6010,[]⟩)],dO [20066],dH []⟩ bz aY (bA atq ar) bu Tryz.func185 []
def acC:∀n,dC aZ a0 AU (ti n)
 |0=>uM (s:=AU) (uN (T:=dr aZ) (os:=λ_=>none) Tryz.func185) (λ_=>rfl)|n+1=>by have ih:=acC n;exact atp (ti n) n ih
def atr(n:Nat):dC aZ a0 AU (ti n):=(acC n)
def ats(n:Nat):bC aZ a0 151 (Hc n):=eb ⟨dr aZ,a0,dy [(147,ve n)],n,[],bF [],bF [],bF [],dI [],dx [(13,⟨AU,ti n,6010,[]⟩)],dO [],dH []⟩ bz (bc (T6 n) aY) (bA (atr n) ar) bu Tryz.func151
def MV(n:Nat):bC aZ a0 98 (mq n):=eb ⟨(dr Tryz.prog).wO [77],a0,dy [(146,th n),(147,ve n),(148,G7 n),(149,rQ n),(150,CP n),(151,Hc n)],n,[],bF [(8,⟨[ai 1,sp 2,sp 4,ai 7,ai 8,bo 9 5001,ai 36,ai 37,ai 38],[a3 2 4,a3 4 4,aV 5001 1],[.slot 9 5001 1]⟩),(16,⟨[ai 1,sp 2,sp 4,ai 8,(16,.b (.map 6010)),ai 57,ai 58,ai 59],[a3 2 4,a3 4 4,(6010,.map)],[]⟩),(21,⟨[ai 1,sp 2,sp 4,ai 8,(16,.b (.map 6010)),ai 67,ai 68],[a3 2 4,a3 4 4,(6010,.map)],[]⟩)],bF [(48000012,⟨[ai 1,sp 2,sp 4,ai 7,ai 8,bo 9 52,ai 36,ai 37,ai 38],[a3 2 4,a3 4 4,aV 52 1],[.slot 9 5000 1]⟩)],bF [(0,⟨[ai 1,sp 2,sp 4,ai 8,bo 9 5001],[a3 2 4,a3 4 4,aV 5001 1],[]⟩),(1,⟨[ai 1,sp 2,sp 4,ai 7,ai 8,bo 9 52,ai 36,ai 37,ai 38],[a3 2 4,a3 4 4,aV 52 1],[]⟩),(2,⟨[ai 1,sp 2,sp 4,ai 8,(16,.b (.map 6010))],[a3 2 4,a3 4 4,(6010,.map)],[]⟩),(4,⟨[ai 1,sp 2,sp 4],[a3 2 4,a3 4 4],[]⟩)],dI [],dx [(56,⟨abN,G9 n,6010,[]⟩)],dO [],dH [(14,[[5001],[],[]])]⟩ ((tok _).wO _) (bc (T5 n) (bc (T6 n) (bc (atk n) (bc (MU n) (bc (ato n) (bc (ats n) aY)))))) (bA (atn n) ar) bu Tryz.func98
def acD(n:Nat):bC aZ a0 101 (zZ n):=cE (b6 n [] [(3,⟨[(3,.b (.map 8)),ai 9,ai 10,ai 11],[(8,.map)],[]⟩)] [(24000007,⟨[(3,.b (.map 8)),ai 9,ai 10,ai 11],[(8,.map)],[]⟩)] [(0,⟨[(3,.b (.map 8))],[(8,.map)],[]⟩),(1,⟨[(3,.b (.map 8)),ai 9,ai 10,ai 11],[(8,.map)],[]⟩)]) bz aY ar bu Tryz.func101
def acE(n:Nat):bC aZ a0 202 (rT n):=eb (b6 n [] [] [] []) bz aY ar bu Tryz.func202
def att(n:Nat):bC aZ a0 203 (Hg n):=cE (b6 n [] [(2,⟨[sp 2,ai 6,ai 7,ai 8],[a3 2 3],[]⟩)] [] [(0,⟨[sp 2],[a3 2 3],[]⟩)]) bz aY ar bu Tryz.func203
def atu(n:Nat):bC aZ a0 204 (z1 n):=ku (b6 n [(202,rT n)] [] [(13000002,⟨[ai 0,sp 4,sp 5,sp 6],[a3 4 3,a3 5 3,a3 6 3],[]⟩)] []) bz (bc (acE n) aY) ar bu Tryz.func204
def atv(n:Nat):bC aZ a0 190 (o1 n):=al7 (b6 n [(202,rT n),(203,Hg n),(204,z1 n)] [] [(29007000,⟨[ai 0,ai 1,ai 3,ai 4,sp 7,sp 10,ai 16,ai 29],[a3 7 4,a3 10 3],[]⟩),(69017000,⟨[ai 4,sp 7,sp 10,ai 16,ai 69],[a3 7 4,a3 10 3],[]⟩),(69018000,⟨[ai 4,sp 7,sp 10,ai 16,ai 69],[a3 7 4,a3 10 3],[]⟩),(69019000,⟨[ai 4,sp 7,sp 10,ai 16,ai 69],[a3 7 4,a3 10 3],[]⟩),(69020000,⟨[ai 4,sp 7,sp 10,ai 16,ai 69],[a3 7 4,a3 10 3],[]⟩),(126029000,⟨[ai 4,sp 7,sp 10,ai 126],[a3 7 4,a3 10 3],[]⟩),(164038000,⟨[ai 4,sp 7,sp 10,ai 152,ai 164],[a3 7 4,a3 10 3],[]⟩)] [(0,⟨[ai 4,sp 7,sp 10],[a3 7 4,a3 10 3],[]⟩)]) bz (bc (acE n) (bc (att n) (bc (atu n) aY))) ar bu Tryz.func190
def atw(z5:List D->Option D)(n:Nat)(ad:D)(au:D)(ba:D)(cx:D)(atx:bC aZ a0 154 z5){r:D}(h:Sl z5 n ad au ba cx=some r):fb aZ a0 154 [ad,au,ba,cx] (·=r):=fK (b6 n [(154,z5),(190,o1 n)] [(3,⟨[ai 0,ai 1,ai 3,sp 6,sp 8,bo 10 5000,ai 16,ai 17,ai 18],[a3 6 4,a3 8 3,aV 5000 3],[.slot 10 5000 3]⟩)] [] [(0,⟨[ai 0,ai 1,ai 3,sp 6,sp 8,bo 10 5000],[a3 6 4,a3 8 3,aV 5000 3],[]⟩)]) bz (bc atx (bc (atv n) aY)) ar bu Tryz.func154 (cn (cn (cn (cn le_nil)))) h
def acF:∀n,bC aZ a0 154 (rU n)
 |0=>(λ_ _ h=>by cases h)
 |n+1=>by
  have ih:=acF n;exact(by
   intro aO r h;unfold rU at h;split at h
   case h_2=>cases h
   exact atw (rU n) n _ _ _ _ ih h)
def aty(n:Nat):bC aZ a0 154 (rU n):=(acF n)
def acG(n:Nat):bC aZ a0 100 (xt n):=ku (b6 n [(146,th n),(101,zZ n),(154,rU n)] [] [] []) bz (bc (T5 n) (bc (acD n) (bc (aty n) aY))) ar bu Tryz.func100
def T7(n:Nat):bC aZ a0 238 (tl n):=ku (b6 n [(98,mq n),(100,xt n)] [] [] []) bz (bc (MV n) (bc (acG n) aY)) ar bu Tryz.func238
def acH(n:Nat):bC aZ a0 242 (xu n):=ku (b6 n [(238,tl n)] [] [] []) bz (bc (T7 n) aY) ar bu Tryz.func242
def atz(z6:List D->Option D)(n:Nat)(ad:D)(au:D)(atA:bC aZ a0 255 z6){r:D}(h:Hk z6 n ad au=some r):fb aZ a0 255 [ad,au] (·=r):=fK (b6 n [(242,xu n),(255,z6)] [(4,⟨[sp 2,ai 16,ai 17,ai 18],[a3 2 8],[]⟩)] [] [(0,⟨[],[],[]⟩)]) bz (bc (acH n) (bc atA aY)) ar bu Tryz.func255 (cn (cn le_nil)) h
def acI:∀n,bC aZ a0 255 (tn n)
 |0=>(λ_ _ h=>by cases h)
 |n+1=>by
  have ih:=acI n;exact(by
   intro aO r h;unfold tn at h;split at h
   case h_2=>cases h
   exact atz (tn n) n _ _ ih h)
def atB(n:Nat):bC aZ a0 255 (tn n):=(acI n)
def atC(n:Nat):bC aZ a0 252 (vh n):=ku (b6 n [(95,tg n),(253,zO n),(152,zV n),(255,tn n)] [] [] []) bz (bc (T3 n) (bc (as3 n) (bc (acz n) (bc (atB n) aY)))) ar bu Tryz.func252
def atD(n:Nat)(ad:D)(x1:List D){r:D}(h:LS n ad x1=some r):fb aZ a0 246 [ad,.ref x1 0] (·=r):=fK (b6 n [] [] [] []) bz aY ar bu Tryz.func246 (cn (rr sW le_nil)) h
def atE(n:Nat):bC aZ a0 246 (Hm n):=by
 intro aO r h;unfold Hm at h;split at h
 case h_2=>cases h
 split at h
 case h_2=>cases h
 exact atD n _ _ h
def atF(n:Nat)(ad:D)(cO:D){r:D}(h:Ho n ad cO=some r):fb aZ a0 67 [ad,(D.fn (.func Cp) [] [cO])] (·=r):=fK (b6 n [(246,Hm n)] [(2,⟨[ai 0,(1,.b (.fd Cp 1)),ai 7,ai 8],[],[]⟩)] [] [(0,⟨[],[],[]⟩)]) bz (bc (atE n) aY) ar bu Tryz.func67 (cn (cn le_nil)) h
def atG(n:Nat):bC aZ a0 67 (z7 n):=by
 intro aO r h;unfold z7 at h;split at h
 case h_2=>cases h
 split at h
 case h_2=>cases h
 rename_i an;obtain rfl:=nb an;exact atF n _ _ h
def atH(n:Nat)(ad:D)(x1:List D){r:D}(h:LU n ad x1=some r):fb aZ a0 248 [ad,.ref x1 0] (·=r):=fK (b6 n [] [] [] []) bz aY ar bu Tryz.func248 (cn (rr sW le_nil)) h
def atI(n:Nat):bC aZ a0 248 (Hp n):=by
 intro aO r h;unfold Hp at h;split at h
 case h_2=>cases h
 split at h
 case h_2=>cases h
 exact atH n _ _ h
def atJ(n:Nat)(ad:D)(cO:D){r:D}(h:Hr n ad cO=some r):fb aZ a0 249 [ad,(D.fn (.func rC) [] [cO])] (·=r):=fK (b6 n [(248,Hp n)] [(2,⟨[ai 0,(1,.b (.fd rC 1)),ai 7,ai 8],[],[]⟩)] [] [(0,⟨[],[],[]⟩)]) bz (bc (atI n) aY) ar bu Tryz.func249 (cn (cn le_nil)) h
def atK(n:Nat):bC aZ a0 249 (z8 n):=by
 intro aO r h;unfold z8 at h;split at h
 case h_2=>cases h
 split at h
 case h_2=>cases h
 rename_i an;obtain rfl:=nb an;exact atJ n _ _ h
def atL(n:Nat)(ad:D)(cO:D){r:D}(h:LV n ad cO=some r):fb aZ a0 247 [ad,(D.fn (.func rC) [] [cO])] (·=r):=fK (b6 n [(249,z8 n)] [] [] []) bz (bc (atK n) aY) ar bu Tryz.func247 (cn (cn le_nil)) h
def atM(n:Nat):bC aZ a0 247 (z9 n):=by
 intro aO r h;unfold z9 at h;split at h
 case h_2=>cases h
 split at h
 case h_2=>cases h
 rename_i an;obtain rfl:=nb an;exact atL n _ _ h
def atN(n:Nat):bC aZ a0 245 (xv n):=ku (b6 n [(67,z7 n),(247,z9 n),(238,tl n)] [] [] []) bz (bc (atG n) (bc (atM n) (bc (T7 n) aY))) ar bu Tryz.func245
def atO(n:Nat):bC aZ a0 241 (CT n):=ku (b6 n [(242,xu n)] [] [] []) bz (bc (acH n) aY) ar bu Tryz.func241
def atP(n:Nat):bC aZ a0 237 (CU n):=ku (b6 n [(238,tl n)] [] [] []) bz (bc (T7 n) aY) ar bu Tryz.func237
def atQ(n:Nat)(ad:D)(x1:List D){r:D}(h:LX n ad x1=some r):fb aZ a0 234 [ad,.ref x1 0] (·=r):=fK (b6 n [] [] [] []) bz aY ar bu Tryz.func234 (cn (rr sW le_nil)) h
def atS(n:Nat):bC aZ a0 234 (Hs n):=by
 intro aO r h;unfold Hs at h;split at h
 case h_2=>cases h
 split at h
 case h_2=>cases h
 exact atQ n _ _ h
def atT(n:Nat)(ad:D)(cO:D){r:D}(h:Hu n ad cO=some r):fb aZ a0 233 [ad,(D.fn (.func Co) [] [cO])] (·=r):=fK (b6 n [(234,Hs n)] [(2,⟨[ai 0,(1,.b (.fd Co 1)),ai 7,ai 8],[],[]⟩)] [] [(0,⟨[],[],[]⟩)]) bz (bc (atS n) aY) ar bu Tryz.func233 (cn (cn le_nil)) h
def atU(n:Nat):bC aZ a0 233 (Aa n):=by
 intro aO r h;unfold Aa at h;split at h
 case h_2=>cases h
 split at h
 case h_2=>cases h
 rename_i an;obtain rfl:=nb an;exact atT n _ _ h
def atV(n:Nat):bC aZ a0 232 (CV n):=ku ⟨dr aZ,a0,dy [(149,rQ n),(233,Aa n)],n,[],bF [(3,⟨[ai 0,ai 2,bo 7 16,bo 8 18],[aV 16 1,aV 18 1],[]⟩),(7,⟨[ai 0,ai 2,bo 7 16,bo 8 18,ai 35,ai 36,ai 37],[aV 16 1,aV 18 1],[]⟩)],bF [(52000011,⟨[ai 0,ai 2,bo 7 16,bo 8 59,ai 35,ai 36,ai 37],[aV 16 1,aV 59 1],[]⟩)],bF [(0,⟨[ai 2,bo 7 16],[aV 16 1],[]⟩),(1,⟨[ai 0,ai 2,bo 7 16,bo 8 18],[aV 16 1,aV 18 1],[]⟩),(2,⟨[ai 0,ai 2,bo 7 16,bo 8 18],[aV 16 1,aV 18 1],[]⟩),(3,⟨[ai 0,ai 2,bo 7 16,bo 8 59,ai 35,ai 36,ai 37],[aV 16 1,aV 59 1],[]⟩)],dI [],dx [],dO [23],dH []⟩ bz (bc (MU n) (bc (atU n) aY)) ar bu Tryz.func232
def atW(n:Nat)(ad:D)(x1:List D){r:D}(h:L0 n ad x1=some r):fb aZ a0 226 [ad,.ref x1 0] (·=r):=fK (b6 n [] [] [] []) bz aY ar bu Tryz.func226 (cn (rr sW le_nil)) h
def atX(n:Nat):bC aZ a0 226 (Hw n):=by
 intro aO r h;unfold Hw at h;split at h
 case h_2=>cases h
 split at h
 case h_2=>cases h
 exact atW n _ _ h
def atY(n:Nat)(ad:D)(cO:D){r:D}(h:Hy n ad cO=some r):fb aZ a0 67 [ad,(D.fn (.func rA) [] [cO])] (·=r):=fK (b6 n [(226,Hw n)] [(2,⟨[ai 0,(1,.b (.fd rA 1)),ai 7,ai 8],[],[]⟩)] [] [(0,⟨[],[],[]⟩)]) bz (bc (atX n) aY) ar bu Tryz.func67 (cn (cn le_nil)) h
def atZ(n:Nat):bC aZ a0 67 (Ac n):=by
 intro aO r h;unfold Ac at h;split at h
 case h_2=>cases h
 split at h
 case h_2=>cases h
 rename_i an;obtain rfl:=nb an;exact atY n _ _ h
def at0(n:Nat)(ad:D)(cO:D){r:D}(h:L1 n ad cO=some r):fb aZ a0 96 [ad,(D.fn (.func rA) [] [cO])] (·=r):=fK (b6 n [(67,Ac n)] [] [] []) bz (bc (atZ n) aY) ar bu Tryz.func96 (cn (cn le_nil)) h
def at1(n:Nat):bC aZ a0 96 (Ad n):=by
 intro aO r h;unfold Ad at h;split at h
 case h_2=>cases h
 split at h
 case h_2=>cases h
 rename_i an;obtain rfl:=nb an;exact at0 n _ _ h
def at2(n:Nat)(ad:D)(x1:List D){r:D}(h:L2 n ad x1=some r):fb aZ a0 228 [ad,.ref x1 0] (·=r):=fK (b6 n [] [] [] []) bz aY ar bu Tryz.func228 (cn (rr sW le_nil)) h
def at3(n:Nat):bC aZ a0 228 (Hz n):=by
 intro aO r h;unfold Hz at h;split at h
 case h_2=>cases h
 split at h
 case h_2=>cases h
 exact at2 n _ _ h
def at4(n:Nat)(ad:D)(cO:D){r:D}(h:HB n ad cO=some r):fb aZ a0 229 [ad,(D.fn (.func rB) [] [cO])] (·=r):=fK (b6 n [(228,Hz n)] [(2,⟨[ai 0,(1,.b (.fd rB 1)),ai 7,ai 8],[],[]⟩)] [] [(0,⟨[],[],[]⟩)]) bz (bc (at3 n) aY) ar bu Tryz.func229 (cn (cn le_nil)) h
def at5(n:Nat):bC aZ a0 229 (Ae n):=by
 intro aO r h;unfold Ae at h;split at h
 case h_2=>cases h
 split at h
 case h_2=>cases h
 rename_i an;obtain rfl:=nb an;exact at4 n _ _ h
def at6(n:Nat)(ad:D)(cO:D){r:D}(h:L3 n ad cO=some r):fb aZ a0 227 [ad,(D.fn (.func rB) [] [cO])] (·=r):=fK (b6 n [(229,Ae n)] [] [] []) bz (bc (at5 n) aY) ar bu Tryz.func227 (cn (cn le_nil)) h
def at7(n:Nat):bC aZ a0 227 (Af n):=by
 intro aO r h;unfold Af at h;split at h
 case h_2=>cases h
 split at h
 case h_2=>cases h
 rename_i an;obtain rfl:=nb an;exact at6 n _ _ h
def aua(n:Nat):bC aZ a0 225 (vi n):=ku (b6 n [(95,tg n),(96,Ad n),(227,Af n)] [] [(17005000,⟨[ai 17],[],[]⟩)] []) bz (bc (T3 n) (bc (at1 n) (bc (at7 n) aY))) ar bu Tryz.func225
def aub(n:Nat):bC aZ a0 250 (L4 n):=cE (b6 n [] [] [] []) bz aY ar bu Tryz.func250
def auc(n:Nat):bC aZ a0 243 (L5 n):=cE (b6 n [] [] [] []) bz aY ar bu Tryz.func243
def aud(n:Nat):bC aZ a0 239 (L6 n):=cE (b6 n [] [] [] []) bz aY ar bu Tryz.func239
def aue(n:Nat):bC aZ a0 235 (L7 n):=cE (b6 n [] [] [] []) bz aY ar bu Tryz.func235
def auf(n:Nat):bC aZ a0 230 (L8 n):=cE (b6 n [] [] [] []) bz aY ar bu Tryz.func230
def aug(n:Nat):bC aZ a0 223 (L9 n):=cE (b6 n [] [] [] []) bz aY ar bu Tryz.func223
def auh(n:Nat):bC aZ a0 26 (nj n):=cE ⟨((dr Tryz.prog).Kv [117,118,119,121,122,123]),a0,dy [(59,CO n),(60,GO n),(251,GP n),(244,GQ n),(240,rP n),(236,GS n),(231,GU n),(224,GV n),(252,vh n),(245,xv n),(241,CT n),(237,CU n),(232,CV n),(225,vi n),(250,L4 n),(243,L5 n),(239,L6 n),(235,L7 n),(230,L8 n),(223,L9 n)],n,[],bF [(2,⟨[sp 1,sp 2,ai 36,ai 37],[a3 1 8,a3 2 2],[]⟩),(13,⟨[sp 1,sp 2,ai 93,ai 94],[a3 1 8,a3 2 2],[]⟩),(16,⟨[sp 1,sp 2,ai 9,ai 93,ai 94,ai 98,ai 99],[a3 1 8,a3 2 2],[]⟩)],bF [],bF [(0,⟨[sp 1,sp 2],[a3 1 8,a3 2 2],[]⟩),(2,⟨[sp 2],[a3 2 2],[]⟩),(3,⟨[sp 1,sp 2,ai 93,ai 94],[a3 1 8,a3 2 2],[]⟩),(4,⟨[sp 1,sp 2,ai 93,ai 94],[a3 1 8,a3 2 2],[]⟩)],dI [],dx [],dO [],dH []⟩ ((tok _).Kv _) (bc (asP n) (bc (asR n) (bc (asS n) (bc (asT n) (bc (asU n) (bc (asV n) (bc (asW n) (bc (asX n) (bc (atC n) (bc (atN n) (bc (atO n) (bc (atP n) (bc (atV n) (bc (aua n) (bc (aub n) (bc (auc n) (bc (aud n) (bc (aue n) (bc (auf n) (bc (aug n) aY)))))))))))))))))))) ar bu Tryz.func26
def aui(n:Nat):bC aZ a0 27 (Ah n):=cE (b6 n [(61,u7 n)] [(3,⟨[ai 4,ai 5,ai 10,ai 11,ai 12],[],[]⟩)] [(24000008,⟨[ai 4,ai 5,ai 10,ai 11,ai 12],[],[]⟩)] [(0,⟨[ai 4,ai 5],[],[]⟩),(1,⟨[ai 4,ai 5,ai 10,ai 11,ai 12],[],[]⟩)]) bz (bc (T4 n) aY) ar bu Tryz.func27
def auj(n:Nat):bC aZ a0 62 (pM n):=eb (b6 n [(98,mq n)] [(2,⟨[ai 1,bo 4 5000,ai 11,ai 12,ai 13],[aV 5000 4],[.slot 4 5000 4]⟩)] [] [(0,⟨[bo 4 5000],[aV 5000 4],[]⟩)]) bz (bc (MV n) aY) ar bu Tryz.func62
def auk(n:Nat):bC aZ a0 63 (Ai n):=eb (b6 n [(98,mq n)] [(2,⟨[ai 1,bo 4 5000,ai 11,ai 12,ai 13],[aV 5000 5],[.slot 4 5000 5]⟩)] [] [(0,⟨[bo 4 5000],[aV 5000 5],[]⟩)]) bz (bc (MV n) aY) ar bu Tryz.func63
def aul(Aj:List D->Option (List D))(n:Nat)(aum:dC aZ a0 AV Aj):dC aZ a0 AV (tq Aj n):=fX ⟨dr aZ,a0,dy [(98,mq n)],n,[10000,10001],bF [(8,⟨[(2,.b (.ptr 10001 0)),sp 3,sp 4,bo 8 5000,ai 32,ai 33,ai 34],[(10001,.box [.fn (.func Lq) [] [.ptr 10000 0,.ptr 10001 0]]),a3 3 6,a3 4 6,aV 5000 6,a3 10000 1],[.slot 8 5000 6]⟩)],bF [],bF [(0,⟨[sp 3,sp 4,bo 8 5000],[a3 3 6,a3 4 6,aV 5000 6,a3 10000 1,(10001,.box [.fn (.func Lq) [] [.ptr 10000 0,.ptr 10001 0]])],[]⟩)],dI [],dx [(41,⟨AV,Aj,6020,[]⟩)],dO [20004],dH []⟩ bz (bc (MV n) aY) (bA aum ar) bu Tryz.func153 []
def acJ:∀n,dC aZ a0 AV (pN n)
 |0=>uM (s:=AV) (uN (T:=dr aZ) (os:=λ_=>none) Tryz.func153) (λ_=>rfl)|n+1=>by have ih:=acJ n;exact aul (pN n) n ih
def aun(n:Nat):dC aZ a0 AV (pN n):=(acJ n)
def auo(n:Nat):bC aZ a0 99 (Ak n):=eb ⟨dr aZ,a0,dy [(152,zV n)],n,[],bF [],bF [],bF [],dI [],dx [(17,⟨AV,pN n,6010,[]⟩)],dO [],dH []⟩ bz (bc (acz n) aY) (bA (aun n) ar) bu Tryz.func99
def aup(n:Nat):bC aZ a0 64 (Al n):=eb (b6 n [(99,Ak n)] [(2,⟨[ai 1,bo 4 5000,ai 11,ai 12,ai 13],[aV 5000 7],[.slot 4 5000 7]⟩)] [] [(0,⟨[bo 4 5000],[aV 5000 7],[]⟩)]) bz (bc (auo n) aY) ar bu Tryz.func64
def auq(n:Nat):bC aZ a0 28 (HE n):=cE ⟨dr aZ,a0,dy [(62,pM n),(63,Ai n),(64,Al n)],n,[],bF [],bF [],bF [],dI [(4,[1,2,0,3,4,5,6,7]),(7,[1,2,0,3,4,5,6,7]),(10,[1,2,0,3,4,5,6,7]),(13,[1,2,0,3,4,5,6,7]),(16,[1,2,0,3,4,5,6,7]),(19,[1,2,0,3,4,5,6,7])],dx [],dO [],dH []⟩ bz (bc (auj n) (bc (auk n) (bc (aup n) aY))) ar bu Tryz.func28
def aur(n:Nat):dC aZ a0 abO (HF n):=fX ⟨dr aZ,a0,dy [],n,[],bF [],bF [],bF [],dI [],dx [],dO [],dH []⟩ bz aY ar bu Tryz.func65 [.slot 0 5000 1]
def aus(n:Nat):bC aZ a0 29 (Me n):=cE ⟨dr aZ,a0,dy [(61,u7 n)],n,[],bF [(3,⟨[bo 3 11,ai 12,ai 13,ai 14],[aV 11 1],[]⟩),(10,⟨[sp 5,ai 6,bo 7 5001,ai 12,ai 13,ai 14,bo 22 11,ai 23,ai 24],[a3 5 4,aV 5001 1,aV 11 1],[.slot 7 5001 1]⟩),(13,⟨[sp 5,ai 6,bo 7 5001,ai 9,ai 12,ai 13,ai 14,bo 22 11,ai 23,ai 24,ai 29,ai 30],[a3 5 4,aV 5001 1,aV 11 1],[.slot 7 5000 1]⟩)],bF [(21000007,⟨[bo 3 11,sp 5,ai 6,ai 12,ai 13,ai 14],[aV 11 1,a3 5 4],[]⟩)],bF [(0,⟨[bo 3 11],[aV 11 1],[]⟩),(1,⟨[bo 3 5001,ai 12,ai 13,ai 14],[aV 5001 1],[]⟩),(2,⟨[bo 7 5001,ai 12,ai 13,ai 14],[aV 5001 1],[]⟩),(3,⟨[sp 5,ai 6,bo 7 5001,ai 12,ai 13,ai 14,bo 22 11,ai 23,ai 24],[a3 5 4,aV 5001 1,aV 11 1],[]⟩),(4,⟨[sp 5,ai 6,bo 7 5001,ai 12,ai 13,ai 14,bo 22 11,ai 23,ai 24],[a3 5 4,aV 5001 1,aV 11 1],[]⟩)],dI [],dx [(35,⟨abO,HF n,6030,[]⟩)],dO [41],dH []⟩ bz (bc (T4 n) aY) (bA (aur n) ar) bu Tryz.func29
def aut(d:D):d.le (CX d):=by
 unfold CX;split;.exact D.nil_le 1
 exact D.le_refl _
def auu{x r:D}(h:HJ x=some r):x.le r:=by
 unfold HJ at h;split at h
 case h_2=>cases h
 rename_i k es;split at h
 case isFalse=>cases h
 rename_i an;cases h;refine D.ahc (by simp) ?_;intro i x y ah aK;simp only[xai,ah,xaC,xay]at aK;subst aK;refine⟨by simp,xas.1 an x (xad ah),?_⟩;intro j a b aG ao;simp only[xai,aG,xaC,xay]at ao;subst ao;exact aut a
def auv(n:Nat):bC aZ a0 29 (CY n):=by
 intro aO r h;unfold CY at h;split at h
 case h_2=>cases h
 rename_i x ah;have H:=aus n aO x ah;refine⟨H.fn,?_⟩;intro m fr w vs c0 dD cU;refine(H.run m fr w vs c0 dD cU).mono ?_;rintro e w' ⟨v,cH,q,aa,rfl,ae,ay,a7⟩;exact⟨v,cH,r,aa,rfl,ae,ay,auu h cH v a7⟩
def acK(n:Nat):bC aZ a0 103 (pO n):=cE (b6 n [] [] [] []) bz aY ar bu Tryz.func103
def auw(n:Nat):bC aZ a0 155 (HK n):=eb (b6 n [] [] [] []) bz aY ar bu Tryz.func155
def acL(n:Nat):bC aZ a0 104 (tu n):=eb (b6 n [(155,HK n)] [] [] []) bz (bc (auw n) aY) ar bu Tryz.func104
def auy(n:Nat):bC aZ a0 192 (An n):=cE (b6 n [] [] [] []) bz aY ar bu Tryz.func192
def auz(n:Nat):bC aZ a0 191 (Mg n):=eb (b6 n [] [] [] []) bz aY ar bu Tryz.func191
def auA(n:Nat):bC aZ a0 156 (xw n):=eb (b6 n [(192,An n),(191,Mg n)] [] [] []) bz (bc (auy n) (bc (auz n) aY)) ar bu Tryz.func156
def auB(n:Nat):bC aZ a0 105 (j8 n):=eb (b6 n [(103,pO n),(104,tu n),(156,xw n)] [(29,⟨[ai 1,sp 2,ai 6,ai 147,ai 148,ai 149],[a3 2 4],[]⟩)] [(35007000,⟨[ai 1,sp 2,ai 10,ai 35],[a3 2 4],[]⟩)] [(1,⟨[ai 1,sp 2,ai 6],[a3 2 4],[]⟩)]) bz (bc (acK n) (bc (acL n) (bc (auA n) aY))) ar bu Tryz.func105
def auC(Ap:List D->Option (List D))(n:Nat)(auD:dC aZ a0 AW Ap):dC aZ a0 AW (vo Ap n):=fX ⟨dr aZ,a0,dy [(103,pO n),(104,tu n),(105,j8 n)],n,[10000,10001,10002,10003,10004],bF [(3,⟨[(1,.b (.ptr 10000 0)),(2,.b (.ptr 10001 0)),(3,.b (.ptr 10002 0)),(4,.b (.ptr 10003 0)),(5,.b (.ptr 10004 0)),sp 6,bo 9 5000,ai 17,ai 18,ai 19],[(10000,.box [.fn (.func ze) [] [.ptr 10000 0,.ptr 10001 0,.ptr 10002 0,.ptr 10003 0,.ptr 10004 0]]),a3 10001 1,a3 10002 1,a3 10003 1,a3 10004 1,a3 6 4,aV 5000 1],[.slot 9 5000 1]⟩)],bF [(43013000,⟨[(2,.b (.ptr 10001 0)),(3,.b (.ptr 10002 0)),(4,.b (.ptr 10003 0)),(5,.b (.ptr 10004 0)),sp 6,bo 9 5000,ai 37,ai 43],[a3 10001 1,a3 10002 1,a3 10003 1,a3 10004 1,a3 6 4,aV 5000 1,(10000,.box [.fn (.func ze) [] [.ptr 10000 0,.ptr 10001 0,.ptr 10002 0,.ptr 10003 0,.ptr 10004 0]])],[]⟩),(48016000,⟨[(2,.b (.ptr 10001 0)),(3,.b (.ptr 10002 0)),(4,.b (.ptr 10003 0)),(5,.b (.ptr 10004 0)),sp 6,bo 9 5000,ai 48],[a3 10001 1,a3 10002 1,a3 10003 1,a3 10004 1,a3 6 4,aV 5000 1,(10000,.box [.fn (.func ze) [] [.ptr 10000 0,.ptr 10001 0,.ptr 10002 0,.ptr 10003 0,.ptr 10004 0]])],[]⟩),(58000019,⟨[(5,.b (.ptr 10004 0)),ai 14,ai 15],[a3 10004 1,(10000,.box [.fn (.func ze) [] [.ptr 10000 0,.ptr 10001 0,.ptr 10002 0,.ptr 10003 0,.ptr 10004 0]]),a3 10001 1,a3 10002 1,a3 10003 1],[]⟩)],bF [(0,⟨[(2,.b (.ptr 10001 0)),(3,.b (.ptr 10002 0)),(4,.b (.ptr 10003 0)),(5,.b (.ptr 10004 0)),sp 6,bo 9 5000],[a3 10001 1,a3 10002 1,a3 10003 1,a3 10004 1,a3 6 4,aV 5000 1,(10000,.box [.fn (.func ze) [] [.ptr 10000 0,.ptr 10001 0,.ptr 10002 0,.ptr 10003 0,.ptr 10004 0]])],[]⟩)],dI [],dx [(26,⟨AW,Ap,6020,[]⟩)],dO [],dH []⟩ bz (bc (acK n) (bc (acL n) (bc (auB n) aY))) (bA auD ar) bu Tryz.func102 []
def acM:∀n,dC aZ a0 AW (vp n)
 |0=>uM (s:=AW) (uN (T:=dr aZ) (os:=λ_=>none) Tryz.func102) (λ_=>rfl)|n+1=>by have ih:=acM n;exact auC (vp n) n ih
def auE(n:Nat):dC aZ a0 AW (vp n):=(acM n)
def acN(n:Nat):bC aZ a0 66 (rW n):=Ft ⟨dr aZ,a0,dy [(100,xt n),(101,zZ n)],n,[],bF [],bF [],bF [],dI [],dx [(34,⟨AW,vp n,6010,[]⟩)],dO [],dH []⟩ bz (bc (acG n) (bc (acD n) aY)) (bA (auE n) ar) bu Tryz.func66
def acO(n:Nat):bC aZ a0 31 (Aq n):=Ft (b6 n [(66,rW n)] [] [] []) bz (bc (acN n) aY) ar bu Tryz.func31
def auF(n:Nat):bC aZ a0 30 (xz n):=Ft (b6 n [(31,Aq n)] [(2,⟨[ai 2,ai 3,sp 4,ai 11,ai 12,ai 13],[a3 4 8],[]⟩)] [] [(0,⟨[],[],[]⟩)]) bz (bc (acO n) aY) ar bu Tryz.func30
def auG(n:Nat)(ad:D)(x1:List D){r:D}(h:Mj n ad x1=some r):fb aZ a0 68 [ad,.ref x1 0] (·=r):=fK (b6 n [] [] [] []) bz aY ar bu Tryz.func68 (cn (rr sW le_nil)) h
def auH(n:Nat):bC aZ a0 68 (HR n):=by
 intro aO r h;unfold HR at h;split at h
 case h_2=>cases h
 split at h
 case h_2=>cases h
 exact auG n _ _ h
def auI(n:Nat)(ad:D)(cO:D){r:D}(h:HT n ad cO=some r):fb aZ a0 67 [ad,(D.fn (.func Cn) [] [cO])] (·=r):=fK (b6 n [(68,HR n)] [(2,⟨[ai 0,(1,.b (.fd Cn 1)),ai 7,ai 8],[],[]⟩)] [] [(0,⟨[],[],[]⟩)]) bz (bc (auH n) aY) ar bu Tryz.func67 (cn (cn le_nil)) h
def auJ(n:Nat):bC aZ a0 67 (Ar n):=by
 intro aO r h;unfold Ar at h;split at h
 case h_2=>cases h
 split at h
 case h_2=>cases h
 rename_i an;obtain rfl:=nb an;exact auI n _ _ h
def auK(n:Nat):bC aZ a0 32 (HU n):=eb (b6 n [(66,rW n),(67,Ar n)] [(3,⟨[ai 1,sp 2,bo 6 5000,ai 14,ai 15,ai 16],[a3 2 8,aV 5000 2],[.slot 6 5000 2]⟩)] [] [(0,⟨[bo 6 5000],[aV 5000 2],[]⟩)]) bz (bc (acN n) (bc (auJ n) aY)) ar bu Tryz.func32
def auL(n:Nat)(ad:D)(x1:List D){r:D}(h:Ml n ad x1=some r):fb aZ a0 34 [ad,.ref x1 0] (·=r):=fK (b6 n [] [] [] []) bz aY ar bu Tryz.func34 (cn (rr sW le_nil)) h
def auM(n:Nat):bC aZ a0 34 (HV n):=by
 intro aO r h;unfold HV at h;split at h
 case h_2=>cases h
 split at h
 case h_2=>cases h
 exact auL n _ _ h
def auN(n:Nat)(ad:D)(cO:D){r:D}(h:HX n ad cO=some r):fb aZ a0 69 [ad,(D.fn (.func s4) [] [cO])] (·=r):=fK (b6 n [(34,HV n)] [(2,⟨[ai 0,(1,.b (.fd s4 1)),ai 7,ai 8],[],[]⟩)] [] [(0,⟨[],[],[]⟩)]) bz (bc (auM n) aY) ar bu Tryz.func69 (cn (cn le_nil)) h
def auO(n:Nat):bC aZ a0 69 (CZ n):=by
 intro aO r h;unfold CZ at h;split at h
 case h_2=>cases h
 split at h
 case h_2=>cases h
 rename_i an;obtain rfl:=nb an;exact auN n _ _ h
def auP(n:Nat)(ad:D)(cO:D){r:D}(h:HY n ad cO=some r):fb aZ a0 33 [ad,(D.fn (.func s4) [] [cO])] (·=r):=fK (b6 n [(69,CZ n)] [] [] []) bz (bc (auO n) aY) ar bu Tryz.func33 (cn (cn le_nil)) h
def auQ(n:Nat):bC aZ a0 33 (As n):=by
 intro aO r h;unfold As at h;split at h
 case h_2=>cases h
 split at h
 case h_2=>cases h
 rename_i an;obtain rfl:=nb an;exact auP n _ _ h
def auR(n:Nat):bC aZ a0 9 (At n):=cE ⟨dr aZ,a0,dy [(26,nj n),(27,Ah n),(28,HE n),(29,CY n),(30,xz n),(31,Aq n),(32,HU n),(33,As n)],n,[],bF [(12,⟨[sp 2,sp 10,ai 59,ai 60,ai 61],[(2,.box [.b (.row 5001),.b (.d),.b (.d),.b (.d)]),a3 10 8,aV 5001 1],[.box 2 0 5001 1]⟩),(18,⟨[sp 2,sp 10,bo 79 5001,ai 80,ai 81],[(2,.box [.b (.row 5001),.b (.row 5006),.b (.row 5007),.b (.row 5008)]),a3 10 8,aV 5001 1,aV 5006 1,aV 5007 1,aV 5008 1],[.box 2 1 5006 1,.box 2 2 5007 1,.box 2 3 5008 1]⟩),(24,⟨[sp 2,sp 10,ai 14,bo 15 5003,bo 79 5001,ai 80,ai 81,ai 100,ai 101,ai 102],[(2,.box [.b (.row 5001),.b (.row 5006),.b (.row 96),.b (.row 5008)]),a3 10 8,aV 5003 1,aV 5001 1,aV 5006 1,aV 96 1,aV 5008 1],[.slot 15 5003 1]⟩),(32,⟨[sp 2,sp 10,ai 14,bo 18 5005,ai 19,ai 20,bo 79 5001,ai 80,ai 81,bo 127 5001,ai 128,ai 129],[(2,.box [.b (.row 5001),.b (.row 5006),.b (.row 96),.b (.row 118)]),a3 10 8,aV 5005 1,aV 5001 1,aV 5006 1,aV 96 1,aV 118 1],[.slot 18 5005 1]⟩)],bF [(70000015,⟨[sp 2,sp 10,ai 59,ai 60,ai 61],[(2,.box [.b (.row 75),.b (.d),.b (.d),.b (.d)]),a3 10 8,aV 75 1],[.box 2 0 5000 1]⟩),(91000021,⟨[sp 2,sp 10,ai 14,bo 79 5001,ai 80,ai 81],[(2,.box [.b (.row 5001),.b (.row 5006),.b (.row 96),.b (.row 5008)]),a3 10 8,aV 5001 1,aV 5006 1,aV 96 1,aV 5008 1],[.box 2 2 5002 1]⟩),(149000035,⟨[sp 2,sp 10,ai 14,bo 18 153,ai 19,ai 20,bo 79 5001,ai 80,ai 81,bo 127 5001,ai 128,ai 129],[(2,.box [.b (.row 5001),.b (.row 5006),.b (.row 96),.b (.row 118)]),a3 10 8,aV 153 1,aV 5001 1,aV 5006 1,aV 96 1,aV 118 1],[.slot 18 5004 1]⟩)],bF [(0,⟨[sp 2,sp 10],[(2,.box [.b (.row 5001),.b (.d),.b (.d),.b (.d)]),a3 10 8,aV 5001 1],[]⟩),(1,⟨[sp 2,sp 10,ai 59,ai 60,ai 61],[(2,.box [.b (.row 75),.b (.d),.b (.d),.b (.d)]),a3 10 8,aV 75 1],[]⟩),(2,⟨[sp 2],[(2,.box [.b (.row 5001),.b (.row 5006),.b (.row 5007),.b (.row 5008)]),aV 5001 1,aV 5006 1,aV 5007 1,aV 5008 1],[]⟩),(3,⟨[sp 2,sp 10,bo 79 5001,ai 80,ai 81],[(2,.box [.b (.row 5001),.b (.row 159),.b (.row 96),.b (.row 118)]),a3 10 8,aV 5001 1,aV 159 1,aV 96 1,aV 118 1],[]⟩),(4,⟨[sp 2,sp 10,ai 14,bo 15 5003,bo 79 5001,ai 80,ai 81],[(2,.box [.b (.row 5001),.b (.row 5006),.b (.row 96),.b (.row 5008)]),a3 10 8,aV 5003 1,aV 5001 1,aV 5006 1,aV 96 1,aV 5008 1],[]⟩),(6,⟨[sp 2,sp 10,bo 18 5005,bo 79 5001,ai 80,ai 81],[(2,.box [.b (.row 5001),.b (.row 5006),.b (.row 96),.b (.row 118)]),a3 10 8,aV 5005 1,aV 5001 1,aV 5006 1,aV 96 1,aV 118 1],[]⟩),(7,⟨[sp 2,sp 10,ai 14,bo 18 153,ai 19,ai 20,bo 79 5001,ai 80,ai 81,bo 127 5001,ai 128,ai 129],[(2,.box [.b (.row 5001),.b (.row 5006),.b (.row 96),.b (.row 118)]),a3 10 8,aV 153 1,aV 5001 1,aV 5006 1,aV 96 1,aV 118 1],[]⟩)],dI [],dx [],dO [117,158],dH []⟩ bz (bc (auh n) (bc (aui n) (bc (auq n) (bc (auv n) (bc (auF n) (bc (acO n) (bc (auK n) (bc (auQ n) aY)))))))) ar bu Tryz.func9
def xK(k:Nat)(d:D):d.le (tz k d):=by
 unfold tz;split;.exact D.nil_le k
 exact D.le_refl _
def auS(d:D):d.le (SB d):=by
 unfold SB;split
 .refine D.ahb rfl ?_;intro i x y ah aK
  match i,ah,aK with
  |0,ah,aK=>cases ah;cases aK;exact xK _ _
  |1,ah,aK=>cases ah;cases aK;exact xK _ _
  |2,ah,aK=>cases ah;cases aK;exact xK _ _
  |3,ah,aK=>cases ah;cases aK;exact xK _ _
  |4,ah,aK=>cases ah;cases aK;exact xK _ _
  |5,ah,aK=>cases ah;cases aK;exact xK _ _
  |6,ah,aK=>cases ah;cases aK;exact xK _ _
  |7,ah,aK=>cases ah;cases aK;exact xK _ _
  |i+8,ah,aK=>cases ah
 exact D.le_refl _
def T8(n:Nat):bC aZ a0 9 (lg n):=by
 intro aO r h;unfold lg at h;split at h
 case h_2=>cases h
 rename_i a;have H:=auR n _ r h;refine⟨H.fn,?_⟩;intro m fr w vs c0 dD cU;refine H.run m fr w vs c0 dD ⟨cU.1,?_⟩;intro i d v aA aN;cases i with|zero=>simp only[xbs,xay]at aA;subst aA;exact auS a m v (cU.2 0 a v rfl aN)|succ i=>simp at aA
def T9(n:Nat):bC aZ a0 25 (pP n):=eb (b6 n [] [(4,⟨[ai 0,ai 1,ai 5],[],[]⟩)] [] [(0,⟨[],[],[]⟩)]) bz aY ar bu Tryz.func25
def Ua(n:Nat):dC aZ a0 MO (Au n):=fX ⟨dr aZ,a0,dy [],n,[10000],bF [],bF [(24000001,⟨[],[(10000,.box [.b (.row 9000),.b (.row 38)]),aV 9000 1,aV 38 1],[]⟩)],bF [],dI [],dx [],dO [],dH []⟩ bz aY ar bu Tryz.func40 []
def acP(n:Nat):dC aZ a0 TS (H2 n):=fX ⟨dr aZ,a0,dy [],n,[10000],bF [(1,⟨[(1,.fn (.func Rm) [.ptr 10000 0] []),ai 6,ai 7,ai 8],[(10000,.box [.b (.row 9000),.b (.row 9001)]),aV 9000 1,aV 9001 1],[]⟩)],bF [],bF [(0,⟨[],[(10000,.box [.b (.row 9000),.b (.row 9001)]),aV 9000 1,aV 9001 1],[]⟩)],dI [],dx [(14,⟨MO,Au n,6010,[]⟩)],dO [],dH []⟩ bz aY (bA (Ua n) ar) bu Tryz.func41 []
def auT(n:Nat):bC aZ a0 12 (SF n):=eb ⟨dr aZ,a0,dy [],n,[],bF [(4,⟨[sp 2,(5,.b (.ptr 13 0)),(6,.fn (.func Rm) [.ptr 13 0] [])],[a3 2 4,(13,.box [.b (.row 6010),.b (.row 6011)]),aV 6010 1,aV 6011 1],[]⟩)],bF [],bF [(0,⟨[(5,.b (.ptr 13 0))],[(13,.box [.b (.row 6010),.b (.row 6011)]),aV 6010 1,aV 6011 1],[]⟩)],dI [(6,[1,2,3,4,5,6,7,8,0,9,10,11,12,13])],dx [(18,⟨TS,H2 n,6010,[.box 13 1 5900 1]⟩),(57,⟨TS,H2 n,6020,[]⟩)],dO [40048],dH []⟩ bz aY (bA (acP n) (bA (acP n) ar)) bu Tryz.func12
def acQ(n:Nat):bC aZ a0 19 (Av n):=eb (b6 n [] [(4,⟨[ai 0,ai 1,ai 5],[],[]⟩)] [] [(0,⟨[],[],[]⟩)]) bz aY ar bu Tryz.func19
def auU(n:Nat)(ad:D)(x1:List D){r:D}(h:abk n ad x1=some r):fb aZ a0 42 [ad,.ref x1 0] (·=r):=fK (b6 n [] [] [] []) bz aY ar bu Tryz.func42 (cn (rr sW le_nil)) h
def acR(n:Nat):bC aZ a0 42 (Aw n):=by
 intro aO r h;unfold Aw at h;split at h
 case h_2=>cases h
 split at h
 case h_2=>cases h
 exact auU n _ _ h
def auV(n:Nat)(ad:D)(cO:D){r:D}(h:abl n ad cO=some r):fb aZ a0 43 [ad,(D.fn (.func lb) [] [cO])] (·=r):=fK ⟨dr aZ,a0,dy [(42,Aw n)],n,[],bF [(4,⟨[ai 0,(1,.b (.fd lb 1)),bo 5 5003,bo 6 13,ai 15,ai 16],[aV 5003 1,aV 13 1],[.slot 5 5003 1]⟩),(9,⟨[ai 0,(1,.b (.fd lb 1)),bo 5 5003,bo 6 13,bo 8 34,ai 15,ai 16],[aV 5003 1,aV 13 1,aV 34 2],[.slot 5 5001 1]⟩)],bF [(97000017,⟨[ai 0,(1,.b (.fd lb 1)),bo 5 5003,bo 6 13,bo 8 105,ai 15,ai 16],[aV 5003 1,aV 13 1,aV 105 2],[]⟩)],bF [(0,⟨[bo 5 5003],[aV 5003 1],[]⟩),(1,⟨[ai 0,(1,.b (.fd lb 1)),bo 5 5003,bo 6 13,ai 15,ai 16],[aV 5003 1,aV 13 1],[.slot 5 5002 1]⟩),(2,⟨[ai 0,(1,.b (.fd lb 1)),bo 5 5003,bo 6 13,ai 15,ai 16],[aV 5003 1,aV 13 1],[]⟩),(3,⟨[ai 0,(1,.b (.fd lb 1)),bo 5 62,bo 6 13,bo 8 67,ai 15,ai 16],[aV 62 1,aV 13 1,aV 67 2],[.slot 5 5000 1]⟩)],dI [],dx [],dO [67],dH []⟩ bz (bc (acR n) aY) ar bu Tryz.func43 (cn (cn le_nil)) h
def auW(n:Nat):bC aZ a0 43 (Mr n):=by
 intro aO r h;unfold Mr at h;split at h
 case h_2=>cases h
 split at h
 case h_2=>cases h
 rename_i an;obtain rfl:=nb an;exact auV n _ _ h
def auX(n:Nat):bC aZ a0 17 (SJ n):=cE ⟨dr aZ,a0,dy [],n,[],bF [(3,⟨[bo 3 11,ai 13,ai 14,ai 15],[aV 11 1],[]⟩),(6,⟨[bo 3 11,ai 4,ai 13,ai 14,ai 15,ai 20,ai 21,ai 22],[aV 11 1],[]⟩)],bF [],bF [(0,⟨[bo 3 11],[aV 11 1],[]⟩),(1,⟨[bo 3 11,ai 13,ai 14,ai 15],[aV 11 1],[]⟩),(2,⟨[bo 3 11,ai 13,ai 14,ai 15],[aV 11 1],[]⟩)],dI [],dx [],dO [20035],dH []⟩ bz aY ar bu Tryz.func17
def auY(n:Nat):dC aZ a0 abP (SK n):=fX ⟨dr aZ,a0,dy [(42,Aw n)],n,[10000,10001,10002],bF [],bF [(6000001,⟨[],[(10000,.box [.fn (.func lb) [] [.dV 0]]),(10001,.box [.b (.ptr 10002 0)]),(10002,.box [.b (.row 6010),.b (.row 6011)]),aV 6010 1,aV 6011 1],[]⟩)],bF [],dI [],dx [(9,⟨MO,Au n,6010,[]⟩)],dO [],dH []⟩ bz (bc (acR n) aY) (bA (Ua n) ar) bu Tryz.func44 []
def auZ(n:Nat):dC aZ a0 abQ (SL n):=fX ⟨dr aZ,a0,dy [],n,[10000,10001,10002],bF [(1,⟨[(1,.fn (.func Z8) [] [.ptr 10000 0,.ptr 10001 0]),ai 6,ai 7,ai 8],[(10000,.box [.fn (.func lb) [] [.dV 0]]),(10001,.box [.b (.ptr 10002 0)]),(10002,.box [.b (.row 9000),.b (.row 9001)]),aV 9000 1,aV 9001 1],[]⟩)],bF [],bF [(0,⟨[],[(10000,.box [.fn (.func lb) [] [.dV 0]]),(10001,.box [.b (.ptr 10002 0)]),(10002,.box [.b (.row 9000),.b (.row 9001)]),aV 9000 1,aV 9001 1],[]⟩)],dI [],dx [(14,⟨abP,SK n,6010,[]⟩)],dO [],dH []⟩ bz aY (bA (auY n) ar) bu Tryz.func41 []
def au0(n:Nat):bC aZ a0 126 (SM n):=cE (b6 n [] [] [(4000002,⟨[ai 0,ai 2],[],[]⟩),(8000005,⟨[ai 0,ai 2],[],[]⟩),(14000008,⟨[ai 0,ai 2],[],[]⟩)] []) bz aY ar bu Tryz.func126
def Ub(n:Nat):bC aZ a0 80 (Az n):=cE (b6 n [(126,SM n)] [] [] []) bz (bc (au0 n) aY) ar bu Tryz.func80
def acS(n:Nat):bC aZ a0 135 (AA n):=cE (b6 n [] [] [] []) bz aY ar bu Tryz.func135
def AX(n:Nat):bC aZ a0 122 (kz n):=eb (b6 n [(135,AA n)] [] [] []) bz (bc (acS n) aY) ar bu Tryz.func122
def au1(n:Nat):dC aZ a0 abR (SQ n):=fX ⟨dr aZ,a0,dy [(122,kz n)],n,[10000],bF [(1,⟨[bo 0 10000,ai 1,ai 2,ai 6],[aV 10000 1],[]⟩),(4,⟨[bo 0 10000,ai 1,ai 2,ai 6,ai 7],[aV 10000 1],[]⟩)],bF [],bF [(0,⟨[],[aV 10000 1],[]⟩),(1,⟨[bo 0 10000,ai 1,ai 2,ai 6],[aV 10000 1],[]⟩),(2,⟨[bo 0 10000,ai 1,ai 2,ai 6],[aV 10000 1],[]⟩)],dI [(6,[0,1,2,3,5,6,7,8,9,10,11,12,13,14,4,15,16,17])],dx [],dO [],dH []⟩ bz (bc (AX n) aY) ar bu Tryz.func116 []
def acT(n:Nat):dC aZ a0 TT (Ib n):=fX ⟨dr aZ,a0,dy [(122,kz n)],n,[10000],bF [(1,⟨[bo 0 10000,ai 2,ai 3,ai 8],[aV 10000 1],[]⟩)],bF [(36000004,⟨[bo 0 10000,ai 2,ai 3,ai 8,ai 9],[aV 10000 1],[]⟩)],bF [(0,⟨[],[aV 10000 1],[]⟩)],dI [(6,[0,1,2,3,4,5,6,8,9,10,11,12,13,14,15,16,17,18,19,20,7,21,22,23])],dx [],dO [],dH []⟩ bz (bc (AX n) aY) ar bu Tryz.func166 []
def au2(n:Nat):dC aZ a0 abS (SR n):=fX ⟨dr aZ,a0,dy [],n,[10000],bF [(4,⟨[bo 0 10000,ai 6,ai 7,ai 8,ai 9],[aV 10000 1],[]⟩),(8,⟨[bo 0 10000,ai 6,ai 7,ai 10],[aV 10000 1],[]⟩)],bF [],bF [(0,⟨[bo 0 10000,ai 6,ai 7,ai 8],[aV 10000 1],[]⟩),(2,⟨[],[aV 10000 1],[]⟩)],dI [(10,[0,1,2,3,4,6,7,8,9,10,11,12,13,14,15,16,5,17,18,19])],dx [(26,⟨TT,Ib n,6010,[]⟩),(55,⟨TT,Ib n,6020,[]⟩)],dO [],dH []⟩ bz aY (bA (acT n) (bA (acT n) ar)) bu Tryz.func117 []
def acU(n:Nat):bC aZ a0 167 (Ic n):=cE (b6 n [(80,Az n)] [] [] []) bz (bc (Ub n) aY) ar bu Tryz.func167
def acV(n:Nat):dC aZ a0 TU (Ie n):=fX ⟨dr aZ,a0,dy [],n,[10000],bF [],bF [],bF [],dI [],dx [],dO [],dH []⟩ bz aY ar bu Tryz.func168 []
def au3(n:Nat):dC aZ a0 abT (SS n):=fX ⟨dr aZ,a0,dy [(167,Ic n)],n,[10000],bF [(5,⟨[bo 0 10000,ai 1,ai 6,sp 7,ai 8,ai 9],[aV 10000 1,a3 7 1],[]⟩)],bF [(15000002,⟨[],[aV 10000 1],[]⟩),(43000009,⟨[bo 0 10000,ai 1,ai 6,sp 7,ai 8,ai 9,ai 10],[aV 10000 1,a3 7 1],[]⟩)],bF [(0,⟨[],[aV 10000 1],[]⟩)],dI [(10,[0,1,2,3,4,6,7,8,9,10,11,12,13,14,15,16,5,17,18,19])],dx [(36,⟨TU,Ie n,6010,[]⟩)],dO [],dH []⟩ bz (bc (acU n) aY) (bA (acV n) ar) bu Tryz.func118 []
def Uc(n:Nat):dC aZ a0 MP (AB n):=fX ⟨dr aZ,a0,dy [(122,kz n)],n,[10000],bF [],bF [],bF [],dI [],dx [],dO [],dH []⟩ bz (bc (AX n) aY) ar bu Tryz.func196 []
def acW(n:Nat):dC aZ a0 TV (Ii n):=fX ⟨dr aZ,a0,dy [],n,[10000],bF [],bF [],bF [],dI [],dx [(16,⟨MP,AB n,6010,[]⟩),(24,⟨MP,AB n,6020,[]⟩),(32,⟨MP,AB n,6030,[]⟩)],dO [],dH []⟩ bz aY (bA (Uc n) (bA (Uc n) (bA (Uc n) ar))) bu Tryz.func170 []
def Ud(n:Nat):dC aZ a0 MQ (AD n):=fX ⟨dr aZ,a0,dy [],n,[10000],bF [],bF [],bF [],dI [],dx [(14,⟨TV,Ii n,6010,[]⟩)],dO [],dH []⟩ bz aY (bA (acW n) ar) bu Tryz.func169 []
def au4(n:Nat):bC aZ a0 119 (SU n):=ku ⟨dr aZ,a0,dy [],n,[],bF [],bF [(32000007,⟨[sp 9,ai 11],[a3 9 1],[]⟩),(34000008,⟨[ai 0,sp 9,ai 10,ai 11,ai 12],[a3 9 1],[]⟩)],bF [],dI [],dx [(37,⟨MQ,AD n,6010,[]⟩),(40,⟨MQ,AD n,6020,[]⟩),(43,⟨MQ,AD n,6030,[]⟩),(48,⟨TV,Ii n,6040,[]⟩)],dO [],dH []⟩ bz aY (bA (Ud n) (bA (Ud n) (bA (Ud n) (bA (acW n) ar)))) bu Tryz.func119
def au5(n:Nat):dC aZ a0 abU (SY n):=fX ⟨dr aZ,a0,dy [],n,[10000],bF [(2,⟨[bo 0 10000,ai 6,ai 7],[aV 10000 1],[]⟩)],bF [],bF [(0,⟨[],[aV 10000 1],[]⟩)],dI [],dx [],dO [],dH []⟩ bz aY ar bu Tryz.func120 []
def au6(n:Nat):dC aZ a0 abV (S8 n):=fX ⟨dr aZ,a0,dy [(122,kz n)],n,[10000],bF [(3,⟨[bo 0 10000,ai 1,ai 2,ai 7,ai 8],[aV 10000 1],[]⟩),(5,⟨[bo 0 10000,ai 1,ai 2,ai 7,ai 8],[aV 10000 1],[]⟩),(14,⟨[bo 0 10000,ai 1,ai 2,ai 7,ai 8,ai 9],[aV 10000 1],[]⟩),(20,⟨[bo 0 10000,ai 1,ai 2,ai 7,ai 8,ai 10],[aV 10000 1],[]⟩)],bF [(61000013,⟨[bo 0 10000,ai 1,ai 2,ai 7,ai 8],[aV 10000 1],[]⟩),(98000019,⟨[bo 0 10000,ai 1,ai 2,ai 7,ai 8],[aV 10000 1],[]⟩)],bF [(0,⟨[],[aV 10000 1],[]⟩),(1,⟨[bo 0 10000,ai 1,ai 2,ai 7,ai 8],[aV 10000 1],[]⟩),(2,⟨[bo 0 10000,ai 1,ai 2,ai 7,ai 8],[aV 10000 1],[]⟩),(4,⟨[bo 0 10000,ai 1,ai 2,ai 7,ai 8],[aV 10000 1],[]⟩),(6,⟨[bo 0 10000,ai 1,ai 2,ai 7,ai 8],[aV 10000 1],[]⟩)],dI [(11,[0,1,2,3,5,6,7,8,9,10,11,12,13,14,4,15,16,17]),(17,[0,1,2,3,5,6,7,8,9,10,11,12,13,14,4,15,16,17]),(23,[0,1,2,3,5,6,7,8,9,10,11,12,13,14,4,15,16,17])],dx [],dO [],dH []⟩ bz (bc (AX n) aY) ar bu Tryz.func121 []
def au7(n:Nat):dC aZ a0 abW (Td n):=fX ⟨dr aZ,a0,dy [(122,kz n)],n,[10000],bF [(3,⟨[bo 0 10000,ai 1,ai 9,ai 10],[aV 10000 1],[]⟩),(5,⟨[bo 0 10000,ai 1,ai 9,ai 10],[aV 10000 1],[]⟩)],bF [],bF [(0,⟨[ai 9],[aV 10000 1],[]⟩),(1,⟨[bo 0 10000,ai 1,ai 9,ai 10],[aV 10000 1],[]⟩),(2,⟨[bo 0 10000,ai 1,ai 9,ai 10],[aV 10000 1],[]⟩),(4,⟨[bo 0 10000,ai 1,ai 9,ai 10],[aV 10000 1],[]⟩)],dI [],dx [],dO [],dH []⟩ bz (bc (AX n) aY) ar bu Tryz.func123 []
def au8(n:Nat):dC aZ a0 abX (Tj n):=fX ⟨dr aZ,a0,dy [(122,kz n)],n,[10000],bF [(3,⟨[bo 0 10000,ai 1,ai 10,ai 11],[aV 10000 1],[]⟩),(5,⟨[bo 0 10000,ai 1,ai 10,ai 11],[aV 10000 1],[]⟩),(13,⟨[bo 0 10000,ai 1,ai 10,ai 11],[aV 10000 1],[]⟩),(15,⟨[bo 0 10000,ai 1,ai 10,ai 11],[aV 10000 1],[]⟩)],bF [],bF [(0,⟨[bo 0 10000,ai 1,ai 10,ai 11],[aV 10000 1],[]⟩),(2,⟨[bo 0 10000,ai 1,ai 10,ai 11],[aV 10000 1],[]⟩),(4,⟨[bo 0 10000,ai 1,ai 11],[aV 10000 1],[]⟩),(5,⟨[bo 0 10000,ai 1,ai 10,ai 11],[aV 10000 1],[]⟩),(6,⟨[bo 0 10000,ai 1,ai 10,ai 11],[aV 10000 1],[]⟩),(8,⟨[bo 0 10000,ai 1,ai 10,ai 11],[aV 10000 1],[]⟩)],dI [],dx [],dO [],dH []⟩ bz (bc (AX n) aY) ar bu Tryz.func124 []
def au9(vB:List D->Option (List D))(n:Nat)(acX:dC aZ a0 xI vB):dC aZ a0 xI (abq vB n):=fX ⟨dr aZ,a0,dy [(119,SU n),(122,kz n)],n,[10000],bF [(2,⟨[bo 0 10000,ai 1,ai 2,ai 3,ai 8,ai 9],[aV 10000 1],[]⟩)],bF [(35000008,⟨[bo 0 10000,ai 1,ai 2,ai 3,ai 8,ai 9,ai 10],[aV 10000 1],[]⟩),(50000012,⟨[bo 0 10000,ai 1,ai 2,ai 3,ai 8,ai 9,ai 10,ai 11,ai 12],[aV 10000 1],[]⟩),(68000016,⟨[bo 0 10000,ai 1,ai 2,ai 3,ai 8,ai 9,ai 10,ai 11],[aV 10000 1],[]⟩),(113028025,⟨[bo 0 10000,ai 1,ai 2,ai 3,ai 8,ai 9],[aV 10000 1],[]⟩)],bF [(1,⟨[bo 0 10000,ai 1,ai 2,ai 3,ai 8,ai 9],[aV 10000 1],[]⟩)],dI [],dx [(27,⟨abR,SQ n,6010,[]⟩),(33,⟨abS,SR n,6020,[]⟩),(39,⟨abT,SS n,6030,[]⟩),(54,⟨abU,SY n,6040,[]⟩),(72,⟨abV,S8 n,6050,[]⟩),(92,⟨abW,Td n,6060,[]⟩),(99,⟨abX,Tj n,6070,[]⟩),(121,⟨xI,vB,6080,[]⟩),(132,⟨xI,vB,6090,[]⟩)],dO [],dH []⟩ bz (bc (au4 n) (bc (AX n) aY)) (bA (au1 n) (bA (au2 n) (bA (au3 n) (bA (au5 n) (bA (au6 n) (bA (au7 n) (bA (au8 n) (bA acX (bA acX ar))))))))) bu Tryz.func79 []
def acY:∀n,dC aZ a0 xI (C8 n)
 |0=>uM (s:=xI) (uN (T:=dr aZ) (os:=λ_=>none) Tryz.func79) (λ_=>rfl)|n+1=>by have ih:=acY n;exact au9 (C8 n) n ih
def ava(n:Nat):dC aZ a0 xI (C8 n):=(acY n)
def avb(n:Nat):dC aZ a0 abY (To n):=fX ⟨dr aZ,a0,dy [(80,Az n)],n,[10000],bF [],bF [],bF [],dI [],dx [(10,⟨xI,C8 n,6010,[]⟩)],dO [],dH []⟩ bz (bc (Ub n) aY) (bA (ava n) ar) bu Tryz.func45 []
def avc(n:Nat):bC aZ a0 82 (Tp n):=eb (b6 n [(135,AA n)] [] [] []) bz (bc (acS n) aY) ar bu Tryz.func82
def AY(n:Nat):bC aZ a0 47 (kA n):=eb (b6 n [(82,Tp n)] [(2,⟨[ai 0,ai 1,ai 9,ai 10,ai 11],[],[]⟩)] [] [(0,⟨[ai 0,ai 1],[],[]⟩)]) bz (bc (avc n) aY) ar bu Tryz.func47
def avd(n:Nat):dC aZ a0 abZ (Tq n):=fX ⟨dr aZ,a0,dy [(47,kA n)],n,[10000],bF [(1,⟨[bo 0 10000,ai 1,ai 2,(3,.b (.eY e0)),ai 8],[aV 10000 1],[]⟩),(4,⟨[bo 0 10000,ai 1,ai 2,(3,.b (.eY e0)),ai 8,ai 9],[aV 10000 1],[]⟩)],bF [],bF [(0,⟨[],[aV 10000 1],[]⟩),(1,⟨[bo 0 10000,ai 1,ai 2,(3,.b (.eY e0)),ai 8],[aV 10000 1],[]⟩),(2,⟨[bo 0 10000,ai 1,ai 2,(3,.b (.eY e0)),ai 8],[aV 10000 1],[]⟩)],dI [(6,[0,1,2,3,5,6,7,8,9,10,11,12,13,14,4,15,16,17])],dx [],dO [],dH []⟩ bz (bc (AY n) aY) ar bu Tryz.func127 []
def acZ(n:Nat):dC aZ a0 TW (Im n):=fX ⟨dr aZ,a0,dy [(47,kA n)],n,[10000],bF [(1,⟨[bo 0 10000,ai 2,ai 3,(4,.b (.eY e0)),ai 10],[aV 10000 1],[]⟩)],bF [(40000004,⟨[bo 0 10000,ai 2,ai 3,(4,.b (.eY e0)),ai 10,ai 11],[aV 10000 1],[]⟩)],bF [(0,⟨[],[aV 10000 1],[]⟩)],dI [(6,[0,1,2,3,4,5,6,8,9,10,11,12,13,14,15,16,17,18,19,20,7,21,22,23])],dx [],dO [],dH []⟩ bz (bc (AY n) aY) ar bu Tryz.func171 []
def ave(n:Nat):dC aZ a0 ab0 (Tr n):=fX ⟨dr aZ,a0,dy [],n,[10000],bF [(4,⟨[bo 0 10000,(3,.b (.eY e0)),ai 8,ai 9,ai 10,ai 11],[aV 10000 1],[]⟩),(8,⟨[bo 0 10000,(3,.b (.eY e0)),ai 8,ai 9,ai 12],[aV 10000 1],[]⟩)],bF [],bF [(0,⟨[bo 0 10000,(3,.b (.eY e0)),ai 8,ai 9,ai 10],[aV 10000 1],[]⟩),(2,⟨[],[aV 10000 1],[]⟩)],dI [(10,[0,1,2,3,4,6,7,8,9,10,11,12,13,14,15,16,5,17,18,19])],dx [(29,⟨TW,Im n,6010,[]⟩),(59,⟨TW,Im n,6020,[]⟩)],dO [],dH []⟩ bz aY (bA (acZ n) (bA (acZ n) ar)) bu Tryz.func128 []
def avf(n:Nat):dC aZ a0 ab1 (Tt n):=fX ⟨dr aZ,a0,dy [(167,Ic n)],n,[10000],bF [(5,⟨[bo 0 10000,ai 1,ai 8,sp 9,ai 10,ai 11],[aV 10000 1,a3 9 1],[]⟩)],bF [(17000002,⟨[],[aV 10000 1],[]⟩),(45000009,⟨[bo 0 10000,ai 1,ai 8,sp 9,ai 10,ai 11,ai 12],[aV 10000 1,a3 9 1],[]⟩)],bF [(0,⟨[],[aV 10000 1],[]⟩)],dI [(10,[0,1,2,3,4,6,7,8,9,10,11,12,13,14,15,16,5,17,18,19])],dx [(38,⟨TU,Ie n,6010,[]⟩)],dO [],dH []⟩ bz (bc (acU n) aY) (bA (acV n) ar) bu Tryz.func129 []
def Ue(n:Nat):dC aZ a0 MR (AF n):=fX ⟨dr aZ,a0,dy [(47,kA n)],n,[10000],bF [],bF [],bF [],dI [],dx [],dO [],dH []⟩ bz (bc (AY n) aY) ar bu Tryz.func197 []
def ac0(n:Nat):dC aZ a0 TX (Io n):=fX ⟨dr aZ,a0,dy [],n,[10000],bF [],bF [],bF [],dI [],dx [(19,⟨MR,AF n,6010,[]⟩),(28,⟨MR,AF n,6020,[]⟩),(37,⟨MR,AF n,6030,[]⟩)],dO [],dH []⟩ bz aY (bA (Ue n) (bA (Ue n) (bA (Ue n) ar))) bu Tryz.func173 []
def Uf(n:Nat):dC aZ a0 MS (AG n):=fX ⟨dr aZ,a0,dy [],n,[10000],bF [],bF [],bF [],dI [],dx [(17,⟨TX,Io n,6010,[]⟩)],dO [],dH []⟩ bz aY (bA (ac0 n) ar) bu Tryz.func172 []
def avg(n:Nat)(ad:D)(au:D)(ba:D){r:D}(h:abu n ad au ba=some r):fb aZ a0 130 [ad,au,ba,(D.val (.func (.func e0) #[] #[]))] (·=r):=fK ⟨dr aZ,a0,dy [],n,[],bF [],bF [(34000007,⟨[sp 11,ai 13],[a3 11 1],[]⟩),(36000008,⟨[ai 0,(3,.b (.eY e0)),sp 11,ai 12,ai 13,ai 14],[a3 11 1],[]⟩)],bF [],dI [],dx [(40,⟨MS,AG n,6010,[]⟩),(44,⟨MS,AG n,6020,[]⟩),(48,⟨MS,AG n,6030,[]⟩),(54,⟨TX,Io n,6040,[]⟩)],dO [],dH []⟩ bz aY (bA (Uf n) (bA (Uf n) (bA (Uf n) (bA (ac0 n) ar)))) bu Tryz.func130 (cn (cn (cn (cn le_nil)))) h
def avh(n:Nat):bC aZ a0 130 (MA n):=by
 intro aO r h;unfold MA at h;split at h
 case h_2=>cases h
 obtain⟨an,h⟩:=k3 h;obtain rfl:=Zv an;exact avg n _ _ _ h
def avi(n:Nat):dC aZ a0 ab2 (Tu n):=fX ⟨dr aZ,a0,dy [],n,[10000],bF [(2,⟨[bo 0 10000,ai 8,ai 9],[aV 10000 1],[]⟩)],bF [],bF [(0,⟨[],[aV 10000 1],[]⟩)],dI [],dx [],dO [],dH []⟩ bz aY ar bu Tryz.func131 []
def avj(n:Nat):dC aZ a0 ab3 (TB n):=fX ⟨dr aZ,a0,dy [(47,kA n)],n,[10000],bF [(3,⟨[bo 0 10000,ai 1,ai 2,(3,.b (.eY e0)),ai 9,ai 10],[aV 10000 1],[]⟩),(5,⟨[bo 0 10000,ai 1,ai 2,(3,.b (.eY e0)),ai 9,ai 10],[aV 10000 1],[]⟩),(14,⟨[bo 0 10000,ai 1,ai 2,(3,.b (.eY e0)),ai 9,ai 10,ai 11],[aV 10000 1],[]⟩),(20,⟨[bo 0 10000,ai 1,ai 2,(3,.b (.eY e0)),ai 9,ai 10,ai 12],[aV 10000 1],[]⟩)],bF [(65000013,⟨[bo 0 10000,ai 1,ai 2,(3,.b (.eY e0)),ai 9,ai 10],[aV 10000 1],[]⟩),(104000019,⟨[bo 0 10000,ai 1,ai 2,(3,.b (.eY e0)),ai 9,ai 10],[aV 10000 1],[]⟩)],bF [(0,⟨[],[aV 10000 1],[]⟩),(1,⟨[bo 0 10000,ai 1,ai 2,(3,.b (.eY e0)),ai 9,ai 10],[aV 10000 1],[]⟩),(2,⟨[bo 0 10000,ai 1,ai 2,(3,.b (.eY e0)),ai 9,ai 10],[aV 10000 1],[]⟩),(4,⟨[bo 0 10000,ai 1,ai 2,(3,.b (.eY e0)),ai 9,ai 10],[aV 10000 1],[]⟩),(6,⟨[bo 0 10000,ai 1,ai 2,(3,.b (.eY e0)),ai 9,ai 10],[aV 10000 1],[]⟩)],dI [(11,[0,1,2,3,5,6,7,8,9,10,11,12,13,14,4,15,16,17]),(17,[0,1,2,3,5,6,7,8,9,10,11,12,13,14,4,15,16,17]),(23,[0,1,2,3,5,6,7,8,9,10,11,12,13,14,4,15,16,17])],dx [],dO [],dH []⟩ bz (bc (AY n) aY) ar bu Tryz.func132 []
def avk(n:Nat):dC aZ a0 ab4 (TC n):=fX ⟨dr aZ,a0,dy [(47,kA n)],n,[10000],bF [(3,⟨[bo 0 10000,ai 1,(4,.b (.eY e0)),ai 11,ai 12],[aV 10000 1],[]⟩),(5,⟨[bo 0 10000,ai 1,(4,.b (.eY e0)),ai 11,ai 12],[aV 10000 1],[]⟩)],bF [],bF [(0,⟨[ai 11],[aV 10000 1],[]⟩),(1,⟨[bo 0 10000,ai 1,(4,.b (.eY e0)),ai 11,ai 12],[aV 10000 1],[]⟩),(2,⟨[bo 0 10000,ai 1,(4,.b (.eY e0)),ai 11,ai 12],[aV 10000 1],[]⟩),(4,⟨[bo 0 10000,ai 1,(4,.b (.eY e0)),ai 11,ai 12],[aV 10000 1],[]⟩)],dI [],dx [],dO [],dH []⟩ bz (bc (AY n) aY) ar bu Tryz.func133 []
def avl(n:Nat):dC aZ a0 ab5 (TE n):=fX ⟨dr aZ,a0,dy [(47,kA n)],n,[10000],bF [(3,⟨[bo 0 10000,ai 1,(4,.b (.eY e0)),ai 12,ai 13],[aV 10000 1],[]⟩),(5,⟨[bo 0 10000,ai 1,(4,.b (.eY e0)),ai 12,ai 13],[aV 10000 1],[]⟩),(13,⟨[bo 0 10000,ai 1,(4,.b (.eY e0)),ai 12,ai 13],[aV 10000 1],[]⟩),(15,⟨[bo 0 10000,ai 1,(4,.b (.eY e0)),ai 12,ai 13],[aV 10000 1],[]⟩)],bF [],bF [(0,⟨[bo 0 10000,ai 1,(4,.b (.eY e0)),ai 12,ai 13],[aV 10000 1],[]⟩),(2,⟨[bo 0 10000,ai 1,(4,.b (.eY e0)),ai 12,ai 13],[aV 10000 1],[]⟩),(4,⟨[bo 0 10000,ai 1,ai 13],[aV 10000 1],[]⟩),(5,⟨[bo 0 10000,ai 1,(4,.b (.eY e0)),ai 12,ai 13],[aV 10000 1],[]⟩),(6,⟨[bo 0 10000,ai 1,(4,.b (.eY e0)),ai 12,ai 13],[aV 10000 1],[]⟩),(8,⟨[bo 0 10000,ai 1,(4,.b (.eY e0)),ai 12,ai 13],[aV 10000 1],[]⟩)],dI [],dx [],dO [],dH []⟩ bz (bc (AY n) aY) ar bu Tryz.func134 []
def avm(vD:List D->Option (List D))(n:Nat)(ac1:dC aZ a0 xJ vD):dC aZ a0 xJ (abz vD n):=fX ⟨dr aZ,a0,dy [(130,MA n),(47,kA n)],n,[10000],bF [(2,⟨[bo 0 10000,ai 1,ai 2,ai 3,(4,.b (.eY e0)),ai 10,ai 11],[aV 10000 1],[]⟩)],bF [(39000008,⟨[bo 0 10000,ai 1,ai 2,ai 3,(4,.b (.eY e0)),ai 10,ai 11,ai 12],[aV 10000 1],[]⟩),(56000012,⟨[bo 0 10000,ai 1,ai 2,ai 3,(4,.b (.eY e0)),ai 10,ai 11,ai 12,ai 13,ai 14],[aV 10000 1],[]⟩),(75000016,⟨[bo 0 10000,ai 1,ai 2,ai 3,(4,.b (.eY e0)),ai 10,ai 11,ai 12,ai 13],[aV 10000 1],[]⟩),(125028025,⟨[bo 0 10000,ai 1,ai 2,ai 3,(4,.b (.eY e0)),ai 10,ai 11],[aV 10000 1],[]⟩)],bF [(1,⟨[bo 0 10000,ai 1,ai 2,ai 3,(4,.b (.eY e0)),ai 10,ai 11],[aV 10000 1],[]⟩)],dI [],dx [(30,⟨abZ,Tq n,6010,[]⟩),(37,⟨ab0,Tr n,6020,[]⟩),(44,⟨ab1,Tt n,6030,[]⟩),(61,⟨ab2,Tu n,6040,[]⟩),(80,⟨ab3,TB n,6050,[]⟩),(103,⟨ab4,TC n,6060,[]⟩),(111,⟨ab5,TE n,6070,[]⟩),(134,⟨xJ,vD,6080,[]⟩),(146,⟨xJ,vD,6090,[]⟩)],dO [],dH []⟩ bz (bc (avh n) (bc (AY n) aY)) (bA (avd n) (bA (ave n) (bA (avf n) (bA (avi n) (bA (avj n) (bA (avk n) (bA (avl n) (bA ac1 (bA ac1 ar))))))))) bu Tryz.func81 []
def ac2:∀n,dC aZ a0 xJ (Da n)
 |0=>uM (s:=xJ) (uN (T:=dr aZ) (os:=λ_=>none) Tryz.func81) (λ_=>rfl)|n+1=>by have ih:=ac2 n;exact avm (Da n) n ih
def avn(n:Nat):dC aZ a0 xJ (Da n):=(ac2 n)
def avo(n:Nat):dC aZ a0 ab6 (TH n):=fX ⟨dr aZ,a0,dy [(80,Az n)],n,[10000],bF [],bF [],bF [],dI [],dx [(13,⟨xJ,Da n,6010,[]⟩)],dO [],dH []⟩ bz (bc (Ub n) aY) (bA (avn n) ar) bu Tryz.func46 []
def avp(n:Nat):bC aZ a0 13 (TI n):=eb ⟨dr aZ,a0,dy [(43,Mr n),(17,SJ n)],n,[],bF [(7,⟨[sp 5,ai 6,ai 7,sp 8,bo 9 5003,ai 10],[(5,.box [.fn (.func lb) [] [.dV 0]]),(8,.box [.b (.ptr 25 0)]),aV 5003 1,(25,.box [.b (.row 23),.b (.row 5004)]),aV 23 1,aV 5004 1],[.slot 9 5003 1,.box 25 1 5004 1]⟩),(12,⟨[sp 5,ai 6,ai 7,sp 8,bo 9 5003,ai 10,bo 11 5000],[(5,.box [.fn (.func lb) [] [.dV 0]]),(8,.box [.b (.ptr 25 0)]),aV 5003 1,aV 5000 1,(25,.box [.b (.row 6140),.b (.row 6141)]),aV 6140 1,aV 6141 1],[.slot 11 5000 1]⟩)],bF [],bF [(0,⟨[bo 9 5003],[aV 5003 1],[]⟩),(1,⟨[sp 5,ai 6,ai 7,sp 8,bo 9 5003,ai 10],[(5,.box [.fn (.func lb) [] [.dV 0]]),(8,.box [.b (.ptr 25 0)]),aV 5003 1,(25,.box [.b (.row 23),.b (.row 5004)]),aV 23 1,aV 5004 1],[.slot 9 5001 1,.box 25 1 5002 1]⟩),(2,⟨[sp 5,ai 6,ai 7,sp 8,bo 9 5003,ai 10,bo 11 5000],[(5,.box [.fn (.func lb) [] [.dV 0]]),(8,.box [.b (.ptr 25 0)]),aV 5003 1,aV 5000 1,(25,.box [.b (.row 6140),.b (.row 6141)]),aV 6140 1,aV 6141 1],[]⟩)],dI [(11,[0,1,2,3,4]),(14,[0,1,2,3,4,5,6,7])],dx [(48,⟨MO,Au n,6140,[]⟩),(78,⟨abQ,SL n,6150,[]⟩),(80,⟨abY,To n,6160,[]⟩),(86,⟨ab6,TH n,6170,[]⟩)],dO [17,40066,83],dH []⟩ bz (bc (auW n) (bc (auX n) aY)) (bA (Ua n) (bA (auZ n) (bA (avb n) (bA (avo n) ar)))) bu Tryz.func13
def ac3(n:Nat):bC aZ a0 16 (xD n):=eb (b6 n [(25,pP n)] [(4,⟨[ai 0,ai 1,ai 5],[],[]⟩)] [] [(0,⟨[],[],[]⟩)]) bz (bc (T9 n) aY) ar bu Tryz.func16
def ac4(n:Nat):bC aZ a0 8 (AH n):=BV ⟨(dr Tryz.prog).wO [54,56],a0,dy [(24,R4 n),(9,lg n),(25,pP n),(12,SF n),(19,Av n),(13,TI n),(16,xD n)],n,[],bF [],bF [],bF [],dI [],dx [],dO [49],dH []⟩ ((tok _).wO _) (bc (asC n) (bc (T8 n) (bc (T9 n) (bc (auT n) (bc (acQ n) (bc (avp n) (bc (ac3 n) aY))))))) ar bu Tryz.func8
def avq(n:Nat):bC aZ a0 70 (pS n):=eb (b6 n [(71,mm n)] [(3,⟨[ai 0,ai 1,bo 7 11,ai 8],[aV 11 4],[]⟩)] [] [(0,⟨[bo 7 11],[aV 11 4],[]⟩)]) bz (bc (MT n) aY) ar bu Tryz.func70
def avr(AI:List D->Option D)(n:Nat)(ad:D)(au:D)(avs:bC aZ a0 110 AI){r:D}(h:tA AI n ad au=some r):fb aZ a0 110 [ad,au] (·=r):=fK (b6 n [(71,mm n),(110,AI)] [(9,⟨[ai 1,sp 2,sp 4,bo 8 29,ai 9],[a3 2 6,a3 4 6,aV 29 6],[]⟩)] [] [(0,⟨[sp 2,sp 4,bo 8 29],[a3 2 6,a3 4 6,aV 29 6],[]⟩)]) bz (bc (MT n) (bc avs aY)) ar bu Tryz.func110 (cn (cn le_nil)) h
def ac5:∀n,bC aZ a0 110 (o2 n)
 |0=>(λ_ _ h=>by cases h)
 |n+1=>by
  have ih:=ac5 n;exact(by
   intro aO r h;unfold o2 at h;split at h
   case h_2=>cases h
   exact avr (o2 n) n _ _ ih h)
def avt(n:Nat):bC aZ a0 110 (o2 n):=(ac5 n)
def avu(n:Nat):bC aZ a0 72 (AJ n):=eb (b6 n [(92,zE n),(110,o2 n)] [] [] []) bz (bc (acp n) (bc (avt n) aY)) ar bu Tryz.func72
def ac6(n:Nat):bC aZ a0 35 (AK n):=cE ⟨dr aZ,a0,dy [(70,pS n),(71,mm n),(72,AJ n)],n,[],bF [(11,⟨[sp 1,sp 2,sp 3,sp 5,ai 9],[a3 1 8,a3 2 8,a3 3 2,(5,.box [.b (.d),.b (.d),.b (.d),.b (.d),.b (.row 5000),.b (.d),.b (.d),.b (.d)]),aV 5000 5],[.box 5 4 5000 5]⟩),(26,⟨[sp 1,sp 2,sp 3,sp 5,ai 12],[a3 1 8,a3 2 8,a3 3 2,(5,.box [.b (.d),.b (.d),.b (.d),.b (.d),.b (.row 5000),.b (.d),.b (.d),.b (.row 5001)]),aV 5000 5,aV 5001 7],[.box 5 7 5001 7]⟩)],bF [],bF [(0,⟨[sp 1,sp 2,sp 3,sp 5],[a3 1 8,a3 2 8,a3 3 2,(5,.box [.b (.d),.b (.d),.b (.d),.b (.d),.b (.row 5000),.b (.d),.b (.d),.b (.d)]),aV 5000 5],[]⟩),(2,⟨[sp 2,sp 3,sp 5],[a3 2 8,a3 3 2,(5,.box [.b (.d),.b (.d),.b (.d),.b (.d),.b (.row 5000),.b (.d),.b (.d),.b (.row 5001)]),aV 5000 5,aV 5001 7],[]⟩)],dI [],dx [],dO [20002],dH []⟩ bz (bc (avq n) (bc (MT n) (bc (avu n) aY))) ar bu Tryz.func35
def MW(n:Nat):bC aZ a0 73 (pT n):=cE (b6 n [(35,AK n)] [] [] []) bz (bc (ac6 n) aY) ar bu Tryz.func73
def avv(n:Nat):bC aZ a0 111 (AL n):=cE (b6 n [(58,oV n)] [(3,⟨[sp 1,ai 4,ai 5],[a3 1 8],[]⟩),(8,⟨[sp 1,ai 4,ai 6],[a3 1 8],[]⟩)] [] [(0,⟨[sp 1,ai 4],[a3 1 8],[]⟩),(2,⟨[ai 4],[],[]⟩)]) bz (bc (IF n) aY) ar bu Tryz.func111
def avw(n:Nat):bC aZ a0 74 (Iw n):=eb ⟨dr aZ,a0,dy [(111,AL n),(58,oV n)],n,[],bF [(6,⟨[sp 2,bo 7 26,ai 8],[a3 2 8,aV 26 1],[]⟩),(13,⟨[sp 2,bo 7 26,ai 8,ai 9,bo 10 46,ai 11],[a3 2 8,aV 26 1,aV 46 1],[]⟩),(16,⟨[sp 2,bo 7 26,ai 8,ai 9,bo 10 46,ai 11,ai 12],[a3 2 8,aV 26 1,aV 46 1],[]⟩)],bF [(45000010,⟨[sp 2,bo 7 26,ai 8,ai 9],[a3 2 8,aV 26 1],[]⟩)],bF [(0,⟨[bo 7 26],[aV 26 1],[]⟩),(1,⟨[sp 2,bo 7 46,ai 8],[a3 2 8,aV 46 1],[]⟩),(2,⟨[sp 2,ai 8,bo 10 46],[a3 2 8,aV 46 1],[]⟩),(3,⟨[sp 2,bo 7 26,ai 8,ai 9,bo 10 46,ai 11],[a3 2 8,aV 26 1,aV 46 1],[]⟩),(4,⟨[sp 2,bo 7 26,ai 8,ai 9,bo 10 46,ai 11],[a3 2 8,aV 26 1,aV 46 1],[]⟩)],dI [],dx [],dO [26,75],dH []⟩ bz (bc (avv n) (bc (IF n) aY)) ar bu Tryz.func74
def avx(n:Nat):bC aZ a0 112 (De n):=eb (b6 n [] [(4,⟨[ai 1,sp 2,ai 5],[a3 2 8],[]⟩)] [] [(0,⟨[],[],[]⟩)]) bz aY ar bu Tryz.func112
def avy(AN:List D->Option D)(n:Nat)(ad:D)(avz:bC aZ a0 114 AN){r:D}(h:MJ AN n ad=some r):fb aZ a0 114 [ad] (·=r):=fK (b6 n [(114,AN)] [(4,⟨[sp 1,ai 3],[a3 1 4],[]⟩)] [] [(0,⟨[],[],[]⟩)]) bz (bc avz aY) ar bu Tryz.func114 (cn le_nil) h
def ac7:∀n,bC aZ a0 114 (r0 n)
 |0=>(λ_ _ h=>by cases h)
 |n+1=>by
  have ih:=ac7 n;exact(by
   intro aO r h;unfold r0 at h;split at h
   case h_2=>cases h
   exact avy (r0 n) n _ ih h)
def avA(n:Nat):bC aZ a0 114 (r0 n):=(ac7 n)
def avB(n:Nat):bC aZ a0 163 (pU n):=cE (b6 n [] [] [] []) bz aY ar bu Tryz.func163
def avC(n:Nat):bC aZ a0 164 (xE n):=cE (b6 n [] [] [] []) bz aY ar bu Tryz.func164
def avD(n:Nat):bC aZ a0 165 (Df n):=cE (b6 n [] [] [] []) bz aY ar bu Tryz.func165
def avE(AO:List D->Option D)(n:Nat)(ad:D)(au:D)(ba:D)(cx:D)(avF:bC aZ a0 115 AO){r:D}(h:lN AO n ad au ba cx=some r):fb aZ a0 115 [ad,au,ba,cx] (·=r):=fK (b6 n [(77,uX n),(163,pU n),(164,xE n),(115,AO),(165,Df n)] [(18,⟨[ai 0,ai 2,ai 3,sp 5,bo 12 55,ai 13,ai 14],[a3 5 4,aV 55 1],[]⟩)] [(20003000,⟨[ai 0,ai 2,ai 3,sp 5,ai 19,ai 20],[a3 5 4],[]⟩),(25006000,⟨[ai 0,ai 2,ai 3,sp 5,ai 25],[a3 5 4],[]⟩),(34011010,⟨[ai 0,ai 10,ai 11],[],[]⟩),(88000025,⟨[ai 0,ai 2,ai 3,sp 5,bo 12 80,ai 13,ai 14],[a3 5 4,aV 80 1],[]⟩),(94030029,⟨[ai 17],[],[]⟩),(100032031,⟨[ai 17],[],[]⟩),(107034033,⟨[ai 17],[],[]⟩),(112036035,⟨[ai 17],[],[]⟩),(125037000,⟨[bo 12 55,ai 17,ai 93,ai 125],[aV 55 1],[]⟩),(125039038,⟨[ai 17],[],[]⟩),(136041040,⟨[ai 17],[],[]⟩),(146043042,⟨[ai 17],[],[]⟩),(156045044,⟨[ai 17],[],[]⟩),(166047046,⟨[ai 17],[],[]⟩),(175049048,⟨[ai 17],[],[]⟩),(184053050,⟨[ai 17],[],[]⟩),(209055054,⟨[ai 17],[],[]⟩),(226000056,⟨[ai 17],[],[]⟩),(234000058,⟨[ai 17],[],[]⟩)] [(1,⟨[sp 5,bo 12 55,ai 13],[a3 5 4,aV 55 1],[]⟩),(2,⟨[ai 0,ai 2,ai 3,sp 5,bo 12 80,ai 13,ai 14],[a3 5 4,aV 80 1],[]⟩),(3,⟨[ai 17],[],[]⟩)]) bz (bc (T1 n) (bc (avB n) (bc (avC n) (bc avF (bc (avD n) aY))))) ar bu Tryz.func115 (cn (cn (cn (cn le_nil)))) h
def ac8:∀n,bC aZ a0 115 (r1 n)
 |0=>(λ_ _ h=>by cases h)
 |n+1=>by
  have ih:=ac8 n;exact(by
   intro aO r h;unfold r1 at h;split at h
   case h_2=>cases h
   exact avE (r1 n) n _ _ _ _ ih h)
def avG(n:Nat):bC aZ a0 115 (r1 n):=(ac8 n)
def ac9(n:Nat):bC aZ a0 76 (pV n):=Ft (b6 n [(113,xk n),(114,r0 n),(115,r1 n)] [] [] []) bz (bc (acm n) (bc (avA n) (bc (avG n) aY))) ar bu Tryz.func76
def MX(n:Nat):bC aZ a0 78 (qF n):=Ft (b6 n [(76,pV n)] [(2,⟨[ai 0,ai 1,ai 2,ai 3,ai 9],[],[]⟩)] [] [(0,⟨[],[],[]⟩)]) bz (bc (ac9 n) aY) ar bu Tryz.func78
def Ug(n:Nat):bC aZ a0 75 (r2 n):=eb (b6 n [(112,De n),(78,qF n)] [] [] []) bz (bc (avx n) (bc (MX n) aY)) ar bu Tryz.func75
def avH(n:Nat):bC aZ a0 36 (IA n):=cE (b6 n [(73,pT n),(74,Iw n),(75,r2 n)] [(5,⟨[sp 3,bo 4 9,ai 5,ai 6],[a3 3 8,aV 9 1],[]⟩)] [(23000008,⟨[sp 3,bo 4 30,ai 5,ai 6],[a3 3 8,aV 30 1],[]⟩)] [(0,⟨[bo 4 9],[aV 9 1],[]⟩),(1,⟨[sp 3,bo 4 30,ai 5,ai 6],[a3 3 8,aV 30 1],[]⟩)]) bz (bc (MW n) (bc (avw n) (bc (Ug n) aY))) ar bu Tryz.func36
def avI(n:Nat):bC aZ a0 37 (xG n):=ku (b6 n [(73,pT n),(75,r2 n),(76,pV n),(77,uX n),(78,qF n)] [(5,⟨[ai 1,ai 2,sp 7,ai 8],[a3 7 8],[]⟩)] [] [(0,⟨[ai 1,ai 2,sp 7],[a3 7 8],[]⟩)]) bz (bc (MW n) (bc (Ug n) (bc (ac9 n) (bc (T1 n) (bc (MX n) aY))))) ar bu Tryz.func37
def avJ(n:Nat):bC aZ a0 38 (Di n):=eb (b6 n [(73,pT n),(75,r2 n),(78,qF n)] [] [] []) bz (bc (MW n) (bc (Ug n) (bc (MX n) aY))) ar bu Tryz.func38
def avK(n:Nat):bC aZ a0 39 (IC n):=eb (b6 n [(73,pT n),(78,qF n)] [(4,⟨[ai 1,sp 5,bo 6 10,ai 7],[a3 5 8,aV 10 1],[]⟩)] [] [(0,⟨[bo 6 10],[aV 10 1],[]⟩)]) bz (bc (MW n) (bc (MX n) aY)) ar bu Tryz.func39
def avL(n:Nat):bC aZ a0 10 (AP n):=cE ⟨dr aZ,a0,dy [(22,oZ n),(23,xp n),(35,AK n),(36,IA n),(37,xG n),(38,Di n),(39,IC n)],n,[],bF [(10,⟨[sp 1,sp 2,sp 6,ai 7],[a3 1 8,a3 2 4,(6,.box [.b (.d),.b (.row 5003),.b (.row 5004),.b (.row 5005)]),aV 5003 1,aV 5004 1,aV 5005 1],[.box 6 1 5003 1,.box 6 2 5004 1,.box 6 3 5005 1]⟩),(14,⟨[sp 1,sp 2,sp 6,ai 7,bo 8 5001,ai 9],[a3 1 8,a3 2 4,(6,.box [.b (.d),.b (.row 5003),.b (.row 5004),.b (.row 5005)]),aV 5001 1,aV 5003 1,aV 5004 1,aV 5005 1],[.slot 8 5001 1]⟩)],bF [(58000017,⟨[sp 1,sp 2,sp 6,ai 7,bo 8 62,ai 9],[a3 1 8,a3 2 4,(6,.box [.b (.d),.b (.row 5003),.b (.row 5004),.b (.row 5005)]),aV 62 1,aV 5003 1,aV 5004 1,aV 5005 1],[.slot 8 5000 1]⟩),(75000020,⟨[sp 1,sp 2,sp 6,ai 7],[a3 1 8,a3 2 4,(6,.box [.b (.d),.b (.row 67),.b (.row 80),.b (.row 5005)]),aV 67 1,aV 80 1,aV 5005 1],[.box 6 2 5002 1]⟩)],bF [(0,⟨[sp 2,sp 6],[a3 2 4,(6,.box [.b (.d),.b (.row 5003),.b (.row 5004),.b (.row 5005)]),aV 5003 1,aV 5004 1,aV 5005 1],[]⟩),(1,⟨[sp 1,sp 2,sp 6,ai 7],[a3 1 8,a3 2 4,(6,.box [.b (.d),.b (.row 67),.b (.row 80),.b (.row 92)]),aV 67 1,aV 80 1,aV 92 1],[]⟩),(2,⟨[sp 1,sp 2,sp 6,ai 7,bo 8 5001],[a3 1 8,a3 2 4,(6,.box [.b (.d),.b (.row 5003),.b (.row 5004),.b (.row 5005)]),aV 5001 1,aV 5003 1,aV 5004 1,aV 5005 1],[]⟩),(3,⟨[sp 1,sp 2,sp 6,ai 7,bo 8 62,ai 9],[a3 1 8,a3 2 4,(6,.box [.b (.d),.b (.row 5003),.b (.row 5004),.b (.row 5005)]),aV 62 1,aV 5003 1,aV 5004 1,aV 5005 1],[]⟩)],dI [],dx [],dO [66],dH []⟩ bz (bc (acr n) (bc (acs n) (bc (ac6 n) (bc (avH n) (bc (avI n) (bc (avJ n) (bc (avK n) aY))))))) ar bu Tryz.func10
def avM(n:Nat):bC aZ a0 11 (AQ n):=eb (b6 n [(19,Av n),(16,xD n),(25,pP n)] [(4,⟨[sp 2,sp 3,ai 5],[a3 2 4,a3 3 4],[]⟩)] [] [(0,⟨[sp 2,sp 3],[a3 2 4,a3 3 4],[]⟩)]) bz (bc (acQ n) (bc (ac3 n) (bc (T9 n) aY))) ar bu Tryz.func11
def avN(n:Nat):bC aZ a0 3 (ID n):=cE (b6 n [(7,u6 n),(8,AH n),(9,lg n),(10,AP n),(11,AQ n)] [] [] []) bz (bc (asB n) (bc (ac4 n) (bc (T8 n) (bc (avL n) (bc (avM n) aY))))) ar bu Tryz.func3
def avO(n:Nat):bC aZ a0 4 (TQ n):=cE ⟨dr aZ,a0,dy [(9,lg n),(8,AH n)],n,[],bF [(3,⟨[ai 0,sp 3,ai 4],[(3,.box [.b (.row 5000),.b (.d),.b (.d),.b (.row 10),.b (.d),.b (.d),.b (.d),.b (.d)]),aV 5000 4,aV 10 4],[.box 3 0 5000 4]⟩)],bF [],bF [(0,⟨[sp 3],[(3,.box [.b (.row 5000),.b (.d),.b (.d),.b (.row 10),.b (.d),.b (.d),.b (.d),.b (.d)]),aV 5000 4,aV 10 4],[]⟩)],dI [],dx [],dO [33],dH []⟩ bz (bc (T8 n) (bc (ac4 n) aY)) ar bu Tryz.func4
end Go.Am
