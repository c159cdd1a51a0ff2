/- That the functions of the program compute this. No condition. -/
import Derived.Test.YthnecpgodmolaaaGreatDoorCode
import Derived.Test.YthnecpgodmolaaaGreatDoorProg
import Derived.KernelRfl
set_option linter.all false
set_option linter.unnecessarySimpa false
namespace Go.Am
open Go.Proofs
set_option maxRecDepth 100000
noncomputable abbrev a0:Program:=Tryz.prog
theorem bC:a0.follows .mixedOrders=true:=by kernel_rfl
def bK:dR a0 (eC a0):=tok _
def a1:dt:=λg=>if g=0 then some FX else none
noncomputable abbrev ca(n:Nat):=alc a0 a1 n
def a7:ht a0 a1 (eG []):=ak9
def ar:k7 a0 a1 (eF []):=ak7
def bk{f:FuncId}{F:List D->Option D}{l:List (FuncId×(List D->Option D))}(h:bw a0 a1 f F)(bx:ht a0 a1 (eG l)):ht a0 a1 (eG ((f,F)::l)):=ala h bx
def bO{t:Tmp}{e:BG}{l:List (Tmp×BG)}(h:fb a0 a1 e.s e.F)(bx:k7 a0 a1 (eF l)):k7 a0 a1 (eF ((t,e)::l)):=ak8 h bx
def abv:fW:=⟨178,[.b (.d),.b (.d),.b (.ptr 10000 0),.b (.ptr 10001 0)],[bd 10000 1,bd 10001 1],.b (.d),[bd 10000 1,bd 10001 1]⟩
def TK:fW:=⟨135,[.b (.row 9000),.b (.d)],[bF 9000 1],.b (.row 9000),[bF 9000 1]⟩
def abw:fW:=⟨134,[.b (.d),.b (.d),.b (.ptr 10000 0),.b (.ptr 10001 0)],[(10000,.box [.b (.row 9000)]),(10001,.box [.b (.row 9001)]),bF 9000 1,bF 9001 1],.b (.d),[(10000,.box [.b (.row 9000)]),(10001,.box [.b (.row 9001)]),bF 9000 1,bF 9001 1]⟩
def Ag:fW:=⟨133,[.b (.d),.b (.d),.fn (.func ZR) [] [.ptr 10000 0,.ptr 10001 0]],[bd 10000 1,bd 10001 1],.b (.d),[bd 10000 1,bd 10001 1]⟩
def xl:fW:=⟨133,[.b (.d),.b (.d),.fn (.func ZQ) [] [.ptr 10000 0,.ptr 10001 0]],[(10000,.box [.b (.row 9000)]),(10001,.box [.b (.row 9001)]),bF 9000 1,bF 9001 1],.b (.d),[(10000,.box [.b (.row 9000)]),(10001,.box [.b (.row 9001)]),bF 9000 1,bF 9001 1]⟩
def abx:fW:=⟨129,[.b (.d),.b (.d),.b (.ptr 10000 0),.b (.ptr 10001 0)],[bd 10000 1,bd 10001 1],.b (.d),[bd 10000 1,bd 10001 1]⟩
def xm:fW:=⟨180,[.b (.d),.b (.ptr 10000 0),.b (.ptr 10001 0),.b (.ptr 10002 0)],[bd 10000 1,(10001,.box [.b (.map 9000)]),(10002,.box [.fn (.func wX) [] [.ptr 10000 0,.ptr 10001 0,.ptr 10002 0]]),(9000,.map)],.b (.d),[bd 10000 1,(10001,.box [.b (.map 9000)]),(10002,.box [.fn (.func wX) [] [.ptr 10000 0,.ptr 10001 0,.ptr 10002 0]]),(9000,.map)]⟩
def aby:fW:=⟨162,[.b (.d),.b (.d)],[],.b (.map 9000),[(9000,.map)]⟩
def Ah:fW:=⟨181,[.b (.d),.b (.d),.b (.ptr 10000 0),.b (.ptr 10001 0),.b (.ptr 10002 0),.b (.ptr 10003 0)],[bd 10000 1,bd 10001 1,bd 10002 1,(10003,.box [.fn (.func wY) [] [.ptr 10000 0,.ptr 10001 0,.ptr 10002 0,.ptr 10003 0]])],.b (.d),[bd 10000 1,bd 10001 1,bd 10002 1,(10003,.box [.fn (.func wY) [] [.ptr 10000 0,.ptr 10001 0,.ptr 10002 0,.ptr 10003 0]])]⟩
def Ai:fW:=⟨164,[.b (.d),.b (.ptr 10000 0),.b (.ptr 10001 0)],[bd 10000 1,(10001,.box [.fn (.func LP) [] [.ptr 10000 0,.ptr 10001 0]])],.b (.d),[bd 10000 1,(10001,.box [.fn (.func LP) [] [.ptr 10000 0,.ptr 10001 0]])]⟩
def abz:fW:=⟨99,[.b (.d)],[],.aZ [.row 9000,.row 9001],[bF 9000 1,bF 9001 1]⟩
def abA:fW:=⟨109,[.b (.map 10000),.b (.d)],[(10000,.map)],.b (.d),[(10000,.map)]⟩
def abB:fW:=⟨109,[.b (.map 10000),.b (.row 10001)],[(10000,.map),bF 10001 1],.b (.d),[(10000,.map),bF 10001 1]⟩
def abC:fW:=⟨140,[.b (.row 10000),.b (.d),.b (.d)],[bF 10000 1],.b (.d),[bF 10000 1]⟩
def TL:fW:=⟨166,[.b (.row 10000),.b (.d),.b (.d),.b (.d)],[bF 10000 1],.b (.d),[bF 10000 1]⟩
def abD:fW:=⟨141,[.b (.row 10000),.b (.d),.b (.d)],[bF 10000 1],.b (.d),[bF 10000 1]⟩
def abE:fW:=⟨168,[.b (.ptr 10000 0)],[bd 10000 1],.b (.d),[bd 10000 1]⟩
def abF:fW:=⟨142,[.b (.row 10000),.b (.d),.b (.d)],[bF 10000 1],.b (.d),[bF 10000 1]⟩
def M9:fW:=⟨183,[.b (.d),.b (.d),.b (.d),.b (.ptr 10000 0)],[bd 10000 1],.b (.d),[bd 10000 1]⟩
def TM:fW:=⟨170,[.b (.d),.b (.d),.b (.d),.b (.d),.b (.ptr 10000 0)],[bd 10000 1],.b (.d),[bd 10000 1]⟩
def Na:fW:=⟨169,[.b (.d),.b (.d),.b (.ptr 10000 0)],[bd 10000 1],.b (.d),[bd 10000 1]⟩
def abG:fW:=⟨144,[.b (.row 10000),.b (.d),.b (.d)],[bF 10000 1],.b (.d),[bF 10000 1]⟩
def abH:fW:=⟨145,[.b (.row 10000),.b (.d),.b (.d)],[bF 10000 1],.b (.d),[bF 10000 1]⟩
def abI:fW:=⟨147,[.b (.row 10000),.b (.d),.b (.d),.b (.d)],[bF 10000 1],.b (.d),[bF 10000 1]⟩
def abJ:fW:=⟨148,[.b (.row 10000),.b (.d),.b (.d),.b (.d)],[bF 10000 1],.b (.d),[bF 10000 1]⟩
def xn:fW:=⟨110,[.b (.row 10000),.b (.d),.b (.d),.b (.d)],[bF 10000 1],.b (.d),[bF 10000 1]⟩
def abK:fW:=⟨70,[.b (.row 10000)],[bF 10000 1],.b (.d),[bF 10000 1]⟩
def Aj:fW:=⟨128,[.b (.d),.b (.d),.fn (.func ZP) [] [.ptr 10000 0,.ptr 10001 0]],[bd 10000 1,bd 10001 1],.b (.d),[bd 10000 1,bd 10001 1]⟩
def aoU(yV:List D->Option D)(n:Nat)(ae:D)(ao:D)(aoV:bw a0 a1 25 yV){r:D}(h:RY yV n ae ao=some r):er a0 a1 25 [ae,ao] (·=r):=e6 (ca n [(25,yV)] [(2,⟨[al 0,al 1,al 5],[],[]⟩)] [] [(0,⟨[al 1],[],[]⟩)]) bK (bk aoV a7) ar bC Tryz.func25 (cb (cb le_nil)) h
def abL:∀n,bw a0 a1 25 (n7 n)
 |0=>(λ_ _ h=>by cases h)
 |n+1=>by
  have ih:=abL n;exact(by
   intro aQ r h;unfold n7 at h;split at h
   case h_2=>cases h
   exact aoU (n7 n) n _ _ ih h)
def aoW(n:Nat):bw a0 a1 25 (n7 n):=(abL n)
def aoX(yX:List D->Option D)(n:Nat)(ae:D)(ao:D)(aoY:bw a0 a1 102 yX){r:D}(h:RZ yX n ae ao=some r):er a0 a1 102 [ae,ao] (·=r):=e6 (ca n [(102,yX)] [(2,⟨[al 1,sp 2,al 5],[bd 2 4],[]⟩)] [] [(0,⟨[al 1],[],[]⟩)]) bK (bk aoY a7) ar bC Tryz.func102 (cb (cb le_nil)) h
def abM:∀n,bw a0 a1 102 (ta n)
 |0=>(λ_ _ h=>by cases h)
 |n+1=>by
  have ih:=abM n;exact(by
   intro aQ r h;unfold ta at h;split at h
   case h_2=>cases h
   exact aoX (ta n) n _ _ ih h)
def aoZ(n:Nat):bw a0 a1 102 (ta n):=(abM n)
def ao0(yY:List D->Option D)(n:Nat)(ae:D)(ao:D)(ao1:bw a0 a1 52 yY){r:D}(h:R0 yY n ae ao=some r):er a0 a1 52 [ae,ao] (·=r):=e6 (ca n [(102,ta n),(52,yY)] [(3,⟨[al 1,sp 2,al 5],[bd 2 6],[]⟩)] [] [(0,⟨[al 1],[],[]⟩)]) bK (bk (aoZ n) (bk ao1 a7)) ar bC Tryz.func52 (cb (cb le_nil)) h
def abN:∀n,bw a0 a1 52 (tb n)
 |0=>(λ_ _ h=>by cases h)
 |n+1=>by
  have ih:=abN n;exact(by
   intro aQ r h;unfold tb at h;split at h
   case h_2=>cases h
   exact ao0 (tb n) n _ _ ih h)
def ao2(n:Nat):bw a0 a1 52 (tb n):=(abN n)
def ao3(n:Nat):bw a0 a1 26 (F3 n):=dN (ca n [(52,tb n)] [] [] []) bK (bk (ao2 n) a7) ar bC Tryz.func26
def ao4(n:Nat):bw a0 a1 7 (wZ n):=cD (ca n [(25,n7 n),(26,F3 n)] [(8,⟨[sp 1,al 3,al 4],[bd 1 8],[]⟩),(12,⟨[sp 1,al 3,al 5],[bd 1 8],[]⟩),(16,⟨[sp 1,al 3,al 6],[bd 1 8],[]⟩)] [] [(0,⟨[sp 1,al 3],[bd 1 8],[]⟩),(2,⟨[sp 1,al 3],[bd 1 8],[]⟩),(4,⟨[al 3],[],[]⟩)]) bK (bk (aoW n) (bk (ao3 n) a7)) ar bC Tryz.func7
def ao5(n:Nat):bw a0 a1 8 (y1 n):=cD (ca n [] [(2,⟨[al 0,al 3],[],[]⟩)] [] [(0,⟨[al 0],[],[]⟩)]) bK a7 ar bC Tryz.func8
def ao6(n:Nat):bw a0 a1 27 (LR n):=cD (ca n [] [] [] []) bK a7 ar bC Tryz.func27
def abO(n:Nat):bw a0 a1 151 (y2 n):=cD (ca n [] [] [] []) bK a7 ar bC Tryz.func151
def ao7(n:Nat):bw a0 a1 172 (F7 n):=cD (ca n [] [] [] []) bK a7 ar bC Tryz.func172
def ao8(n:Nat):bw a0 a1 153 (F8 n):=cD (ca n [(151,y2 n),(172,F7 n)] [] [] []) bK (bk (abO n) (bk (ao7 n) a7)) ar bC Tryz.func153
def ao9(n:Nat)(ae:D){r:D}(h:R2 n ae=some r):er a0 a1 152 [ae,(D.val (.func (.func FY) #[] #[]))] (·=r):=e6 (ca n [(153,F8 n)] [(2,⟨[al 0,(1,.b (.Fj FY)),al 5],[],[]⟩)] [] [(0,⟨[al 5],[],[]⟩)]) bK (bk (ao8 n) a7) ar bC Tryz.func152 (cb (cb le_nil)) h
def apa(n:Nat):bw a0 a1 152 (B8 n):=by
 intro aQ r h;unfold B8 at h;split at h
 case h_2=>cases h
 obtain⟨an,h⟩:=lE h;obtain rfl:=Rt an;exact ao9 n _ h
def apb(n:Nat):bw a0 a1 106 (w1 n):=dN (ca n [] [(2,⟨[al 0,al 1,al 7,al 8],[],[]⟩)] [] [(0,⟨[],[],[]⟩)]) bK a7 ar bC Tryz.func106
def abP(n:Nat):bw a0 a1 55 (te n):=dN (ca n [(106,w1 n)] [] [] []) bK (bk (apb n) a7) ar bC Tryz.func55
def TN(n:Nat):bw a0 a1 113 (tg n):=cD (ca n [(151,y2 n),(152,B8 n),(55,te n)] [] [] []) bK (bk (abO n) (bk (apa n) (bk (abP n) a7))) ar bC Tryz.func113
def apc(n:Nat)(ae:D)(c2:List D){r:D}(h:R4 n ae c2=some r):er a0 a1 112 [ae,.ref c2 0] (·=r):=e6 (ca n [] [] [] []) bK a7 ar bC Tryz.func112 (cb (n4 oU le_nil)) h
def apd(n:Nat):bw a0 a1 112 (B9 n):=by
 intro aQ r h;unfold B9 at h;split at h
 case h_2=>cases h
 split at h
 case h_2=>cases h
 exact apc n _ _ h
def ape(n:Nat)(ae:D)(cC:D){r:D}(h:R5 n ae cC=some r):er a0 a1 154 [ae,(D.fn (.func s9) [] [cC])] (·=r):=e6 (ca n [(112,B9 n)] [(2,⟨[al 0,(1,.b (.fd s9 1)),al 7,al 8],[],[]⟩)] [] [(0,⟨[],[],[]⟩)]) bK (bk (apd n) a7) ar bC Tryz.func154 (cb (cb le_nil)) h
def apf(n:Nat):bw a0 a1 154 (y4 n):=by
 intro aQ r h;unfold y4 at h;split at h
 case h_2=>cases h
 split at h
 case h_2=>cases h
 rename_i an;obtain rfl:=l7 an;exact ape n _ _ h
def apg(n:Nat)(ae:D)(cC:D){r:D}(h:R6 n ae cC=some r):er a0 a1 114 [ae,(D.fn (.func s9) [] [cC])] (·=r):=e6 (ca n [(154,y4 n)] [] [] []) bK (bk (apf n) a7) ar bC Tryz.func114 (cb (cb le_nil)) h
def aph(n:Nat):bw a0 a1 114 (Ca n):=by
 intro aQ r h;unfold Ca at h;split at h
 case h_2=>cases h
 split at h
 case h_2=>cases h
 rename_i an;obtain rfl:=l7 an;exact apg n _ _ h
def api(n:Nat):bw a0 a1 72 (Cb n):=cD (ca n [(113,tg n),(114,Ca n)] [(2,⟨[al 0,al 8,al 9,al 10],[],[]⟩)] [] [(0,⟨[],[],[]⟩)]) bK (bk (TN n) (bk (aph n) a7)) ar bC Tryz.func72
def apj(n:Nat):bw a0 a1 116 (Gb n):=cD (ca n [] [] [] []) bK a7 ar bC Tryz.func116
def apk(n:Nat):bw a0 a1 115 (Gc n):=cD (ca n [] [(2,⟨[al 0,al 4],[],[]⟩)] [] [(0,⟨[],[],[]⟩)]) bK a7 ar bC Tryz.func115
def apl(n:Nat):bw a0 a1 73 (Ge n):=cD (ca n [(116,Gb n),(115,Gc n)] [(3,⟨[al 3,al 7,al 8,al 9],[],[]⟩)] [] [(0,⟨[al 3],[],[]⟩)]) bK (bk (apj n) (bk (apk n) a7)) ar bC Tryz.func73
def apm(n:Nat):bw a0 a1 237 (Gf n):=cD (ca n [] [] [] []) bK a7 ar bC Tryz.func237
def apn(n:Nat):bw a0 a1 230 (Gg n):=cD (ca n [] [] [] []) bK a7 ar bC Tryz.func230
def apo(n:Nat):bw a0 a1 226 (rM n):=cD (ca n [] [] [] []) bK a7 ar bC Tryz.func226
def apq(n:Nat):bw a0 a1 215 (Gi n):=cD (ca n [] [] [] []) bK a7 ar bC Tryz.func215
def apr(n:Nat):bw a0 a1 210 (Gj n):=cD (ca n [] [] [] []) bK a7 ar bC Tryz.func210
def aps(n:Nat):bw a0 a1 203 (Gk n):=cD (ca n [] [] [] []) bK a7 ar bC Tryz.func203
def apt(n:Nat)(ae:D)(c2:List D){r:D}(h:LW n ae c2=some r):er a0 a1 240 [ae,.ref c2 0] (·=r):=e6 (ca n [] [] [] []) bK a7 ar bC Tryz.func240 (cb (n4 oU le_nil)) h
def apu(n:Nat):bw a0 a1 240 (Gl n):=by
 intro aQ r h;unfold Gl at h;split at h
 case h_2=>cases h
 split at h
 case h_2=>cases h
 exact apt n _ _ h
def apv(n:Nat)(ae:D)(cC:D){r:D}(h:Gn n ae cC=some r):er a0 a1 242 [ae,(D.fn (.func rI) [] [cC])] (·=r):=e6 (ca n [(240,Gl n)] [(2,⟨[al 0,(1,.b (.fd rI 1)),al 7,al 8],[],[]⟩)] [] [(0,⟨[],[],[]⟩)]) bK (bk (apu n) a7) ar bC Tryz.func242 (cb (cb le_nil)) h
def apw(n:Nat):bw a0 a1 242 (y7 n):=by
 intro aQ r h;unfold y7 at h;split at h
 case h_2=>cases h
 split at h
 case h_2=>cases h
 rename_i an;obtain rfl:=l7 an;exact apv n _ _ h
def apx(n:Nat)(ae:D)(cC:D){r:D}(h:LX n ae cC=some r):er a0 a1 239 [ae,(D.fn (.func rI) [] [cC])] (·=r):=e6 (ca n [(242,y7 n)] [] [] []) bK (bk (apw n) a7) ar bC Tryz.func239 (cb (cb le_nil)) h
def apy(n:Nat):bw a0 a1 239 (y8 n):=by
 intro aQ r h;unfold y8 at h;split at h
 case h_2=>cases h
 split at h
 case h_2=>cases h
 rename_i an;obtain rfl:=l7 an;exact apx n _ _ h
def apz(n:Nat):bw a0 a1 186 (Gp n):=cD (ca n [] [] [(5004000,⟨[al 4,al 5],[],[]⟩),(5005000,⟨[al 4,al 5],[],[]⟩),(5006000,⟨[al 4,al 5],[],[]⟩),(12011000,⟨[al 4,al 12],[],[]⟩),(15014000,⟨[al 4,al 15],[],[]⟩),(15015000,⟨[al 4,al 15],[],[]⟩),(15016000,⟨[al 4,al 15],[],[]⟩),(15017000,⟨[al 4,al 15],[],[]⟩),(15018000,⟨[al 4,al 15],[],[]⟩),(15019000,⟨[al 4,al 15],[],[]⟩),(15020000,⟨[al 4,al 15],[],[]⟩),(15021000,⟨[al 4,al 15],[],[]⟩),(15022000,⟨[al 4,al 15],[],[]⟩)] []) bK a7 ar bC Tryz.func186
def apA(n:Nat):bw a0 a1 179 (Gq n):=cD (ca n [(186,Gp n)] [] [(18008007,⟨[sp 1,al 3,al 4,al 5,al 6],[bd 1 4],[]⟩),(20000009,⟨[sp 1,al 3,al 4,al 5,al 6],[bd 1 4],[]⟩)] [(0,⟨[sp 1,al 3,al 4,al 5,al 6],[bd 1 4],[]⟩)]) bK (bk (apz n) a7) ar bC Tryz.func179
def apB(n:Nat):fb a0 a1 abv (Gr n):=iM ⟨eC a0,a1,eG [(179,Gq n)],n,[10000,10001],b7 [],b7 [(10004003,⟨[(3,.b (.ptr 10001 0))],[bd 10001 1,bd 10000 1],[]⟩),(18000006,⟨[(3,.b (.ptr 10001 0))],[bd 10001 1,bd 10000 1],[]⟩)],b7 [],fm [],eF [],ft [],fk []⟩ bK (bk (apA n) a7) ar bC Tryz.func178 []
def abQ(n:Nat):fb a0 a1 TK (w2 n):=iM ⟨eC a0,a1,eG [],n,[],b7 [(2,⟨[cn 0 9000,al 1,al 5],[bF 9000 1],[]⟩)],b7 [],b7 [(0,⟨[cn 0 9000,al 1,al 5],[bF 9000 1],[]⟩)],fm [],eF [],ft [],fk []⟩ bK a7 ar bC Tryz.func135 []
def apC(n:Nat):fb a0 a1 abw (za n):=iM ⟨eC a0,a1,eG [],n,[10000,10001],b7 [],b7 [(9004003,⟨[],[(10000,.box [.b (.row 6010)]),(10001,.box [.b (.row 9001)]),bF 6010 1,bF 9001 1],[]⟩),(15000005,⟨[],[(10000,.box [.b (.row 9000)]),(10001,.box [.b (.row 6020)]),bF 9000 1,bF 6020 1],[]⟩)],b7 [(0,⟨[],[(10000,.box [.b (.row 6010)]),(10001,.box [.b (.row 9001)]),bF 6010 1,bF 9001 1],[]⟩)],fm [],eF [(14,⟨TK,w2 n,6010,[]⟩),(20,⟨TK,w2 n,6020,[]⟩)],ft [],fk []⟩ bK a7 (bO (abQ n) (bO (abQ n) ar)) bC Tryz.func134 []
def apD(zb:List D->Option (List D))(n:Nat)(apE:fb a0 a1 Ag zb):fb a0 a1 Ag (R7 zb n):=iM ⟨eC a0,a1,eG [],n,[10000,10001],b7 [(4,⟨[al 1,(2,.fn (.func ZR) [] [.ptr 10000 0,.ptr 10001 0]),al 15,al 16,al 17],[bd 10000 1,bd 10001 1],[]⟩)],b7 [],b7 [(0,⟨[],[bd 10000 1,bd 10001 1],[]⟩)],fm [],eF [(12,⟨abv,Gr n,6010,[]⟩),(25,⟨Ag,zb,6020,[]⟩)],ft [],fk []⟩ bK a7 (bO (apB n) (bO apE ar)) bC Tryz.func133 []
def abR:∀n,fb a0 a1 Ag (uX n)
 |0=>yI (s:=Ag) (yJ (T:=eC a0) (os:=λ_=>none) Tryz.func133) (λ_=>rfl)|n+1=>by have ih:=abR n;exact apD (uX n) n ih
def apF(n:Nat):fb a0 a1 Ag (uX n):=(abR n)
def TO(n:Nat):bw a0 a1 159 (ti n):=cD ⟨eC a0,a1,eG [],n,[],b7 [],b7 [],b7 [],fm [],eF [(7,⟨Ag,uX n,6010,[]⟩)],ft [],fk []⟩ bK a7 (bO (apF n) ar) bC Tryz.func159
def apG(zc:List D->Option (List D))(n:Nat)(apH:fb a0 a1 xl zc):fb a0 a1 xl (R8 zc n):=iM ⟨eC a0,a1,eG [],n,[10000,10001],b7 [(4,⟨[al 1,(2,.fn (.func ZQ) [] [.ptr 10000 0,.ptr 10001 0]),al 15,al 16,al 17],[(10000,.box [.b (.row 6010)]),(10001,.box [.b (.row 6011)]),bF 6010 1,bF 6011 1],[]⟩)],b7 [],b7 [(0,⟨[],[(10000,.box [.b (.row 6010)]),(10001,.box [.b (.row 6011)]),bF 6010 1,bF 6011 1],[]⟩)],fm [],eF [(12,⟨abw,za n,6010,[]⟩),(25,⟨xl,zc,6020,[]⟩)],ft [],fk []⟩ bK a7 (bO (apC n) (bO apH ar)) bC Tryz.func133 []
def abS:∀n,fb a0 a1 xl (rN n)
 |0=>yI (s:=xl) (yJ (T:=eC a0) (os:=λ_=>none) Tryz.func133) (λ_=>rfl)|n+1=>by have ih:=abS n;exact apG (rN n) n ih
def abT(n:Nat):fb a0 a1 xl (rN n):=(abS n)
def Nb(n:Nat):bw a0 a1 99 (rO n):=cD ⟨eC a0,a1,eG [],n,[],b7 [],b7 [],b7 [],fm [(2,[0,1,2,3])],eF [(6,⟨xl,rN n,6010,[.box 3 0 5900 1,.box 2 0 5901 1]⟩)],ft [],fk []⟩ bK a7 (bO (abT n) ar) bC Tryz.func99
def apI(n:Nat):bw a0 a1 130 (zd n):=cD (ca n [(159,ti n),(99,rO n)] [] [] []) bK (bk (TO n) (bk (Nb n) a7)) ar bC Tryz.func130
def apJ(n:Nat):bw a0 a1 131 (Gt n):=cD (ca n [] [] [(6005000,⟨[al 3,al 6],[],[]⟩),(6006000,⟨[al 3,al 6],[],[]⟩),(6007000,⟨[al 3,al 6],[],[]⟩),(6008000,⟨[al 3,al 6],[],[]⟩),(12011000,⟨[al 12],[],[]⟩),(12012000,⟨[al 12],[],[]⟩),(12013000,⟨[al 12],[],[]⟩),(12014000,⟨[al 12],[],[]⟩),(12015000,⟨[al 12],[],[]⟩),(12016000,⟨[al 12],[],[]⟩)] [(0,⟨[],[],[]⟩)]) bK a7 ar bC Tryz.func131
def apK(n:Nat):fb a0 a1 abx (Gu n):=iM ⟨eC a0,a1,eG [(130,zd n),(131,Gt n)],n,[10000,10001],b7 [],b7 [(40007006,⟨[(3,.b (.ptr 10001 0))],[bd 10001 1,bd 10000 1],[]⟩),(43009008,⟨[(3,.b (.ptr 10001 0))],[bd 10001 1,bd 10000 1],[]⟩),(46011010,⟨[(3,.b (.ptr 10001 0))],[bd 10001 1,bd 10000 1],[]⟩),(50013012,⟨[(3,.b (.ptr 10001 0))],[bd 10001 1,bd 10000 1],[]⟩),(65000014,⟨[(3,.b (.ptr 10001 0))],[bd 10001 1,bd 10000 1],[]⟩)],b7 [(0,⟨[(3,.b (.ptr 10001 0))],[bd 10001 1,bd 10000 1],[]⟩)],fm [],eF [],ft [],fk []⟩ bK (bk (apI n) (bk (apJ n) a7)) ar bC Tryz.func129 []
def TP(n:Nat):bw a0 a1 160 (uY n):=cD (ca n [] [(3,⟨[(3,.b (.map 8)),al 9,al 10,al 11],[(8,.map)],[]⟩)] [(24000007,⟨[(3,.b (.map 8)),al 9,al 10,al 11],[(8,.map)],[]⟩)] [(0,⟨[(3,.b (.map 8))],[(8,.map)],[]⟩),(1,⟨[(3,.b (.map 8)),al 9,al 10,al 11],[(8,.map)],[]⟩)]) bK a7 ar bC Tryz.func160
def apL(n:Nat):bw a0 a1 161 (Gy n):=cD ⟨eC a0,a1,eG [(160,uY n),(99,rO n)],n,[],b7 [(4,⟨[al 3,cn 4 5002,al 16,al 17,al 18],[bF 5002 1],[.slot 4 5002 1]⟩),(9,⟨[al 3,cn 4 5002,cn 7 5001,al 16,al 17,al 18,al 28,al 29,al 30],[bF 5002 1,bF 5001 1],[.slot 7 5001 1]⟩)],b7 [(40000013,⟨[al 3,cn 4 5002,cn 7 44,al 16,al 17,al 18,al 28,al 29,al 30],[bF 5002 1,bF 44 1],[.slot 7 5000 1]⟩)],b7 [(0,⟨[cn 4 5002],[bF 5002 1],[]⟩),(1,⟨[al 3,cn 4 49,al 16,al 17,al 18],[bF 49 1],[]⟩),(2,⟨[al 3,cn 4 5002,cn 7 5001,al 16,al 17,al 18],[bF 5002 1,bF 5001 1],[]⟩),(3,⟨[al 3,cn 4 5002,cn 7 44,al 16,al 17,al 18,al 28,al 29,al 30],[bF 5002 1,bF 44 1],[]⟩)],fm [],eF [],ft [48],fk []⟩ bK (bk (TP n) (bk (Nb n) a7)) ar bC Tryz.func161
def apM(ze:List D->Option (List D))(n:Nat)(apN:fb a0 a1 xm ze):fb a0 a1 xm (L2 ze n):=iM ⟨eC a0,a1,eG [],n,[10000,10001,10002],b7 [(1,⟨[(2,.b (.ptr 10001 0)),(3,.b (.ptr 10002 0)),al 10,al 11,al 12],[(10001,.box [.b (.map 9000)]),(10002,.box [.fn (.func wX) [] [.ptr 10000 0,.ptr 10001 0,.ptr 10002 0]]),bd 10000 1,(9000,.map)],[]⟩)],b7 [(19000004,⟨[(2,.b (.ptr 10001 0)),(3,.b (.ptr 10002 0)),al 10,al 11,al 12],[(10001,.box [.b (.map 6010)]),(10002,.box [.fn (.func wX) [] [.ptr 10000 0,.ptr 10001 0,.ptr 10002 0]]),bd 10000 1,(6010,.map)],[]⟩)],b7 [(0,⟨[],[bd 10000 1,(10001,.box [.b (.map 9000)]),(10002,.box [.fn (.func wX) [] [.ptr 10000 0,.ptr 10001 0,.ptr 10002 0]]),(9000,.map)],[]⟩),(1,⟨[(2,.b (.ptr 10001 0)),(3,.b (.ptr 10002 0)),al 10,al 11,al 12],[(10001,.box [.b (.map 6010)]),(10002,.box [.fn (.func wX) [] [.ptr 10000 0,.ptr 10001 0,.ptr 10002 0]]),bd 10000 1,(6010,.map)],[]⟩)],fm [],eF [(24,⟨xm,ze,6010,[]⟩)],ft [],fk []⟩ bK a7 (bO apN ar) bC Tryz.func180 []
def abU:∀n,fb a0 a1 xm (rP n)
 |0=>yI (s:=xm) (yJ (T:=eC a0) (os:=λ_=>none) Tryz.func180) (λ_=>rfl)|n+1=>by have ih:=abU n;exact apM (rP n) n ih
def abV(n:Nat):fb a0 a1 xm (rP n):=(abU n)
def apO(n:Nat):fb a0 a1 aby (GB n):=iM ⟨eC a0,a1,eG [],n,[],b7 [(5,⟨[sp 5,sp 6,al 11,al 12,al 13],[(5,.box [.b (.map 9)]),(6,.box [.fn (.func wX) [] [.ptr 2 0,.ptr 5 0,.ptr 6 0]]),(9,.map),bd 2 1],[]⟩)],b7 [],b7 [(0,⟨[sp 5],[(5,.box [.b (.map 9)]),(9,.map)],[]⟩)],fm [],eF [(19,⟨xm,rP n,6010,[]⟩)],ft [],fk []⟩ bK a7 (bO (abV n) ar) bC Tryz.func162 []
def apP(n:Nat):bw a0 a1 162 (Cc n):=dN ⟨eC a0,a1,eG [],n,[],b7 [(5,⟨[sp 5,sp 6,al 11,al 12,al 13],[(5,.box [.b (.map 9)]),(6,.box [.fn (.func wX) [] [.ptr 2 0,.ptr 5 0,.ptr 6 0]]),(9,.map),bd 2 1],[]⟩)],b7 [],b7 [(0,⟨[sp 5],[(5,.box [.b (.map 9)]),(9,.map)],[]⟩)],fm [],eF [(19,⟨xm,rP n,6010,[]⟩)],ft [],fk []⟩ bK a7 (bO (abV n) ar) bC Tryz.func162
def apQ(uZ:List D->Option (List D))(n:Nat)(apR:fb a0 a1 Ah uZ):fb a0 a1 Ah (GD uZ n):=iM ⟨eC a0,a1,eG [],n,[10000,10001,10002,10003],b7 [(1,⟨[al 1,(2,.b (.ptr 10000 0)),(3,.b (.ptr 10001 0)),(4,.b (.ptr 10002 0)),(5,.b (.ptr 10003 0)),sp 6,sp 8],[bd 10000 1,bd 10001 1,bd 10002 1,(10003,.box [.fn (.func wY) [] [.ptr 10000 0,.ptr 10001 0,.ptr 10002 0,.ptr 10003 0]]),bd 6 4,bd 8 4],[]⟩),(10,⟨[al 1,(4,.b (.ptr 10002 0)),(5,.b (.ptr 10003 0)),sp 6,sp 8,cn 11 41,al 43,al 44,al 45],[bd 10002 1,(10003,.box [.fn (.func wY) [] [.ptr 10000 0,.ptr 10001 0,.ptr 10002 0,.ptr 10003 0]]),bd 6 4,bd 8 4,bF 41 4,bd 10000 1,bd 10001 1],[]⟩)],b7 [(55000013,⟨[al 1,(4,.b (.ptr 10002 0)),(5,.b (.ptr 10003 0)),sp 6,sp 8,cn 11 41,al 43,al 44,al 45],[bd 10002 1,(10003,.box [.fn (.func wY) [] [.ptr 10000 0,.ptr 10001 0,.ptr 10002 0,.ptr 10003 0]]),bd 6 4,bd 8 4,bF 41 4,bd 10000 1,bd 10001 1],[]⟩)],b7 [(0,⟨[al 1,(4,.b (.ptr 10002 0)),(5,.b (.ptr 10003 0)),sp 6,sp 8],[bd 10002 1,(10003,.box [.fn (.func wY) [] [.ptr 10000 0,.ptr 10001 0,.ptr 10002 0,.ptr 10003 0]]),bd 6 4,bd 8 4,bd 10000 1,bd 10001 1],[]⟩),(2,⟨[sp 6,sp 8,cn 11 41],[bd 6 4,bd 8 4,bF 41 4,bd 10000 1,bd 10001 1,bd 10002 1,(10003,.box [.fn (.func wY) [] [.ptr 10000 0,.ptr 10001 0,.ptr 10002 0,.ptr 10003 0]])],[]⟩),(3,⟨[al 1,(4,.b (.ptr 10002 0)),(5,.b (.ptr 10003 0)),sp 6,sp 8,cn 11 41,al 43,al 44,al 45],[bd 10002 1,(10003,.box [.fn (.func wY) [] [.ptr 10000 0,.ptr 10001 0,.ptr 10002 0,.ptr 10003 0]]),bd 6 4,bd 8 4,bF 41 4,bd 10000 1,bd 10001 1],[]⟩)],fm [],eF [(62,⟨Ah,uZ,6010,[]⟩)],ft [20066],fk []⟩ bK a7 (bO apR ar) bC Tryz.func181 []
def abW:∀n,fb a0 a1 Ah (tj n)
 |0=>yI (s:=Ah) (yJ (T:=eC a0) (os:=λ_=>none) Tryz.func181) (λ_=>rfl)|n+1=>by have ih:=abW n;exact apQ (tj n) n ih
def apS(n:Nat):fb a0 a1 Ah (tj n):=(abW n)
def apT(n:Nat):bw a0 a1 163 (GF n):=dN ⟨eC a0,a1,eG [(160,uY n)],n,[],b7 [],b7 [],b7 [],fm [],eF [(13,⟨Ah,tj n,6010,[]⟩)],ft [],fk []⟩ bK (bk (TP n) a7) (bO (apS n) ar) bC Tryz.func163
def Nc(n:Nat):bw a0 a1 137 (mG n):=dN ⟨(eC Tryz.prog).sP [77],a1,eG [(159,ti n),(160,uY n),(161,Gy n),(99,rO n),(162,Cc n),(163,GF n)],n,[],b7 [(8,⟨[al 1,sp 2,sp 4,al 7,al 8,cn 9 5001,al 36,al 37,al 38],[bd 2 4,bd 4 4,bF 5001 1],[.slot 9 5001 1]⟩),(16,⟨[al 1,sp 2,sp 4,al 8,(16,.b (.map 6010)),al 57,al 58,al 59],[bd 2 4,bd 4 4,(6010,.map)],[]⟩),(21,⟨[al 1,sp 2,sp 4,al 8,(16,.b (.map 6010)),al 67,al 68],[bd 2 4,bd 4 4,(6010,.map)],[]⟩)],b7 [(48000012,⟨[al 1,sp 2,sp 4,al 7,al 8,cn 9 52,al 36,al 37,al 38],[bd 2 4,bd 4 4,bF 52 1],[.slot 9 5000 1]⟩)],b7 [(0,⟨[al 1,sp 2,sp 4,al 8,cn 9 5001],[bd 2 4,bd 4 4,bF 5001 1],[]⟩),(1,⟨[al 1,sp 2,sp 4,al 7,al 8,cn 9 52,al 36,al 37,al 38],[bd 2 4,bd 4 4,bF 52 1],[]⟩),(2,⟨[al 1,sp 2,sp 4,al 8,(16,.b (.map 6010))],[bd 2 4,bd 4 4,(6010,.map)],[]⟩),(4,⟨[al 1,sp 2,sp 4],[bd 2 4,bd 4 4],[]⟩)],fm [],eF [(56,⟨aby,GB n,6010,[]⟩)],ft [],fk [(14,[[5001],[],[]])]⟩ ((tok _).sP _) (bk (TO n) (bk (TP n) (bk (apL n) (bk (Nb n) (bk (apP n) (bk (apT n) a7)))))) (bO (apO n) ar) bC Tryz.func137
def apU(n:Nat):bw a0 a1 220 (GI n):=cD (ca n [] [(3,⟨[(3,.b (.map 8)),al 9,al 10,al 11],[(8,.map)],[]⟩)] [(24000007,⟨[(3,.b (.map 8)),al 9,al 10,al 11],[(8,.map)],[]⟩)] [(0,⟨[(3,.b (.map 8))],[(8,.map)],[]⟩),(1,⟨[(3,.b (.map 8)),al 9,al 10,al 11],[(8,.map)],[]⟩)]) bK a7 ar bC Tryz.func220
def abX(n:Nat):bw a0 a1 222 (rQ n):=dN (ca n [] [] [] []) bK a7 ar bC Tryz.func222
def apV(n:Nat):bw a0 a1 223 (GL n):=cD (ca n [] [(2,⟨[sp 2,al 6,al 7,al 8],[bd 2 3],[]⟩)] [] [(0,⟨[sp 2],[bd 2 3],[]⟩)]) bK a7 ar bC Tryz.func223
def apW(n:Nat):bw a0 a1 224 (zh n):=hv (ca n [(222,rQ n)] [] [(13000002,⟨[al 0,sp 4,sp 5,sp 6],[bd 4 3,bd 5 3,bd 6 3],[]⟩)] []) bK (bk (abX n) a7) ar bC Tryz.func224
def apX(n:Nat):bw a0 a1 221 (o4 n):=ald (ca n [(222,rQ n),(223,GL n),(224,zh n)] [] [(29007000,⟨[al 0,al 1,al 3,al 4,sp 7,sp 10,al 16,al 29],[bd 7 4,bd 10 3],[]⟩),(69017000,⟨[al 4,sp 7,sp 10,al 16,al 69],[bd 7 4,bd 10 3],[]⟩),(69018000,⟨[al 4,sp 7,sp 10,al 16,al 69],[bd 7 4,bd 10 3],[]⟩),(69019000,⟨[al 4,sp 7,sp 10,al 16,al 69],[bd 7 4,bd 10 3],[]⟩),(69020000,⟨[al 4,sp 7,sp 10,al 16,al 69],[bd 7 4,bd 10 3],[]⟩),(126029000,⟨[al 4,sp 7,sp 10,al 126],[bd 7 4,bd 10 3],[]⟩),(164038000,⟨[al 4,sp 7,sp 10,al 152,al 164],[bd 7 4,bd 10 3],[]⟩)] [(0,⟨[al 4,sp 7,sp 10],[bd 7 4,bd 10 3],[]⟩)]) bK (bk (abX n) (bk (apV n) (bk (apW n) a7))) ar bC Tryz.func221
def apY(zk:List D->Option D)(n:Nat)(ae:D)(ao:D)(bc:D)(b9:D)(apZ:bw a0 a1 219 zk){r:D}(h:Sm zk n ae ao bc b9=some r):er a0 a1 219 [ae,ao,bc,b9] (·=r):=e6 (ca n [(219,zk),(221,o4 n)] [(3,⟨[al 0,al 1,al 3,sp 6,sp 8,cn 10 5000,al 16,al 17,al 18],[bd 6 4,bd 8 3,bF 5000 3],[.slot 10 5000 3]⟩)] [] [(0,⟨[al 0,al 1,al 3,sp 6,sp 8,cn 10 5000],[bd 6 4,bd 8 3,bF 5000 3],[]⟩)]) bK (bk apZ (bk (apX n) a7)) ar bC Tryz.func219 (cb (cb (cb (cb le_nil)))) h
def abY:∀n,bw a0 a1 219 (rR n)
 |0=>(λ_ _ h=>by cases h)
 |n+1=>by
  have ih:=abY n;exact(by
   intro aQ r h;unfold rR at h;split at h
   case h_2=>cases h
   exact apY (rR n) n _ _ _ _ ih h)
def ap0(n:Nat):bw a0 a1 219 (rR n):=(abY n)
def ap1(n:Nat):bw a0 a1 218 (Ck n):=hv (ca n [(159,ti n),(220,GI n),(219,rR n)] [] [] []) bK (bk (TO n) (bk (apU n) (bk (ap0 n) a7))) ar bC Tryz.func218
def TQ(n:Nat):bw a0 a1 217 (tq n):=hv (ca n [(137,mG n),(218,Ck n)] [] [] []) bK (bk (Nc n) (bk (ap1 n) a7)) ar bC Tryz.func217
def abZ(n:Nat):bw a0 a1 228 (w5 n):=hv (ca n [(217,tq n)] [] [] []) bK (bk (TQ n) a7) ar bC Tryz.func228
def ap2(zl:List D->Option D)(n:Nat)(ae:D)(ao:D)(ap3:bw a0 a1 241 zl){r:D}(h:GQ zl n ae ao=some r):er a0 a1 241 [ae,ao] (·=r):=e6 (ca n [(228,w5 n),(241,zl)] [(4,⟨[sp 2,al 16,al 17,al 18],[bd 2 8],[]⟩)] [] [(0,⟨[],[],[]⟩)]) bK (bk (abZ n) (bk ap3 a7)) ar bC Tryz.func241 (cb (cb le_nil)) h
def ab0:∀n,bw a0 a1 241 (tu n)
 |0=>(λ_ _ h=>by cases h)
 |n+1=>by
  have ih:=ab0 n;exact(by
   intro aQ r h;unfold tu at h;split at h
   case h_2=>cases h
   exact ap2 (tu n) n _ _ ih h)
def ap4(n:Nat):bw a0 a1 241 (tu n):=(ab0 n)
def ap5(n:Nat)(ae:D)(c2:List D){r:D}(h:L9 n ae c2=some r):er a0 a1 232 [ae,.ref c2 0] (·=r):=e6 (ca n [] [] [] []) bK a7 ar bC Tryz.func232 (cb (n4 oU le_nil)) h
def ap6(n:Nat):bw a0 a1 232 (GR n):=by
 intro aQ r h;unfold GR at h;split at h
 case h_2=>cases h
 split at h
 case h_2=>cases h
 exact ap5 n _ _ h
def ap7(n:Nat)(ae:D)(cC:D){r:D}(h:GU n ae cC=some r):er a0 a1 154 [ae,(D.fn (.func B2) [] [cC])] (·=r):=e6 (ca n [(232,GR n)] [(2,⟨[al 0,(1,.b (.fd B2 1)),al 7,al 8],[],[]⟩)] [] [(0,⟨[],[],[]⟩)]) bK (bk (ap6 n) a7) ar bC Tryz.func154 (cb (cb le_nil)) h
def ap8(n:Nat):bw a0 a1 154 (zm n):=by
 intro aQ r h;unfold zm at h;split at h
 case h_2=>cases h
 split at h
 case h_2=>cases h
 rename_i an;obtain rfl:=l7 an;exact ap7 n _ _ h
def ap9(n:Nat)(ae:D)(c2:List D){r:D}(h:Ma n ae c2=some r):er a0 a1 234 [ae,.ref c2 0] (·=r):=e6 (ca n [] [] [] []) bK a7 ar bC Tryz.func234 (cb (n4 oU le_nil)) h
def aqa(n:Nat):bw a0 a1 234 (GV n):=by
 intro aQ r h;unfold GV at h;split at h
 case h_2=>cases h
 split at h
 case h_2=>cases h
 exact ap9 n _ _ h
def aqb(n:Nat)(ae:D)(cC:D){r:D}(h:GX n ae cC=some r):er a0 a1 235 [ae,(D.fn (.func rH) [] [cC])] (·=r):=e6 (ca n [(234,GV n)] [(2,⟨[al 0,(1,.b (.fd rH 1)),al 7,al 8],[],[]⟩)] [] [(0,⟨[],[],[]⟩)]) bK (bk (aqa n) a7) ar bC Tryz.func235 (cb (cb le_nil)) h
def aqc(n:Nat):bw a0 a1 235 (zn n):=by
 intro aQ r h;unfold zn at h;split at h
 case h_2=>cases h
 split at h
 case h_2=>cases h
 rename_i an;obtain rfl:=l7 an;exact aqb n _ _ h
def aqd(n:Nat)(ae:D)(cC:D){r:D}(h:Mb n ae cC=some r):er a0 a1 233 [ae,(D.fn (.func rH) [] [cC])] (·=r):=e6 (ca n [(235,zn n)] [] [] []) bK (bk (aqc n) a7) ar bC Tryz.func233 (cb (cb le_nil)) h
def aqe(n:Nat):bw a0 a1 233 (zo n):=by
 intro aQ r h;unfold zo at h;split at h
 case h_2=>cases h
 split at h
 case h_2=>cases h
 rename_i an;obtain rfl:=l7 an;exact aqd n _ _ h
def aqf(n:Nat):bw a0 a1 231 (w6 n):=hv (ca n [(154,zm n),(233,zo n),(217,tq n)] [] [] []) bK (bk (ap8 n) (bk (aqe n) (bk (TQ n) a7))) ar bC Tryz.func231
def aqg(n:Nat):bw a0 a1 227 (Cl n):=hv (ca n [(228,w5 n)] [] [] []) bK (bk (abZ n) a7) ar bC Tryz.func227
def aqh(n:Nat):bw a0 a1 216 (Cm n):=hv (ca n [(217,tq n)] [] [] []) bK (bk (TQ n) a7) ar bC Tryz.func216
def aqi(n:Nat)(ae:D)(c2:List D){r:D}(h:Md n ae c2=some r):er a0 a1 213 [ae,.ref c2 0] (·=r):=e6 (ca n [] [] [] []) bK a7 ar bC Tryz.func213 (cb (n4 oU le_nil)) h
def aqj(n:Nat):bw a0 a1 213 (G0 n):=by
 intro aQ r h;unfold G0 at h;split at h
 case h_2=>cases h
 split at h
 case h_2=>cases h
 exact aqi n _ _ h
def aqk(n:Nat)(ae:D)(cC:D){r:D}(h:G2 n ae cC=some r):er a0 a1 212 [ae,(D.fn (.func B1) [] [cC])] (·=r):=e6 (ca n [(213,G0 n)] [(2,⟨[al 0,(1,.b (.fd B1 1)),al 7,al 8],[],[]⟩)] [] [(0,⟨[],[],[]⟩)]) bK (bk (aqj n) a7) ar bC Tryz.func212 (cb (cb le_nil)) h
def aql(n:Nat):bw a0 a1 212 (zp n):=by
 intro aQ r h;unfold zp at h;split at h
 case h_2=>cases h
 split at h
 case h_2=>cases h
 rename_i an;obtain rfl:=l7 an;exact aqk n _ _ h
def aqm(n:Nat):bw a0 a1 211 (Cn n):=hv ⟨eC a0,a1,eG [(99,rO n),(212,zp n)],n,[],b7 [(3,⟨[al 0,al 2,cn 7 16,cn 8 18],[bF 16 1,bF 18 1],[]⟩),(7,⟨[al 0,al 2,cn 7 16,cn 8 18,al 35,al 36,al 37],[bF 16 1,bF 18 1],[]⟩)],b7 [(52000011,⟨[al 0,al 2,cn 7 16,cn 8 59,al 35,al 36,al 37],[bF 16 1,bF 59 1],[]⟩)],b7 [(0,⟨[al 2,cn 7 16],[bF 16 1],[]⟩),(1,⟨[al 0,al 2,cn 7 16,cn 8 18],[bF 16 1,bF 18 1],[]⟩),(2,⟨[al 0,al 2,cn 7 16,cn 8 18],[bF 16 1,bF 18 1],[]⟩),(3,⟨[al 0,al 2,cn 7 16,cn 8 59,al 35,al 36,al 37],[bF 16 1,bF 59 1],[]⟩)],fm [],eF [],ft [23],fk []⟩ bK (bk (Nb n) (bk (aql n) a7)) ar bC Tryz.func211
def aqn(n:Nat)(ae:D)(c2:List D){r:D}(h:Mg n ae c2=some r):er a0 a1 205 [ae,.ref c2 0] (·=r):=e6 (ca n [] [] [] []) bK a7 ar bC Tryz.func205 (cb (n4 oU le_nil)) h
def aqo(n:Nat):bw a0 a1 205 (G3 n):=by
 intro aQ r h;unfold G3 at h;split at h
 case h_2=>cases h
 split at h
 case h_2=>cases h
 exact aqn n _ _ h
def aqp(n:Nat)(ae:D)(cC:D){r:D}(h:G5 n ae cC=some r):er a0 a1 154 [ae,(D.fn (.func rF) [] [cC])] (·=r):=e6 (ca n [(205,G3 n)] [(2,⟨[al 0,(1,.b (.fd rF 1)),al 7,al 8],[],[]⟩)] [] [(0,⟨[],[],[]⟩)]) bK (bk (aqo n) a7) ar bC Tryz.func154 (cb (cb le_nil)) h
def aqq(n:Nat):bw a0 a1 154 (zr n):=by
 intro aQ r h;unfold zr at h;split at h
 case h_2=>cases h
 split at h
 case h_2=>cases h
 rename_i an;obtain rfl:=l7 an;exact aqp n _ _ h
def aqr(n:Nat)(ae:D)(cC:D){r:D}(h:Mh n ae cC=some r):er a0 a1 114 [ae,(D.fn (.func rF) [] [cC])] (·=r):=e6 (ca n [(154,zr n)] [] [] []) bK (bk (aqq n) a7) ar bC Tryz.func114 (cb (cb le_nil)) h
def aqs(n:Nat):bw a0 a1 114 (zs n):=by
 intro aQ r h;unfold zs at h;split at h
 case h_2=>cases h
 split at h
 case h_2=>cases h
 rename_i an;obtain rfl:=l7 an;exact aqr n _ _ h
def aqt(n:Nat)(ae:D)(c2:List D){r:D}(h:Mi n ae c2=some r):er a0 a1 207 [ae,.ref c2 0] (·=r):=e6 (ca n [] [] [] []) bK a7 ar bC Tryz.func207 (cb (n4 oU le_nil)) h
def aqu(n:Nat):bw a0 a1 207 (G6 n):=by
 intro aQ r h;unfold G6 at h;split at h
 case h_2=>cases h
 split at h
 case h_2=>cases h
 exact aqt n _ _ h
def aqv(n:Nat)(ae:D)(cC:D){r:D}(h:G8 n ae cC=some r):er a0 a1 208 [ae,(D.fn (.func rG) [] [cC])] (·=r):=e6 (ca n [(207,G6 n)] [(2,⟨[al 0,(1,.b (.fd rG 1)),al 7,al 8],[],[]⟩)] [] [(0,⟨[],[],[]⟩)]) bK (bk (aqu n) a7) ar bC Tryz.func208 (cb (cb le_nil)) h
def aqw(n:Nat):bw a0 a1 208 (zt n):=by
 intro aQ r h;unfold zt at h;split at h
 case h_2=>cases h
 split at h
 case h_2=>cases h
 rename_i an;obtain rfl:=l7 an;exact aqv n _ _ h
def aqx(n:Nat)(ae:D)(cC:D){r:D}(h:Mj n ae cC=some r):er a0 a1 206 [ae,(D.fn (.func rG) [] [cC])] (·=r):=e6 (ca n [(208,zt n)] [] [] []) bK (bk (aqw n) a7) ar bC Tryz.func206 (cb (cb le_nil)) h
def aqy(n:Nat):bw a0 a1 206 (zu n):=by
 intro aQ r h;unfold zu at h;split at h
 case h_2=>cases h
 split at h
 case h_2=>cases h
 rename_i an;obtain rfl:=l7 an;exact aqx n _ _ h
def aqz(n:Nat):bw a0 a1 204 (u4 n):=hv (ca n [(113,tg n),(114,zs n),(206,zu n)] [] [(17005000,⟨[al 17],[],[]⟩)] []) bK (bk (TN n) (bk (aqs n) (bk (aqy n) a7))) ar bC Tryz.func204
def aqA(n:Nat):bw a0 a1 236 (Mk n):=cD (ca n [] [] [] []) bK a7 ar bC Tryz.func236
def aqB(n:Nat):bw a0 a1 229 (Ml n):=cD (ca n [] [] [] []) bK a7 ar bC Tryz.func229
def aqC(n:Nat):bw a0 a1 225 (Mm n):=cD (ca n [] [] [] []) bK a7 ar bC Tryz.func225
def aqD(n:Nat):bw a0 a1 214 (Mn n):=cD (ca n [] [] [] []) bK a7 ar bC Tryz.func214
def aqE(n:Nat):bw a0 a1 209 (Mo n):=cD (ca n [] [] [] []) bK a7 ar bC Tryz.func209
def aqF(n:Nat):bw a0 a1 202 (Mp n):=cD (ca n [] [] [] []) bK a7 ar bC Tryz.func202
def aqG(n:Nat):bw a0 a1 103 (pQ n):=dN (ca n [(137,mG n)] [(2,⟨[al 1,cn 4 5000,al 11,al 12,al 13],[bF 5000 4],[.slot 4 5000 4]⟩)] [] [(0,⟨[cn 4 5000],[bF 5000 4],[]⟩)]) bK (bk (Nc n) a7) ar bC Tryz.func103
def aqH(n:Nat):bw a0 a1 104 (zv n):=dN (ca n [(137,mG n)] [(2,⟨[al 1,cn 4 5000,al 11,al 12,al 13],[bF 5000 5],[.slot 4 5000 5]⟩)] [] [(0,⟨[cn 4 5000],[bF 5000 5],[]⟩)]) bK (bk (Nc n) a7) ar bC Tryz.func104
def aqI(zw:List D->Option (List D))(n:Nat)(aqJ:fb a0 a1 Ai zw):fb a0 a1 Ai (tw zw n):=iM ⟨eC a0,a1,eG [(137,mG n)],n,[10000,10001],b7 [(8,⟨[(2,.b (.ptr 10001 0)),sp 3,sp 4,cn 8 5000,al 32,al 33,al 34],[(10001,.box [.fn (.func LP) [] [.ptr 10000 0,.ptr 10001 0]]),bd 3 6,bd 4 6,bF 5000 6,bd 10000 1],[.slot 8 5000 6]⟩)],b7 [],b7 [(0,⟨[sp 3,sp 4,cn 8 5000],[bd 3 6,bd 4 6,bF 5000 6,bd 10000 1,(10001,.box [.fn (.func LP) [] [.ptr 10000 0,.ptr 10001 0]])],[]⟩)],fm [],eF [(41,⟨Ai,zw,6020,[]⟩)],ft [20004],fk []⟩ bK (bk (Nc n) a7) (bO aqJ ar) bC Tryz.func164 []
def ab1:∀n,fb a0 a1 Ai (pR n)
 |0=>yI (s:=Ai) (yJ (T:=eC a0) (os:=λ_=>none) Tryz.func164) (λ_=>rfl)|n+1=>by have ih:=ab1 n;exact aqI (pR n) n ih
def aqK(n:Nat):fb a0 a1 Ai (pR n):=(ab1 n)
def aqL(n:Nat):fb a0 a1 abz (Ms n):=iM ⟨eC a0,a1,eG [],n,[],b7 [],b7 [],b7 [],fm [(2,[0,1,2,3])],eF [(6,⟨xl,rN n,6010,[.box 3 0 5900 1,.box 2 0 5901 1]⟩)],ft [],fk []⟩ bK a7 (bO (abT n) ar) bC Tryz.func99 []
def ab2(n:Nat):bw a0 a1 58 (w8 n):=cD ⟨eC a0,a1,eG [],n,[],b7 [],b7 [],b7 [],fm [],eF [(7,⟨abz,Ms n,6010,[]⟩)],ft [],fk []⟩ bK a7 (bO (aqL n) ar) bC Tryz.func58
def TR(n:Nat):bw a0 a1 69 (pS n):=dN (ca n [] [(1,⟨[al 0,al 1],[],[]⟩)] [] [(0,⟨[al 1],[],[]⟩)]) bK a7 ar bC Tryz.func69
def aqM(n:Nat):fb a0 a1 abA (Cp n):=iM ⟨eC a0,a1,eG [(69,pS n)],n,[10000],b7 [(1,⟨[(0,.b (.map 10000)),al 1,al 6,al 7,al 8],[(10000,.map)],[]⟩)],b7 [],b7 [(0,⟨[],[(10000,.map)],[]⟩)],fm [],eF [],ft [],fk []⟩ bK (bk (TR n) a7) ar bC Tryz.func109 []
def aqN(n:Nat):fb a0 a1 abB (Cq n):=iM ⟨eC a0,a1,eG [(69,pS n)],n,[10000,10001],b7 [(1,⟨[(0,.b (.map 10000)),cn 1 10001,cn 6 10001,al 7,al 8],[(10000,.map),bF 10001 1],[]⟩)],b7 [],b7 [(0,⟨[],[(10000,.map),bF 10001 1],[]⟩)],fm [],eF [],ft [],fk []⟩ bK (bk (TR n) a7) ar bC Tryz.func109 []
def aqO(n:Nat):bw a0 a1 67 (Hf n):=cD ⟨eC a0,a1,eG [(58,w8 n)],n,[],b7 [(3,⟨[sp 1,(3,.b (.map 12)),al 14,al 15,al 16],[bd 1 8,(12,.map)],[]⟩),(8,⟨[sp 1,(3,.b (.map 12)),al 34,al 35],[bd 1 8,(12,.map)],[]⟩),(11,⟨[sp 1,(3,.b (.map 12)),al 34,al 35,al 38,al 39,al 40],[bd 1 8,(12,.map)],[]⟩),(17,⟨[(3,.b (.map 12)),al 51,al 52,al 53],[(12,.map)],[]⟩)],b7 [],b7 [(0,⟨[sp 1,(3,.b (.map 12))],[bd 1 8,(12,.map)],[]⟩),(2,⟨[sp 1,(3,.b (.map 12))],[bd 1 8,(12,.map)],[]⟩),(3,⟨[sp 1,(3,.b (.map 12)),al 34,al 35],[bd 1 8,(12,.map)],[]⟩),(4,⟨[sp 1,(3,.b (.map 12)),al 34,al 35],[bd 1 8,(12,.map)],[]⟩),(6,⟨[(3,.b (.map 12))],[(12,.map)],[]⟩)],fm [(19,[1,2,4,5,6,0,3,7])],eF [(47,⟨abA,Cp n,6010,[]⟩),(65,⟨abB,Cq n,6020,[]⟩)],ft [],fk []⟩ bK (bk (ab2 n) a7) (bO (aqM n) (bO (aqN n) ar)) bC Tryz.func67
def aqP(n:Nat)(ae:D)(c2:List D)(m6:List D){r:D}(h:Mx n ae c2 m6=some r):er a0 a1 68 [ae,.ref c2 0,.ref m6 0] (·=r):=e6 (ca n [(69,pS n)] [] [] []) bK (bk (TR n) a7) ar bC Tryz.func68 (cb (n4 oU (n4 oU le_nil))) h
def aqQ(n:Nat):bw a0 a1 68 (zx n):=by
 intro aQ r h;unfold zx at h;split at h
 case h_2=>cases h
 split at h
 case h_2=>cases h
 split at h
 case h_2=>cases h
 exact aqP n _ _ _ h
def aqR(n:Nat)(ae:D)(cC:D)(pT:D){r:D}(h:My n ae cC pT=some r):er a0 a1 107 [ae,(D.fn (.func s8) [] [cC,pT])] (·=r):=e6 (ca n [(68,zx n)] [(2,⟨[al 0,(1,.b (.fd s8 2)),al 7,al 8],[],[]⟩)] [] [(0,⟨[],[],[]⟩)]) bK (bk (aqQ n) a7) ar bC Tryz.func107 (cb (cb le_nil)) h
def aqS(n:Nat):bw a0 a1 107 (Cr n):=by
 intro aQ r h;unfold Cr at h;split at h
 case h_2=>cases h
 split at h
 case h_2=>cases h
 rename_i an;obtain rfl:=l7 an;exact aqR n _ _ _ h
def aqT(n:Nat)(ae:D)(cC:D)(pT:D){r:D}(h:Mz n ae cC pT=some r):er a0 a1 57 [ae,(D.fn (.func s8) [] [cC,pT])] (·=r):=e6 (ca n [(107,Cr n)] [] [] []) bK (bk (aqS n) a7) ar bC Tryz.func57 (cb (cb le_nil)) h
def aqU(n:Nat):bw a0 a1 57 (zy n):=by
 intro aQ r h;unfold zy at h;split at h
 case h_2=>cases h
 split at h
 case h_2=>cases h
 rename_i an;obtain rfl:=l7 an;exact aqT n _ _ _ h
def aqV(n:Nat):bw a0 a1 150 (zz n):=cD (ca n [] [] [(4000002,⟨[al 0,al 2],[],[]⟩),(8000005,⟨[al 0,al 2],[],[]⟩),(14000008,⟨[al 0,al 2],[],[]⟩)] []) bK a7 ar bC Tryz.func150
def ab3(n:Nat):bw a0 a1 111 (rS n):=cD (ca n [(150,zz n)] [] [] []) bK (bk (aqV n) a7) ar bC Tryz.func111
def aqW(n:Nat):bw a0 a1 171 (Hj n):=cD (ca n [] [] [] []) bK a7 ar bC Tryz.func171
def Ak(n:Nat):bw a0 a1 146 (jq n):=dN (ca n [(171,Hj n)] [] [] []) bK (bk (aqW n) a7) ar bC Tryz.func146
def aqX(n:Nat):fb a0 a1 abC (Ct n):=iM ⟨eC a0,a1,eG [(146,jq n)],n,[10000],b7 [(1,⟨[cn 0 10000,al 1,al 2,al 6],[bF 10000 1],[]⟩),(4,⟨[cn 0 10000,al 1,al 2,al 6,al 7],[bF 10000 1],[]⟩)],b7 [],b7 [(0,⟨[],[bF 10000 1],[]⟩),(1,⟨[cn 0 10000,al 1,al 2,al 6],[bF 10000 1],[]⟩),(2,⟨[cn 0 10000,al 1,al 2,al 6],[bF 10000 1],[]⟩)],fm [(6,[0,1,2,3,5,6,7,8,9,10,11,12,13,14,4,15,16,17])],eF [],ft [],fk []⟩ bK (bk (Ak n) a7) ar bC Tryz.func140 []
def ab4(n:Nat):fb a0 a1 TL (u6 n):=iM ⟨eC a0,a1,eG [(146,jq n)],n,[10000],b7 [(1,⟨[cn 0 10000,al 2,al 3,al 8],[bF 10000 1],[]⟩)],b7 [(36000004,⟨[cn 0 10000,al 2,al 3,al 8,al 9],[bF 10000 1],[]⟩)],b7 [(0,⟨[],[bF 10000 1],[]⟩)],fm [(6,[0,1,2,3,4,5,6,8,9,10,11,12,13,14,15,16,17,18,19,20,7,21,22,23])],eF [],ft [],fk []⟩ bK (bk (Ak n) a7) ar bC Tryz.func166 []
def aqY(n:Nat):fb a0 a1 abD (Cw n):=iM ⟨eC a0,a1,eG [],n,[10000],b7 [(4,⟨[cn 0 10000,al 6,al 7,al 8,al 9],[bF 10000 1],[]⟩),(8,⟨[cn 0 10000,al 6,al 7,al 10],[bF 10000 1],[]⟩)],b7 [],b7 [(0,⟨[cn 0 10000,al 6,al 7,al 8],[bF 10000 1],[]⟩),(2,⟨[],[bF 10000 1],[]⟩)],fm [(10,[0,1,2,3,4,6,7,8,9,10,11,12,13,14,15,16,5,17,18,19])],eF [(26,⟨TL,u6 n,6010,[]⟩),(55,⟨TL,u6 n,6020,[]⟩)],ft [],fk []⟩ bK a7 (bO (ab4 n) (bO (ab4 n) ar)) bC Tryz.func141 []
def aqZ(n:Nat):bw a0 a1 167 (Hm n):=cD (ca n [(111,rS n)] [] [] []) bK (bk (ab3 n) a7) ar bC Tryz.func167
def aq0(n:Nat):fb a0 a1 abE (MC n):=iM ⟨eC a0,a1,eG [],n,[10000],b7 [],b7 [],b7 [],fm [],eF [],ft [],fk []⟩ bK a7 ar bC Tryz.func168 []
def aq1(n:Nat):fb a0 a1 abF (zA n):=iM ⟨eC a0,a1,eG [(167,Hm n)],n,[10000],b7 [(5,⟨[cn 0 10000,al 1,al 6,sp 7,al 8,al 9],[bF 10000 1,bd 7 1],[]⟩)],b7 [(15000002,⟨[],[bF 10000 1],[]⟩),(43000009,⟨[cn 0 10000,al 1,al 6,sp 7,al 8,al 9,al 10],[bF 10000 1,bd 7 1],[]⟩)],b7 [(0,⟨[],[bF 10000 1],[]⟩)],fm [(10,[0,1,2,3,4,6,7,8,9,10,11,12,13,14,15,16,5,17,18,19])],eF [(36,⟨abE,MC n,6010,[]⟩)],ft [],fk []⟩ bK (bk (aqZ n) a7) (bO (aq0 n) ar) bC Tryz.func142 []
def TS(n:Nat):fb a0 a1 M9 (tx n):=iM ⟨eC a0,a1,eG [(146,jq n)],n,[10000],b7 [],b7 [],b7 [],fm [],eF [],ft [],fk []⟩ bK (bk (Ak n) a7) ar bC Tryz.func183 []
def ab5(n:Nat):fb a0 a1 TM (u9 n):=iM ⟨eC a0,a1,eG [],n,[10000],b7 [],b7 [],b7 [],fm [],eF [(16,⟨M9,tx n,6010,[]⟩),(24,⟨M9,tx n,6020,[]⟩),(32,⟨M9,tx n,6030,[]⟩)],ft [],fk []⟩ bK a7 (bO (TS n) (bO (TS n) (bO (TS n) ar))) bC Tryz.func170 []
def TT(n:Nat):fb a0 a1 Na (pU n):=iM ⟨eC a0,a1,eG [],n,[10000],b7 [],b7 [],b7 [],fm [],eF [(14,⟨TM,u9 n,6010,[]⟩)],ft [],fk []⟩ bK a7 (bO (ab5 n) ar) bC Tryz.func169 []
def aq2(n:Nat):bw a0 a1 143 (w9 n):=hv ⟨eC a0,a1,eG [],n,[],b7 [],b7 [(32000007,⟨[sp 9,al 11],[bd 9 1],[]⟩),(34000008,⟨[al 0,sp 9,al 10,al 11,al 12],[bd 9 1],[]⟩)],b7 [],fm [],eF [(37,⟨Na,pU n,6010,[]⟩),(40,⟨Na,pU n,6020,[]⟩),(43,⟨Na,pU n,6030,[]⟩),(48,⟨TM,u9 n,6040,[]⟩)],ft [],fk []⟩ bK a7 (bO (TT n) (bO (TT n) (bO (TT n) (bO (ab5 n) ar)))) bC Tryz.func143
def aq3(n:Nat):fb a0 a1 abG (Cx n):=iM ⟨eC a0,a1,eG [],n,[10000],b7 [(2,⟨[cn 0 10000,al 6,al 7],[bF 10000 1],[]⟩)],b7 [],b7 [(0,⟨[],[bF 10000 1],[]⟩)],fm [],eF [],ft [],fk []⟩ bK a7 ar bC Tryz.func144 []
def aq4(n:Nat):fb a0 a1 abH (xb n):=iM ⟨eC a0,a1,eG [(146,jq n)],n,[10000],b7 [(3,⟨[cn 0 10000,al 1,al 2,al 7,al 8],[bF 10000 1],[]⟩),(5,⟨[cn 0 10000,al 1,al 2,al 7,al 8],[bF 10000 1],[]⟩),(14,⟨[cn 0 10000,al 1,al 2,al 7,al 8,al 9],[bF 10000 1],[]⟩),(20,⟨[cn 0 10000,al 1,al 2,al 7,al 8,al 10],[bF 10000 1],[]⟩)],b7 [(61000013,⟨[cn 0 10000,al 1,al 2,al 7,al 8],[bF 10000 1],[]⟩),(98000019,⟨[cn 0 10000,al 1,al 2,al 7,al 8],[bF 10000 1],[]⟩)],b7 [(0,⟨[],[bF 10000 1],[]⟩),(1,⟨[cn 0 10000,al 1,al 2,al 7,al 8],[bF 10000 1],[]⟩),(2,⟨[cn 0 10000,al 1,al 2,al 7,al 8],[bF 10000 1],[]⟩),(4,⟨[cn 0 10000,al 1,al 2,al 7,al 8],[bF 10000 1],[]⟩),(6,⟨[cn 0 10000,al 1,al 2,al 7,al 8],[bF 10000 1],[]⟩)],fm [(11,[0,1,2,3,5,6,7,8,9,10,11,12,13,14,4,15,16,17]),(17,[0,1,2,3,5,6,7,8,9,10,11,12,13,14,4,15,16,17]),(23,[0,1,2,3,5,6,7,8,9,10,11,12,13,14,4,15,16,17])],eF [],ft [],fk []⟩ bK (bk (Ak n) a7) ar bC Tryz.func145 []
def aq5(n:Nat):fb a0 a1 abI (CC n):=iM ⟨eC a0,a1,eG [(146,jq n)],n,[10000],b7 [(3,⟨[cn 0 10000,al 1,al 9,al 10],[bF 10000 1],[]⟩),(5,⟨[cn 0 10000,al 1,al 9,al 10],[bF 10000 1],[]⟩)],b7 [],b7 [(0,⟨[al 9],[bF 10000 1],[]⟩),(1,⟨[cn 0 10000,al 1,al 9,al 10],[bF 10000 1],[]⟩),(2,⟨[cn 0 10000,al 1,al 9,al 10],[bF 10000 1],[]⟩),(4,⟨[cn 0 10000,al 1,al 9,al 10],[bF 10000 1],[]⟩)],fm [],eF [],ft [],fk []⟩ bK (bk (Ak n) a7) ar bC Tryz.func147 []
def aq6(n:Nat):fb a0 a1 abJ (zG n):=iM ⟨eC a0,a1,eG [(146,jq n)],n,[10000],b7 [(3,⟨[cn 0 10000,al 1,al 10,al 11],[bF 10000 1],[]⟩),(5,⟨[cn 0 10000,al 1,al 10,al 11],[bF 10000 1],[]⟩),(13,⟨[cn 0 10000,al 1,al 10,al 11],[bF 10000 1],[]⟩),(15,⟨[cn 0 10000,al 1,al 10,al 11],[bF 10000 1],[]⟩)],b7 [],b7 [(0,⟨[cn 0 10000,al 1,al 10,al 11],[bF 10000 1],[]⟩),(2,⟨[cn 0 10000,al 1,al 10,al 11],[bF 10000 1],[]⟩),(4,⟨[cn 0 10000,al 1,al 11],[bF 10000 1],[]⟩),(5,⟨[cn 0 10000,al 1,al 10,al 11],[bF 10000 1],[]⟩),(6,⟨[cn 0 10000,al 1,al 10,al 11],[bF 10000 1],[]⟩),(8,⟨[cn 0 10000,al 1,al 10,al 11],[bF 10000 1],[]⟩)],fm [],eF [],ft [],fk []⟩ bK (bk (Ak n) a7) ar bC Tryz.func148 []
def aq7(ma:List D->Option (List D))(n:Nat)(ab6:fb a0 a1 xn ma):fb a0 a1 xn (SU ma n):=iM ⟨eC a0,a1,eG [(143,w9 n),(146,jq n)],n,[10000],b7 [(2,⟨[cn 0 10000,al 1,al 2,al 3,al 8,al 9],[bF 10000 1],[]⟩)],b7 [(35000008,⟨[cn 0 10000,al 1,al 2,al 3,al 8,al 9,al 10],[bF 10000 1],[]⟩),(50000012,⟨[cn 0 10000,al 1,al 2,al 3,al 8,al 9,al 10,al 11,al 12],[bF 10000 1],[]⟩),(68000016,⟨[cn 0 10000,al 1,al 2,al 3,al 8,al 9,al 10,al 11],[bF 10000 1],[]⟩),(113028025,⟨[cn 0 10000,al 1,al 2,al 3,al 8,al 9],[bF 10000 1],[]⟩)],b7 [(1,⟨[cn 0 10000,al 1,al 2,al 3,al 8,al 9],[bF 10000 1],[]⟩)],fm [],eF [(27,⟨abC,Ct n,6010,[]⟩),(33,⟨abD,Cw n,6020,[]⟩),(39,⟨abF,zA n,6030,[]⟩),(54,⟨abG,Cx n,6040,[]⟩),(72,⟨abH,xb n,6050,[]⟩),(92,⟨abI,CC n,6060,[]⟩),(99,⟨abJ,zG n,6070,[]⟩),(121,⟨xn,ma,6080,[]⟩),(132,⟨xn,ma,6090,[]⟩)],ft [],fk []⟩ bK (bk (aq2 n) (bk (Ak n) a7)) (bO (aqX n) (bO (aqY n) (bO (aq1 n) (bO (aq3 n) (bO (aq4 n) (bO (aq5 n) (bO (aq6 n) (bO ab6 (bO ab6 ar))))))))) bC Tryz.func110 []
def ab7:∀n,fb a0 a1 xn (rT n)
 |0=>yI (s:=xn) (yJ (T:=eC a0) (os:=λ_=>none) Tryz.func110) (λ_=>rfl)|n+1=>by have ih:=ab7 n;exact aq7 (rT n) n ih
def aq8(n:Nat):fb a0 a1 xn (rT n):=(ab7 n)
def aq9(n:Nat):fb a0 a1 abK (CI n):=iM ⟨eC a0,a1,eG [(111,rS n)],n,[10000],b7 [],b7 [],b7 [],fm [],eF [(10,⟨xn,rT n,6010,[]⟩)],ft [],fk []⟩ bK (bk (ab3 n) a7) (bO (aq8 n) ar) bC Tryz.func70 []
def ab8(n:Nat):bw a0 a1 33 (vg n):=dN ⟨eC a0,a1,eG [(67,Hf n),(57,zy n)],n,[],b7 [(4,⟨[al 1,sp 5,cn 6 5001,al 13,al 14,al 15],[bd 5 1,bF 5001 1],[.slot 6 5001 1]⟩)],b7 [(22000008,⟨[al 1,sp 5,cn 6 27,al 13,al 14,al 15],[bd 5 1,bF 27 1],[.slot 6 5000 1]⟩)],b7 [(0,⟨[cn 6 5001],[bF 5001 1],[]⟩),(1,⟨[al 1,sp 5,cn 6 27,al 13,al 14,al 15],[bd 5 1,bF 27 1],[]⟩)],fm [],eF [(30,⟨abK,CI n,6010,[]⟩)],ft [],fk []⟩ bK (bk (aqO n) (bk (aqU n) a7)) (bO (aq9 n) ar) bC Tryz.func33
def ara(n:Nat)(ae:D)(c2:List D){r:D}(h:SV n ae c2=some r):er a0 a1 54 [ae,.ref c2 0] (·=r):=e6 (ca n [(55,te n)] [] [] []) bK (bk (abP n) a7) ar bC Tryz.func54 (cb (n4 oU le_nil)) h
def TU(n:Nat):bw a0 a1 54 (rU n):=by
 intro aQ r h;unfold rU at h;split at h
 case h_2=>cases h
 split at h
 case h_2=>cases h
 exact ara n _ _ h
def arb(n:Nat)(ae:D)(c2:List D){r:D}(h:SW n ae c2=some r):er a0 a1 61 [ae,.ref c2 0] (·=r):=e6 ⟨((eC a0).wy [(7,[54])]),a1,eG [(54,rU n)],n,[],b7 [],b7 [],b7 [],fm [],eF [],ft [],fk []⟩ ((tok _).wy _) (bk (TU n) a7) ar bC Tryz.func61 (cb (n4 oU le_nil)) h
def arc(n:Nat):bw a0 a1 61 (CK n):=by
 intro aQ r h;unfold CK at h;split at h
 case h_2=>cases h
 split at h
 case h_2=>cases h
 exact arb n _ _ h
def ard(n:Nat)(ae:D)(cC:D){r:D}(h:SX n ae cC=some r):er a0 a1 60 [ae,(D.fn (.func uT) [] [cC])] (·=r):=e6 (ca n [(61,CK n)] [(3,⟨[(1,.b (.fd uT 1)),cn 5 5001,al 8,al 9,al 10],[bF 5001 4],[.slot 5 5001 4]⟩)] [(16000006,⟨[(1,.b (.fd uT 1)),cn 5 20,al 8,al 9,al 10],[bF 20 4],[.slot 5 5000 4]⟩)] [(0,⟨[cn 5 5001],[bF 5001 4],[]⟩),(1,⟨[(1,.b (.fd uT 1)),cn 5 20,al 8,al 9,al 10],[bF 20 4],[]⟩)]) bK (bk (arc n) a7) ar bC Tryz.func60 (cb (cb le_nil)) h
def are(n:Nat):bw a0 a1 60 (CL n):=by
 intro aQ r h;unfold CL at h;split at h
 case h_2=>cases h
 split at h
 case h_2=>cases h
 rename_i an;obtain rfl:=l7 an;exact ard n _ _ h
def arf(n:Nat)(ae:D)(c2:List D){r:D}(h:SY n ae c2=some r):er a0 a1 59 [ae,.ref c2 0] (·=r):=e6 ⟨((eC a0).wy [(6,[54])]),a1,eG [(54,rU n)],n,[],b7 [],b7 [],b7 [],fm [],eF [],ft [],fk []⟩ ((tok _).wy _) (bk (TU n) a7) ar bC Tryz.func59 (cb (n4 oU le_nil)) h
def arh(n:Nat):bw a0 a1 59 (CM n):=by
 intro aQ r h;unfold CM at h;split at h
 case h_2=>cases h
 split at h
 case h_2=>cases h
 exact arf n _ _ h
def ari(n:Nat)(ae:D)(cC:D){r:D}(h:MK n ae cC=some r):er a0 a1 107 [ae,(D.fn (.func s7) [] [cC])] (·=r):=e6 (ca n [(59,CM n)] [(2,⟨[al 0,(1,.b (.fd s7 1)),al 7,al 8],[],[]⟩)] [] [(0,⟨[],[],[]⟩)]) bK (bk (arh n) a7) ar bC Tryz.func107 (cb (cb le_nil)) h
def arj(n:Nat):bw a0 a1 107 (CN n):=by
 intro aQ r h;unfold CN at h;split at h
 case h_2=>cases h
 split at h
 case h_2=>cases h
 rename_i an;obtain rfl:=l7 an;exact ari n _ _ h
def ark(n:Nat)(ae:D)(cC:D){r:D}(h:ML n ae cC=some r):er a0 a1 57 [ae,(D.fn (.func s7) [] [cC])] (·=r):=e6 (ca n [(107,CN n)] [] [] []) bK (bk (arj n) a7) ar bC Tryz.func57 (cb (cb le_nil)) h
def arl(n:Nat):bw a0 a1 57 (zI n):=by
 intro aQ r h;unfold zI at h;split at h
 case h_2=>cases h
 split at h
 case h_2=>cases h
 rename_i an;obtain rfl:=l7 an;exact ark n _ _ h
def arn(n:Nat)(ae:D)(c2:List D){r:D}(h:SZ n ae c2=some r):er a0 a1 56 [ae,.ref c2 0] (·=r):=e6 (ca n [(58,w8 n),(57,zI n)] [] [] []) bK (bk (ab2 n) (bk (arl n) a7)) ar bC Tryz.func56 (cb (n4 oU le_nil)) h
def aro(n:Nat):bw a0 a1 56 (CO n):=by
 intro aQ r h;unfold CO at h;split at h
 case h_2=>cases h
 split at h
 case h_2=>cases h
 exact arn n _ _ h
def arp(n:Nat)(ae:D)(cC:D){r:D}(h:S0 n ae cC=some r):er a0 a1 62 [ae,(D.fn (.func qB) [] [cC])] (·=r):=e6 (ca n [(56,CO n)] [(3,⟨[(1,.b (.fd qB 1)),cn 5 5001,al 8,al 9,al 10],[bF 5001 4],[.slot 5 5001 4]⟩)] [(16000006,⟨[(1,.b (.fd qB 1)),cn 5 20,al 8,al 9,al 10],[bF 20 4],[.slot 5 5000 4]⟩)] [(0,⟨[cn 5 5001],[bF 5001 4],[]⟩),(1,⟨[(1,.b (.fd qB 1)),cn 5 20,al 8,al 9,al 10],[bF 20 4],[]⟩)]) bK (bk (aro n) a7) ar bC Tryz.func62 (cb (cb le_nil)) h
def arq(n:Nat):bw a0 a1 62 (vh n):=by
 intro aQ r h;unfold vh at h;split at h
 case h_2=>cases h
 split at h
 case h_2=>cases h
 rename_i an;obtain rfl:=l7 an;exact arp n _ _ h
def ars(n:Nat)(ae:D)(c2:List D){r:D}(h:S1 n ae c2=some r):er a0 a1 64 [ae,.ref c2 0] (·=r):=e6 ⟨((eC a0).wy [(7,[54])]),a1,eG [(54,rU n)],n,[],b7 [],b7 [],b7 [],fm [],eF [],ft [],fk []⟩ ((tok _).wy _) (bk (TU n) a7) ar bC Tryz.func64 (cb (n4 oU le_nil)) h
def art(n:Nat):bw a0 a1 64 (CP n):=by
 intro aQ r h;unfold CP at h;split at h
 case h_2=>cases h
 split at h
 case h_2=>cases h
 exact ars n _ _ h
def aru(n:Nat)(ae:D)(cC:D){r:D}(h:S2 n ae cC=some r):er a0 a1 63 [ae,(D.fn (.func uU) [] [cC])] (·=r):=e6 (ca n [(64,CP n)] [(3,⟨[(1,.b (.fd uU 1)),cn 5 5001,al 8,al 9,al 10],[bF 5001 5],[.slot 5 5001 5]⟩)] [(16000006,⟨[(1,.b (.fd uU 1)),cn 5 20,al 8,al 9,al 10],[bF 20 5],[.slot 5 5000 5]⟩)] [(0,⟨[cn 5 5001],[bF 5001 5],[]⟩),(1,⟨[(1,.b (.fd uU 1)),cn 5 20,al 8,al 9,al 10],[bF 20 5],[]⟩)]) bK (bk (art n) a7) ar bC Tryz.func63 (cb (cb le_nil)) h
def arv(n:Nat):bw a0 a1 63 (CQ n):=by
 intro aQ r h;unfold CQ at h;split at h
 case h_2=>cases h
 split at h
 case h_2=>cases h
 rename_i an;obtain rfl:=l7 an;exact aru n _ _ h
def ab9(n:Nat):bw a0 a1 29 (vi n):=dN ⟨eC a0,a1,eG [(33,vg n),(60,CL n),(62,vh n),(63,CQ n)],n,[],b7 [],b7 [],b7 [],fm [],eF [],ft [],fk [(4,[[],[5],[6]])]⟩ bK (bk (ab8 n) (bk (are n) (bk (arq n) (bk (arv n) a7)))) ar bC Tryz.func29
def aca(n:Nat):bw a0 a1 12 (vj n):=dN (ca n [] [(4,⟨[al 0,al 1,al 5],[],[]⟩)] [] [(0,⟨[],[],[]⟩)]) bK a7 ar bC Tryz.func12
def arw(n:Nat):bw a0 a1 78 (CR n):=dN (ca n [] [(4,⟨[al 0,al 1,al 12,al 13],[],[]⟩)] [] [(0,⟨[],[],[]⟩)]) bK a7 ar bC Tryz.func78
def arx(zJ:List D->Option D)(n:Nat)(ae:D)(ao:D)(ary:bw a0 a1 75 zJ){r:D}(h:HF zJ n ae ao=some r):er a0 a1 75 [ae,ao] (·=r):=e6 (ca n [(75,zJ)] [(4,⟨[sp 3,al 36,al 37,al 38],[bd 3 4],[]⟩)] [] [(0,⟨[],[],[]⟩)]) bK (bk ary a7) ar bC Tryz.func75 (cb (cb le_nil)) h
def acb:∀n,bw a0 a1 75 (qE n)
 |0=>(λ_ _ h=>by cases h)
 |n+1=>by
  have ih:=acb n;exact(by
   intro aQ r h;unfold qE at h;split at h
   case h_2=>cases h
   exact arx (qE n) n _ _ ih h)
def acd(n:Nat):bw a0 a1 75 (qE n):=(acb n)
def arz(n:Nat):bw a0 a1 74 (CS n):=dN (ca n [(75,qE n)] [] [] []) bK (bk (acd n) a7) ar bC Tryz.func74
def arA(n:Nat)(ae:D)(ao:D){r:D}(h:MN n ae ao=some r):er a0 a1 79 [ae,ao,(D.val (.func (.func yU) #[] #[]))] (·=r):=e6 (ca n [(74,CS n)] [(4,⟨[al 1,(2,.b (.Fj yU)),al 15,al 16,al 17],[],[]⟩)] [] [(0,⟨[],[],[]⟩)]) bK (bk (arz n) a7) ar bC Tryz.func79 (cb (cb (cb le_nil))) h
def arB(n:Nat):bw a0 a1 79 (zK n):=by
 intro aQ r h;unfold zK at h;split at h
 case h_2=>cases h
 obtain⟨an,h⟩:=lE h;obtain rfl:=Rt an;exact arA n _ _ h
def arC(n:Nat)(ae:D)(ao:D){r:D}(h:MO n ae ao=some r):er a0 a1 77 [ae,ao,(D.val (.func (.func B0) #[] #[]))] (·=r):=e6 (ca n [(75,qE n)] [(4,⟨[al 1,(2,.b (.Fj B0)),al 15,al 16,al 17],[],[]⟩)] [] [(0,⟨[],[],[]⟩)]) bK (bk (acd n) a7) ar bC Tryz.func77 (cb (cb (cb le_nil))) h
def arD(n:Nat):bw a0 a1 77 (CT n):=by
 intro aQ r h;unfold CT at h;split at h
 case h_2=>cases h
 obtain⟨an,h⟩:=lE h;obtain rfl:=Rt an;exact arC n _ _ h
def arE(n:Nat):bw a0 a1 76 (vk n):=dN (ca n [(77,CT n)] [] [] []) bK (bk (arD n) a7) ar bC Tryz.func76
def arF(n:Nat):bw a0 a1 39 (HI n):=dN (ca n [(78,CR n),(79,zK n),(76,vk n)] [] [] []) bK (bk (arw n) (bk (arB n) (bk (arE n) a7))) ar bC Tryz.func39
def ace(n:Nat):bw a0 a1 117 (zL n):=cD (ca n [] [] [] []) bK a7 ar bC Tryz.func117
def arG(n:Nat):bw a0 a1 155 (HJ n):=cD (ca n [] [] [] []) bK a7 ar bC Tryz.func155
def arH(n:Nat):bw a0 a1 118 (HL n):=hv (ca n [(155,HJ n),(117,zL n)] [(1,⟨[al 0,al 1,al 2],[],[]⟩)] [] [(0,⟨[al 1],[],[]⟩)]) bK (bk (arG n) (bk (ace n) a7)) ar bC Tryz.func118
def arI(n:Nat):bw a0 a1 120 (MP n):=E9 (ca n [] [] [] []) bK a7 ar bC Tryz.func120
def arJ(n:Nat):bw a0 a1 119 (CV n):=dN (ca n [] [(2,⟨[al 0,al 1,al 5],[],[]⟩)] [] [(0,⟨[],[],[]⟩)]) bK a7 ar bC Tryz.func119
def TV(n:Nat):bw a0 a1 80 (tB n):=cD (ca n [(117,zL n),(118,HL n),(120,MP n),(119,CV n)] [] [] []) bK (bk (ace n) (bk (arH n) (bk (arI n) (bk (arJ n) a7)))) ar bC Tryz.func80
def arK(n:Nat):bw a0 a1 81 (CW n):=cD (ca n [] [] [] []) bK a7 ar bC Tryz.func81
def acf(n:Nat):bw a0 a1 82 (zM n):=cD (ca n [] [] [(19000007,⟨[al 3],[],[]⟩)] []) bK a7 ar bC Tryz.func82
def arL(n:Nat):bw a0 a1 40 (HP n):=cD (ca n [(80,tB n),(81,CW n),(82,zM n)] [(2,⟨[al 0,al 4],[],[]⟩),(7,⟨[al 0,al 4,al 5],[],[]⟩)] [] [(0,⟨[],[],[]⟩),(1,⟨[al 0,al 4],[],[]⟩),(2,⟨[al 0,al 4],[],[]⟩)]) bK (bk (TV n) (bk (arK n) (bk (acf n) a7))) ar bC Tryz.func40
def arM(n:Nat):bw a0 a1 83 (HQ n):=cD (ca n [] [(2,⟨[al 0,al 3],[],[]⟩)] [] [(0,⟨[al 3],[],[]⟩)]) bK a7 ar bC Tryz.func83
def arN(n:Nat):bw a0 a1 41 (HR n):=cD (ca n [(82,zM n),(83,HQ n)] [(3,⟨[sp 1,al 3,al 4],[bd 1 8],[]⟩)] [] [(0,⟨[al 3],[],[]⟩)]) bK (bk (acf n) (bk (arM n) a7)) ar bC Tryz.func41
def acg(n:Nat):bw a0 a1 84 (zO n):=dN (ca n [] [(2,⟨[al 1,sp 2,al 5],[bd 2 8],[]⟩)] [] [(0,⟨[],[],[]⟩)]) bK a7 ar bC Tryz.func84
def ach(n:Nat):bw a0 a1 85 (zP n):=dN (ca n [] [(2,⟨[al 1,sp 2,al 5],[bd 2 8],[]⟩)] [] [(0,⟨[],[],[]⟩)]) bK a7 ar bC Tryz.func85
def arO(n:Nat):bw a0 a1 182 (HV n):=dN (ca n [] [(2,⟨[al 0,al 1,al 5],[],[]⟩)] [] [(0,⟨[],[],[]⟩)]) bK a7 ar bC Tryz.func182
def arP(n:Nat):bw a0 a1 165 (zQ n):=dN (ca n [(182,HV n)] [(6,⟨[al 0,al 1,cn 5 12,al 6,al 7],[bF 12 1],[]⟩)] [(28000009,⟨[al 0,al 1,cn 5 32,al 6,al 7],[bF 32 1],[]⟩),(41000013,⟨[cn 5 45],[bF 45 1],[]⟩)] [(0,⟨[al 1,cn 5 12,al 6],[bF 12 1],[]⟩)]) bK (bk (arO n) a7) ar bC Tryz.func165
def arQ(zR:List D->Option D)(n:Nat)(ae:D)(ao:D)(bc:D)(arR:bw a0 a1 139 zR){r:D}(h:HW zR n ae ao bc=some r):er a0 a1 139 [ae,ao,bc] (·=r):=e6 (ca n [(165,zQ n),(139,zR)] [(4,⟨[al 1,al 2,sp 3,al 7],[bd 3 4],[]⟩)] [(11000002,⟨[al 1,al 2,sp 3],[bd 3 4],[]⟩)] [(0,⟨[al 2],[],[]⟩)]) bK (bk (arP n) (bk arR a7)) ar bC Tryz.func139 (cb (cb (cb le_nil))) h
def aci:∀n,bw a0 a1 139 (rW n)
 |0=>(λ_ _ h=>by cases h)
 |n+1=>by
  have ih:=aci n;exact(by
   intro aQ r h;unfold rW at h;split at h
   case h_2=>cases h
   exact arQ (rW n) n _ _ _ ih h)
def arS(n:Nat):bw a0 a1 139 (rW n):=(aci n)
def Nd(n:Nat):bw a0 a1 108 (rX n):=cD (ca n [(139,rW n)] [] [] []) bK (bk (arS n) a7) ar bC Tryz.func108
def arT(n:Nat):bw a0 a1 86 (HX n):=dN (ca n [(108,rX n),(85,zP n)] [(4,⟨[sp 2,cn 5 15,cn 6 17,al 7],[bd 2 8,bF 15 1,bF 17 1],[]⟩),(8,⟨[sp 2,cn 5 15,cn 6 17,al 7,al 8,al 10],[bd 2 8,bF 15 1,bF 17 1],[]⟩)] [(57000012,⟨[sp 2,cn 5 15,cn 6 64,al 7,al 8,al 10],[bd 2 8,bF 15 1,bF 64 1],[]⟩)] [(0,⟨[cn 5 15],[bF 15 1],[]⟩),(1,⟨[sp 2,cn 5 15,cn 6 17,al 7],[bd 2 8,bF 15 1,bF 17 1],[]⟩),(2,⟨[sp 2,cn 5 15,cn 6 17,al 7],[bd 2 8,bF 15 1,bF 17 1],[]⟩),(3,⟨[sp 2,cn 5 15,cn 6 64,al 7,al 8,al 10],[bd 2 8,bF 15 1,bF 64 1],[]⟩)]) bK (bk (Nd n) (bk (ach n) a7)) ar bC Tryz.func86
def arU(n:Nat):bw a0 a1 158 (CZ n):=cD (ca n [] [] [(5003000,⟨[al 0,al 4,al 5],[],[]⟩),(5004000,⟨[al 0,al 4,al 5],[],[]⟩),(5005000,⟨[al 0,al 4,al 5],[],[]⟩),(12010000,⟨[al 0,al 4,al 12],[],[]⟩)] [(0,⟨[al 0],[],[]⟩)]) bK a7 ar bC Tryz.func158
def acj(n:Nat):bw a0 a1 127 (zT n):=dN (ca n [(158,CZ n)] [] [(22000008,⟨[sp 2,al 5,al 6,al 7,al 8],[bd 2 4],[]⟩),(25000010,⟨[sp 2,al 5,al 6,al 7,al 8],[bd 2 4],[]⟩)] []) bK (bk (arU n) a7) ar bC Tryz.func127
def arV(zU:List D->Option D)(n:Nat)(ae:D)(ao:D)(bc:D)(arW:bw a0 a1 123 zU){r:D}(h:Te zU n ae ao bc=some r):er a0 a1 123 [ae,ao,bc] (·=r):=e6 (ca n [(127,zT n),(123,zU)] [(8,⟨[al 1,al 2,sp 3,al 9],[bd 3 4],[]⟩)] [] [(0,⟨[al 2],[],[]⟩)]) bK (bk (acj n) (bk arW a7)) ar bC Tryz.func123 (cb (cb (cb le_nil))) h
def ack:∀n,bw a0 a1 123 (tC n)
 |0=>(λ_ _ h=>by cases h)
 |n+1=>by
  have ih:=ack n;exact(by
   intro aQ r h;unfold tC at h;split at h
   case h_2=>cases h
   exact arV (tC n) n _ _ _ ih h)
def arX(n:Nat):bw a0 a1 123 (tC n):=(ack n)
def TW(n:Nat):bw a0 a1 91 (vn n):=cD (ca n [(123,tC n)] [] [] []) bK (bk (arX n) a7) ar bC Tryz.func91
def acm(n:Nat):bw a0 a1 126 (xd n):=dN (ca n [] [(2,⟨[al 0,al 1,al 5],[],[]⟩)] [] [(0,⟨[],[],[]⟩)]) bK a7 ar bC Tryz.func126
def arY(n:Nat):bw a0 a1 124 (H2 n):=dN (ca n [(108,rX n),(126,xd n)] [(4,⟨[al 1,cn 5 10,al 6,al 8],[bF 10 1],[]⟩)] [(29000008,⟨[al 1,cn 5 33,al 6,al 8],[bF 33 1],[]⟩)] [(0,⟨[cn 5 10],[bF 10 1],[]⟩),(1,⟨[al 1,cn 5 33,al 6,al 8],[bF 33 1],[]⟩)]) bK (bk (Nd n) (bk (acm n) a7)) ar bC Tryz.func124
def acn(n:Nat):bw a0 a1 125 (xe n):=dN (ca n [] [(2,⟨[al 0,al 1,al 5],[],[]⟩)] [] [(0,⟨[],[],[]⟩)]) bK a7 ar bC Tryz.func125
def arZ(zV:List D->Option D)(n:Nat)(ae:D)(ao:D)(bc:D)(ar0:bw a0 a1 92 zV){r:D}(h:MW zV n ae ao bc=some r):er a0 a1 92 [ae,ao,bc] (·=r):=e6 ⟨(eC Tryz.prog).sP [42],a1,eG [(124,H2 n),(125,xe n),(92,zV)],n,[],b7 [(3,⟨[al 1,al 2,al 7,al 8],[],[]⟩)],b7 [(24000006,⟨[al 1,al 2,al 7,al 8],[],[]⟩)],b7 [(0,⟨[al 2],[],[]⟩),(1,⟨[al 1,al 2,al 7,al 8],[],[]⟩)],fm [(6,[0,1,2,3,4,5,6,7,12,13,14,15,8,9,10,11,16,17,18,19])],eF [],ft [],fk []⟩ ((tok _).sP _) (bk (arY n) (bk (acn n) (bk ar0 a7))) ar bC Tryz.func92 (cb (cb (cb le_nil))) h
def aco:∀n,bw a0 a1 92 (qF n)
 |0=>(λ_ _ h=>by cases h)
 |n+1=>by
  have ih:=aco n;exact(by
   intro aQ r h;unfold qF at h;split at h
   case h_2=>cases h
   exact arZ (qF n) n _ _ _ ih h)
def acp(n:Nat):bw a0 a1 92 (qF n):=(aco n)
def ar1(n:Nat):bw a0 a1 93 (H5 n):=dN (ca n [(92,qF n),(125,xe n)] [] [] []) bK (bk (acp n) (bk (acn n) a7)) ar bC Tryz.func93
def ar2(xf:List D->Option D)(n:Nat)(ae:D)(ao:D)(bc:D)(b9:D)(ar3:bw a0 a1 94 xf){r:D}(h:rY xf n ae ao bc b9=some r):er a0 a1 94 [ae,ao,bc,b9] (·=r):=e6 (ca n [(126,xd n),(94,xf),(127,zT n)] [(13,⟨[al 1,al 2,al 3,sp 4,sp 8,cn 13 53,al 14],[bd 4 4,bd 8 4,bF 53 4],[]⟩)] [(20000002,⟨[al 1,al 2,al 3,sp 4,sp 8],[bd 4 4,bd 8 4],[]⟩)] [(0,⟨[al 3,sp 4,sp 8,cn 13 53],[bd 4 4,bd 8 4,bF 53 4],[]⟩)]) bK (bk (acm n) (bk ar3 (bk (acj n) a7))) ar bC Tryz.func94 (cb (cb (cb (cb le_nil)))) h
def acq:∀n,bw a0 a1 94 (rZ n)
 |0=>(λ_ _ h=>by cases h)
 |n+1=>by
  have ih:=acq n;exact(by
   intro aQ r h;unfold rZ at h;split at h
   case h_2=>cases h
   exact ar2 (rZ n) n _ _ _ _ ih h)
def ar4(n:Nat):bw a0 a1 94 (rZ n):=(acq n)
def Nf(n:Nat):bw a0 a1 47 (mH n):=dN (ca n [(91,vn n),(92,qF n),(93,H5 n),(94,rZ n)] [(6,⟨[al 1,sp 2,sp 4,al 7,al 8],[bd 2 4,bd 4 4],[]⟩)] [] [(0,⟨[al 1,sp 2,sp 4],[bd 2 4,bd 4 4],[]⟩)]) bK (bk (TW n) (bk (acp n) (bk (ar1 n) (bk (ar4 n) a7)))) ar bC Tryz.func47
def acr(n:Nat):bw a0 a1 173 (qG n):=dN (ca n [] [] [] []) bK a7 ar bC Tryz.func173
def ar5(n:Nat):bw a0 a1 174 (Ib n):=dN (ca n [] [(2,⟨[al 0,al 1,al 5],[],[]⟩)] [] [(0,⟨[],[],[]⟩)]) bK a7 ar bC Tryz.func174
def ar6(n:Nat):bw a0 a1 184 (Ie n):=cD (ca n [] [(2,⟨[al 0,al 3],[],[]⟩)] [] [(0,⟨[],[],[]⟩)]) bK a7 ar bC Tryz.func184
def ar7(n:Nat):bw a0 a1 185 (Ig n):=dN (ca n [] [(4,⟨[cn 6 30,al 7,al 8,al 9],[bF 30 1],[]⟩)] [] [(0,⟨[al 7,al 8],[],[]⟩)]) bK a7 ar bC Tryz.func185
def ar8(n:Nat):bw a0 a1 175 (zW n):=dN (ca n [(184,Ie n),(173,qG n),(185,Ig n)] [] [(13005000,⟨[al 1,sp 2,sp 4,sp 6,al 7,al 12,al 13],[bd 2 4,bd 4 3,bd 6 3],[]⟩),(13006000,⟨[al 1,sp 2,sp 4,sp 6,al 7,al 12,al 13],[bd 2 4,bd 4 3,bd 6 3],[]⟩),(13007000,⟨[al 1,sp 2,sp 4,sp 6,al 7,al 12,al 13],[bd 2 4,bd 4 3,bd 6 3],[]⟩),(13008000,⟨[al 1,sp 2,sp 4,sp 6,al 7,al 12,al 13],[bd 2 4,bd 4 3,bd 6 3],[]⟩),(25013000,⟨[al 1,sp 2,sp 4,sp 6,al 7,al 12,al 25],[bd 2 4,bd 4 3,bd 6 3],[]⟩)] [(0,⟨[al 1,sp 2,sp 4,sp 6,al 7],[bd 2 4,bd 4 3,bd 6 3],[]⟩)]) bK (bk (ar6 n) (bk (acr n) (bk (ar7 n) a7))) ar bC Tryz.func175
def ar9(zX:List D->Option D)(n:Nat)(ae:D)(ao:D)(bc:D)(asa:bw a0 a1 156 zX){r:D}(h:vo zX n ae ao bc=some r):er a0 a1 156 [ae,ao,bc] (·=r):=e6 (ca n [(173,qG n),(174,Ib n),(156,zX),(175,zW n)] [(18,⟨[al 0,al 2,sp 4,sp 6,cn 9 64,al 10],[bd 4 4,bd 6 3,bF 64 3],[]⟩)] [(27007000,⟨[al 0,al 2,sp 4,sp 6,al 27],[bd 4 4,bd 6 3],[]⟩)] [(1,⟨[sp 4,sp 6,cn 9 64],[bd 4 4,bd 6 3,bF 64 3],[]⟩)]) bK (bk (acr n) (bk (ar5 n) (bk asa (bk (ar8 n) a7)))) ar bC Tryz.func156 (cb (cb (cb le_nil))) h
def acs:∀n,bw a0 a1 156 (m7 n)
 |0=>(λ_ _ h=>by cases h)
 |n+1=>by
  have ih:=acs n;exact(by
   intro aQ r h;unfold m7 at h;split at h
   case h_2=>cases h
   exact ar9 (m7 n) n _ _ _ ih h)
def asb(n:Nat):bw a0 a1 156 (m7 n):=(acs n)
def asc(n:Nat):bw a0 a1 121 (C4 n):=hv (ca n [(91,vn n),(156,m7 n)] [] [] []) bK (bk (TW n) (bk (asb n) a7)) ar bC Tryz.func121
def TX(n:Nat):bw a0 a1 87 (tD n):=hv (ca n [(47,mH n),(121,C4 n)] [] [] []) bK (bk (Nf n) (bk (asc n) a7)) ar bC Tryz.func87
def asd(n:Nat):bw a0 a1 42 (xg n):=cD (ca n [(80,tB n),(84,zO n),(85,zP n),(86,HX n),(87,tD n)] [(2,⟨[sp 1,al 4],[bd 1 8],[]⟩),(9,⟨[sp 1,al 5],[bd 1 8],[]⟩),(14,⟨[sp 1,al 6],[bd 1 8],[]⟩)] [] [(0,⟨[sp 1],[bd 1 8],[]⟩),(2,⟨[sp 1],[bd 1 8],[]⟩),(4,⟨[],[],[]⟩)]) bK (bk (TV n) (bk (acg n) (bk (ach n) (bk (arT n) (bk (TX n) a7))))) ar bC Tryz.func42
def acu(n:Nat):bw a0 a1 88 (xh n):=hv (ca n [(87,tD n)] [] [] []) bK (bk (TX n) a7) ar bC Tryz.func88
def ase(n:Nat):bw a0 a1 43 (vp n):=hv (ca n [(88,xh n)] [(2,⟨[al 1,al 2,sp 3,al 8],[bd 3 8],[]⟩)] [] [(0,⟨[],[],[]⟩)]) bK (bk (acu n) a7) ar bC Tryz.func43
def asf(n:Nat):bw a0 a1 44 (C6 n):=cD (ca n [(84,zO n),(87,tD n)] [(2,⟨[sp 1,al 4],[bd 1 8],[]⟩),(8,⟨[sp 1,al 4,al 5,al 6],[bd 1 8],[]⟩)] [(69000014,⟨[sp 1,al 4,al 8],[bd 1 8],[]⟩)] [(0,⟨[],[],[]⟩),(1,⟨[sp 1,al 4],[bd 1 8],[]⟩),(2,⟨[sp 1,al 4,al 5],[bd 1 8],[]⟩)]) bK (bk (acg n) (bk (TX n) a7)) ar bC Tryz.func44
def asg(n:Nat):bw a0 a1 176 (C7 n):=cD (ca n [] [] [(6005000,⟨[al 3,al 6],[],[]⟩),(6006000,⟨[al 3,al 6],[],[]⟩),(6007000,⟨[al 3,al 6],[],[]⟩),(6008000,⟨[al 3,al 6],[],[]⟩),(6009000,⟨[al 3,al 6],[],[]⟩),(6010000,⟨[al 3,al 6],[],[]⟩),(14013000,⟨[al 14],[],[]⟩),(14014000,⟨[al 14],[],[]⟩),(14015000,⟨[al 14],[],[]⟩),(14016000,⟨[al 14],[],[]⟩)] [(0,⟨[],[],[]⟩)]) bK a7 ar bC Tryz.func176
def ash(n:Nat):bw a0 a1 177 (Ip n):=cD (ca n [] [] [] []) bK a7 ar bC Tryz.func177
def asi(n:Nat):bw a0 a1 157 (vq n):=cD (ca n [(176,C7 n),(91,vn n),(108,rX n),(177,Ip n)] [] [(12000004,⟨[sp 1],[bd 1 6],[]⟩)] []) bK (bk (asg n) (bk (TW n) (bk (Nd n) (bk (ash n) a7)))) ar bC Tryz.func157
def asj(zZ:List D->Option D)(n:Nat)(ae:D)(ao:D)(bc:D)(asl:bw a0 a1 122 zZ){r:D}(h:Tv zZ n ae ao bc=some r):er a0 a1 122 [ae,ao,bc] (·=r):=e6 (ca n [(157,vq n),(122,zZ)] [(10,⟨[al 1,al 2,sp 3,al 9],[bd 3 6],[]⟩)] [] [(0,⟨[al 2],[],[]⟩)]) bK (bk (asi n) (bk asl a7)) ar bC Tryz.func122 (cb (cb (cb le_nil))) h
def acv:∀n,bw a0 a1 122 (tE n)
 |0=>(λ_ _ h=>by cases h)
 |n+1=>by
  have ih:=acv n;exact(by
   intro aQ r h;unfold tE at h;split at h
   case h_2=>cases h
   exact asj (tE n) n _ _ _ ih h)
def asm(n:Nat):bw a0 a1 122 (tE n):=(acv n)
def acw(n:Nat):bw a0 a1 89 (z0 n):=cD (ca n [(122,tE n)] [] [] []) bK (bk (asm n) a7) ar bC Tryz.func89
def asn(z1:List D->Option D)(n:Nat)(ae:D)(ao:D)(aso:bw a0 a1 90 z1){r:D}(h:Ir z1 n ae ao=some r):er a0 a1 90 [ae,ao] (·=r):=e6 (ca n [(88,xh n),(90,z1)] [(4,⟨[sp 2,sp 3,al 5],[bd 2 8,bd 3 6],[]⟩)] [] [(0,⟨[],[],[]⟩)]) bK (bk (acu n) (bk aso a7)) ar bC Tryz.func90 (cb (cb le_nil)) h
def acx:∀n,bw a0 a1 90 (tF n)
 |0=>(λ_ _ h=>by cases h)
 |n+1=>by
  have ih:=acx n;exact(by
   intro aQ r h;unfold tF at h;split at h
   case h_2=>cases h
   exact asn (tF n) n _ _ ih h)
def asp(n:Nat):bw a0 a1 90 (tF n):=(acx n)
def asq(n:Nat):bw a0 a1 45 (Da n):=cD (ca n [(80,tB n),(89,z0 n),(90,tF n)] [(2,⟨[sp 1,al 4],[bd 1 8],[]⟩),(7,⟨[sp 1,al 4,al 5],[bd 1 8],[]⟩)] [(50000013,⟨[sp 1,al 4,al 6],[bd 1 8],[]⟩)] [(0,⟨[],[],[]⟩),(1,⟨[sp 1,al 4],[bd 1 8],[]⟩),(2,⟨[sp 1,al 4],[bd 1 8],[]⟩)]) bK (bk (TV n) (bk (acw n) (bk (asp n) a7))) ar bC Tryz.func45
def asr(n:Nat):bw a0 a1 18 (qH n):=cD (ca n [(40,HP n),(41,HR n),(42,xg n),(43,vp n),(44,C6 n),(45,Da n)] [(3,⟨[sp 1,sp 2,cn 4 33,al 5],[bd 1 8,bd 2 2,bF 33 1],[]⟩),(13,⟨[sp 1,sp 2,al 6,al 7,al 8],[bd 1 8,bd 2 2],[]⟩)] [(68018017,⟨[sp 1,sp 2,al 6,al 7,al 8],[bd 1 8,bd 2 2],[]⟩),(75020019,⟨[sp 1,sp 2,al 6,al 7,al 8],[bd 1 8,bd 2 2],[]⟩),(84022021,⟨[sp 1,sp 2,al 6,al 7,al 8],[bd 1 8,bd 2 2],[]⟩),(93024023,⟨[sp 1,sp 2,al 6,al 7,al 8],[bd 1 8,bd 2 2],[]⟩),(100026025,⟨[sp 1,sp 2,al 6,al 7,al 8],[bd 1 8,bd 2 2],[]⟩),(109028027,⟨[sp 1,sp 2,al 6,al 7,al 8],[bd 1 8,bd 2 2],[]⟩),(118000029,⟨[sp 1,sp 2,al 6,al 7,al 8],[bd 1 8,bd 2 2],[]⟩)] [(0,⟨[sp 1,sp 2],[bd 1 8,bd 2 2],[]⟩),(2,⟨[sp 2],[bd 2 2],[]⟩),(3,⟨[sp 1,sp 2,al 6,al 7,al 8],[bd 1 8,bd 2 2],[]⟩),(4,⟨[sp 1,sp 2,al 6,al 7,al 8],[bd 1 8,bd 2 2],[]⟩)]) bK (bk (arL n) (bk (arN n) (bk (asd n) (bk (ase n) (bk (asf n) (bk (asq n) a7)))))) ar bC Tryz.func18
def ass(n:Nat):bw a0 a1 46 (pX n):=dN (ca n [(47,mH n)] [(3,⟨[al 0,al 1,cn 7 11,al 8],[bF 11 4],[]⟩)] [] [(0,⟨[cn 7 11],[bF 11 4],[]⟩)]) bK (bk (Nf n) a7) ar bC Tryz.func46
def ast(z2:List D->Option D)(n:Nat)(ae:D)(ao:D)(asu:bw a0 a1 95 z2){r:D}(h:tG z2 n ae ao=some r):er a0 a1 95 [ae,ao] (·=r):=e6 (ca n [(47,mH n),(95,z2)] [(9,⟨[al 1,sp 2,sp 4,cn 8 29,al 9],[bd 2 6,bd 4 6,bF 29 6],[]⟩)] [] [(0,⟨[sp 2,sp 4,cn 8 29],[bd 2 6,bd 4 6,bF 29 6],[]⟩)]) bK (bk (Nf n) (bk asu a7)) ar bC Tryz.func95 (cb (cb le_nil)) h
def acy:∀n,bw a0 a1 95 (o6 n)
 |0=>(λ_ _ h=>by cases h)
 |n+1=>by
  have ih:=acy n;exact(by
   intro aQ r h;unfold o6 at h;split at h
   case h_2=>cases h
   exact ast (o6 n) n _ _ ih h)
def asv(n:Nat):bw a0 a1 95 (o6 n):=(acy n)
def asw(n:Nat):bw a0 a1 48 (z3 n):=dN (ca n [(89,z0 n),(95,o6 n)] [] [] []) bK (bk (acw n) (bk (asv n) a7)) ar bC Tryz.func48
def asx(n:Nat):bw a0 a1 20 (Dg n):=cD ⟨eC a0,a1,eG [(46,pX n),(47,mH n),(48,z3 n)],n,[],b7 [(11,⟨[sp 1,sp 2,sp 3,sp 5,al 9],[bd 1 8,bd 2 8,bd 3 2,(5,.box [.b (.d),.b (.d),.b (.d),.b (.d),.b (.row 5000),.b (.d),.b (.d),.b (.d)]),bF 5000 5],[.box 5 4 5000 5]⟩),(26,⟨[sp 1,sp 2,sp 3,sp 5,al 12],[bd 1 8,bd 2 8,bd 3 2,(5,.box [.b (.d),.b (.d),.b (.d),.b (.d),.b (.row 5000),.b (.d),.b (.d),.b (.row 5001)]),bF 5000 5,bF 5001 7],[.box 5 7 5001 7]⟩)],b7 [],b7 [(0,⟨[sp 1,sp 2,sp 3,sp 5],[bd 1 8,bd 2 8,bd 3 2,(5,.box [.b (.d),.b (.d),.b (.d),.b (.d),.b (.row 5000),.b (.d),.b (.d),.b (.d)]),bF 5000 5],[]⟩),(2,⟨[sp 2,sp 3,sp 5],[bd 2 8,bd 3 2,(5,.box [.b (.d),.b (.d),.b (.d),.b (.d),.b (.row 5000),.b (.d),.b (.d),.b (.row 5001)]),bF 5000 5,bF 5001 7],[]⟩)],fm [],eF [],ft [20002],fk []⟩ bK (bk (ass n) (bk (Nf n) (bk (asw n) a7))) ar bC Tryz.func20
def acz(n:Nat):bw a0 a1 32 (r0 n):=dN (ca n [] [(2,⟨[al 0,al 1,al 5],[],[]⟩)] [] [(0,⟨[],[],[]⟩)]) bK a7 ar bC Tryz.func32
def asy(n:Nat):bw a0 a1 66 (Dh n):=cD (ca n [(108,rX n),(32,r0 n)] [(4,⟨[al 4,cn 5 14,al 6],[bF 14 1],[]⟩)] [(27000007,⟨[al 4,cn 5 34,al 6],[bF 34 1],[]⟩)] [(0,⟨[cn 5 14],[bF 14 1],[]⟩),(1,⟨[al 4,cn 5 34,al 6],[bF 34 1],[]⟩)]) bK (bk (Nd n) (bk (acz n) a7)) ar bC Tryz.func66
def asz(n:Nat):bw a0 a1 49 (z5 n):=cD ⟨(eC Tryz.prog).sP [57],a1,eG [(66,Dh n)],n,[],b7 [(4,⟨[sp 1,cn 3 7,cn 4 20,al 5],[bd 1 8,bF 7 1,bF 20 4],[]⟩),(8,⟨[sp 1,cn 3 7,al 6],[bd 1 8,bF 7 1],[]⟩)],b7 [],b7 [(0,⟨[sp 1,cn 3 7],[bd 1 8,bF 7 1],[]⟩),(2,⟨[cn 3 7],[bF 7 1],[]⟩)],fm [(2,[1,2,4,5,7,8,10,11,0,3,6,9,12,13]),(10,[1,2,3,4,5,6,8,9,10,11,12,13,14,0,7,15,16,17,18])],eF [],ft [],fk []⟩ ((tok _).sP _) (bk (asy n) a7) ar bC Tryz.func49
def asA(z6:List D->Option D)(n:Nat)(ae:D)(ao:D)(asB:bw a0 a1 71 z6){r:D}(h:Iy z6 n ae ao=some r):er a0 a1 71 [ae,ao] (·=r):=e6 (ca n [(71,z6)] [(4,⟨[sp 2,sp 3,al 5],[bd 2 4,bd 3 4],[]⟩)] [] [(0,⟨[],[],[]⟩)]) bK (bk asB a7) ar bC Tryz.func71 (cb (cb le_nil)) h
def acA:∀n,bw a0 a1 71 (tH n)
 |0=>(λ_ _ h=>by cases h)
 |n+1=>by
  have ih:=acA n;exact(by
   intro aQ r h;unfold tH at h;split at h
   case h_2=>cases h
   exact asA (tH n) n _ _ ih h)
def asC(n:Nat):bw a0 a1 71 (tH n):=(acA n)
def asD(z7:List D->Option D)(n:Nat)(ae:D)(ao:D)(asE:bw a0 a1 35 z7){r:D}(h:Dm z7 n ae ao=some r):er a0 a1 35 [ae,ao] (·=r):=e6 (ca n [(71,tH n),(35,z7)] [(4,⟨[sp 2,sp 3,al 5],[bd 2 6,bd 3 6],[]⟩)] [] [(0,⟨[],[],[]⟩)]) bK (bk (asC n) (bk asE a7)) ar bC Tryz.func35 (cb (cb le_nil)) h
def acB:∀n,bw a0 a1 35 (od n)
 |0=>(λ_ _ h=>by cases h)
 |n+1=>by
  have ih:=acB n;exact(by
   intro aQ r h;unfold od at h;split at h
   case h_2=>cases h
   exact asD (od n) n _ _ ih h)
def acC(n:Nat):bw a0 a1 35 (od n):=(acB n)
def acD(n:Nat):bw a0 a1 37 (r2 n):=dN (ca n [(35,od n)] [(4,⟨[al 0,al 1,al 5],[],[]⟩)] [] [(0,⟨[],[],[]⟩)]) bK (bk (acC n) a7) ar bC Tryz.func37
def asF(n:Nat):bw a0 a1 36 (z8 n):=dN ⟨(eC Tryz.prog).sP [34,40],a1,eG [(37,r2 n)],n,[],b7 [(4,⟨[al 0,al 1,al 5],[],[]⟩)],b7 [],b7 [(0,⟨[],[],[]⟩)],fm [],eF [],ft [],fk []⟩ ((tok _).sP _) (bk (acD n) a7) ar bC Tryz.func36
def asG(n:Nat):bw a0 a1 15 (qI n):=dN (ca n [(35,od n),(36,z8 n),(37,r2 n)] [(4,⟨[sp 2,sp 3,al 5],[bd 2 8,bd 3 8],[]⟩),(9,⟨[sp 2,sp 3,al 6],[bd 2 8,bd 3 8],[]⟩)] [] [(0,⟨[sp 2,sp 3],[bd 2 8,bd 3 8],[]⟩),(2,⟨[sp 2,sp 3],[bd 2 8,bd 3 8],[]⟩)]) bK (bk (acC n) (bk (asF n) (bk (acD n) a7))) ar bC Tryz.func15
def asH(n:Nat):bw a0 a1 19 (Dr n):=cD (ca n [] [(3,⟨[sp 1,cn 3 5,al 4],[bd 1 8,bF 5 1],[]⟩)] [] [(0,⟨[cn 3 5],[bF 5 1],[]⟩)]) bK a7 ar bC Tryz.func19
def asI(n:Nat):bw a0 a1 21 (Ds n):=cD (ca n [] [(2,⟨[al 0,al 3],[],[]⟩)] [] [(0,⟨[],[],[]⟩)]) bK a7 ar bC Tryz.func21
def asJ(n:Nat):bw a0 a1 22 (Dv n):=dN (ca n [(49,z5 n),(32,r0 n)] [(3,⟨[al 1,al 5,al 6],[],[]⟩),(7,⟨[al 1,al 5,al 6,al 7,al 8],[],[]⟩)] [(34000010,⟨[al 1,al 5,al 6,al 7,al 8],[],[]⟩)] [(0,⟨[],[],[]⟩),(1,⟨[al 1,al 5,al 6],[],[]⟩),(2,⟨[al 1,al 5,al 6,al 7],[],[]⟩),(3,⟨[al 1,al 5,al 6,al 7,al 8],[],[]⟩)]) bK (bk (asz n) (bk (acz n) a7)) ar bC Tryz.func22
def asK(Aa:List D->Option (List D))(n:Nat)(asL:fb a0 a1 Aj Aa):fb a0 a1 Aj (TF Aa n):=iM ⟨eC a0,a1,eG [],n,[10000,10001],b7 [(4,⟨[al 1,(2,.fn (.func ZP) [] [.ptr 10000 0,.ptr 10001 0]),al 15,al 16,al 17],[bd 10000 1,bd 10001 1],[]⟩)],b7 [],b7 [(0,⟨[],[bd 10000 1,bd 10001 1],[]⟩)],fm [],eF [(12,⟨abx,Gu n,6010,[]⟩),(25,⟨Aj,Aa,6020,[]⟩)],ft [],fk []⟩ bK a7 (bO (apK n) (bO asL ar)) bC Tryz.func128 []
def acE:∀n,fb a0 a1 Aj (vr n)
 |0=>yI (s:=Aj) (yJ (T:=eC a0) (os:=λ_=>none) Tryz.func128) (λ_=>rfl)|n+1=>by have ih:=acE n;exact asK (vr n) n ih
def asM(n:Nat):fb a0 a1 Aj (vr n):=(acE n)
def acF(n:Nat):bw a0 a1 96 (Ab n):=cD ⟨eC a0,a1,eG [],n,[],b7 [],b7 [],b7 [],fm [],eF [(7,⟨Aj,vr n,6010,[]⟩)],ft [],fk []⟩ bK a7 (bO (asM n) ar) bC Tryz.func96
def asN(n:Nat):bw a0 a1 238 (vt n):=hv (ca n [(113,tg n),(239,y8 n),(96,Ab n),(241,tu n)] [] [] []) bK (bk (TN n) (bk (apy n) (bk (acF n) (bk (ap4 n) a7)))) ar bC Tryz.func238
def acG(n:Nat):bw a0 a1 38 (r3 n):=cD ⟨((eC Tryz.prog).KV [114,115,116,118,119,120]),a1,eG [(72,Cb n),(73,Ge n),(237,Gf n),(230,Gg n),(226,rM n),(215,Gi n),(210,Gj n),(203,Gk n),(238,vt n),(231,w6 n),(227,Cl n),(216,Cm n),(211,Cn n),(204,u4 n),(236,Mk n),(229,Ml n),(225,Mm n),(214,Mn n),(209,Mo n),(202,Mp n)],n,[],b7 [(2,⟨[sp 1,sp 2,al 36,al 37],[bd 1 8,bd 2 2],[]⟩),(13,⟨[sp 1,sp 2,al 93,al 94],[bd 1 8,bd 2 2],[]⟩),(16,⟨[sp 1,sp 2,al 9,al 93,al 94,al 98,al 99],[bd 1 8,bd 2 2],[]⟩)],b7 [],b7 [(0,⟨[sp 1,sp 2],[bd 1 8,bd 2 2],[]⟩),(2,⟨[sp 2],[bd 2 2],[]⟩),(3,⟨[sp 1,sp 2,al 93,al 94],[bd 1 8,bd 2 2],[]⟩),(4,⟨[sp 1,sp 2,al 93,al 94],[bd 1 8,bd 2 2],[]⟩)],fm [],eF [],ft [],fk []⟩ ((tok _).KV _) (bk (api n) (bk (apl n) (bk (apm n) (bk (apn n) (bk (apo n) (bk (apq n) (bk (apr n) (bk (aps n) (bk (asN n) (bk (aqf n) (bk (aqg n) (bk (aqh n) (bk (aqm n) (bk (aqz n) (bk (aqA n) (bk (aqB n) (bk (aqC n) (bk (aqD n) (bk (aqE n) (bk (aqF n) a7)))))))))))))))))))) ar bC Tryz.func38
def asO(n:Nat):bw a0 a1 138 (Ac n):=dN ⟨eC a0,a1,eG [(96,Ab n)],n,[],b7 [],b7 [],b7 [],fm [],eF [(17,⟨Ai,pR n,6010,[]⟩)],ft [],fk []⟩ bK (bk (acF n) a7) (bO (aqK n) ar) bC Tryz.func138
def asP(n:Nat):bw a0 a1 105 (Ad n):=dN (ca n [(138,Ac n)] [(2,⟨[al 1,cn 4 5000,al 11,al 12,al 13],[bF 5000 7],[.slot 4 5000 7]⟩)] [] [(0,⟨[cn 4 5000],[bF 5000 7],[]⟩)]) bK (bk (asO n) a7) ar bC Tryz.func105
def asQ(n:Nat):bw a0 a1 53 (IC n):=cD ⟨eC a0,a1,eG [(103,pQ n),(104,zv n),(105,Ad n)],n,[],b7 [],b7 [],b7 [],fm [(4,[1,2,0,3,4,5,6,7]),(7,[1,2,0,3,4,5,6,7]),(10,[1,2,0,3,4,5,6,7]),(13,[1,2,0,3,4,5,6,7]),(16,[1,2,0,3,4,5,6,7]),(19,[1,2,0,3,4,5,6,7])],eF [],ft [],fk []⟩ bK (bk (aqG n) (bk (aqH n) (bk (asP n) a7))) ar bC Tryz.func53
def TY(n:Nat):bw a0 a1 28 (tI n):=cD (ca n [(38,r3 n),(53,IC n)] [] [] []) bK (bk (acG n) (bk (asQ n) a7)) ar bC Tryz.func28
def acH(n:Nat):bw a0 a1 10 (Ae n):=dN (ca n [(28,tI n),(29,vi n)] [] [] []) bK (bk (TY n) (bk (ab9 n) a7)) ar bC Tryz.func10
def acI(n:Nat):bw a0 a1 13 (pY n):=dN (ca n [(28,tI n),(33,vg n)] [] [] []) bK (bk (TY n) (bk (ab8 n) a7)) ar bC Tryz.func13
def acJ(n:Nat):bw a0 a1 16 (xk n):=dN ⟨eC a0,a1,eG [(28,tI n),(38,r3 n),(29,vi n),(39,HI n)],n,[],b7 [(7,⟨[sp 3,sp 5,cn 9 5000,al 35,al 36,al 37],[bd 3 8,bd 5 8,bF 5000 1],[.slot 9 5000 1]⟩)],b7 [],b7 [(0,⟨[sp 3,sp 5,cn 9 5000],[bd 3 8,bd 5 8,bF 5000 1],[]⟩)],fm [],eF [],ft [],fk [(11,[[5000],[],[]])]⟩ bK (bk (TY n) (bk (acG n) (bk (ab9 n) (bk (arF n) a7)))) ar bC Tryz.func16
def asR(n:Nat):bw a0 a1 9 (Af n):=E9 ⟨eC a0,a1,eG [(27,LR n),(10,Ae n),(13,pY n),(12,vj n),(16,xk n)],n,[],b7 [],b7 [],b7 [],fm [],eF [],ft [19,25,30],fk []⟩ bK (bk (ao6 n) (bk (acH n) (bk (acI n) (bk (aca n) (bk (acJ n) a7))))) ar bC Tryz.func9
end Go.Am
