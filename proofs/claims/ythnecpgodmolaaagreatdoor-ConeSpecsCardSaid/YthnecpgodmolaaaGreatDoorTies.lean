/- That the functions of the program compute this. No condition. -/
import Derived.Test.YthnecpgodmolaaaGreatDoorCode
import Derived.Test.YthnecpgodmolaaaGreatDoorProg
import Derived.KernelRfl
set_option linter.all false
set_option linter.unnecessarySimpa false
namespace Go.Am
open Go.Proofs
set_option maxRecDepth 100000
noncomputable abbrev aX:Program:=Tryz.prog
theorem bz:aX.follows .mixedOrders=true:=by kernel_rfl
def bF:dN aX (dZ aX):=tok _
def aY:dr:=λg=>if g=0 then some FF else none
noncomputable abbrev b4(n:Nat):=alo aX aY n
def a8:hs aX aY (eo []):=alk
def au:k5 aX aY (en []):=ali
def bh{f:FuncId}{F:List D->Option D}{l:List (FuncId×(List D->Option D))}(h:bw aX aY f F)(bD:hs aX aY (eo l)):hs aX aY (eo ((f,F)::l)):=alm h bD
def bI{t:Tmp}{e:BL}{l:List (Tmp×BL)}(h:eB aX aY e.s e.F)(bD:k5 aX aY (en l)):k5 aX aY (en ((t,e)::l)):=alj h bD
def abO:fC:=⟨178,[.b (.d),.b (.d),.b (.ptr 10000 0),.b (.ptr 10001 0)],[a7 10000 1,a7 10001 1],.b (.d),[a7 10000 1,a7 10001 1]⟩
def TP:fC:=⟨135,[.b (.row 9000),.b (.d)],[bq 9000 1],.b (.row 9000),[bq 9000 1]⟩
def abP:fC:=⟨134,[.b (.d),.b (.d),.b (.ptr 10000 0),.b (.ptr 10001 0)],[(10000,.box [.b (.row 9000)]),(10001,.box [.b (.row 9001)]),bq 9000 1,bq 9001 1],.b (.d),[(10000,.box [.b (.row 9000)]),(10001,.box [.b (.row 9001)]),bq 9000 1,bq 9001 1]⟩
def Ai:fC:=⟨133,[.b (.d),.b (.d),.fn (.func Z6) [] [.ptr 10000 0,.ptr 10001 0]],[a7 10000 1,a7 10001 1],.b (.d),[a7 10000 1,a7 10001 1]⟩
def xw:fC:=⟨133,[.b (.d),.b (.d),.fn (.func Z5) [] [.ptr 10000 0,.ptr 10001 0]],[(10000,.box [.b (.row 9000)]),(10001,.box [.b (.row 9001)]),bq 9000 1,bq 9001 1],.b (.d),[(10000,.box [.b (.row 9000)]),(10001,.box [.b (.row 9001)]),bq 9000 1,bq 9001 1]⟩
def abQ:fC:=⟨129,[.b (.d),.b (.d),.b (.ptr 10000 0),.b (.ptr 10001 0)],[a7 10000 1,a7 10001 1],.b (.d),[a7 10000 1,a7 10001 1]⟩
def xx:fC:=⟨180,[.b (.d),.b (.ptr 10000 0),.b (.ptr 10001 0),.b (.ptr 10002 0)],[a7 10000 1,(10001,.box [.b (.map 9000)]),(10002,.box [.fn (.func w4) [] [.ptr 10000 0,.ptr 10001 0,.ptr 10002 0]]),(9000,.map)],.b (.d),[a7 10000 1,(10001,.box [.b (.map 9000)]),(10002,.box [.fn (.func w4) [] [.ptr 10000 0,.ptr 10001 0,.ptr 10002 0]]),(9000,.map)]⟩
def abR:fC:=⟨162,[.b (.d),.b (.d)],[],.b (.map 9000),[(9000,.map)]⟩
def Aj:fC:=⟨181,[.b (.d),.b (.d),.b (.ptr 10000 0),.b (.ptr 10001 0),.b (.ptr 10002 0),.b (.ptr 10003 0)],[a7 10000 1,a7 10001 1,a7 10002 1,(10003,.box [.fn (.func w5) [] [.ptr 10000 0,.ptr 10001 0,.ptr 10002 0,.ptr 10003 0]])],.b (.d),[a7 10000 1,a7 10001 1,a7 10002 1,(10003,.box [.fn (.func w5) [] [.ptr 10000 0,.ptr 10001 0,.ptr 10002 0,.ptr 10003 0]])]⟩
def Ak:fC:=⟨164,[.b (.d),.b (.ptr 10000 0),.b (.ptr 10001 0)],[a7 10000 1,(10001,.box [.fn (.func LL) [] [.ptr 10000 0,.ptr 10001 0]])],.b (.d),[a7 10000 1,(10001,.box [.fn (.func LL) [] [.ptr 10000 0,.ptr 10001 0]])]⟩
def abS:fC:=⟨99,[.b (.d)],[],.a1 [.row 9000,.row 9001],[bq 9000 1,bq 9001 1]⟩
def abT:fC:=⟨109,[.b (.map 10000),.b (.d)],[(10000,.map)],.b (.d),[(10000,.map)]⟩
def abU:fC:=⟨109,[.b (.map 10000),.b (.row 10001)],[(10000,.map),bq 10001 1],.b (.d),[(10000,.map),bq 10001 1]⟩
def abV:fC:=⟨140,[.b (.row 10000),.b (.d),.b (.d)],[bq 10000 1],.b (.d),[bq 10000 1]⟩
def TQ:fC:=⟨166,[.b (.row 10000),.b (.d),.b (.d),.b (.d)],[bq 10000 1],.b (.d),[bq 10000 1]⟩
def abW:fC:=⟨141,[.b (.row 10000),.b (.d),.b (.d)],[bq 10000 1],.b (.d),[bq 10000 1]⟩
def abX:fC:=⟨168,[.b (.ptr 10000 0)],[a7 10000 1],.b (.d),[a7 10000 1]⟩
def abY:fC:=⟨142,[.b (.row 10000),.b (.d),.b (.d)],[bq 10000 1],.b (.d),[bq 10000 1]⟩
def M8:fC:=⟨183,[.b (.d),.b (.d),.b (.d),.b (.ptr 10000 0)],[a7 10000 1],.b (.d),[a7 10000 1]⟩
def TR:fC:=⟨170,[.b (.d),.b (.d),.b (.d),.b (.d),.b (.ptr 10000 0)],[a7 10000 1],.b (.d),[a7 10000 1]⟩
def M9:fC:=⟨169,[.b (.d),.b (.d),.b (.ptr 10000 0)],[a7 10000 1],.b (.d),[a7 10000 1]⟩
def abZ:fC:=⟨144,[.b (.row 10000),.b (.d),.b (.d)],[bq 10000 1],.b (.d),[bq 10000 1]⟩
def ab0:fC:=⟨145,[.b (.row 10000),.b (.d),.b (.d)],[bq 10000 1],.b (.d),[bq 10000 1]⟩
def ab1:fC:=⟨147,[.b (.row 10000),.b (.d),.b (.d),.b (.d)],[bq 10000 1],.b (.d),[bq 10000 1]⟩
def ab2:fC:=⟨148,[.b (.row 10000),.b (.d),.b (.d),.b (.d)],[bq 10000 1],.b (.d),[bq 10000 1]⟩
def xy:fC:=⟨110,[.b (.row 10000),.b (.d),.b (.d),.b (.d)],[bq 10000 1],.b (.d),[bq 10000 1]⟩
def TS:fC:=⟨70,[.b (.row 10000)],[bq 10000 1],.b (.d),[bq 10000 1]⟩
def ab3:fC:=⟨132,[.b (.d),.b (.d),.b (.ptr 10000 0),.b (.ptr 10001 0)],[(10000,.box [.b (.row 9000)]),(10001,.box [.b (.qo uY)]),bq 9000 1],.b (.d),[(10000,.box [.b (.row 9000)]),(10001,.box [.b (.qo uY)]),bq 9000 1]⟩
def Al:fC:=⟨128,[.b (.d),.b (.d),.fn (.func Z3) [] [.ptr 10000 0,.ptr 10001 0]],[a7 10000 1,a7 10001 1],.b (.d),[a7 10000 1,a7 10001 1]⟩
def An:fC:=⟨128,[.b (.d),.b (.d),.fn (.func Z4) [] [.ptr 10000 0,.ptr 10001 0]],[(10000,.box [.b (.row 9000)]),(10001,.box [.b (.qo uY)]),bq 9000 1],.b (.d),[(10000,.box [.b (.row 9000)]),(10001,.box [.b (.qo uY)]),bq 9000 1]⟩
def ab4:fC:=⟨97,[.b (.d),.b (.qo uY)],[],.b (.row 9000),[bq 9000 1]⟩
def ab5:fC:=⟨100,[.b (.row 10000)],[bq 10000 1],.b (.sub 10000 1),[bq 10000 1]⟩
def aph(yY:List D->Option D)(n:Nat)(ae:D)(an:D)(api:bw aX aY 25 yY){r:D}(h:RT yY n ae an=some r):ez aX aY 25 [ae,an] (·=r):=e4 (b4 n [(25,yY)] [(2,⟨[al 0,al 1,al 5],[],[]⟩)] [] [(0,⟨[al 1],[],[]⟩)]) bF (bh api a8) au bz Tryz.func25 (cb (cb le_nil)) h
def ab6:∀n,bw aX aY 25 (n3 n)
 |0=>(λ_ _ h=>by cases h)
 |n+1=>by
  have ih:=ab6 n;exact(by
   intro aO r h;unfold n3 at h;split at h
   case h_2=>cases h
   exact aph (n3 n) n _ _ ih h)
def apj(n:Nat):bw aX aY 25 (n3 n):=(ab6 n)
def apk(y0:List D->Option D)(n:Nat)(ae:D)(an:D)(apl:bw aX aY 102 y0){r:D}(h:RU y0 n ae an=some r):ez aX aY 102 [ae,an] (·=r):=e4 (b4 n [(102,y0)] [(2,⟨[al 1,sp 2,al 5],[a7 2 4],[]⟩)] [] [(0,⟨[al 1],[],[]⟩)]) bF (bh apl a8) au bz Tryz.func102 (cb (cb le_nil)) h
def ab7:∀n,bw aX aY 102 (tc n)
 |0=>(λ_ _ h=>by cases h)
 |n+1=>by
  have ih:=ab7 n;exact(by
   intro aO r h;unfold tc at h;split at h
   case h_2=>cases h
   exact apk (tc n) n _ _ ih h)
def apm(n:Nat):bw aX aY 102 (tc n):=(ab7 n)
def apn(y1:List D->Option D)(n:Nat)(ae:D)(an:D)(apo:bw aX aY 52 y1){r:D}(h:RV y1 n ae an=some r):ez aX aY 52 [ae,an] (·=r):=e4 (b4 n [(102,tc n),(52,y1)] [(3,⟨[al 1,sp 2,al 5],[a7 2 6],[]⟩)] [] [(0,⟨[al 1],[],[]⟩)]) bF (bh (apm n) (bh apo a8)) au bz Tryz.func52 (cb (cb le_nil)) h
def ab8:∀n,bw aX aY 52 (te n)
 |0=>(λ_ _ h=>by cases h)
 |n+1=>by
  have ih:=ab8 n;exact(by
   intro aO r h;unfold te at h;split at h
   case h_2=>cases h
   exact apn (te n) n _ _ ih h)
def apq(n:Nat):bw aX aY 52 (te n):=(ab8 n)
def apr(n:Nat):bw aX aY 26 (FL n):=dx (b4 n [(52,te n)] [] [] []) bF (bh (apq n) a8) au bz Tryz.func26
def aps(n:Nat):bw aX aY 7 (y3 n):=cB (b4 n [(25,n3 n),(26,FL n)] [(8,⟨[sp 1,al 3,al 4],[a7 1 8],[]⟩),(12,⟨[sp 1,al 3,al 5],[a7 1 8],[]⟩),(16,⟨[sp 1,al 3,al 6],[a7 1 8],[]⟩)] [] [(0,⟨[sp 1,al 3],[a7 1 8],[]⟩),(2,⟨[sp 1,al 3],[a7 1 8],[]⟩),(4,⟨[al 3],[],[]⟩)]) bF (bh (apj n) (bh (apr n) a8)) au bz Tryz.func7
def apt(n:Nat):bw aX aY 27 (LN n):=cB (b4 n [] [] [] []) bF a8 au bz Tryz.func27
def ab9(n:Nat):bw aX aY 151 (y4 n):=cB (b4 n [] [] [] []) bF a8 au bz Tryz.func151
def apu(n:Nat):bw aX aY 172 (FP n):=cB (b4 n [] [] [] []) bF a8 au bz Tryz.func172
def apv(n:Nat):bw aX aY 153 (FQ n):=cB (b4 n [(151,y4 n),(172,FP n)] [] [] []) bF (bh (ab9 n) (bh (apu n) a8)) au bz Tryz.func153
def apw(n:Nat)(ae:D){r:D}(h:RY n ae=some r):ez aX aY 152 [ae,(D.val (.func (.func FG) #[] #[]))] (·=r):=e4 (b4 n [(153,FQ n)] [(2,⟨[al 0,(1,.b (.qo FG)),al 5],[],[]⟩)] [] [(0,⟨[al 5],[],[]⟩)]) bF (bh (apv n) a8) au bz Tryz.func152 (cb (cb le_nil)) h
def apx(n:Nat):bw aX aY 152 (Cc n):=by
 intro aO r h;unfold Cc at h;split at h
 case h_2=>cases h
 obtain⟨ao,h⟩:=lv h;obtain rfl:=Rq ao;exact apw n _ h
def apy(n:Nat):bw aX aY 106 (w6 n):=dx (b4 n [] [(2,⟨[al 0,al 1,al 7,al 8],[],[]⟩)] [] [(0,⟨[],[],[]⟩)]) bF a8 au bz Tryz.func106
def aca(n:Nat):bw aX aY 55 (th n):=dx (b4 n [(106,w6 n)] [] [] []) bF (bh (apy n) a8) au bz Tryz.func55
def TT(n:Nat):bw aX aY 113 (ti n):=cB (b4 n [(151,y4 n),(152,Cc n),(55,th n)] [] [] []) bF (bh (ab9 n) (bh (apx n) (bh (aca n) a8))) au bz Tryz.func113
def apz(n:Nat)(ae:D)(cW:List D){r:D}(h:R0 n ae cW=some r):ez aX aY 112 [ae,.ref cW 0] (·=r):=e4 (b4 n [] [] [] []) bF a8 au bz Tryz.func112 (cb (n0 oJ le_nil)) h
def apA(n:Nat):bw aX aY 112 (Cd n):=by
 intro aO r h;unfold Cd at h;split at h
 case h_2=>cases h
 split at h
 case h_2=>cases h
 exact apz n _ _ h
def apB(n:Nat)(ae:D)(cE:D){r:D}(h:R1 n ae cE=some r):ez aX aY 154 [ae,(D.fn (.func tb) [] [cE])] (·=r):=e4 (b4 n [(112,Cd n)] [(2,⟨[al 0,(1,.b (.fd tb 1)),al 7,al 8],[],[]⟩)] [] [(0,⟨[],[],[]⟩)]) bF (bh (apA n) a8) au bz Tryz.func154 (cb (cb le_nil)) h
def apC(n:Nat):bw aX aY 154 (y6 n):=by
 intro aO r h;unfold y6 at h;split at h
 case h_2=>cases h
 split at h
 case h_2=>cases h
 rename_i ao;obtain rfl:=lZ ao;exact apB n _ _ h
def apD(n:Nat)(ae:D)(cE:D){r:D}(h:R2 n ae cE=some r):ez aX aY 114 [ae,(D.fn (.func tb) [] [cE])] (·=r):=e4 (b4 n [(154,y6 n)] [] [] []) bF (bh (apC n) a8) au bz Tryz.func114 (cb (cb le_nil)) h
def apE(n:Nat):bw aX aY 114 (Ce n):=by
 intro aO r h;unfold Ce at h;split at h
 case h_2=>cases h
 split at h
 case h_2=>cases h
 rename_i ao;obtain rfl:=lZ ao;exact apD n _ _ h
def apF(n:Nat):bw aX aY 72 (Cf n):=cB (b4 n [(113,ti n),(114,Ce n)] [(2,⟨[al 0,al 8,al 9,al 10],[],[]⟩)] [] [(0,⟨[],[],[]⟩)]) bF (bh (TT n) (bh (apE n) a8)) au bz Tryz.func72
def apG(n:Nat):bw aX aY 116 (FV n):=cB (b4 n [] [] [] []) bF a8 au bz Tryz.func116
def apH(n:Nat):bw aX aY 115 (FW n):=cB (b4 n [] [(2,⟨[al 0,al 4],[],[]⟩)] [] [(0,⟨[],[],[]⟩)]) bF a8 au bz Tryz.func115
def apI(n:Nat):bw aX aY 73 (FY n):=cB (b4 n [(116,FV n),(115,FW n)] [(3,⟨[al 3,al 7,al 8,al 9],[],[]⟩)] [] [(0,⟨[al 3],[],[]⟩)]) bF (bh (apG n) (bh (apH n) a8)) au bz Tryz.func73
def apJ(n:Nat):bw aX aY 237 (FZ n):=cB (b4 n [] [] [] []) bF a8 au bz Tryz.func237
def apK(n:Nat):bw aX aY 230 (F0 n):=cB (b4 n [] [] [] []) bF a8 au bz Tryz.func230
def apL(n:Nat):bw aX aY 226 (rL n):=cB (b4 n [] [] [] []) bF a8 au bz Tryz.func226
def apM(n:Nat):bw aX aY 215 (F2 n):=cB (b4 n [] [] [] []) bF a8 au bz Tryz.func215
def apN(n:Nat):bw aX aY 210 (F3 n):=cB (b4 n [] [] [] []) bF a8 au bz Tryz.func210
def apO(n:Nat):bw aX aY 203 (F4 n):=cB (b4 n [] [] [] []) bF a8 au bz Tryz.func203
def apP(n:Nat)(ae:D)(cW:List D){r:D}(h:LR n ae cW=some r):ez aX aY 240 [ae,.ref cW 0] (·=r):=e4 (b4 n [] [] [] []) bF a8 au bz Tryz.func240 (cb (n0 oJ le_nil)) h
def apQ(n:Nat):bw aX aY 240 (F5 n):=by
 intro aO r h;unfold F5 at h;split at h
 case h_2=>cases h
 split at h
 case h_2=>cases h
 exact apP n _ _ h
def apR(n:Nat)(ae:D)(cE:D){r:D}(h:F7 n ae cE=some r):ez aX aY 242 [ae,(D.fn (.func rH) [] [cE])] (·=r):=e4 (b4 n [(240,F5 n)] [(2,⟨[al 0,(1,.b (.fd rH 1)),al 7,al 8],[],[]⟩)] [] [(0,⟨[],[],[]⟩)]) bF (bh (apQ n) a8) au bz Tryz.func242 (cb (cb le_nil)) h
def apS(n:Nat):bw aX aY 242 (y8 n):=by
 intro aO r h;unfold y8 at h;split at h
 case h_2=>cases h
 split at h
 case h_2=>cases h
 rename_i ao;obtain rfl:=lZ ao;exact apR n _ _ h
def apT(n:Nat)(ae:D)(cE:D){r:D}(h:LS n ae cE=some r):ez aX aY 239 [ae,(D.fn (.func rH) [] [cE])] (·=r):=e4 (b4 n [(242,y8 n)] [] [] []) bF (bh (apS n) a8) au bz Tryz.func239 (cb (cb le_nil)) h
def apU(n:Nat):bw aX aY 239 (y9 n):=by
 intro aO r h;unfold y9 at h;split at h
 case h_2=>cases h
 split at h
 case h_2=>cases h
 rename_i ao;obtain rfl:=lZ ao;exact apT n _ _ h
def apV(n:Nat):bw aX aY 186 (F8 n):=cB (b4 n [] [] [(5004000,⟨[al 4,al 5],[],[]⟩),(5005000,⟨[al 4,al 5],[],[]⟩),(5006000,⟨[al 4,al 5],[],[]⟩),(12011000,⟨[al 4,al 12],[],[]⟩),(15014000,⟨[al 4,al 15],[],[]⟩),(15015000,⟨[al 4,al 15],[],[]⟩),(15016000,⟨[al 4,al 15],[],[]⟩),(15017000,⟨[al 4,al 15],[],[]⟩),(15018000,⟨[al 4,al 15],[],[]⟩),(15019000,⟨[al 4,al 15],[],[]⟩),(15020000,⟨[al 4,al 15],[],[]⟩),(15021000,⟨[al 4,al 15],[],[]⟩),(15022000,⟨[al 4,al 15],[],[]⟩)] []) bF a8 au bz Tryz.func186
def apW(n:Nat):bw aX aY 179 (F9 n):=cB (b4 n [(186,F8 n)] [] [(18008007,⟨[sp 1,al 3,al 4,al 5,al 6],[a7 1 4],[]⟩),(20000009,⟨[sp 1,al 3,al 4,al 5,al 6],[a7 1 4],[]⟩)] [(0,⟨[sp 1,al 3,al 4,al 5,al 6],[a7 1 4],[]⟩)]) bF (bh (apV n) a8) au bz Tryz.func179
def apX(n:Nat):eB aX aY abO (Ga n):=h0 ⟨dZ aX,aY,eo [(179,F9 n)],n,[10000,10001],bU [],bU [(10004003,⟨[(3,.b (.ptr 10001 0))],[a7 10001 1,a7 10000 1],[]⟩),(18000006,⟨[(3,.b (.ptr 10001 0))],[a7 10001 1,a7 10000 1],[]⟩)],bU [],eK [],en [],eP [],eJ []⟩ bF (bh (apW n) a8) au bz Tryz.func178 []
def acb(n:Nat):eB aX aY TP (w7 n):=h0 ⟨dZ aX,aY,eo [],n,[],bU [(2,⟨[bX 0 9000,al 1,al 5],[bq 9000 1],[]⟩)],bU [],bU [(0,⟨[bX 0 9000,al 1,al 5],[bq 9000 1],[]⟩)],eK [],en [],eP [],eJ []⟩ bF a8 au bz Tryz.func135 []
def apY(n:Nat):eB aX aY abP (zb n):=h0 ⟨dZ aX,aY,eo [],n,[10000,10001],bU [],bU [(9004003,⟨[],[(10000,.box [.b (.row 6010)]),(10001,.box [.b (.row 9001)]),bq 6010 1,bq 9001 1],[]⟩),(15000005,⟨[],[(10000,.box [.b (.row 9000)]),(10001,.box [.b (.row 6020)]),bq 9000 1,bq 6020 1],[]⟩)],bU [(0,⟨[],[(10000,.box [.b (.row 6010)]),(10001,.box [.b (.row 9001)]),bq 6010 1,bq 9001 1],[]⟩)],eK [],en [(14,⟨TP,w7 n,6010,[]⟩),(20,⟨TP,w7 n,6020,[]⟩)],eP [],eJ []⟩ bF a8 (bI (acb n) (bI (acb n) au)) bz Tryz.func134 []
def apZ(zc:List D->Option (List D))(n:Nat)(ap0:eB aX aY Ai zc):eB aX aY Ai (R3 zc n):=h0 ⟨dZ aX,aY,eo [],n,[10000,10001],bU [(4,⟨[al 1,(2,.fn (.func Z6) [] [.ptr 10000 0,.ptr 10001 0]),al 15,al 16,al 17],[a7 10000 1,a7 10001 1],[]⟩)],bU [],bU [(0,⟨[],[a7 10000 1,a7 10001 1],[]⟩)],eK [],en [(12,⟨abO,Ga n,6010,[]⟩),(25,⟨Ai,zc,6020,[]⟩)],eP [],eJ []⟩ bF a8 (bI (apX n) (bI ap0 au)) bz Tryz.func133 []
def acd:∀n,eB aX aY Ai (u0 n)
 |0=>wV (s:=Ai) (wX (T:=dZ aX) (os:=λ_=>none) Tryz.func133) (λ_=>rfl)|n+1=>by have ih:=acd n;exact apZ (u0 n) n ih
def ap1(n:Nat):eB aX aY Ai (u0 n):=(acd n)
def TU(n:Nat):bw aX aY 159 (tk n):=cB ⟨dZ aX,aY,eo [],n,[],bU [],bU [],bU [],eK [],en [(7,⟨Ai,u0 n,6010,[]⟩)],eP [],eJ []⟩ bF a8 (bI (ap1 n) au) bz Tryz.func159
def ap2(zd:List D->Option (List D))(n:Nat)(ap3:eB aX aY xw zd):eB aX aY xw (R4 zd n):=h0 ⟨dZ aX,aY,eo [],n,[10000,10001],bU [(4,⟨[al 1,(2,.fn (.func Z5) [] [.ptr 10000 0,.ptr 10001 0]),al 15,al 16,al 17],[(10000,.box [.b (.row 6010)]),(10001,.box [.b (.row 6011)]),bq 6010 1,bq 6011 1],[]⟩)],bU [],bU [(0,⟨[],[(10000,.box [.b (.row 6010)]),(10001,.box [.b (.row 6011)]),bq 6010 1,bq 6011 1],[]⟩)],eK [],en [(12,⟨abP,zb n,6010,[]⟩),(25,⟨xw,zd,6020,[]⟩)],eP [],eJ []⟩ bF a8 (bI (apY n) (bI ap3 au)) bz Tryz.func133 []
def ace:∀n,eB aX aY xw (rM n)
 |0=>wV (s:=xw) (wX (T:=dZ aX) (os:=λ_=>none) Tryz.func133) (λ_=>rfl)|n+1=>by have ih:=ace n;exact ap2 (rM n) n ih
def acf(n:Nat):eB aX aY xw (rM n):=(ace n)
def It(n:Nat):bw aX aY 99 (pI n):=cB ⟨dZ aX,aY,eo [],n,[],bU [],bU [],bU [],eK [(2,[0,1,2,3])],en [(6,⟨xw,rM n,6010,[.box 3 0 5900 1,.box 2 0 5901 1]⟩)],eP [],eJ []⟩ bF a8 (bI (acf n) au) bz Tryz.func99
def ap4(n:Nat):bw aX aY 130 (ze n):=cB (b4 n [(159,tk n),(99,pI n)] [] [] []) bF (bh (TU n) (bh (It n) a8)) au bz Tryz.func130
def ap5(n:Nat):bw aX aY 131 (Gc n):=cB (b4 n [] [] [(6005000,⟨[al 3,al 6],[],[]⟩),(6006000,⟨[al 3,al 6],[],[]⟩),(6007000,⟨[al 3,al 6],[],[]⟩),(6008000,⟨[al 3,al 6],[],[]⟩),(12011000,⟨[al 12],[],[]⟩),(12012000,⟨[al 12],[],[]⟩),(12013000,⟨[al 12],[],[]⟩),(12014000,⟨[al 12],[],[]⟩),(12015000,⟨[al 12],[],[]⟩),(12016000,⟨[al 12],[],[]⟩)] [(0,⟨[],[],[]⟩)]) bF a8 au bz Tryz.func131
def ap6(n:Nat):eB aX aY abQ (Gd n):=h0 ⟨dZ aX,aY,eo [(130,ze n),(131,Gc n)],n,[10000,10001],bU [],bU [(40007006,⟨[(3,.b (.ptr 10001 0))],[a7 10001 1,a7 10000 1],[]⟩),(43009008,⟨[(3,.b (.ptr 10001 0))],[a7 10001 1,a7 10000 1],[]⟩),(46011010,⟨[(3,.b (.ptr 10001 0))],[a7 10001 1,a7 10000 1],[]⟩),(50013012,⟨[(3,.b (.ptr 10001 0))],[a7 10001 1,a7 10000 1],[]⟩),(65000014,⟨[(3,.b (.ptr 10001 0))],[a7 10001 1,a7 10000 1],[]⟩)],bU [(0,⟨[(3,.b (.ptr 10001 0))],[a7 10001 1,a7 10000 1],[]⟩)],eK [],en [],eP [],eJ []⟩ bF (bh (ap4 n) (bh (ap5 n) a8)) au bz Tryz.func129 []
def TV(n:Nat):bw aX aY 160 (u1 n):=cB (b4 n [] [(3,⟨[(3,.b (.map 8)),al 9,al 10,al 11],[(8,.map)],[]⟩)] [(24000007,⟨[(3,.b (.map 8)),al 9,al 10,al 11],[(8,.map)],[]⟩)] [(0,⟨[(3,.b (.map 8))],[(8,.map)],[]⟩),(1,⟨[(3,.b (.map 8)),al 9,al 10,al 11],[(8,.map)],[]⟩)]) bF a8 au bz Tryz.func160
def ap7(n:Nat):bw aX aY 161 (Gg n):=cB ⟨dZ aX,aY,eo [(160,u1 n),(99,pI n)],n,[],bU [(4,⟨[al 3,bX 4 5002,al 16,al 17,al 18],[bq 5002 1],[.slot 4 5002 1]⟩),(9,⟨[al 3,bX 4 5002,bX 7 5001,al 16,al 17,al 18,al 28,al 29,al 30],[bq 5002 1,bq 5001 1],[.slot 7 5001 1]⟩)],bU [(40000013,⟨[al 3,bX 4 5002,bX 7 44,al 16,al 17,al 18,al 28,al 29,al 30],[bq 5002 1,bq 44 1],[.slot 7 5000 1]⟩)],bU [(0,⟨[bX 4 5002],[bq 5002 1],[]⟩),(1,⟨[al 3,bX 4 49,al 16,al 17,al 18],[bq 49 1],[]⟩),(2,⟨[al 3,bX 4 5002,bX 7 5001,al 16,al 17,al 18],[bq 5002 1,bq 5001 1],[]⟩),(3,⟨[al 3,bX 4 5002,bX 7 44,al 16,al 17,al 18,al 28,al 29,al 30],[bq 5002 1,bq 44 1],[]⟩)],eK [],en [],eP [48],eJ []⟩ bF (bh (TV n) (bh (It n) a8)) au bz Tryz.func161
def ap8(zf:List D->Option (List D))(n:Nat)(ap9:eB aX aY xx zf):eB aX aY xx (LY zf n):=h0 ⟨dZ aX,aY,eo [],n,[10000,10001,10002],bU [(1,⟨[(2,.b (.ptr 10001 0)),(3,.b (.ptr 10002 0)),al 10,al 11,al 12],[(10001,.box [.b (.map 9000)]),(10002,.box [.fn (.func w4) [] [.ptr 10000 0,.ptr 10001 0,.ptr 10002 0]]),a7 10000 1,(9000,.map)],[]⟩)],bU [(19000004,⟨[(2,.b (.ptr 10001 0)),(3,.b (.ptr 10002 0)),al 10,al 11,al 12],[(10001,.box [.b (.map 6010)]),(10002,.box [.fn (.func w4) [] [.ptr 10000 0,.ptr 10001 0,.ptr 10002 0]]),a7 10000 1,(6010,.map)],[]⟩)],bU [(0,⟨[],[a7 10000 1,(10001,.box [.b (.map 9000)]),(10002,.box [.fn (.func w4) [] [.ptr 10000 0,.ptr 10001 0,.ptr 10002 0]]),(9000,.map)],[]⟩),(1,⟨[(2,.b (.ptr 10001 0)),(3,.b (.ptr 10002 0)),al 10,al 11,al 12],[(10001,.box [.b (.map 6010)]),(10002,.box [.fn (.func w4) [] [.ptr 10000 0,.ptr 10001 0,.ptr 10002 0]]),a7 10000 1,(6010,.map)],[]⟩)],eK [],en [(24,⟨xx,zf,6010,[]⟩)],eP [],eJ []⟩ bF a8 (bI ap9 au) bz Tryz.func180 []
def acg:∀n,eB aX aY xx (rN n)
 |0=>wV (s:=xx) (wX (T:=dZ aX) (os:=λ_=>none) Tryz.func180) (λ_=>rfl)|n+1=>by have ih:=acg n;exact ap8 (rN n) n ih
def ach(n:Nat):eB aX aY xx (rN n):=(acg n)
def aqa(n:Nat):eB aX aY abR (Gi n):=h0 ⟨dZ aX,aY,eo [],n,[],bU [(5,⟨[sp 5,sp 6,al 11,al 12,al 13],[(5,.box [.b (.map 9)]),(6,.box [.fn (.func w4) [] [.ptr 2 0,.ptr 5 0,.ptr 6 0]]),(9,.map),a7 2 1],[]⟩)],bU [],bU [(0,⟨[sp 5],[(5,.box [.b (.map 9)]),(9,.map)],[]⟩)],eK [],en [(19,⟨xx,rN n,6010,[]⟩)],eP [],eJ []⟩ bF a8 (bI (ach n) au) bz Tryz.func162 []
def aqb(n:Nat):bw aX aY 162 (Cg n):=dx ⟨dZ aX,aY,eo [],n,[],bU [(5,⟨[sp 5,sp 6,al 11,al 12,al 13],[(5,.box [.b (.map 9)]),(6,.box [.fn (.func w4) [] [.ptr 2 0,.ptr 5 0,.ptr 6 0]]),(9,.map),a7 2 1],[]⟩)],bU [],bU [(0,⟨[sp 5],[(5,.box [.b (.map 9)]),(9,.map)],[]⟩)],eK [],en [(19,⟨xx,rN n,6010,[]⟩)],eP [],eJ []⟩ bF a8 (bI (ach n) au) bz Tryz.func162
def aqc(u2:List D->Option (List D))(n:Nat)(aqd:eB aX aY Aj u2):eB aX aY Aj (Gk u2 n):=h0 ⟨dZ aX,aY,eo [],n,[10000,10001,10002,10003],bU [(1,⟨[al 1,(2,.b (.ptr 10000 0)),(3,.b (.ptr 10001 0)),(4,.b (.ptr 10002 0)),(5,.b (.ptr 10003 0)),sp 6,sp 8],[a7 10000 1,a7 10001 1,a7 10002 1,(10003,.box [.fn (.func w5) [] [.ptr 10000 0,.ptr 10001 0,.ptr 10002 0,.ptr 10003 0]]),a7 6 4,a7 8 4],[]⟩),(10,⟨[al 1,(4,.b (.ptr 10002 0)),(5,.b (.ptr 10003 0)),sp 6,sp 8,bX 11 41,al 43,al 44,al 45],[a7 10002 1,(10003,.box [.fn (.func w5) [] [.ptr 10000 0,.ptr 10001 0,.ptr 10002 0,.ptr 10003 0]]),a7 6 4,a7 8 4,bq 41 4,a7 10000 1,a7 10001 1],[]⟩)],bU [(55000013,⟨[al 1,(4,.b (.ptr 10002 0)),(5,.b (.ptr 10003 0)),sp 6,sp 8,bX 11 41,al 43,al 44,al 45],[a7 10002 1,(10003,.box [.fn (.func w5) [] [.ptr 10000 0,.ptr 10001 0,.ptr 10002 0,.ptr 10003 0]]),a7 6 4,a7 8 4,bq 41 4,a7 10000 1,a7 10001 1],[]⟩)],bU [(0,⟨[al 1,(4,.b (.ptr 10002 0)),(5,.b (.ptr 10003 0)),sp 6,sp 8],[a7 10002 1,(10003,.box [.fn (.func w5) [] [.ptr 10000 0,.ptr 10001 0,.ptr 10002 0,.ptr 10003 0]]),a7 6 4,a7 8 4,a7 10000 1,a7 10001 1],[]⟩),(2,⟨[sp 6,sp 8,bX 11 41],[a7 6 4,a7 8 4,bq 41 4,a7 10000 1,a7 10001 1,a7 10002 1,(10003,.box [.fn (.func w5) [] [.ptr 10000 0,.ptr 10001 0,.ptr 10002 0,.ptr 10003 0]])],[]⟩),(3,⟨[al 1,(4,.b (.ptr 10002 0)),(5,.b (.ptr 10003 0)),sp 6,sp 8,bX 11 41,al 43,al 44,al 45],[a7 10002 1,(10003,.box [.fn (.func w5) [] [.ptr 10000 0,.ptr 10001 0,.ptr 10002 0,.ptr 10003 0]]),a7 6 4,a7 8 4,bq 41 4,a7 10000 1,a7 10001 1],[]⟩)],eK [],en [(62,⟨Aj,u2,6010,[]⟩)],eP [20066],eJ []⟩ bF a8 (bI aqd au) bz Tryz.func181 []
def aci:∀n,eB aX aY Aj (tl n)
 |0=>wV (s:=Aj) (wX (T:=dZ aX) (os:=λ_=>none) Tryz.func181) (λ_=>rfl)|n+1=>by have ih:=aci n;exact aqc (tl n) n ih
def aqe(n:Nat):eB aX aY Aj (tl n):=(aci n)
def aqf(n:Nat):bw aX aY 163 (Gl n):=dx ⟨dZ aX,aY,eo [(160,u1 n)],n,[],bU [],bU [],bU [],eK [],en [(13,⟨Aj,tl n,6010,[]⟩)],eP [],eJ []⟩ bF (bh (TV n) a8) (bI (aqe n) au) bz Tryz.func163
def Na(n:Nat):bw aX aY 137 (mB n):=dx ⟨(dZ Tryz.prog).sS [77],aY,eo [(159,tk n),(160,u1 n),(161,Gg n),(99,pI n),(162,Cg n),(163,Gl n)],n,[],bU [(8,⟨[al 1,sp 2,sp 4,al 7,al 8,bX 9 5001,al 36,al 37,al 38],[a7 2 4,a7 4 4,bq 5001 1],[.slot 9 5001 1]⟩),(16,⟨[al 1,sp 2,sp 4,al 8,(16,.b (.map 6010)),al 57,al 58,al 59],[a7 2 4,a7 4 4,(6010,.map)],[]⟩),(21,⟨[al 1,sp 2,sp 4,al 8,(16,.b (.map 6010)),al 67,al 68],[a7 2 4,a7 4 4,(6010,.map)],[]⟩)],bU [(48000012,⟨[al 1,sp 2,sp 4,al 7,al 8,bX 9 52,al 36,al 37,al 38],[a7 2 4,a7 4 4,bq 52 1],[.slot 9 5000 1]⟩)],bU [(0,⟨[al 1,sp 2,sp 4,al 8,bX 9 5001],[a7 2 4,a7 4 4,bq 5001 1],[]⟩),(1,⟨[al 1,sp 2,sp 4,al 7,al 8,bX 9 52,al 36,al 37,al 38],[a7 2 4,a7 4 4,bq 52 1],[]⟩),(2,⟨[al 1,sp 2,sp 4,al 8,(16,.b (.map 6010))],[a7 2 4,a7 4 4,(6010,.map)],[]⟩),(4,⟨[al 1,sp 2,sp 4],[a7 2 4,a7 4 4],[]⟩)],eK [],en [(56,⟨abR,Gi n,6010,[]⟩)],eP [],eJ [(14,[[5001],[],[]])]⟩ ((tok _).sS _) (bh (TU n) (bh (TV n) (bh (ap7 n) (bh (It n) (bh (aqb n) (bh (aqf n) a8)))))) (bI (aqa n) au) bz Tryz.func137
def aqg(n:Nat):bw aX aY 220 (Gp n):=cB (b4 n [] [(3,⟨[(3,.b (.map 8)),al 9,al 10,al 11],[(8,.map)],[]⟩)] [(24000007,⟨[(3,.b (.map 8)),al 9,al 10,al 11],[(8,.map)],[]⟩)] [(0,⟨[(3,.b (.map 8))],[(8,.map)],[]⟩),(1,⟨[(3,.b (.map 8)),al 9,al 10,al 11],[(8,.map)],[]⟩)]) bF a8 au bz Tryz.func220
def acj(n:Nat):bw aX aY 222 (rO n):=dx (b4 n [] [] [] []) bF a8 au bz Tryz.func222
def aqh(n:Nat):bw aX aY 223 (Gs n):=cB (b4 n [] [(2,⟨[sp 2,al 6,al 7,al 8],[a7 2 3],[]⟩)] [] [(0,⟨[sp 2],[a7 2 3],[]⟩)]) bF a8 au bz Tryz.func223
def aqi(n:Nat):bw aX aY 224 (zj n):=g5 (b4 n [(222,rO n)] [] [(13000002,⟨[al 0,sp 4,sp 5,sp 6],[a7 4 3,a7 5 3,a7 6 3],[]⟩)] []) bF (bh (acj n) a8) au bz Tryz.func224
def aqj(n:Nat):bw aX aY 221 (oT n):=alp (b4 n [(222,rO n),(223,Gs n),(224,zj n)] [] [(29007000,⟨[al 0,al 1,al 3,al 4,sp 7,sp 10,al 16,al 29],[a7 7 4,a7 10 3],[]⟩),(69017000,⟨[al 4,sp 7,sp 10,al 16,al 69],[a7 7 4,a7 10 3],[]⟩),(69018000,⟨[al 4,sp 7,sp 10,al 16,al 69],[a7 7 4,a7 10 3],[]⟩),(69019000,⟨[al 4,sp 7,sp 10,al 16,al 69],[a7 7 4,a7 10 3],[]⟩),(69020000,⟨[al 4,sp 7,sp 10,al 16,al 69],[a7 7 4,a7 10 3],[]⟩),(126029000,⟨[al 4,sp 7,sp 10,al 126],[a7 7 4,a7 10 3],[]⟩),(164038000,⟨[al 4,sp 7,sp 10,al 152,al 164],[a7 7 4,a7 10 3],[]⟩)] [(0,⟨[al 4,sp 7,sp 10],[a7 7 4,a7 10 3],[]⟩)]) bF (bh (acj n) (bh (aqh n) (bh (aqi n) a8))) au bz Tryz.func221
def aqk(zl:List D->Option D)(n:Nat)(ae:D)(an:D)(ba:D)(b2:D)(aql:bw aX aY 219 zl){r:D}(h:Sl zl n ae an ba b2=some r):ez aX aY 219 [ae,an,ba,b2] (·=r):=e4 (b4 n [(219,zl),(221,oT n)] [(3,⟨[al 0,al 1,al 3,sp 6,sp 8,bX 10 5000,al 16,al 17,al 18],[a7 6 4,a7 8 3,bq 5000 3],[.slot 10 5000 3]⟩)] [] [(0,⟨[al 0,al 1,al 3,sp 6,sp 8,bX 10 5000],[a7 6 4,a7 8 3,bq 5000 3],[]⟩)]) bF (bh aql (bh (aqj n) a8)) au bz Tryz.func219 (cb (cb (cb (cb le_nil)))) h
def ack:∀n,bw aX aY 219 (rP n)
 |0=>(λ_ _ h=>by cases h)
 |n+1=>by
  have ih:=ack n;exact(by
   intro aO r h;unfold rP at h;split at h
   case h_2=>cases h
   exact aqk (rP n) n _ _ _ _ ih h)
def aqm(n:Nat):bw aX aY 219 (rP n):=(ack n)
def aqn(n:Nat):bw aX aY 218 (Co n):=g5 (b4 n [(159,tk n),(220,Gp n),(219,rP n)] [] [] []) bF (bh (TU n) (bh (aqg n) (bh (aqm n) a8))) au bz Tryz.func218
def TW(n:Nat):bw aX aY 217 (tu n):=g5 (b4 n [(137,mB n),(218,Co n)] [] [] []) bF (bh (Na n) (bh (aqn n) a8)) au bz Tryz.func217
def acm(n:Nat):bw aX aY 228 (xc n):=g5 (b4 n [(217,tu n)] [] [] []) bF (bh (TW n) a8) au bz Tryz.func228
def aqo(zm:List D->Option D)(n:Nat)(ae:D)(an:D)(aqp:bw aX aY 241 zm){r:D}(h:Gy zm n ae an=some r):ez aX aY 241 [ae,an] (·=r):=e4 (b4 n [(228,xc n),(241,zm)] [(4,⟨[sp 2,al 16,al 17,al 18],[a7 2 8],[]⟩)] [] [(0,⟨[],[],[]⟩)]) bF (bh (acm n) (bh aqp a8)) au bz Tryz.func241 (cb (cb le_nil)) h
def acn:∀n,bw aX aY 241 (tw n)
 |0=>(λ_ _ h=>by cases h)
 |n+1=>by
  have ih:=acn n;exact(by
   intro aO r h;unfold tw at h;split at h
   case h_2=>cases h
   exact aqo (tw n) n _ _ ih h)
def aqq(n:Nat):bw aX aY 241 (tw n):=(acn n)
def aqr(n:Nat)(ae:D)(cW:List D){r:D}(h:L5 n ae cW=some r):ez aX aY 232 [ae,.ref cW 0] (·=r):=e4 (b4 n [] [] [] []) bF a8 au bz Tryz.func232 (cb (n0 oJ le_nil)) h
def aqs(n:Nat):bw aX aY 232 (Gz n):=by
 intro aO r h;unfold Gz at h;split at h
 case h_2=>cases h
 split at h
 case h_2=>cases h
 exact aqr n _ _ h
def aqt(n:Nat)(ae:D)(cE:D){r:D}(h:GB n ae cE=some r):ez aX aY 154 [ae,(D.fn (.func B7) [] [cE])] (·=r):=e4 (b4 n [(232,Gz n)] [(2,⟨[al 0,(1,.b (.fd B7 1)),al 7,al 8],[],[]⟩)] [] [(0,⟨[],[],[]⟩)]) bF (bh (aqs n) a8) au bz Tryz.func154 (cb (cb le_nil)) h
def aqu(n:Nat):bw aX aY 154 (zn n):=by
 intro aO r h;unfold zn at h;split at h
 case h_2=>cases h
 split at h
 case h_2=>cases h
 rename_i ao;obtain rfl:=lZ ao;exact aqt n _ _ h
def aqv(n:Nat)(ae:D)(cW:List D){r:D}(h:L6 n ae cW=some r):ez aX aY 234 [ae,.ref cW 0] (·=r):=e4 (b4 n [] [] [] []) bF a8 au bz Tryz.func234 (cb (n0 oJ le_nil)) h
def aqw(n:Nat):bw aX aY 234 (GC n):=by
 intro aO r h;unfold GC at h;split at h
 case h_2=>cases h
 split at h
 case h_2=>cases h
 exact aqv n _ _ h
def aqx(n:Nat)(ae:D)(cE:D){r:D}(h:GF n ae cE=some r):ez aX aY 235 [ae,(D.fn (.func rG) [] [cE])] (·=r):=e4 (b4 n [(234,GC n)] [(2,⟨[al 0,(1,.b (.fd rG 1)),al 7,al 8],[],[]⟩)] [] [(0,⟨[],[],[]⟩)]) bF (bh (aqw n) a8) au bz Tryz.func235 (cb (cb le_nil)) h
def aqy(n:Nat):bw aX aY 235 (zo n):=by
 intro aO r h;unfold zo at h;split at h
 case h_2=>cases h
 split at h
 case h_2=>cases h
 rename_i ao;obtain rfl:=lZ ao;exact aqx n _ _ h
def aqz(n:Nat)(ae:D)(cE:D){r:D}(h:L7 n ae cE=some r):ez aX aY 233 [ae,(D.fn (.func rG) [] [cE])] (·=r):=e4 (b4 n [(235,zo n)] [] [] []) bF (bh (aqy n) a8) au bz Tryz.func233 (cb (cb le_nil)) h
def aqA(n:Nat):bw aX aY 233 (zp n):=by
 intro aO r h;unfold zp at h;split at h
 case h_2=>cases h
 split at h
 case h_2=>cases h
 rename_i ao;obtain rfl:=lZ ao;exact aqz n _ _ h
def aqB(n:Nat):bw aX aY 231 (xd n):=g5 (b4 n [(154,zn n),(233,zp n),(217,tu n)] [] [] []) bF (bh (aqu n) (bh (aqA n) (bh (TW n) a8))) au bz Tryz.func231
def aqC(n:Nat):bw aX aY 227 (Cp n):=g5 (b4 n [(228,xc n)] [] [] []) bF (bh (acm n) a8) au bz Tryz.func227
def aqD(n:Nat):bw aX aY 216 (Cq n):=g5 (b4 n [(217,tu n)] [] [] []) bF (bh (TW n) a8) au bz Tryz.func216
def aqE(n:Nat)(ae:D)(cW:List D){r:D}(h:L9 n ae cW=some r):ez aX aY 213 [ae,.ref cW 0] (·=r):=e4 (b4 n [] [] [] []) bF a8 au bz Tryz.func213 (cb (n0 oJ le_nil)) h
def aqF(n:Nat):bw aX aY 213 (GH n):=by
 intro aO r h;unfold GH at h;split at h
 case h_2=>cases h
 split at h
 case h_2=>cases h
 exact aqE n _ _ h
def aqG(n:Nat)(ae:D)(cE:D){r:D}(h:GJ n ae cE=some r):ez aX aY 212 [ae,(D.fn (.func B6) [] [cE])] (·=r):=e4 (b4 n [(213,GH n)] [(2,⟨[al 0,(1,.b (.fd B6 1)),al 7,al 8],[],[]⟩)] [] [(0,⟨[],[],[]⟩)]) bF (bh (aqF n) a8) au bz Tryz.func212 (cb (cb le_nil)) h
def aqH(n:Nat):bw aX aY 212 (zr n):=by
 intro aO r h;unfold zr at h;split at h
 case h_2=>cases h
 split at h
 case h_2=>cases h
 rename_i ao;obtain rfl:=lZ ao;exact aqG n _ _ h
def aqI(n:Nat):bw aX aY 211 (Cr n):=g5 ⟨dZ aX,aY,eo [(99,pI n),(212,zr n)],n,[],bU [(3,⟨[al 0,al 2,bX 7 16,bX 8 18],[bq 16 1,bq 18 1],[]⟩),(7,⟨[al 0,al 2,bX 7 16,bX 8 18,al 35,al 36,al 37],[bq 16 1,bq 18 1],[]⟩)],bU [(52000011,⟨[al 0,al 2,bX 7 16,bX 8 59,al 35,al 36,al 37],[bq 16 1,bq 59 1],[]⟩)],bU [(0,⟨[al 2,bX 7 16],[bq 16 1],[]⟩),(1,⟨[al 0,al 2,bX 7 16,bX 8 18],[bq 16 1,bq 18 1],[]⟩),(2,⟨[al 0,al 2,bX 7 16,bX 8 18],[bq 16 1,bq 18 1],[]⟩),(3,⟨[al 0,al 2,bX 7 16,bX 8 59,al 35,al 36,al 37],[bq 16 1,bq 59 1],[]⟩)],eK [],en [],eP [23],eJ []⟩ bF (bh (It n) (bh (aqH n) a8)) au bz Tryz.func211
def aqJ(n:Nat)(ae:D)(cW:List D){r:D}(h:Mc n ae cW=some r):ez aX aY 205 [ae,.ref cW 0] (·=r):=e4 (b4 n [] [] [] []) bF a8 au bz Tryz.func205 (cb (n0 oJ le_nil)) h
def aqK(n:Nat):bw aX aY 205 (GL n):=by
 intro aO r h;unfold GL at h;split at h
 case h_2=>cases h
 split at h
 case h_2=>cases h
 exact aqJ n _ _ h
def aqL(n:Nat)(ae:D)(cE:D){r:D}(h:GN n ae cE=some r):ez aX aY 154 [ae,(D.fn (.func rE) [] [cE])] (·=r):=e4 (b4 n [(205,GL n)] [(2,⟨[al 0,(1,.b (.fd rE 1)),al 7,al 8],[],[]⟩)] [] [(0,⟨[],[],[]⟩)]) bF (bh (aqK n) a8) au bz Tryz.func154 (cb (cb le_nil)) h
def aqM(n:Nat):bw aX aY 154 (zu n):=by
 intro aO r h;unfold zu at h;split at h
 case h_2=>cases h
 split at h
 case h_2=>cases h
 rename_i ao;obtain rfl:=lZ ao;exact aqL n _ _ h
def aqN(n:Nat)(ae:D)(cE:D){r:D}(h:Md n ae cE=some r):ez aX aY 114 [ae,(D.fn (.func rE) [] [cE])] (·=r):=e4 (b4 n [(154,zu n)] [] [] []) bF (bh (aqM n) a8) au bz Tryz.func114 (cb (cb le_nil)) h
def aqO(n:Nat):bw aX aY 114 (zv n):=by
 intro aO r h;unfold zv at h;split at h
 case h_2=>cases h
 split at h
 case h_2=>cases h
 rename_i ao;obtain rfl:=lZ ao;exact aqN n _ _ h
def aqP(n:Nat)(ae:D)(cW:List D){r:D}(h:Me n ae cW=some r):ez aX aY 207 [ae,.ref cW 0] (·=r):=e4 (b4 n [] [] [] []) bF a8 au bz Tryz.func207 (cb (n0 oJ le_nil)) h
def aqQ(n:Nat):bw aX aY 207 (GO n):=by
 intro aO r h;unfold GO at h;split at h
 case h_2=>cases h
 split at h
 case h_2=>cases h
 exact aqP n _ _ h
def aqR(n:Nat)(ae:D)(cE:D){r:D}(h:GQ n ae cE=some r):ez aX aY 208 [ae,(D.fn (.func rF) [] [cE])] (·=r):=e4 (b4 n [(207,GO n)] [(2,⟨[al 0,(1,.b (.fd rF 1)),al 7,al 8],[],[]⟩)] [] [(0,⟨[],[],[]⟩)]) bF (bh (aqQ n) a8) au bz Tryz.func208 (cb (cb le_nil)) h
def aqS(n:Nat):bw aX aY 208 (zw n):=by
 intro aO r h;unfold zw at h;split at h
 case h_2=>cases h
 split at h
 case h_2=>cases h
 rename_i ao;obtain rfl:=lZ ao;exact aqR n _ _ h
def aqT(n:Nat)(ae:D)(cE:D){r:D}(h:Mf n ae cE=some r):ez aX aY 206 [ae,(D.fn (.func rF) [] [cE])] (·=r):=e4 (b4 n [(208,zw n)] [] [] []) bF (bh (aqS n) a8) au bz Tryz.func206 (cb (cb le_nil)) h
def aqU(n:Nat):bw aX aY 206 (zx n):=by
 intro aO r h;unfold zx at h;split at h
 case h_2=>cases h
 split at h
 case h_2=>cases h
 rename_i ao;obtain rfl:=lZ ao;exact aqT n _ _ h
def aqV(n:Nat):bw aX aY 204 (u6 n):=g5 (b4 n [(113,ti n),(114,zv n),(206,zx n)] [] [(17005000,⟨[al 17],[],[]⟩)] []) bF (bh (TT n) (bh (aqO n) (bh (aqU n) a8))) au bz Tryz.func204
def aqW(n:Nat):bw aX aY 236 (Mg n):=cB (b4 n [] [] [] []) bF a8 au bz Tryz.func236
def aqX(n:Nat):bw aX aY 229 (Mh n):=cB (b4 n [] [] [] []) bF a8 au bz Tryz.func229
def aqY(n:Nat):bw aX aY 225 (Mi n):=cB (b4 n [] [] [] []) bF a8 au bz Tryz.func225
def aqZ(n:Nat):bw aX aY 214 (Mj n):=cB (b4 n [] [] [] []) bF a8 au bz Tryz.func214
def aq0(n:Nat):bw aX aY 209 (Mk n):=cB (b4 n [] [] [] []) bF a8 au bz Tryz.func209
def aq1(n:Nat):bw aX aY 202 (Ml n):=cB (b4 n [] [] [] []) bF a8 au bz Tryz.func202
def aq2(n:Nat):bw aX aY 103 (pL n):=dx (b4 n [(137,mB n)] [(2,⟨[al 1,bX 4 5000,al 11,al 12,al 13],[bq 5000 4],[.slot 4 5000 4]⟩)] [] [(0,⟨[bX 4 5000],[bq 5000 4],[]⟩)]) bF (bh (Na n) a8) au bz Tryz.func103
def aq3(n:Nat):bw aX aY 104 (zy n):=dx (b4 n [(137,mB n)] [(2,⟨[al 1,bX 4 5000,al 11,al 12,al 13],[bq 5000 5],[.slot 4 5000 5]⟩)] [] [(0,⟨[bX 4 5000],[bq 5000 5],[]⟩)]) bF (bh (Na n) a8) au bz Tryz.func104
def aq4(zz:List D->Option (List D))(n:Nat)(aq5:eB aX aY Ak zz):eB aX aY Ak (tz zz n):=h0 ⟨dZ aX,aY,eo [(137,mB n)],n,[10000,10001],bU [(8,⟨[(2,.b (.ptr 10001 0)),sp 3,sp 4,bX 8 5000,al 32,al 33,al 34],[(10001,.box [.fn (.func LL) [] [.ptr 10000 0,.ptr 10001 0]]),a7 3 6,a7 4 6,bq 5000 6,a7 10000 1],[.slot 8 5000 6]⟩)],bU [],bU [(0,⟨[sp 3,sp 4,bX 8 5000],[a7 3 6,a7 4 6,bq 5000 6,a7 10000 1,(10001,.box [.fn (.func LL) [] [.ptr 10000 0,.ptr 10001 0]])],[]⟩)],eK [],en [(41,⟨Ak,zz,6020,[]⟩)],eP [20004],eJ []⟩ bF (bh (Na n) a8) (bI aq5 au) bz Tryz.func164 []
def aco:∀n,eB aX aY Ak (pM n)
 |0=>wV (s:=Ak) (wX (T:=dZ aX) (os:=λ_=>none) Tryz.func164) (λ_=>rfl)|n+1=>by have ih:=aco n;exact aq4 (pM n) n ih
def aq6(n:Nat):eB aX aY Ak (pM n):=(aco n)
def aq7(n:Nat):eB aX aY abS (Mo n):=h0 ⟨dZ aX,aY,eo [],n,[],bU [],bU [],bU [],eK [(2,[0,1,2,3])],en [(6,⟨xw,rM n,6010,[.box 3 0 5900 1,.box 2 0 5901 1]⟩)],eP [],eJ []⟩ bF a8 (bI (acf n) au) bz Tryz.func99 []
def acp(n:Nat):bw aX aY 58 (xe n):=cB ⟨dZ aX,aY,eo [],n,[],bU [],bU [],bU [],eK [],en [(7,⟨abS,Mo n,6010,[]⟩)],eP [],eJ []⟩ bF a8 (bI (aq7 n) au) bz Tryz.func58
def TX(n:Nat):bw aX aY 69 (pN n):=dx (b4 n [] [(1,⟨[al 0,al 1],[],[]⟩)] [] [(0,⟨[al 1],[],[]⟩)]) bF a8 au bz Tryz.func69
def aq8(n:Nat):eB aX aY abT (Ct n):=h0 ⟨dZ aX,aY,eo [(69,pN n)],n,[10000],bU [(1,⟨[(0,.b (.map 10000)),al 1,al 6,al 7,al 8],[(10000,.map)],[]⟩)],bU [],bU [(0,⟨[],[(10000,.map)],[]⟩)],eK [],en [],eP [],eJ []⟩ bF (bh (TX n) a8) au bz Tryz.func109 []
def aq9(n:Nat):eB aX aY abU (Cu n):=h0 ⟨dZ aX,aY,eo [(69,pN n)],n,[10000,10001],bU [(1,⟨[(0,.b (.map 10000)),bX 1 10001,bX 6 10001,al 7,al 8],[(10000,.map),bq 10001 1],[]⟩)],bU [],bU [(0,⟨[],[(10000,.map),bq 10001 1],[]⟩)],eK [],en [],eP [],eJ []⟩ bF (bh (TX n) a8) au bz Tryz.func109 []
def ara(n:Nat):bw aX aY 67 (G0 n):=cB ⟨dZ aX,aY,eo [(58,xe n)],n,[],bU [(3,⟨[sp 1,(3,.b (.map 12)),al 14,al 15,al 16],[a7 1 8,(12,.map)],[]⟩),(8,⟨[sp 1,(3,.b (.map 12)),al 34,al 35],[a7 1 8,(12,.map)],[]⟩),(11,⟨[sp 1,(3,.b (.map 12)),al 34,al 35,al 38,al 39,al 40],[a7 1 8,(12,.map)],[]⟩),(17,⟨[(3,.b (.map 12)),al 51,al 52,al 53],[(12,.map)],[]⟩)],bU [],bU [(0,⟨[sp 1,(3,.b (.map 12))],[a7 1 8,(12,.map)],[]⟩),(2,⟨[sp 1,(3,.b (.map 12))],[a7 1 8,(12,.map)],[]⟩),(3,⟨[sp 1,(3,.b (.map 12)),al 34,al 35],[a7 1 8,(12,.map)],[]⟩),(4,⟨[sp 1,(3,.b (.map 12)),al 34,al 35],[a7 1 8,(12,.map)],[]⟩),(6,⟨[(3,.b (.map 12))],[(12,.map)],[]⟩)],eK [(19,[1,2,4,5,6,0,3,7])],en [(47,⟨abT,Ct n,6010,[]⟩),(65,⟨abU,Cu n,6020,[]⟩)],eP [],eJ []⟩ bF (bh (acp n) a8) (bI (aq8 n) (bI (aq9 n) au)) bz Tryz.func67
def arb(n:Nat)(ae:D)(cW:List D)(kR:List D){r:D}(h:Mt n ae cW kR=some r):ez aX aY 68 [ae,.ref cW 0,.ref kR 0] (·=r):=e4 (b4 n [(69,pN n)] [] [] []) bF (bh (TX n) a8) au bz Tryz.func68 (cb (n0 oJ (n0 oJ le_nil))) h
def arc(n:Nat):bw aX aY 68 (zA n):=by
 intro aO r h;unfold zA at h;split at h
 case h_2=>cases h
 split at h
 case h_2=>cases h
 split at h
 case h_2=>cases h
 exact arb n _ _ _ h
def ard(n:Nat)(ae:D)(cE:D)(pO:D){r:D}(h:Mu n ae cE pO=some r):ez aX aY 107 [ae,(D.fn (.func ta) [] [cE,pO])] (·=r):=e4 (b4 n [(68,zA n)] [(2,⟨[al 0,(1,.b (.fd ta 2)),al 7,al 8],[],[]⟩)] [] [(0,⟨[],[],[]⟩)]) bF (bh (arc n) a8) au bz Tryz.func107 (cb (cb le_nil)) h
def are(n:Nat):bw aX aY 107 (Cv n):=by
 intro aO r h;unfold Cv at h;split at h
 case h_2=>cases h
 split at h
 case h_2=>cases h
 rename_i ao;obtain rfl:=lZ ao;exact ard n _ _ _ h
def arf(n:Nat)(ae:D)(cE:D)(pO:D){r:D}(h:Mv n ae cE pO=some r):ez aX aY 57 [ae,(D.fn (.func ta) [] [cE,pO])] (·=r):=e4 (b4 n [(107,Cv n)] [] [] []) bF (bh (are n) a8) au bz Tryz.func57 (cb (cb le_nil)) h
def arh(n:Nat):bw aX aY 57 (zB n):=by
 intro aO r h;unfold zB at h;split at h
 case h_2=>cases h
 split at h
 case h_2=>cases h
 rename_i ao;obtain rfl:=lZ ao;exact arf n _ _ _ h
def ari(n:Nat):bw aX aY 150 (zC n):=cB (b4 n [] [] [(4000002,⟨[al 0,al 2],[],[]⟩),(8000005,⟨[al 0,al 2],[],[]⟩),(14000008,⟨[al 0,al 2],[],[]⟩)] []) bF a8 au bz Tryz.func150
def acq(n:Nat):bw aX aY 111 (rQ n):=cB (b4 n [(150,zC n)] [] [] []) bF (bh (ari n) a8) au bz Tryz.func111
def arj(n:Nat):bw aX aY 171 (G4 n):=cB (b4 n [] [] [] []) bF a8 au bz Tryz.func171
def Ao(n:Nat):bw aX aY 146 (ju n):=dx (b4 n [(171,G4 n)] [] [] []) bF (bh (arj n) a8) au bz Tryz.func146
def ark(n:Nat):eB aX aY abV (Cx n):=h0 ⟨dZ aX,aY,eo [(146,ju n)],n,[10000],bU [(1,⟨[bX 0 10000,al 1,al 2,al 6],[bq 10000 1],[]⟩),(4,⟨[bX 0 10000,al 1,al 2,al 6,al 7],[bq 10000 1],[]⟩)],bU [],bU [(0,⟨[],[bq 10000 1],[]⟩),(1,⟨[bX 0 10000,al 1,al 2,al 6],[bq 10000 1],[]⟩),(2,⟨[bX 0 10000,al 1,al 2,al 6],[bq 10000 1],[]⟩)],eK [(6,[0,1,2,3,5,6,7,8,9,10,11,12,13,14,4,15,16,17])],en [],eP [],eJ []⟩ bF (bh (Ao n) a8) au bz Tryz.func140 []
def acr(n:Nat):eB aX aY TQ (u9 n):=h0 ⟨dZ aX,aY,eo [(146,ju n)],n,[10000],bU [(1,⟨[bX 0 10000,al 2,al 3,al 8],[bq 10000 1],[]⟩)],bU [(36000004,⟨[bX 0 10000,al 2,al 3,al 8,al 9],[bq 10000 1],[]⟩)],bU [(0,⟨[],[bq 10000 1],[]⟩)],eK [(6,[0,1,2,3,4,5,6,8,9,10,11,12,13,14,15,16,17,18,19,20,7,21,22,23])],en [],eP [],eJ []⟩ bF (bh (Ao n) a8) au bz Tryz.func166 []
def arl(n:Nat):eB aX aY abW (CA n):=h0 ⟨dZ aX,aY,eo [],n,[10000],bU [(4,⟨[bX 0 10000,al 6,al 7,al 8,al 9],[bq 10000 1],[]⟩),(8,⟨[bX 0 10000,al 6,al 7,al 10],[bq 10000 1],[]⟩)],bU [],bU [(0,⟨[bX 0 10000,al 6,al 7,al 8],[bq 10000 1],[]⟩),(2,⟨[],[bq 10000 1],[]⟩)],eK [(10,[0,1,2,3,4,6,7,8,9,10,11,12,13,14,15,16,5,17,18,19])],en [(26,⟨TQ,u9 n,6010,[]⟩),(55,⟨TQ,u9 n,6020,[]⟩)],eP [],eJ []⟩ bF a8 (bI (acr n) (bI (acr n) au)) bz Tryz.func141 []
def arn(n:Nat):bw aX aY 167 (G7 n):=cB (b4 n [(111,rQ n)] [] [] []) bF (bh (acq n) a8) au bz Tryz.func167
def aro(n:Nat):eB aX aY abX (My n):=h0 ⟨dZ aX,aY,eo [],n,[10000],bU [],bU [],bU [],eK [],en [],eP [],eJ []⟩ bF a8 au bz Tryz.func168 []
def arp(n:Nat):eB aX aY abY (zD n):=h0 ⟨dZ aX,aY,eo [(167,G7 n)],n,[10000],bU [(5,⟨[bX 0 10000,al 1,al 6,sp 7,al 8,al 9],[bq 10000 1,a7 7 1],[]⟩)],bU [(15000002,⟨[],[bq 10000 1],[]⟩),(43000009,⟨[bX 0 10000,al 1,al 6,sp 7,al 8,al 9,al 10],[bq 10000 1,a7 7 1],[]⟩)],bU [(0,⟨[],[bq 10000 1],[]⟩)],eK [(10,[0,1,2,3,4,6,7,8,9,10,11,12,13,14,15,16,5,17,18,19])],en [(36,⟨abX,My n,6010,[]⟩)],eP [],eJ []⟩ bF (bh (arn n) a8) (bI (aro n) au) bz Tryz.func142 []
def TY(n:Nat):eB aX aY M8 (tA n):=h0 ⟨dZ aX,aY,eo [(146,ju n)],n,[10000],bU [],bU [],bU [],eK [],en [],eP [],eJ []⟩ bF (bh (Ao n) a8) au bz Tryz.func183 []
def acs(n:Nat):eB aX aY TR (vc n):=h0 ⟨dZ aX,aY,eo [],n,[10000],bU [],bU [],bU [],eK [],en [(16,⟨M8,tA n,6010,[]⟩),(24,⟨M8,tA n,6020,[]⟩),(32,⟨M8,tA n,6030,[]⟩)],eP [],eJ []⟩ bF a8 (bI (TY n) (bI (TY n) (bI (TY n) au))) bz Tryz.func170 []
def TZ(n:Nat):eB aX aY M9 (pP n):=h0 ⟨dZ aX,aY,eo [],n,[10000],bU [],bU [],bU [],eK [],en [(14,⟨TR,vc n,6010,[]⟩)],eP [],eJ []⟩ bF a8 (bI (acs n) au) bz Tryz.func169 []
def arq(n:Nat):bw aX aY 143 (xf n):=g5 ⟨dZ aX,aY,eo [],n,[],bU [],bU [(32000007,⟨[sp 9,al 11],[a7 9 1],[]⟩),(34000008,⟨[al 0,sp 9,al 10,al 11,al 12],[a7 9 1],[]⟩)],bU [],eK [],en [(37,⟨M9,pP n,6010,[]⟩),(40,⟨M9,pP n,6020,[]⟩),(43,⟨M9,pP n,6030,[]⟩),(48,⟨TR,vc n,6040,[]⟩)],eP [],eJ []⟩ bF a8 (bI (TZ n) (bI (TZ n) (bI (TZ n) (bI (acs n) au)))) bz Tryz.func143
def ars(n:Nat):eB aX aY abZ (CB n):=h0 ⟨dZ aX,aY,eo [],n,[10000],bU [(2,⟨[bX 0 10000,al 6,al 7],[bq 10000 1],[]⟩)],bU [],bU [(0,⟨[],[bq 10000 1],[]⟩)],eK [],en [],eP [],eJ []⟩ bF a8 au bz Tryz.func144 []
def art(n:Nat):eB aX aY ab0 (xi n):=h0 ⟨dZ aX,aY,eo [(146,ju n)],n,[10000],bU [(3,⟨[bX 0 10000,al 1,al 2,al 7,al 8],[bq 10000 1],[]⟩),(5,⟨[bX 0 10000,al 1,al 2,al 7,al 8],[bq 10000 1],[]⟩),(14,⟨[bX 0 10000,al 1,al 2,al 7,al 8,al 9],[bq 10000 1],[]⟩),(20,⟨[bX 0 10000,al 1,al 2,al 7,al 8,al 10],[bq 10000 1],[]⟩)],bU [(61000013,⟨[bX 0 10000,al 1,al 2,al 7,al 8],[bq 10000 1],[]⟩),(98000019,⟨[bX 0 10000,al 1,al 2,al 7,al 8],[bq 10000 1],[]⟩)],bU [(0,⟨[],[bq 10000 1],[]⟩),(1,⟨[bX 0 10000,al 1,al 2,al 7,al 8],[bq 10000 1],[]⟩),(2,⟨[bX 0 10000,al 1,al 2,al 7,al 8],[bq 10000 1],[]⟩),(4,⟨[bX 0 10000,al 1,al 2,al 7,al 8],[bq 10000 1],[]⟩),(6,⟨[bX 0 10000,al 1,al 2,al 7,al 8],[bq 10000 1],[]⟩)],eK [(11,[0,1,2,3,5,6,7,8,9,10,11,12,13,14,4,15,16,17]),(17,[0,1,2,3,5,6,7,8,9,10,11,12,13,14,4,15,16,17]),(23,[0,1,2,3,5,6,7,8,9,10,11,12,13,14,4,15,16,17])],en [],eP [],eJ []⟩ bF (bh (Ao n) a8) au bz Tryz.func145 []
def aru(n:Nat):eB aX aY ab1 (CF n):=h0 ⟨dZ aX,aY,eo [(146,ju n)],n,[10000],bU [(3,⟨[bX 0 10000,al 1,al 9,al 10],[bq 10000 1],[]⟩),(5,⟨[bX 0 10000,al 1,al 9,al 10],[bq 10000 1],[]⟩)],bU [],bU [(0,⟨[al 9],[bq 10000 1],[]⟩),(1,⟨[bX 0 10000,al 1,al 9,al 10],[bq 10000 1],[]⟩),(2,⟨[bX 0 10000,al 1,al 9,al 10],[bq 10000 1],[]⟩),(4,⟨[bX 0 10000,al 1,al 9,al 10],[bq 10000 1],[]⟩)],eK [],en [],eP [],eJ []⟩ bF (bh (Ao n) a8) au bz Tryz.func147 []
def arv(n:Nat):eB aX aY ab2 (zK n):=h0 ⟨dZ aX,aY,eo [(146,ju n)],n,[10000],bU [(3,⟨[bX 0 10000,al 1,al 10,al 11],[bq 10000 1],[]⟩),(5,⟨[bX 0 10000,al 1,al 10,al 11],[bq 10000 1],[]⟩),(13,⟨[bX 0 10000,al 1,al 10,al 11],[bq 10000 1],[]⟩),(15,⟨[bX 0 10000,al 1,al 10,al 11],[bq 10000 1],[]⟩)],bU [],bU [(0,⟨[bX 0 10000,al 1,al 10,al 11],[bq 10000 1],[]⟩),(2,⟨[bX 0 10000,al 1,al 10,al 11],[bq 10000 1],[]⟩),(4,⟨[bX 0 10000,al 1,al 11],[bq 10000 1],[]⟩),(5,⟨[bX 0 10000,al 1,al 10,al 11],[bq 10000 1],[]⟩),(6,⟨[bX 0 10000,al 1,al 10,al 11],[bq 10000 1],[]⟩),(8,⟨[bX 0 10000,al 1,al 10,al 11],[bq 10000 1],[]⟩)],eK [],en [],eP [],eJ []⟩ bF (bh (Ao n) a8) au bz Tryz.func148 []
def arw(l3:List D->Option (List D))(n:Nat)(acu:eB aX aY xy l3):eB aX aY xy (SS l3 n):=h0 ⟨dZ aX,aY,eo [(143,xf n),(146,ju n)],n,[10000],bU [(2,⟨[bX 0 10000,al 1,al 2,al 3,al 8,al 9],[bq 10000 1],[]⟩)],bU [(35000008,⟨[bX 0 10000,al 1,al 2,al 3,al 8,al 9,al 10],[bq 10000 1],[]⟩),(50000012,⟨[bX 0 10000,al 1,al 2,al 3,al 8,al 9,al 10,al 11,al 12],[bq 10000 1],[]⟩),(68000016,⟨[bX 0 10000,al 1,al 2,al 3,al 8,al 9,al 10,al 11],[bq 10000 1],[]⟩),(113028025,⟨[bX 0 10000,al 1,al 2,al 3,al 8,al 9],[bq 10000 1],[]⟩)],bU [(1,⟨[bX 0 10000,al 1,al 2,al 3,al 8,al 9],[bq 10000 1],[]⟩)],eK [],en [(27,⟨abV,Cx n,6010,[]⟩),(33,⟨abW,CA n,6020,[]⟩),(39,⟨abY,zD n,6030,[]⟩),(54,⟨abZ,CB n,6040,[]⟩),(72,⟨ab0,xi n,6050,[]⟩),(92,⟨ab1,CF n,6060,[]⟩),(99,⟨ab2,zK n,6070,[]⟩),(121,⟨xy,l3,6080,[]⟩),(132,⟨xy,l3,6090,[]⟩)],eP [],eJ []⟩ bF (bh (arq n) (bh (Ao n) a8)) (bI (ark n) (bI (arl n) (bI (arp n) (bI (ars n) (bI (art n) (bI (aru n) (bI (arv n) (bI acu (bI acu au))))))))) bz Tryz.func110 []
def acv:∀n,eB aX aY xy (rS n)
 |0=>wV (s:=xy) (wX (T:=dZ aX) (os:=λ_=>none) Tryz.func110) (λ_=>rfl)|n+1=>by have ih:=acv n;exact arw (rS n) n ih
def arx(n:Nat):eB aX aY xy (rS n):=(acv n)
def acw(n:Nat):eB aX aY TS (xk n):=h0 ⟨dZ aX,aY,eo [(111,rQ n)],n,[10000],bU [],bU [],bU [],eK [],en [(10,⟨xy,rS n,6010,[]⟩)],eP [],eJ []⟩ bF (bh (acq n) a8) (bI (arx n) au) bz Tryz.func70 []
def acx(n:Nat):bw aX aY 33 (vi n):=dx ⟨dZ aX,aY,eo [(67,G0 n),(57,zB n)],n,[],bU [(4,⟨[al 1,sp 5,bX 6 5001,al 13,al 14,al 15],[a7 5 1,bq 5001 1],[.slot 6 5001 1]⟩)],bU [(22000008,⟨[al 1,sp 5,bX 6 27,al 13,al 14,al 15],[a7 5 1,bq 27 1],[.slot 6 5000 1]⟩)],bU [(0,⟨[bX 6 5001],[bq 5001 1],[]⟩),(1,⟨[al 1,sp 5,bX 6 27,al 13,al 14,al 15],[a7 5 1,bq 27 1],[]⟩)],eK [],en [(30,⟨TS,xk n,6010,[]⟩)],eP [],eJ []⟩ bF (bh (ara n) (bh (arh n) a8)) (bI (acw n) au) bz Tryz.func33
def ary(n:Nat)(ae:D)(cW:List D){r:D}(h:SU n ae cW=some r):ez aX aY 54 [ae,.ref cW 0] (·=r):=e4 (b4 n [(55,th n)] [] [] []) bF (bh (aca n) a8) au bz Tryz.func54 (cb (n0 oJ le_nil)) h
def T0(n:Nat):bw aX aY 54 (rT n):=by
 intro aO r h;unfold rT at h;split at h
 case h_2=>cases h
 split at h
 case h_2=>cases h
 exact ary n _ _ h
def arz(n:Nat)(ae:D)(cW:List D){r:D}(h:SV n ae cW=some r):ez aX aY 61 [ae,.ref cW 0] (·=r):=e4 ⟨((dZ aX).wC [(7,[54])]),aY,eo [(54,rT n)],n,[],bU [],bU [],bU [],eK [],en [],eP [],eJ []⟩ ((tok _).wC _) (bh (T0 n) a8) au bz Tryz.func61 (cb (n0 oJ le_nil)) h
def arA(n:Nat):bw aX aY 61 (CM n):=by
 intro aO r h;unfold CM at h;split at h
 case h_2=>cases h
 split at h
 case h_2=>cases h
 exact arz n _ _ h
def arB(n:Nat)(ae:D)(cE:D){r:D}(h:SW n ae cE=some r):ez aX aY 60 [ae,(D.fn (.func uW) [] [cE])] (·=r):=e4 (b4 n [(61,CM n)] [(3,⟨[(1,.b (.fd uW 1)),bX 5 5001,al 8,al 9,al 10],[bq 5001 4],[.slot 5 5001 4]⟩)] [(16000006,⟨[(1,.b (.fd uW 1)),bX 5 20,al 8,al 9,al 10],[bq 20 4],[.slot 5 5000 4]⟩)] [(0,⟨[bX 5 5001],[bq 5001 4],[]⟩),(1,⟨[(1,.b (.fd uW 1)),bX 5 20,al 8,al 9,al 10],[bq 20 4],[]⟩)]) bF (bh (arA n) a8) au bz Tryz.func60 (cb (cb le_nil)) h
def arC(n:Nat):bw aX aY 60 (CN n):=by
 intro aO r h;unfold CN at h;split at h
 case h_2=>cases h
 split at h
 case h_2=>cases h
 rename_i ao;obtain rfl:=lZ ao;exact arB n _ _ h
def arD(n:Nat)(ae:D)(cW:List D){r:D}(h:SX n ae cW=some r):ez aX aY 59 [ae,.ref cW 0] (·=r):=e4 ⟨((dZ aX).wC [(6,[54])]),aY,eo [(54,rT n)],n,[],bU [],bU [],bU [],eK [],en [],eP [],eJ []⟩ ((tok _).wC _) (bh (T0 n) a8) au bz Tryz.func59 (cb (n0 oJ le_nil)) h
def arE(n:Nat):bw aX aY 59 (CO n):=by
 intro aO r h;unfold CO at h;split at h
 case h_2=>cases h
 split at h
 case h_2=>cases h
 exact arD n _ _ h
def arF(n:Nat)(ae:D)(cE:D){r:D}(h:MG n ae cE=some r):ez aX aY 107 [ae,(D.fn (.func s9) [] [cE])] (·=r):=e4 (b4 n [(59,CO n)] [(2,⟨[al 0,(1,.b (.fd s9 1)),al 7,al 8],[],[]⟩)] [] [(0,⟨[],[],[]⟩)]) bF (bh (arE n) a8) au bz Tryz.func107 (cb (cb le_nil)) h
def arG(n:Nat):bw aX aY 107 (CP n):=by
 intro aO r h;unfold CP at h;split at h
 case h_2=>cases h
 split at h
 case h_2=>cases h
 rename_i ao;obtain rfl:=lZ ao;exact arF n _ _ h
def arH(n:Nat)(ae:D)(cE:D){r:D}(h:MH n ae cE=some r):ez aX aY 57 [ae,(D.fn (.func s9) [] [cE])] (·=r):=e4 (b4 n [(107,CP n)] [] [] []) bF (bh (arG n) a8) au bz Tryz.func57 (cb (cb le_nil)) h
def arI(n:Nat):bw aX aY 57 (zL n):=by
 intro aO r h;unfold zL at h;split at h
 case h_2=>cases h
 split at h
 case h_2=>cases h
 rename_i ao;obtain rfl:=lZ ao;exact arH n _ _ h
def arJ(n:Nat)(ae:D)(cW:List D){r:D}(h:SY n ae cW=some r):ez aX aY 56 [ae,.ref cW 0] (·=r):=e4 (b4 n [(58,xe n),(57,zL n)] [] [] []) bF (bh (acp n) (bh (arI n) a8)) au bz Tryz.func56 (cb (n0 oJ le_nil)) h
def arK(n:Nat):bw aX aY 56 (CQ n):=by
 intro aO r h;unfold CQ at h;split at h
 case h_2=>cases h
 split at h
 case h_2=>cases h
 exact arJ n _ _ h
def arL(n:Nat)(ae:D)(cE:D){r:D}(h:SZ n ae cE=some r):ez aX aY 62 [ae,(D.fn (.func qw) [] [cE])] (·=r):=e4 (b4 n [(56,CQ n)] [(3,⟨[(1,.b (.fd qw 1)),bX 5 5001,al 8,al 9,al 10],[bq 5001 4],[.slot 5 5001 4]⟩)] [(16000006,⟨[(1,.b (.fd qw 1)),bX 5 20,al 8,al 9,al 10],[bq 20 4],[.slot 5 5000 4]⟩)] [(0,⟨[bX 5 5001],[bq 5001 4],[]⟩),(1,⟨[(1,.b (.fd qw 1)),bX 5 20,al 8,al 9,al 10],[bq 20 4],[]⟩)]) bF (bh (arK n) a8) au bz Tryz.func62 (cb (cb le_nil)) h
def arM(n:Nat):bw aX aY 62 (vj n):=by
 intro aO r h;unfold vj at h;split at h
 case h_2=>cases h
 split at h
 case h_2=>cases h
 rename_i ao;obtain rfl:=lZ ao;exact arL n _ _ h
def arN(n:Nat)(ae:D)(cW:List D){r:D}(h:S0 n ae cW=some r):ez aX aY 64 [ae,.ref cW 0] (·=r):=e4 ⟨((dZ aX).wC [(7,[54])]),aY,eo [(54,rT n)],n,[],bU [],bU [],bU [],eK [],en [],eP [],eJ []⟩ ((tok _).wC _) (bh (T0 n) a8) au bz Tryz.func64 (cb (n0 oJ le_nil)) h
def arO(n:Nat):bw aX aY 64 (CR n):=by
 intro aO r h;unfold CR at h;split at h
 case h_2=>cases h
 split at h
 case h_2=>cases h
 exact arN n _ _ h
def arP(n:Nat)(ae:D)(cE:D){r:D}(h:S1 n ae cE=some r):ez aX aY 63 [ae,(D.fn (.func uX) [] [cE])] (·=r):=e4 (b4 n [(64,CR n)] [(3,⟨[(1,.b (.fd uX 1)),bX 5 5001,al 8,al 9,al 10],[bq 5001 5],[.slot 5 5001 5]⟩)] [(16000006,⟨[(1,.b (.fd uX 1)),bX 5 20,al 8,al 9,al 10],[bq 20 5],[.slot 5 5000 5]⟩)] [(0,⟨[bX 5 5001],[bq 5001 5],[]⟩),(1,⟨[(1,.b (.fd uX 1)),bX 5 20,al 8,al 9,al 10],[bq 20 5],[]⟩)]) bF (bh (arO n) a8) au bz Tryz.func63 (cb (cb le_nil)) h
def arQ(n:Nat):bw aX aY 63 (CS n):=by
 intro aO r h;unfold CS at h;split at h
 case h_2=>cases h
 split at h
 case h_2=>cases h
 rename_i ao;obtain rfl:=lZ ao;exact arP n _ _ h
def T1(n:Nat):bw aX aY 29 (tD n):=dx ⟨dZ aX,aY,eo [(33,vi n),(60,CN n),(62,vj n),(63,CS n)],n,[],bU [],bU [],bU [],eK [],en [],eP [],eJ [(4,[[],[5],[6]])]⟩ bF (bh (acx n) (bh (arC n) (bh (arM n) (bh (arQ n) a8)))) au bz Tryz.func29
def arR(n:Nat):bw aX aY 12 (S2 n):=dx (b4 n [] [(4,⟨[al 0,al 1,al 5],[],[]⟩)] [] [(0,⟨[],[],[]⟩)]) bF a8 au bz Tryz.func12
def arS(n:Nat):bw aX aY 78 (S3 n):=dx (b4 n [] [(4,⟨[al 0,al 1,al 12,al 13],[],[]⟩)] [] [(0,⟨[],[],[]⟩)]) bF a8 au bz Tryz.func78
def arT(zM:List D->Option D)(n:Nat)(ae:D)(an:D)(arU:bw aX aY 75 zM){r:D}(h:aa0 zM n ae an=some r):ez aX aY 75 [ae,an] (·=r):=e4 (b4 n [(75,zM)] [(4,⟨[sp 3,al 36,al 37,al 38],[a7 3 4],[]⟩)] [] [(0,⟨[],[],[]⟩)]) bF (bh arU a8) au bz Tryz.func75 (cb (cb le_nil)) h
def acy:∀n,bw aX aY 75 (vl n)
 |0=>(λ_ _ h=>by cases h)
 |n+1=>by
  have ih:=acy n;exact(by
   intro aO r h;unfold vl at h;split at h
   case h_2=>cases h
   exact arT (vl n) n _ _ ih h)
def acz(n:Nat):bw aX aY 75 (vl n):=(acy n)
def arV(n:Nat):bw aX aY 74 (S4 n):=dx (b4 n [(75,vl n)] [] [] []) bF (bh (acz n) a8) au bz Tryz.func74
def arW(n:Nat)(ae:D)(an:D){r:D}(h:aa1 n ae an=some r):ez aX aY 79 [ae,an,(D.val (.func (.func LJ) #[] #[]))] (·=r):=e4 (b4 n [(74,S4 n)] [(4,⟨[al 1,(2,.b (.qo LJ)),al 15,al 16,al 17],[],[]⟩)] [] [(0,⟨[],[],[]⟩)]) bF (bh (arV n) a8) au bz Tryz.func79 (cb (cb (cb le_nil))) h
def arX(n:Nat):bw aX aY 79 (MI n):=by
 intro aO r h;unfold MI at h;split at h
 case h_2=>cases h
 obtain⟨ao,h⟩:=lv h;obtain rfl:=Rq ao;exact arW n _ _ h
def arY(n:Nat)(ae:D)(an:D){r:D}(h:aa2 n ae an=some r):ez aX aY 77 [ae,an,(D.val (.func (.func LK) #[] #[]))] (·=r):=e4 (b4 n [(75,vl n)] [(4,⟨[al 1,(2,.b (.qo LK)),al 15,al 16,al 17],[],[]⟩)] [] [(0,⟨[],[],[]⟩)]) bF (bh (acz n) a8) au bz Tryz.func77 (cb (cb (cb le_nil))) h
def arZ(n:Nat):bw aX aY 77 (MJ n):=by
 intro aO r h;unfold MJ at h;split at h
 case h_2=>cases h
 obtain⟨ao,h⟩:=lv h;obtain rfl:=Rq ao;exact arY n _ _ h
def ar0(n:Nat):bw aX aY 76 (CT n):=dx (b4 n [(77,MJ n)] [] [] []) bF (bh (arZ n) a8) au bz Tryz.func76
def ar1(n:Nat):bw aX aY 39 (S5 n):=dx (b4 n [(78,S3 n),(79,MI n),(76,CT n)] [] [] []) bF (bh (arS n) (bh (arX n) (bh (ar0 n) a8))) au bz Tryz.func39
def acA(n:Nat):bw aX aY 117 (zN n):=cB (b4 n [] [] [] []) bF a8 au bz Tryz.func117
def ar2(n:Nat):bw aX aY 155 (Hp n):=cB (b4 n [] [] [] []) bF a8 au bz Tryz.func155
def ar3(n:Nat):bw aX aY 118 (Hr n):=g5 (b4 n [(155,Hp n),(117,zN n)] [(1,⟨[al 0,al 1,al 2],[],[]⟩)] [] [(0,⟨[al 1],[],[]⟩)]) bF (bh (ar2 n) (bh (acA n) a8)) au bz Tryz.func118
def ar4(n:Nat):bw aX aY 120 (MK n):=EW (b4 n [] [] [] []) bF a8 au bz Tryz.func120
def ar5(n:Nat):bw aX aY 119 (CV n):=dx (b4 n [] [(2,⟨[al 0,al 1,al 5],[],[]⟩)] [] [(0,⟨[],[],[]⟩)]) bF a8 au bz Tryz.func119
def T2(n:Nat):bw aX aY 80 (tE n):=cB (b4 n [(117,zN n),(118,Hr n),(120,MK n),(119,CV n)] [] [] []) bF (bh (acA n) (bh (ar3 n) (bh (ar4 n) (bh (ar5 n) a8)))) au bz Tryz.func80
def ar6(n:Nat):bw aX aY 81 (CW n):=cB (b4 n [] [] [] []) bF a8 au bz Tryz.func81
def acB(n:Nat):bw aX aY 82 (zO n):=cB (b4 n [] [] [(19000007,⟨[al 3],[],[]⟩)] []) bF a8 au bz Tryz.func82
def ar7(n:Nat):bw aX aY 40 (Hu n):=cB (b4 n [(80,tE n),(81,CW n),(82,zO n)] [(2,⟨[al 0,al 4],[],[]⟩),(7,⟨[al 0,al 4,al 5],[],[]⟩)] [] [(0,⟨[],[],[]⟩),(1,⟨[al 0,al 4],[],[]⟩),(2,⟨[al 0,al 4],[],[]⟩)]) bF (bh (T2 n) (bh (ar6 n) (bh (acB n) a8))) au bz Tryz.func40
def ar8(n:Nat):bw aX aY 83 (Hv n):=cB (b4 n [] [(2,⟨[al 0,al 3],[],[]⟩)] [] [(0,⟨[al 3],[],[]⟩)]) bF a8 au bz Tryz.func83
def ar9(n:Nat):bw aX aY 41 (Hw n):=cB (b4 n [(82,zO n),(83,Hv n)] [(3,⟨[sp 1,al 3,al 4],[a7 1 8],[]⟩)] [] [(0,⟨[al 3],[],[]⟩)]) bF (bh (acB n) (bh (ar8 n) a8)) au bz Tryz.func41
def acC(n:Nat):bw aX aY 84 (zR n):=dx (b4 n [] [(2,⟨[al 1,sp 2,al 5],[a7 2 8],[]⟩)] [] [(0,⟨[],[],[]⟩)]) bF a8 au bz Tryz.func84
def acD(n:Nat):bw aX aY 85 (zS n):=dx (b4 n [] [(2,⟨[al 1,sp 2,al 5],[a7 2 8],[]⟩)] [] [(0,⟨[],[],[]⟩)]) bF a8 au bz Tryz.func85
def asa(n:Nat):bw aX aY 182 (HA n):=dx (b4 n [] [(2,⟨[al 0,al 1,al 5],[],[]⟩)] [] [(0,⟨[],[],[]⟩)]) bF a8 au bz Tryz.func182
def asb(n:Nat):bw aX aY 165 (zT n):=dx (b4 n [(182,HA n)] [(6,⟨[al 0,al 1,bX 5 12,al 6,al 7],[bq 12 1],[]⟩)] [(28000009,⟨[al 0,al 1,bX 5 32,al 6,al 7],[bq 32 1],[]⟩),(41000013,⟨[bX 5 45],[bq 45 1],[]⟩)] [(0,⟨[al 1,bX 5 12,al 6],[bq 12 1],[]⟩)]) bF (bh (asa n) a8) au bz Tryz.func165
def asc(zU:List D->Option D)(n:Nat)(ae:D)(an:D)(ba:D)(asd:bw aX aY 139 zU){r:D}(h:HB zU n ae an ba=some r):ez aX aY 139 [ae,an,ba] (·=r):=e4 (b4 n [(165,zT n),(139,zU)] [(4,⟨[al 1,al 2,sp 3,al 7],[a7 3 4],[]⟩)] [(11000002,⟨[al 1,al 2,sp 3],[a7 3 4],[]⟩)] [(0,⟨[al 2],[],[]⟩)]) bF (bh (asb n) (bh asd a8)) au bz Tryz.func139 (cb (cb (cb le_nil))) h
def acE:∀n,bw aX aY 139 (rV n)
 |0=>(λ_ _ h=>by cases h)
 |n+1=>by
  have ih:=acE n;exact(by
   intro aO r h;unfold rV at h;split at h
   case h_2=>cases h
   exact asc (rV n) n _ _ _ ih h)
def ase(n:Nat):bw aX aY 139 (rV n):=(acE n)
def Iu(n:Nat):bw aX aY 108 (pR n):=cB (b4 n [(139,rV n)] [] [] []) bF (bh (ase n) a8) au bz Tryz.func108
def asf(n:Nat):bw aX aY 86 (HC n):=dx (b4 n [(108,pR n),(85,zS n)] [(4,⟨[sp 2,bX 5 15,bX 6 17,al 7],[a7 2 8,bq 15 1,bq 17 1],[]⟩),(8,⟨[sp 2,bX 5 15,bX 6 17,al 7,al 8,al 10],[a7 2 8,bq 15 1,bq 17 1],[]⟩)] [(57000012,⟨[sp 2,bX 5 15,bX 6 64,al 7,al 8,al 10],[a7 2 8,bq 15 1,bq 64 1],[]⟩)] [(0,⟨[bX 5 15],[bq 15 1],[]⟩),(1,⟨[sp 2,bX 5 15,bX 6 17,al 7],[a7 2 8,bq 15 1,bq 17 1],[]⟩),(2,⟨[sp 2,bX 5 15,bX 6 17,al 7],[a7 2 8,bq 15 1,bq 17 1],[]⟩),(3,⟨[sp 2,bX 5 15,bX 6 64,al 7,al 8,al 10],[a7 2 8,bq 15 1,bq 64 1],[]⟩)]) bF (bh (Iu n) (bh (acD n) a8)) au bz Tryz.func86
def asg(n:Nat):bw aX aY 158 (CZ n):=cB (b4 n [] [] [(5003000,⟨[al 0,al 4,al 5],[],[]⟩),(5004000,⟨[al 0,al 4,al 5],[],[]⟩),(5005000,⟨[al 0,al 4,al 5],[],[]⟩),(12010000,⟨[al 0,al 4,al 12],[],[]⟩)] [(0,⟨[al 0],[],[]⟩)]) bF a8 au bz Tryz.func158
def acF(n:Nat):bw aX aY 127 (zW n):=dx (b4 n [(158,CZ n)] [] [(22000008,⟨[sp 2,al 5,al 6,al 7,al 8],[a7 2 4],[]⟩),(25000010,⟨[sp 2,al 5,al 6,al 7,al 8],[a7 2 4],[]⟩)] []) bF (bh (asg n) a8) au bz Tryz.func127
def ash(zX:List D->Option D)(n:Nat)(ae:D)(an:D)(ba:D)(asi:bw aX aY 123 zX){r:D}(h:Tf zX n ae an ba=some r):ez aX aY 123 [ae,an,ba] (·=r):=e4 (b4 n [(127,zW n),(123,zX)] [(8,⟨[al 1,al 2,sp 3,al 9],[a7 3 4],[]⟩)] [] [(0,⟨[al 2],[],[]⟩)]) bF (bh (acF n) (bh asi a8)) au bz Tryz.func123 (cb (cb (cb le_nil))) h
def acG:∀n,bw aX aY 123 (tF n)
 |0=>(λ_ _ h=>by cases h)
 |n+1=>by
  have ih:=acG n;exact(by
   intro aO r h;unfold tF at h;split at h
   case h_2=>cases h
   exact ash (tF n) n _ _ _ ih h)
def asj(n:Nat):bw aX aY 123 (tF n):=(acG n)
def T3(n:Nat):bw aX aY 91 (vm n):=cB (b4 n [(123,tF n)] [] [] []) bF (bh (asj n) a8) au bz Tryz.func91
def acH(n:Nat):bw aX aY 126 (xl n):=dx (b4 n [] [(2,⟨[al 0,al 1,al 5],[],[]⟩)] [] [(0,⟨[],[],[]⟩)]) bF a8 au bz Tryz.func126
def asl(n:Nat):bw aX aY 124 (HG n):=dx (b4 n [(108,pR n),(126,xl n)] [(4,⟨[al 1,bX 5 10,al 6,al 8],[bq 10 1],[]⟩)] [(29000008,⟨[al 1,bX 5 33,al 6,al 8],[bq 33 1],[]⟩)] [(0,⟨[bX 5 10],[bq 10 1],[]⟩),(1,⟨[al 1,bX 5 33,al 6,al 8],[bq 33 1],[]⟩)]) bF (bh (Iu n) (bh (acH n) a8)) au bz Tryz.func124
def acI(n:Nat):bw aX aY 125 (xm n):=dx (b4 n [] [(2,⟨[al 0,al 1,al 5],[],[]⟩)] [] [(0,⟨[],[],[]⟩)]) bF a8 au bz Tryz.func125
def asm(zY:List D->Option D)(n:Nat)(ae:D)(an:D)(ba:D)(asn:bw aX aY 92 zY){r:D}(h:MR zY n ae an ba=some r):ez aX aY 92 [ae,an,ba] (·=r):=e4 ⟨(dZ Tryz.prog).sS [42],aY,eo [(124,HG n),(125,xm n),(92,zY)],n,[],bU [(3,⟨[al 1,al 2,al 7,al 8],[],[]⟩)],bU [(24000006,⟨[al 1,al 2,al 7,al 8],[],[]⟩)],bU [(0,⟨[al 2],[],[]⟩),(1,⟨[al 1,al 2,al 7,al 8],[],[]⟩)],eK [(6,[0,1,2,3,4,5,6,7,12,13,14,15,8,9,10,11,16,17,18,19])],en [],eP [],eJ []⟩ ((tok _).sS _) (bh (asl n) (bh (acI n) (bh asn a8))) au bz Tryz.func92 (cb (cb (cb le_nil))) h
def acJ:∀n,bw aX aY 92 (qB n)
 |0=>(λ_ _ h=>by cases h)
 |n+1=>by
  have ih:=acJ n;exact(by
   intro aO r h;unfold qB at h;split at h
   case h_2=>cases h
   exact asm (qB n) n _ _ _ ih h)
def acK(n:Nat):bw aX aY 92 (qB n):=(acJ n)
def aso(n:Nat):bw aX aY 93 (HJ n):=dx (b4 n [(92,qB n),(125,xm n)] [] [] []) bF (bh (acK n) (bh (acI n) a8)) au bz Tryz.func93
def asp(xn:List D->Option D)(n:Nat)(ae:D)(an:D)(ba:D)(b2:D)(asq:bw aX aY 94 xn){r:D}(h:rX xn n ae an ba b2=some r):ez aX aY 94 [ae,an,ba,b2] (·=r):=e4 (b4 n [(126,xl n),(94,xn),(127,zW n)] [(13,⟨[al 1,al 2,al 3,sp 4,sp 8,bX 13 53,al 14],[a7 4 4,a7 8 4,bq 53 4],[]⟩)] [(20000002,⟨[al 1,al 2,al 3,sp 4,sp 8],[a7 4 4,a7 8 4],[]⟩)] [(0,⟨[al 3,sp 4,sp 8,bX 13 53],[a7 4 4,a7 8 4,bq 53 4],[]⟩)]) bF (bh (acH n) (bh asq (bh (acF n) a8))) au bz Tryz.func94 (cb (cb (cb (cb le_nil)))) h
def acL:∀n,bw aX aY 94 (rY n)
 |0=>(λ_ _ h=>by cases h)
 |n+1=>by
  have ih:=acL n;exact(by
   intro aO r h;unfold rY at h;split at h
   case h_2=>cases h
   exact asp (rY n) n _ _ _ _ ih h)
def asr(n:Nat):bw aX aY 94 (rY n):=(acL n)
def Nb(n:Nat):bw aX aY 47 (mE n):=dx (b4 n [(91,vm n),(92,qB n),(93,HJ n),(94,rY n)] [(6,⟨[al 1,sp 2,sp 4,al 7,al 8],[a7 2 4,a7 4 4],[]⟩)] [] [(0,⟨[al 1,sp 2,sp 4],[a7 2 4,a7 4 4],[]⟩)]) bF (bh (T3 n) (bh (acK n) (bh (aso n) (bh (asr n) a8)))) au bz Tryz.func47
def acM(n:Nat):bw aX aY 173 (qC n):=dx (b4 n [] [] [] []) bF a8 au bz Tryz.func173
def ass(n:Nat):bw aX aY 174 (HP n):=dx (b4 n [] [(2,⟨[al 0,al 1,al 5],[],[]⟩)] [] [(0,⟨[],[],[]⟩)]) bF a8 au bz Tryz.func174
def ast(n:Nat):bw aX aY 184 (HR n):=cB (b4 n [] [(2,⟨[al 0,al 3],[],[]⟩)] [] [(0,⟨[],[],[]⟩)]) bF a8 au bz Tryz.func184
def asu(n:Nat):bw aX aY 185 (HS n):=dx (b4 n [] [(4,⟨[bX 6 30,al 7,al 8,al 9],[bq 30 1],[]⟩)] [] [(0,⟨[al 7,al 8],[],[]⟩)]) bF a8 au bz Tryz.func185
def asv(n:Nat):bw aX aY 175 (zZ n):=dx (b4 n [(184,HR n),(173,qC n),(185,HS n)] [] [(13005000,⟨[al 1,sp 2,sp 4,sp 6,al 7,al 12,al 13],[a7 2 4,a7 4 3,a7 6 3],[]⟩),(13006000,⟨[al 1,sp 2,sp 4,sp 6,al 7,al 12,al 13],[a7 2 4,a7 4 3,a7 6 3],[]⟩),(13007000,⟨[al 1,sp 2,sp 4,sp 6,al 7,al 12,al 13],[a7 2 4,a7 4 3,a7 6 3],[]⟩),(13008000,⟨[al 1,sp 2,sp 4,sp 6,al 7,al 12,al 13],[a7 2 4,a7 4 3,a7 6 3],[]⟩),(25013000,⟨[al 1,sp 2,sp 4,sp 6,al 7,al 12,al 25],[a7 2 4,a7 4 3,a7 6 3],[]⟩)] [(0,⟨[al 1,sp 2,sp 4,sp 6,al 7],[a7 2 4,a7 4 3,a7 6 3],[]⟩)]) bF (bh (ast n) (bh (acM n) (bh (asu n) a8))) au bz Tryz.func175
def asw(z0:List D->Option D)(n:Nat)(ae:D)(an:D)(ba:D)(asx:bw aX aY 156 z0){r:D}(h:vn z0 n ae an ba=some r):ez aX aY 156 [ae,an,ba] (·=r):=e4 (b4 n [(173,qC n),(174,HP n),(156,z0),(175,zZ n)] [(18,⟨[al 0,al 2,sp 4,sp 6,bX 9 64,al 10],[a7 4 4,a7 6 3,bq 64 3],[]⟩)] [(27007000,⟨[al 0,al 2,sp 4,sp 6,al 27],[a7 4 4,a7 6 3],[]⟩)] [(1,⟨[sp 4,sp 6,bX 9 64],[a7 4 4,a7 6 3,bq 64 3],[]⟩)]) bF (bh (acM n) (bh (ass n) (bh asx (bh (asv n) a8)))) au bz Tryz.func156 (cb (cb (cb le_nil))) h
def acN:∀n,bw aX aY 156 (m4 n)
 |0=>(λ_ _ h=>by cases h)
 |n+1=>by
  have ih:=acN n;exact(by
   intro aO r h;unfold m4 at h;split at h
   case h_2=>cases h
   exact asw (m4 n) n _ _ _ ih h)
def asy(n:Nat):bw aX aY 156 (m4 n):=(acN n)
def asz(n:Nat):bw aX aY 121 (C4 n):=g5 (b4 n [(91,vm n),(156,m4 n)] [] [] []) bF (bh (T3 n) (bh (asy n) a8)) au bz Tryz.func121
def T4(n:Nat):bw aX aY 87 (tG n):=g5 (b4 n [(47,mE n),(121,C4 n)] [] [] []) bF (bh (Nb n) (bh (asz n) a8)) au bz Tryz.func87
def asA(n:Nat):bw aX aY 42 (xo n):=cB (b4 n [(80,tE n),(84,zR n),(85,zS n),(86,HC n),(87,tG n)] [(2,⟨[sp 1,al 4],[a7 1 8],[]⟩),(9,⟨[sp 1,al 5],[a7 1 8],[]⟩),(14,⟨[sp 1,al 6],[a7 1 8],[]⟩)] [] [(0,⟨[sp 1],[a7 1 8],[]⟩),(2,⟨[sp 1],[a7 1 8],[]⟩),(4,⟨[],[],[]⟩)]) bF (bh (T2 n) (bh (acC n) (bh (acD n) (bh (asf n) (bh (T4 n) a8))))) au bz Tryz.func42
def acO(n:Nat):bw aX aY 88 (xp n):=g5 (b4 n [(87,tG n)] [] [] []) bF (bh (T4 n) a8) au bz Tryz.func88
def asB(n:Nat):bw aX aY 43 (vo n):=g5 (b4 n [(88,xp n)] [(2,⟨[al 1,al 2,sp 3,al 8],[a7 3 8],[]⟩)] [] [(0,⟨[],[],[]⟩)]) bF (bh (acO n) a8) au bz Tryz.func43
def asC(n:Nat):bw aX aY 44 (C6 n):=cB (b4 n [(84,zR n),(87,tG n)] [(2,⟨[sp 1,al 4],[a7 1 8],[]⟩),(8,⟨[sp 1,al 4,al 5,al 6],[a7 1 8],[]⟩)] [(69000014,⟨[sp 1,al 4,al 8],[a7 1 8],[]⟩)] [(0,⟨[],[],[]⟩),(1,⟨[sp 1,al 4],[a7 1 8],[]⟩),(2,⟨[sp 1,al 4,al 5],[a7 1 8],[]⟩)]) bF (bh (acC n) (bh (T4 n) a8)) au bz Tryz.func44
def asD(n:Nat):bw aX aY 176 (C7 n):=cB (b4 n [] [] [(6005000,⟨[al 3,al 6],[],[]⟩),(6006000,⟨[al 3,al 6],[],[]⟩),(6007000,⟨[al 3,al 6],[],[]⟩),(6008000,⟨[al 3,al 6],[],[]⟩),(6009000,⟨[al 3,al 6],[],[]⟩),(6010000,⟨[al 3,al 6],[],[]⟩),(14013000,⟨[al 14],[],[]⟩),(14014000,⟨[al 14],[],[]⟩),(14015000,⟨[al 14],[],[]⟩),(14016000,⟨[al 14],[],[]⟩)] [(0,⟨[],[],[]⟩)]) bF a8 au bz Tryz.func176
def asE(n:Nat):bw aX aY 177 (HY n):=cB (b4 n [] [] [] []) bF a8 au bz Tryz.func177
def asF(n:Nat):bw aX aY 157 (vp n):=cB (b4 n [(176,C7 n),(91,vm n),(108,pR n),(177,HY n)] [] [(12000004,⟨[sp 1],[a7 1 6],[]⟩)] []) bF (bh (asD n) (bh (T3 n) (bh (Iu n) (bh (asE n) a8)))) au bz Tryz.func157
def asG(z2:List D->Option D)(n:Nat)(ae:D)(an:D)(ba:D)(asH:bw aX aY 122 z2){r:D}(h:Tw z2 n ae an ba=some r):ez aX aY 122 [ae,an,ba] (·=r):=e4 (b4 n [(157,vp n),(122,z2)] [(10,⟨[al 1,al 2,sp 3,al 9],[a7 3 6],[]⟩)] [] [(0,⟨[al 2],[],[]⟩)]) bF (bh (asF n) (bh asH a8)) au bz Tryz.func122 (cb (cb (cb le_nil))) h
def acP:∀n,bw aX aY 122 (tH n)
 |0=>(λ_ _ h=>by cases h)
 |n+1=>by
  have ih:=acP n;exact(by
   intro aO r h;unfold tH at h;split at h
   case h_2=>cases h
   exact asG (tH n) n _ _ _ ih h)
def asI(n:Nat):bw aX aY 122 (tH n):=(acP n)
def T5(n:Nat):bw aX aY 89 (vq n):=cB (b4 n [(122,tH n)] [] [] []) bF (bh (asI n) a8) au bz Tryz.func89
def asJ(z3:List D->Option D)(n:Nat)(ae:D)(an:D)(asK:bw aX aY 90 z3){r:D}(h:H0 z3 n ae an=some r):ez aX aY 90 [ae,an] (·=r):=e4 (b4 n [(88,xp n),(90,z3)] [(4,⟨[sp 2,sp 3,al 5],[a7 2 8,a7 3 6],[]⟩)] [] [(0,⟨[],[],[]⟩)]) bF (bh (acO n) (bh asK a8)) au bz Tryz.func90 (cb (cb le_nil)) h
def acQ:∀n,bw aX aY 90 (tI n)
 |0=>(λ_ _ h=>by cases h)
 |n+1=>by
  have ih:=acQ n;exact(by
   intro aO r h;unfold tI at h;split at h
   case h_2=>cases h
   exact asJ (tI n) n _ _ ih h)
def asL(n:Nat):bw aX aY 90 (tI n):=(acQ n)
def asM(n:Nat):bw aX aY 45 (Da n):=cB (b4 n [(80,tE n),(89,vq n),(90,tI n)] [(2,⟨[sp 1,al 4],[a7 1 8],[]⟩),(7,⟨[sp 1,al 4,al 5],[a7 1 8],[]⟩)] [(50000013,⟨[sp 1,al 4,al 6],[a7 1 8],[]⟩)] [(0,⟨[],[],[]⟩),(1,⟨[sp 1,al 4],[a7 1 8],[]⟩),(2,⟨[sp 1,al 4],[a7 1 8],[]⟩)]) bF (bh (T2 n) (bh (T5 n) (bh (asL n) a8))) au bz Tryz.func45
def acR(n:Nat):bw aX aY 18 (rZ n):=cB (b4 n [(40,Hu n),(41,Hw n),(42,xo n),(43,vo n),(44,C6 n),(45,Da n)] [(3,⟨[sp 1,sp 2,bX 4 33,al 5],[a7 1 8,a7 2 2,bq 33 1],[]⟩),(13,⟨[sp 1,sp 2,al 6,al 7,al 8],[a7 1 8,a7 2 2],[]⟩)] [(68018017,⟨[sp 1,sp 2,al 6,al 7,al 8],[a7 1 8,a7 2 2],[]⟩),(75020019,⟨[sp 1,sp 2,al 6,al 7,al 8],[a7 1 8,a7 2 2],[]⟩),(84022021,⟨[sp 1,sp 2,al 6,al 7,al 8],[a7 1 8,a7 2 2],[]⟩),(93024023,⟨[sp 1,sp 2,al 6,al 7,al 8],[a7 1 8,a7 2 2],[]⟩),(100026025,⟨[sp 1,sp 2,al 6,al 7,al 8],[a7 1 8,a7 2 2],[]⟩),(109028027,⟨[sp 1,sp 2,al 6,al 7,al 8],[a7 1 8,a7 2 2],[]⟩),(118000029,⟨[sp 1,sp 2,al 6,al 7,al 8],[a7 1 8,a7 2 2],[]⟩)] [(0,⟨[sp 1,sp 2],[a7 1 8,a7 2 2],[]⟩),(2,⟨[sp 2],[a7 2 2],[]⟩),(3,⟨[sp 1,sp 2,al 6,al 7,al 8],[a7 1 8,a7 2 2],[]⟩),(4,⟨[sp 1,sp 2,al 6,al 7,al 8],[a7 1 8,a7 2 2],[]⟩)]) bF (bh (ar7 n) (bh (ar9 n) (bh (asA n) (bh (asB n) (bh (asC n) (bh (asM n) a8)))))) au bz Tryz.func18
def asN(n:Nat):bw aX aY 46 (pS n):=dx (b4 n [(47,mE n)] [(3,⟨[al 0,al 1,bX 7 11,al 8],[bq 11 4],[]⟩)] [] [(0,⟨[bX 7 11],[bq 11 4],[]⟩)]) bF (bh (Nb n) a8) au bz Tryz.func46
def asO(z4:List D->Option D)(n:Nat)(ae:D)(an:D)(asP:bw aX aY 95 z4){r:D}(h:tJ z4 n ae an=some r):ez aX aY 95 [ae,an] (·=r):=e4 (b4 n [(47,mE n),(95,z4)] [(9,⟨[al 1,sp 2,sp 4,bX 8 29,al 9],[a7 2 6,a7 4 6,bq 29 6],[]⟩)] [] [(0,⟨[sp 2,sp 4,bX 8 29],[a7 2 6,a7 4 6,bq 29 6],[]⟩)]) bF (bh (Nb n) (bh asP a8)) au bz Tryz.func95 (cb (cb le_nil)) h
def acS:∀n,bw aX aY 95 (oU n)
 |0=>(λ_ _ h=>by cases h)
 |n+1=>by
  have ih:=acS n;exact(by
   intro aO r h;unfold oU at h;split at h
   case h_2=>cases h
   exact asO (oU n) n _ _ ih h)
def asQ(n:Nat):bw aX aY 95 (oU n):=(acS n)
def asR(n:Nat):bw aX aY 48 (z5 n):=dx (b4 n [(89,vq n),(95,oU n)] [] [] []) bF (bh (T5 n) (bh (asQ n) a8)) au bz Tryz.func48
def acT(n:Nat):bw aX aY 20 (z6 n):=cB ⟨dZ aX,aY,eo [(46,pS n),(47,mE n),(48,z5 n)],n,[],bU [(11,⟨[sp 1,sp 2,sp 3,sp 5,al 9],[a7 1 8,a7 2 8,a7 3 2,(5,.box [.b (.d),.b (.d),.b (.d),.b (.d),.b (.row 5000),.b (.d),.b (.d),.b (.d)]),bq 5000 5],[.box 5 4 5000 5]⟩),(26,⟨[sp 1,sp 2,sp 3,sp 5,al 12],[a7 1 8,a7 2 8,a7 3 2,(5,.box [.b (.d),.b (.d),.b (.d),.b (.d),.b (.row 5000),.b (.d),.b (.d),.b (.row 5001)]),bq 5000 5,bq 5001 7],[.box 5 7 5001 7]⟩)],bU [],bU [(0,⟨[sp 1,sp 2,sp 3,sp 5],[a7 1 8,a7 2 8,a7 3 2,(5,.box [.b (.d),.b (.d),.b (.d),.b (.d),.b (.row 5000),.b (.d),.b (.d),.b (.d)]),bq 5000 5],[]⟩),(2,⟨[sp 2,sp 3,sp 5],[a7 2 8,a7 3 2,(5,.box [.b (.d),.b (.d),.b (.d),.b (.d),.b (.row 5000),.b (.d),.b (.d),.b (.row 5001)]),bq 5000 5,bq 5001 7],[]⟩)],eK [],en [],eP [20002],eJ []⟩ bF (bh (asN n) (bh (Nb n) (bh (asR n) a8))) au bz Tryz.func20
def Nc(n:Nat):bw aX aY 32 (oV n):=dx (b4 n [] [(2,⟨[al 0,al 1,al 5],[],[]⟩)] [] [(0,⟨[],[],[]⟩)]) bF a8 au bz Tryz.func32
def acU(n:Nat):bw aX aY 66 (xt n):=cB (b4 n [(108,pR n),(32,oV n)] [(4,⟨[al 4,bX 5 14,al 6],[bq 14 1],[]⟩)] [(27000007,⟨[al 4,bX 5 34,al 6],[bq 34 1],[]⟩)] [(0,⟨[bX 5 14],[bq 14 1],[]⟩),(1,⟨[al 4,bX 5 34,al 6],[bq 34 1],[]⟩)]) bF (bh (Iu n) (bh (Nc n) a8)) au bz Tryz.func66
def asS(n:Nat):bw aX aY 49 (H5 n):=cB ⟨(dZ Tryz.prog).sS [57],aY,eo [(66,xt n)],n,[],bU [(4,⟨[sp 1,bX 3 7,bX 4 20,al 5],[a7 1 8,bq 7 1,bq 20 4],[]⟩),(8,⟨[sp 1,bX 3 7,al 6],[a7 1 8,bq 7 1],[]⟩)],bU [],bU [(0,⟨[sp 1,bX 3 7],[a7 1 8,bq 7 1],[]⟩),(2,⟨[bX 3 7],[bq 7 1],[]⟩)],eK [(2,[1,2,4,5,7,8,10,11,0,3,6,9,12,13]),(10,[1,2,3,4,5,6,8,9,10,11,12,13,14,0,7,15,16,17,18])],en [],eP [],eJ []⟩ ((tok _).sS _) (bh (acU n) a8) au bz Tryz.func49
def acV(n:Nat):bw aX aY 65 (z8 n):=dx (b4 n [(32,oV n)] [(2,⟨[al 0,al 1,al 5],[],[]⟩)] [] [(0,⟨[],[],[]⟩)]) bF (bh (Nc n) a8) au bz Tryz.func65
def asT(n:Nat):bw aX aY 30 (Dk n):=dx (b4 n [(32,oV n),(49,H5 n),(65,z8 n)] [(3,⟨[al 1,sp 2,bX 5 11,al 6],[a7 2 8,bq 11 1],[]⟩),(9,⟨[sp 2,bX 5 11,al 7,al 8],[a7 2 8,bq 11 1],[]⟩),(12,⟨[sp 2,bX 5 11,al 7,al 8,al 9],[a7 2 8,bq 11 1],[]⟩),(16,⟨[sp 2,bX 5 11,al 7,al 8,al 9,al 10],[a7 2 8,bq 11 1],[]⟩)] [(26000006,⟨[al 1,sp 2,bX 5 35,al 6],[a7 2 8,bq 35 1],[]⟩),(76000019,⟨[sp 2,bX 5 86,al 7,al 8,al 9,al 10],[a7 2 8,bq 86 1],[]⟩)] [(0,⟨[sp 2,bX 5 11],[a7 2 8,bq 11 1],[]⟩),(1,⟨[al 1,sp 2,bX 5 35,al 6],[a7 2 8,bq 35 1],[]⟩),(2,⟨[bX 5 11],[bq 11 1],[]⟩),(3,⟨[sp 2,bX 5 11,al 7,al 8],[a7 2 8,bq 11 1],[]⟩),(4,⟨[sp 2,bX 5 11,al 7,al 8],[a7 2 8,bq 11 1],[]⟩),(5,⟨[sp 2,bX 5 11,al 7,al 8,al 9],[a7 2 8,bq 11 1],[]⟩),(6,⟨[sp 2,bX 5 11,al 7,al 8,al 9],[a7 2 8,bq 11 1],[]⟩),(7,⟨[sp 2,bX 5 86,al 7,al 8,al 9,al 10],[a7 2 8,bq 86 1],[]⟩)]) bF (bh (Nc n) (bh (asS n) (bh (acV n) a8))) au bz Tryz.func30
def asU(n:Nat):bw aX aY 31 (qD n):=dx (b4 n [(66,xt n),(65,z8 n)] [(3,⟨[al 0,al 1,bX 5 8,al 6],[bq 8 4],[]⟩)] [(27000007,⟨[al 0,al 1,bX 5 34,al 6],[bq 34 4],[]⟩)] [(0,⟨[bX 5 8],[bq 8 4],[]⟩),(1,⟨[al 0,al 1,bX 5 34,al 6],[bq 34 4],[]⟩)]) bF (bh (acU n) (bh (acV n) a8)) au bz Tryz.func31
def asV(n:Nat):bw aX aY 11 (H8 n):=dx ⟨dZ aX,aY,eo [(18,rZ n),(20,z6 n),(30,Dk n),(31,qD n),(32,oV n)],n,[],bU [(8,⟨[sp 4,sp 8,al 11,sp 12,al 13],[a7 4 8,a7 8 8,(12,.box [.b (.row 5001),.b (.d),.b (.d),.b (.d),.b (.d),.b (.d),.b (.d),.b (.d)]),bq 5001 4],[.box 12 0 5001 4]⟩),(13,⟨[sp 4,sp 8,al 11,sp 12,al 14],[a7 4 8,a7 8 8,(12,.box [.b (.row 5001),.b (.d),.b (.d),.b (.d),.b (.row 5003),.b (.d),.b (.d),.b (.d)]),bq 5001 4,bq 5003 5],[.box 12 4 5003 5]⟩)],bU [(63000011,⟨[sp 4,sp 8,al 11,sp 12,al 13],[a7 4 8,a7 8 8,(12,.box [.b (.row 72),.b (.d),.b (.d),.b (.d),.b (.d),.b (.d),.b (.d),.b (.d)]),bq 72 4],[.box 12 0 5000 4]⟩),(88000016,⟨[sp 4,sp 8,al 11,sp 12,al 14],[a7 4 8,a7 8 8,(12,.box [.b (.row 5001),.b (.d),.b (.d),.b (.d),.b (.row 97),.b (.d),.b (.d),.b (.d)]),bq 5001 4,bq 97 5],[.box 12 4 5002 5]⟩)],bU [(0,⟨[sp 4,sp 8,al 11,sp 12],[a7 4 8,a7 8 8,(12,.box [.b (.row 5001),.b (.d),.b (.d),.b (.d),.b (.d),.b (.d),.b (.d),.b (.d)]),bq 5001 4],[]⟩),(1,⟨[sp 4,sp 8,al 11,sp 12,al 13],[a7 4 8,a7 8 8,(12,.box [.b (.row 72),.b (.d),.b (.d),.b (.d),.b (.d),.b (.d),.b (.d),.b (.d)]),bq 72 4],[]⟩),(2,⟨[sp 4,sp 12],[a7 4 8,(12,.box [.b (.row 5001),.b (.d),.b (.d),.b (.d),.b (.row 5003),.b (.d),.b (.d),.b (.d)]),bq 5001 4,bq 5003 5],[]⟩),(3,⟨[sp 4,sp 8,al 11,sp 12,al 14],[a7 4 8,a7 8 8,(12,.box [.b (.row 5001),.b (.d),.b (.d),.b (.d),.b (.row 97),.b (.d),.b (.d),.b (.d)]),bq 5001 4,bq 97 5],[]⟩)],eK [],en [],eP [20004],eJ []⟩ bF (bh (acR n) (bh (acT n) (bh (asT n) (bh (asU n) (bh (Nc n) a8))))) au bz Tryz.func11
def asW(z9:List D->Option D)(n:Nat)(ae:D)(an:D)(asX:bw aX aY 71 z9){r:D}(h:Ia z9 n ae an=some r):ez aX aY 71 [ae,an] (·=r):=e4 (b4 n [(71,z9)] [(4,⟨[sp 2,sp 3,al 5],[a7 2 4,a7 3 4],[]⟩)] [] [(0,⟨[],[],[]⟩)]) bF (bh asX a8) au bz Tryz.func71 (cb (cb le_nil)) h
def acW:∀n,bw aX aY 71 (tK n)
 |0=>(λ_ _ h=>by cases h)
 |n+1=>by
  have ih:=acW n;exact(by
   intro aO r h;unfold tK at h;split at h
   case h_2=>cases h
   exact asW (tK n) n _ _ ih h)
def asY(n:Nat):bw aX aY 71 (tK n):=(acW n)
def asZ(Aa:List D->Option D)(n:Nat)(ae:D)(an:D)(as0:bw aX aY 35 Aa){r:D}(h:Dp Aa n ae an=some r):ez aX aY 35 [ae,an] (·=r):=e4 (b4 n [(71,tK n),(35,Aa)] [(4,⟨[sp 2,sp 3,al 5],[a7 2 6,a7 3 6],[]⟩)] [] [(0,⟨[],[],[]⟩)]) bF (bh (asY n) (bh as0 a8)) au bz Tryz.func35 (cb (cb le_nil)) h
def acX:∀n,bw aX aY 35 (n6 n)
 |0=>(λ_ _ h=>by cases h)
 |n+1=>by
  have ih:=acX n;exact(by
   intro aO r h;unfold n6 at h;split at h
   case h_2=>cases h
   exact asZ (n6 n) n _ _ ih h)
def acY(n:Nat):bw aX aY 35 (n6 n):=(acX n)
def acZ(n:Nat):bw aX aY 37 (r1 n):=dx (b4 n [(35,n6 n)] [(4,⟨[al 0,al 1,al 5],[],[]⟩)] [] [(0,⟨[],[],[]⟩)]) bF (bh (acY n) a8) au bz Tryz.func37
def as1(n:Nat):bw aX aY 36 (Ab n):=dx ⟨(dZ Tryz.prog).sS [34,40],aY,eo [(37,r1 n)],n,[],bU [(4,⟨[al 0,al 1,al 5],[],[]⟩)],bU [],bU [(0,⟨[],[],[]⟩)],eK [],en [],eP [],eJ []⟩ ((tok _).sS _) (bh (acZ n) a8) au bz Tryz.func36
def as2(n:Nat):bw aX aY 15 (tL n):=dx (b4 n [(35,n6 n),(36,Ab n),(37,r1 n)] [(4,⟨[sp 2,sp 3,al 5],[a7 2 8,a7 3 8],[]⟩),(9,⟨[sp 2,sp 3,al 6],[a7 2 8,a7 3 8],[]⟩)] [] [(0,⟨[sp 2,sp 3],[a7 2 8,a7 3 8],[]⟩),(2,⟨[sp 2,sp 3],[a7 2 8,a7 3 8],[]⟩)]) bF (bh (acY n) (bh (as1 n) (bh (acZ n) a8))) au bz Tryz.func15
def as3(n:Nat):bw aX aY 98 (MZ n):=dx (b4 n [(99,pI n)] [] [] []) bF (bh (It n) a8) au bz Tryz.func98
def as4(n:Nat):eB aX aY ab3 (Ie n):=h0 ⟨dZ aX,aY,eo [(98,MZ n)],n,[10000,10001],bU [],bU [],bU [],eK [],en [],eP [],eJ []⟩ bF (bh (as3 n) a8) au bz Tryz.func132 []
def as5(Ad:List D->Option (List D))(n:Nat)(as6:eB aX aY Al Ad):eB aX aY Al (TG Ad n):=h0 ⟨dZ aX,aY,eo [],n,[10000,10001],bU [(4,⟨[al 1,(2,.fn (.func Z3) [] [.ptr 10000 0,.ptr 10001 0]),al 15,al 16,al 17],[a7 10000 1,a7 10001 1],[]⟩)],bU [],bU [(0,⟨[],[a7 10000 1,a7 10001 1],[]⟩)],eK [],en [(12,⟨abQ,Gd n,6010,[]⟩),(25,⟨Al,Ad,6020,[]⟩)],eP [],eJ []⟩ bF a8 (bI (ap6 n) (bI as6 au)) bz Tryz.func128 []
def ac0:∀n,eB aX aY Al (vr n)
 |0=>wV (s:=Al) (wX (T:=dZ aX) (os:=λ_=>none) Tryz.func128) (λ_=>rfl)|n+1=>by have ih:=ac0 n;exact as5 (vr n) n ih
def as7(n:Nat):eB aX aY Al (vr n):=(ac0 n)
def T6(n:Nat):bw aX aY 96 (vt n):=cB ⟨dZ aX,aY,eo [],n,[],bU [],bU [],bU [],eK [],en [(7,⟨Al,vr n,6010,[]⟩)],eP [],eJ []⟩ bF a8 (bI (as7 n) au) bz Tryz.func96
def as8(n:Nat):bw aX aY 238 (vu n):=g5 (b4 n [(113,ti n),(239,y9 n),(96,vt n),(241,tw n)] [] [] []) bF (bh (TT n) (bh (apU n) (bh (T6 n) (bh (aqq n) a8)))) au bz Tryz.func238
def ac1(n:Nat):bw aX aY 38 (r2 n):=cB ⟨((dZ Tryz.prog).KN [114,115,116,118,119,120]),aY,eo [(72,Cf n),(73,FY n),(237,FZ n),(230,F0 n),(226,rL n),(215,F2 n),(210,F3 n),(203,F4 n),(238,vu n),(231,xd n),(227,Cp n),(216,Cq n),(211,Cr n),(204,u6 n),(236,Mg n),(229,Mh n),(225,Mi n),(214,Mj n),(209,Mk n),(202,Ml n)],n,[],bU [(2,⟨[sp 1,sp 2,al 36,al 37],[a7 1 8,a7 2 2],[]⟩),(13,⟨[sp 1,sp 2,al 93,al 94],[a7 1 8,a7 2 2],[]⟩),(16,⟨[sp 1,sp 2,al 9,al 93,al 94,al 98,al 99],[a7 1 8,a7 2 2],[]⟩)],bU [],bU [(0,⟨[sp 1,sp 2],[a7 1 8,a7 2 2],[]⟩),(2,⟨[sp 2],[a7 2 2],[]⟩),(3,⟨[sp 1,sp 2,al 93,al 94],[a7 1 8,a7 2 2],[]⟩),(4,⟨[sp 1,sp 2,al 93,al 94],[a7 1 8,a7 2 2],[]⟩)],eK [],en [],eP [],eJ []⟩ ((tok _).KN _) (bh (apF n) (bh (apI n) (bh (apJ n) (bh (apK n) (bh (apL n) (bh (apM n) (bh (apN n) (bh (apO n) (bh (as8 n) (bh (aqB n) (bh (aqC n) (bh (aqD n) (bh (aqI n) (bh (aqV n) (bh (aqW n) (bh (aqX n) (bh (aqY n) (bh (aqZ n) (bh (aq0 n) (bh (aq1 n) a8)))))))))))))))))))) au bz Tryz.func38
def as9(n:Nat):bw aX aY 138 (Ae n):=dx ⟨dZ aX,aY,eo [(96,vt n)],n,[],bU [],bU [],bU [],eK [],en [(17,⟨Ak,pM n,6010,[]⟩)],eP [],eJ []⟩ bF (bh (T6 n) a8) (bI (aq6 n) au) bz Tryz.func138
def ata(n:Nat):bw aX aY 105 (Af n):=dx (b4 n [(138,Ae n)] [(2,⟨[al 1,bX 4 5000,al 11,al 12,al 13],[bq 5000 7],[.slot 4 5000 7]⟩)] [] [(0,⟨[bX 4 5000],[bq 5000 7],[]⟩)]) bF (bh (as9 n) a8) au bz Tryz.func105
def atb(n:Nat):bw aX aY 53 (Ih n):=cB ⟨dZ aX,aY,eo [(103,pL n),(104,zy n),(105,Af n)],n,[],bU [],bU [],bU [],eK [(4,[1,2,0,3,4,5,6,7]),(7,[1,2,0,3,4,5,6,7]),(10,[1,2,0,3,4,5,6,7]),(13,[1,2,0,3,4,5,6,7]),(16,[1,2,0,3,4,5,6,7]),(19,[1,2,0,3,4,5,6,7])],en [],eP [],eJ []⟩ bF (bh (aq2 n) (bh (aq3 n) (bh (ata n) a8))) au bz Tryz.func53
def Nd(n:Nat):bw aX aY 28 (qH n):=cB (b4 n [(38,r2 n),(53,Ih n)] [] [] []) bF (bh (ac1 n) (bh (atb n) a8)) au bz Tryz.func28
def atc(n:Nat):bw aX aY 10 (M4 n):=dx (b4 n [(28,qH n),(29,tD n)] [] [] []) bF (bh (Nd n) (bh (T1 n) a8)) au bz Tryz.func10
def atd(n:Nat):bw aX aY 13 (TK n):=dx (b4 n [(28,qH n),(33,vi n)] [] [] []) bF (bh (Nd n) (bh (acx n) a8)) au bz Tryz.func13
def ate(n:Nat):bw aX aY 16 (TL n):=dx ⟨dZ aX,aY,eo [(28,qH n),(38,r2 n),(29,tD n),(39,S5 n)],n,[],bU [(7,⟨[sp 3,sp 5,bX 9 5000,al 35,al 36,al 37],[a7 3 8,a7 5 8,bq 5000 1],[.slot 9 5000 1]⟩)],bU [],bU [(0,⟨[sp 3,sp 5,bX 9 5000],[a7 3 8,a7 5 8,bq 5000 1],[]⟩)],eK [],en [],eP [],eJ [(11,[[5000],[],[]])]⟩ bF (bh (Nd n) (bh (ac1 n) (bh (T1 n) (bh (ar1 n) a8)))) au bz Tryz.func16
def atf(n:Nat):bw aX aY 9 (Ii n):=EW ⟨dZ aX,aY,eo [(27,LN n),(10,M4 n),(13,TK n),(12,S2 n),(16,TL n)],n,[],bU [],bU [],bU [],eK [],en [],eP [19,25,30],eJ []⟩ bF (bh (apt n) (bh (atc n) (bh (atd n) (bh (arR n) (bh (ate n) a8))))) au bz Tryz.func9
def atg(Ag:List D->Option (List D))(n:Nat)(ath:eB aX aY An Ag):eB aX aY An (TM Ag n):=h0 ⟨dZ aX,aY,eo [],n,[10000,10001],bU [(4,⟨[al 1,(2,.fn (.func Z4) [] [.ptr 10000 0,.ptr 10001 0]),al 15,al 16,al 17],[(10000,.box [.b (.row 6010)]),(10001,.box [.b (.qo uY)]),bq 6010 1],[]⟩)],bU [],bU [(0,⟨[],[(10000,.box [.b (.row 6010)]),(10001,.box [.b (.qo uY)]),bq 6010 1],[]⟩)],eK [],en [(12,⟨ab3,Ie n,6010,[]⟩),(25,⟨An,Ag,6020,[]⟩)],eP [],eJ []⟩ bF a8 (bI (as4 n) (bI ath au)) bz Tryz.func128 []
def ac2:∀n,eB aX aY An (vv n)
 |0=>wV (s:=An) (wX (T:=dZ aX) (os:=λ_=>none) Tryz.func128) (λ_=>rfl)|n+1=>by have ih:=ac2 n;exact atg (vv n) n ih
def ati(n:Nat):eB aX aY An (vv n):=(ac2 n)
def atj(n:Nat):eB aX aY ab4 (M6 n):=h0 ⟨dZ aX,aY,eo [],n,[],bU [],bU [],bU [],eK [],en [(8,⟨An,vv n,6010,[.box 5 0 5900 1]⟩)],eP [],eJ []⟩ bF a8 (bI (ati n) au) bz Tryz.func97 []
def atk(n:Nat):eB aX aY ab5 (Ah n):=h0 ⟨dZ aX,aY,eo [],n,[10000],bU [(4,⟨[bX 0 10000,al 3],[bq 10000 1],[]⟩),(9,⟨[bX 0 10000,al 3,(4,.b (.sub 10000 1)),al 5],[bq 10000 1],[]⟩)],bU [(44000012,⟨[bX 0 10000,al 3,(4,.b (.sub 10000 1)),al 5],[bq 10000 1],[]⟩)],bU [(0,⟨[bX 0 10000],[bq 10000 1],[]⟩),(1,⟨[bX 0 10000,al 3],[bq 10000 1],[]⟩),(2,⟨[bX 0 10000,al 3],[bq 10000 1],[]⟩),(3,⟨[bX 0 10000,al 3,(4,.b (.sub 10000 1)),al 5],[bq 10000 1],[]⟩)],eK [],en [],eP [],eJ []⟩ bF a8 au bz Tryz.func100 [.all 0 1]
def atl(n:Nat):bw aX aY 50 (xu n):=cB ⟨dZ aX,aY,eo [(96,vt n)],n,[],bU [],bU [],bU [],eK [],en [(8,⟨ab4,M6 n,6010,[]⟩),(10,⟨TS,xk n,6020,[]⟩),(12,⟨ab5,Ah n,6030,[]⟩)],eP [12],eJ []⟩ bF (bh (T6 n) a8) (bI (atj n) (bI (acw n) (bI (atk n) au))) bz Tryz.func50
def atm(n:Nat):bw aX aY 23 (tN n):=dx (b4 n [(28,qH n),(50,xu n),(29,tD n)] [] [] []) bF (bh (Nd n) (bh (atl n) (bh (T1 n) a8))) au bz Tryz.func23
def atn(n:Nat):bw aX aY 136 (Io n):=dx (b4 n [] [(3,⟨[al 0,al 1,bX 5 7,al 6],[bq 7 1],[]⟩),(7,⟨[al 0,al 1,bX 5 32,al 6],[bq 32 1],[]⟩)] [(44000010,⟨[al 0,al 1,bX 5 51,al 6],[bq 51 1],[]⟩)] [(0,⟨[al 0,al 1,bX 5 7,al 6],[bq 7 1],[]⟩),(2,⟨[bX 5 32],[bq 32 1],[]⟩),(3,⟨[al 0,al 1,bX 5 51,al 6],[bq 51 1],[]⟩)]) bF a8 au bz Tryz.func136
def ato(vw:List D->Option D)(n:Nat)(ae:D)(an:D)(atp:bw aX aY 101 vw){r:D}(h:Iq vw n ae an=some r):ez aX aY 101 [ae,an] (·=r):=e4 (b4 n [(108,pR n),(136,Io n),(101,vw)] [(4,⟨[al 1,sp 2,al 5,al 7],[a7 2 6],[]⟩),(8,⟨[al 1,sp 2,al 8],[a7 2 6],[]⟩)] [(11000002,⟨[al 1,sp 2],[a7 2 6],[]⟩)] [(0,⟨[al 1,sp 2],[a7 2 6],[]⟩),(2,⟨[al 1],[],[]⟩)]) bF (bh (Iu n) (bh (atn n) (bh atp a8))) au bz Tryz.func101 (cb (cb le_nil)) h
def ac3:∀n,bw aX aY 101 (r3 n)
 |0=>(λ_ _ h=>by cases h)
 |n+1=>by
  have ih:=ac3 n;exact(by
   intro aO r h;unfold r3 at h;split at h
   case h_2=>cases h
   exact ato (r3 n) n _ _ ih h)
def atq(n:Nat):bw aX aY 101 (r3 n):=(ac3 n)
def atr(n:Nat):bw aX aY 51 (xv n):=cB (b4 n [(89,vq n),(101,r3 n)] [] [] []) bF (bh (T5 n) (bh (atq n) a8)) au bz Tryz.func51
def ats(n:Nat):bw aX aY 24 (tO n):=dx (b4 n [(18,rZ n),(20,z6 n),(51,xv n),(11,H8 n)] [] [] []) bF (bh (acR n) (bh (acT n) (bh (atr n) (bh (asV n) a8)))) au bz Tryz.func24
def att(n:Nat):bw aX aY 6 (Dw n):=dx (b4 n [(7,y3 n),(9,Ii n),(23,tN n),(24,tO n),(15,tL n)] [] [] []) bF (bh (aps n) (bh (atf n) (bh (atm n) (bh (ats n) (bh (as2 n) a8))))) au bz Tryz.func6
end Go.Am
