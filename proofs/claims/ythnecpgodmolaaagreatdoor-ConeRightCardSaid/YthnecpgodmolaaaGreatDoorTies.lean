/- That the functions of the program compute this. No condition. -/
import Derived.Test.YthnecpgodmolaaaGreatDoorCode
import Derived.Test.YthnecpgodmolaaaGreatDoorProg
import Derived.KernelRfl
set_option linter.all false
set_option linter.unnecessarySimpa false
namespace Go.Am
open Go.Proofs
set_option maxRecDepth 100000
noncomputable abbrev aZ:Program:=Tryz.prog
theorem bC:aZ.follows .mixedOrders=true:=by kernel_rfl
def bG:dQ aZ (er aZ):=tok _
def a0:dn:=λg=>if g=0 then some Fa else none
noncomputable abbrev b9(n:Nat):=akm aZ a0 n
def a7:hn aZ a0 (ey []):=akj
def au:kV aZ a0 (ew []):=akh
def bk{f:FuncId}{F:List D->Option D}{l:List (FuncId×(List D->Option D))}(h:bu aZ a0 f F)(bx:hn aZ a0 (ey l)):hn aZ a0 (ey ((f,F)::l)):=akk h bx
def bJ{t:Tmp}{e:Bd}{l:List (Tmp×Bd)}(h:e5 aZ a0 e.s e.F)(bx:kV aZ a0 (ew l)):kV aZ a0 (ew ((t,e)::l)):=aki h bx
def aaT:fS:=⟨178,[.b (.d),.b (.d),.b (.ptr 10000 0),.b (.ptr 10001 0)],[a9 10000 1,a9 10001 1],.b (.d),[a9 10000 1,a9 10001 1]⟩
def S8:fS:=⟨135,[.b (.row 9000),.b (.d)],[br 9000 1],.b (.row 9000),[br 9000 1]⟩
def aaU:fS:=⟨134,[.b (.d),.b (.d),.b (.ptr 10000 0),.b (.ptr 10001 0)],[(10000,.box [.b (.row 9000)]),(10001,.box [.b (.row 9001)]),br 9000 1,br 9001 1],.b (.d),[(10000,.box [.b (.row 9000)]),(10001,.box [.b (.row 9001)]),br 9000 1,br 9001 1]⟩
def zS:fS:=⟨133,[.b (.d),.b (.d),.fn (.func Zj) [] [.ptr 10000 0,.ptr 10001 0]],[a9 10000 1,a9 10001 1],.b (.d),[a9 10000 1,a9 10001 1]⟩
def w1:fS:=⟨133,[.b (.d),.b (.d),.fn (.func Zi) [] [.ptr 10000 0,.ptr 10001 0]],[(10000,.box [.b (.row 9000)]),(10001,.box [.b (.row 9001)]),br 9000 1,br 9001 1],.b (.d),[(10000,.box [.b (.row 9000)]),(10001,.box [.b (.row 9001)]),br 9000 1,br 9001 1]⟩
def aaV:fS:=⟨129,[.b (.d),.b (.d),.b (.ptr 10000 0),.b (.ptr 10001 0)],[a9 10000 1,a9 10001 1],.b (.d),[a9 10000 1,a9 10001 1]⟩
def w2:fS:=⟨180,[.b (.d),.b (.ptr 10000 0),.b (.ptr 10001 0),.b (.ptr 10002 0)],[a9 10000 1,(10001,.box [.b (.map 9000)]),(10002,.box [.fn (.func wz) [] [.ptr 10000 0,.ptr 10001 0,.ptr 10002 0]]),(9000,.map)],.b (.d),[a9 10000 1,(10001,.box [.b (.map 9000)]),(10002,.box [.fn (.func wz) [] [.ptr 10000 0,.ptr 10001 0,.ptr 10002 0]]),(9000,.map)]⟩
def aaW:fS:=⟨162,[.b (.d),.b (.d)],[],.b (.map 9000),[(9000,.map)]⟩
def zT:fS:=⟨181,[.b (.d),.b (.d),.b (.ptr 10000 0),.b (.ptr 10001 0),.b (.ptr 10002 0),.b (.ptr 10003 0)],[a9 10000 1,a9 10001 1,a9 10002 1,(10003,.box [.fn (.func wA) [] [.ptr 10000 0,.ptr 10001 0,.ptr 10002 0,.ptr 10003 0]])],.b (.d),[a9 10000 1,a9 10001 1,a9 10002 1,(10003,.box [.fn (.func wA) [] [.ptr 10000 0,.ptr 10001 0,.ptr 10002 0,.ptr 10003 0]])]⟩
def zU:fS:=⟨164,[.b (.d),.b (.ptr 10000 0),.b (.ptr 10001 0)],[a9 10000 1,(10001,.box [.fn (.func Lb) [] [.ptr 10000 0,.ptr 10001 0]])],.b (.d),[a9 10000 1,(10001,.box [.fn (.func Lb) [] [.ptr 10000 0,.ptr 10001 0]])]⟩
def aaX:fS:=⟨99,[.b (.d)],[],.a1 [.row 9000,.row 9001],[br 9000 1,br 9001 1]⟩
def aaY:fS:=⟨109,[.b (.map 10000),.b (.d)],[(10000,.map)],.b (.d),[(10000,.map)]⟩
def aaZ:fS:=⟨109,[.b (.map 10000),.b (.row 10001)],[(10000,.map),br 10001 1],.b (.d),[(10000,.map),br 10001 1]⟩
def aa0:fS:=⟨140,[.b (.row 10000),.b (.d),.b (.d)],[br 10000 1],.b (.d),[br 10000 1]⟩
def S9:fS:=⟨166,[.b (.row 10000),.b (.d),.b (.d),.b (.d)],[br 10000 1],.b (.d),[br 10000 1]⟩
def aa1:fS:=⟨141,[.b (.row 10000),.b (.d),.b (.d)],[br 10000 1],.b (.d),[br 10000 1]⟩
def aa2:fS:=⟨168,[.b (.ptr 10000 0)],[a9 10000 1],.b (.d),[a9 10000 1]⟩
def aa3:fS:=⟨142,[.b (.row 10000),.b (.d),.b (.d)],[br 10000 1],.b (.d),[br 10000 1]⟩
def Mv:fS:=⟨183,[.b (.d),.b (.d),.b (.d),.b (.ptr 10000 0)],[a9 10000 1],.b (.d),[a9 10000 1]⟩
def Ta:fS:=⟨170,[.b (.d),.b (.d),.b (.d),.b (.d),.b (.ptr 10000 0)],[a9 10000 1],.b (.d),[a9 10000 1]⟩
def Mw:fS:=⟨169,[.b (.d),.b (.d),.b (.ptr 10000 0)],[a9 10000 1],.b (.d),[a9 10000 1]⟩
def aa4:fS:=⟨144,[.b (.row 10000),.b (.d),.b (.d)],[br 10000 1],.b (.d),[br 10000 1]⟩
def aa5:fS:=⟨145,[.b (.row 10000),.b (.d),.b (.d)],[br 10000 1],.b (.d),[br 10000 1]⟩
def aa6:fS:=⟨147,[.b (.row 10000),.b (.d),.b (.d),.b (.d)],[br 10000 1],.b (.d),[br 10000 1]⟩
def aa7:fS:=⟨148,[.b (.row 10000),.b (.d),.b (.d),.b (.d)],[br 10000 1],.b (.d),[br 10000 1]⟩
def w3:fS:=⟨110,[.b (.row 10000),.b (.d),.b (.d),.b (.d)],[br 10000 1],.b (.d),[br 10000 1]⟩
def aa8:fS:=⟨70,[.b (.row 10000)],[br 10000 1],.b (.d),[br 10000 1]⟩
def zV:fS:=⟨128,[.b (.d),.b (.d),.fn (.func Zh) [] [.ptr 10000 0,.ptr 10001 0]],[a9 10000 1,a9 10001 1],.b (.d),[a9 10000 1,a9 10001 1]⟩
def an9(yx:List D->Option D)(n:Nat)(ae:D)(an:D)(aoa:bu aZ a0 25 yx){r:D}(h:Rj yx n ae an=some r):eB aZ a0 25 [ae,an] (·=r):=eY (b9 n [(25,yx)] [(2,⟨[al 0,al 1,al 5],[],[]⟩)] [] [(0,⟨[al 1],[],[]⟩)]) bG (bk aoa a7) au bC Tryz.func25 (ca (ca le_nil)) h
def aa9:∀n,bu aZ a0 25 (nU n)
 |0=>(λ_ _ h=>by cases h)
 |n+1=>by
  have ih:=aa9 n;exact(by
   intro aO r h;unfold nU at h;split at h
   case h_2=>cases h
   exact an9 (nU n) n _ _ ih h)
def aob(n:Nat):bu aZ a0 25 (nU n):=(aa9 n)
def aoc(yz:List D->Option D)(n:Nat)(ae:D)(an:D)(aod:bu aZ a0 102 yz){r:D}(h:Rk yz n ae an=some r):eB aZ a0 102 [ae,an] (·=r):=eY (b9 n [(102,yz)] [(2,⟨[al 1,sp 2,al 5],[a9 2 4],[]⟩)] [] [(0,⟨[al 1],[],[]⟩)]) bG (bk aod a7) au bC Tryz.func102 (ca (ca le_nil)) h
def aba:∀n,bu aZ a0 102 (sN n)
 |0=>(λ_ _ h=>by cases h)
 |n+1=>by
  have ih:=aba n;exact(by
   intro aO r h;unfold sN at h;split at h
   case h_2=>cases h
   exact aoc (sN n) n _ _ ih h)
def aoe(n:Nat):bu aZ a0 102 (sN n):=(aba n)
def aof(yA:List D->Option D)(n:Nat)(ae:D)(an:D)(aog:bu aZ a0 52 yA){r:D}(h:Rl yA n ae an=some r):eB aZ a0 52 [ae,an] (·=r):=eY (b9 n [(102,sN n),(52,yA)] [(3,⟨[al 1,sp 2,al 5],[a9 2 6],[]⟩)] [] [(0,⟨[al 1],[],[]⟩)]) bG (bk (aoe n) (bk aog a7)) au bC Tryz.func52 (ca (ca le_nil)) h
def abb:∀n,bu aZ a0 52 (sO n)
 |0=>(λ_ _ h=>by cases h)
 |n+1=>by
  have ih:=abb n;exact(by
   intro aO r h;unfold sO at h;split at h
   case h_2=>cases h
   exact aof (sO n) n _ _ ih h)
def aoh(n:Nat):bu aZ a0 52 (sO n):=(abb n)
def aoi(n:Nat):bu aZ a0 26 (Fh n):=dz (b9 n [(52,sO n)] [] [] []) bG (bk (aoh n) a7) au bC Tryz.func26
def aoj(n:Nat):bu aZ a0 7 (wB n):=cE (b9 n [(25,nU n),(26,Fh n)] [(8,⟨[sp 1,al 3,al 4],[a9 1 8],[]⟩),(12,⟨[sp 1,al 3,al 5],[a9 1 8],[]⟩),(16,⟨[sp 1,al 3,al 6],[a9 1 8],[]⟩)] [] [(0,⟨[sp 1,al 3],[a9 1 8],[]⟩),(2,⟨[sp 1,al 3],[a9 1 8],[]⟩),(4,⟨[al 3],[],[]⟩)]) bG (bk (aob n) (bk (aoi n) a7)) au bC Tryz.func7
def aok(n:Nat):bu aZ a0 27 (Ld n):=cE (b9 n [] [] [] []) bG a7 au bC Tryz.func27
def abc(n:Nat):bu aZ a0 151 (yC n):=cE (b9 n [] [] [] []) bG a7 au bC Tryz.func151
def aol(n:Nat):bu aZ a0 172 (Fl n):=cE (b9 n [] [] [] []) bG a7 au bC Tryz.func172
def aom(n:Nat):bu aZ a0 153 (Fo n):=cE (b9 n [(151,yC n),(172,Fl n)] [] [] []) bG (bk (abc n) (bk (aol n) a7)) au bC Tryz.func153
def aon(n:Nat)(ae:D){r:D}(h:Ro n ae=some r):eB aZ a0 152 [ae,(D.val (.func (.func Fb) #[] #[]))] (·=r):=eY (b9 n [(153,Fo n)] [(2,⟨[al 0,(1,.b (.Ez Fb)),al 5],[],[]⟩)] [] [(0,⟨[al 5],[],[]⟩)]) bG (bk (aom n) a7) au bC Tryz.func152 (ca (ca le_nil)) h
def aoo(n:Nat):bu aZ a0 152 (BC n):=by
 intro aO r h;unfold BC at h;split at h
 case h_2=>cases h
 obtain⟨ao,h⟩:=ll h;obtain rfl:=QQ ao;exact aon n _ h
def aop(n:Nat):bu aZ a0 106 (wC n):=dz (b9 n [] [(2,⟨[al 0,al 1,al 7,al 8],[],[]⟩)] [] [(0,⟨[],[],[]⟩)]) bG a7 au bC Tryz.func106
def abd(n:Nat):bu aZ a0 55 (sQ n):=dz (b9 n [(106,wC n)] [] [] []) bG (bk (aop n) a7) au bC Tryz.func55
def Tb(n:Nat):bu aZ a0 113 (sR n):=cE (b9 n [(151,yC n),(152,BC n),(55,sQ n)] [] [] []) bG (bk (abc n) (bk (aoo n) (bk (abd n) a7))) au bC Tryz.func113
def aoq(n:Nat)(ae:D)(c1:List D){r:D}(h:Rq n ae c1=some r):eB aZ a0 112 [ae,.ref c1 0] (·=r):=eY (b9 n [] [] [] []) bG a7 au bC Tryz.func112 (ca (nR oA le_nil)) h
def aor(n:Nat):bu aZ a0 112 (BD n):=by
 intro aO r h;unfold BD at h;split at h
 case h_2=>cases h
 split at h
 case h_2=>cases h
 exact aoq n _ _ h
def aos(n:Nat)(ae:D)(cD:D){r:D}(h:Rr n ae cD=some r):eB aZ a0 154 [ae,(D.fn (.func sM) [] [cD])] (·=r):=eY (b9 n [(112,BD n)] [(2,⟨[al 0,(1,.b (.fd sM 1)),al 7,al 8],[],[]⟩)] [] [(0,⟨[],[],[]⟩)]) bG (bk (aor n) a7) au bC Tryz.func154 (ca (ca le_nil)) h
def aot(n:Nat):bu aZ a0 154 (yE n):=by
 intro aO r h;unfold yE at h;split at h
 case h_2=>cases h
 split at h
 case h_2=>cases h
 rename_i ao;obtain rfl:=lQ ao;exact aos n _ _ h
def aou(n:Nat)(ae:D)(cD:D){r:D}(h:Rs n ae cD=some r):eB aZ a0 114 [ae,(D.fn (.func sM) [] [cD])] (·=r):=eY (b9 n [(154,yE n)] [] [] []) bG (bk (aot n) a7) au bC Tryz.func114 (ca (ca le_nil)) h
def aov(n:Nat):bu aZ a0 114 (BE n):=by
 intro aO r h;unfold BE at h;split at h
 case h_2=>cases h
 split at h
 case h_2=>cases h
 rename_i ao;obtain rfl:=lQ ao;exact aou n _ _ h
def aow(n:Nat):bu aZ a0 72 (BF n):=cE (b9 n [(113,sR n),(114,BE n)] [(2,⟨[al 0,al 8,al 9,al 10],[],[]⟩)] [] [(0,⟨[],[],[]⟩)]) bG (bk (Tb n) (bk (aov n) a7)) au bC Tryz.func72
def aox(n:Nat):bu aZ a0 116 (Fu n):=cE (b9 n [] [] [] []) bG a7 au bC Tryz.func116
def aoy(n:Nat):bu aZ a0 115 (Fv n):=cE (b9 n [] [(2,⟨[al 0,al 4],[],[]⟩)] [] [(0,⟨[],[],[]⟩)]) bG a7 au bC Tryz.func115
def aoz(n:Nat):bu aZ a0 73 (Fx n):=cE (b9 n [(116,Fu n),(115,Fv n)] [(3,⟨[al 3,al 7,al 8,al 9],[],[]⟩)] [] [(0,⟨[al 3],[],[]⟩)]) bG (bk (aox n) (bk (aoy n) a7)) au bC Tryz.func73
def aoA(n:Nat):bu aZ a0 237 (Fy n):=cE (b9 n [] [] [] []) bG a7 au bC Tryz.func237
def aoB(n:Nat):bu aZ a0 230 (Fz n):=cE (b9 n [] [] [] []) bG a7 au bC Tryz.func230
def aoC(n:Nat):bu aZ a0 226 (rp n):=cE (b9 n [] [] [] []) bG a7 au bC Tryz.func226
def aoD(n:Nat):bu aZ a0 215 (FB n):=cE (b9 n [] [] [] []) bG a7 au bC Tryz.func215
def aoE(n:Nat):bu aZ a0 210 (FC n):=cE (b9 n [] [] [] []) bG a7 au bC Tryz.func210
def aoF(n:Nat):bu aZ a0 203 (FD n):=cE (b9 n [] [] [] []) bG a7 au bC Tryz.func203
def aoG(n:Nat)(ae:D)(c1:List D){r:D}(h:Lh n ae c1=some r):eB aZ a0 240 [ae,.ref c1 0] (·=r):=eY (b9 n [] [] [] []) bG a7 au bC Tryz.func240 (ca (nR oA le_nil)) h
def aoH(n:Nat):bu aZ a0 240 (FE n):=by
 intro aO r h;unfold FE at h;split at h
 case h_2=>cases h
 split at h
 case h_2=>cases h
 exact aoG n _ _ h
def aoI(n:Nat)(ae:D)(cD:D){r:D}(h:FG n ae cD=some r):eB aZ a0 242 [ae,(D.fn (.func rk) [] [cD])] (·=r):=eY (b9 n [(240,FE n)] [(2,⟨[al 0,(1,.b (.fd rk 1)),al 7,al 8],[],[]⟩)] [] [(0,⟨[],[],[]⟩)]) bG (bk (aoH n) a7) au bC Tryz.func242 (ca (ca le_nil)) h
def aoJ(n:Nat):bu aZ a0 242 (yH n):=by
 intro aO r h;unfold yH at h;split at h
 case h_2=>cases h
 split at h
 case h_2=>cases h
 rename_i ao;obtain rfl:=lQ ao;exact aoI n _ _ h
def aoK(n:Nat)(ae:D)(cD:D){r:D}(h:Li n ae cD=some r):eB aZ a0 239 [ae,(D.fn (.func rk) [] [cD])] (·=r):=eY (b9 n [(242,yH n)] [] [] []) bG (bk (aoJ n) a7) au bC Tryz.func239 (ca (ca le_nil)) h
def aoL(n:Nat):bu aZ a0 239 (yI n):=by
 intro aO r h;unfold yI at h;split at h
 case h_2=>cases h
 split at h
 case h_2=>cases h
 rename_i ao;obtain rfl:=lQ ao;exact aoK n _ _ h
def aoM(n:Nat):bu aZ a0 186 (FH n):=cE (b9 n [] [] [(5004000,⟨[al 4,al 5],[],[]⟩),(5005000,⟨[al 4,al 5],[],[]⟩),(5006000,⟨[al 4,al 5],[],[]⟩),(12011000,⟨[al 4,al 12],[],[]⟩),(15014000,⟨[al 4,al 15],[],[]⟩),(15015000,⟨[al 4,al 15],[],[]⟩),(15016000,⟨[al 4,al 15],[],[]⟩),(15017000,⟨[al 4,al 15],[],[]⟩),(15018000,⟨[al 4,al 15],[],[]⟩),(15019000,⟨[al 4,al 15],[],[]⟩),(15020000,⟨[al 4,al 15],[],[]⟩),(15021000,⟨[al 4,al 15],[],[]⟩),(15022000,⟨[al 4,al 15],[],[]⟩)] []) bG a7 au bC Tryz.func186
def aoN(n:Nat):bu aZ a0 179 (FI n):=cE (b9 n [(186,FH n)] [] [(18008007,⟨[sp 1,al 3,al 4,al 5,al 6],[a9 1 4],[]⟩),(20000009,⟨[sp 1,al 3,al 4,al 5,al 6],[a9 1 4],[]⟩)] [(0,⟨[sp 1,al 3,al 4,al 5,al 6],[a9 1 4],[]⟩)]) bG (bk (aoM n) a7) au bC Tryz.func179
def aoO(n:Nat):e5 aZ a0 aaT (FJ n):=iN ⟨er aZ,a0,ey [(179,FI n)],n,[10000,10001],b3 [],b3 [(10004003,⟨[(3,.b (.ptr 10001 0))],[a9 10001 1,a9 10000 1],[]⟩),(18000006,⟨[(3,.b (.ptr 10001 0))],[a9 10001 1,a9 10000 1],[]⟩)],b3 [],e7 [],ew [],ff [],e6 []⟩ bG (bk (aoN n) a7) au bC Tryz.func178 []
def abe(n:Nat):e5 aZ a0 S8 (wD n):=iN ⟨er aZ,a0,ey [],n,[],b3 [(2,⟨[b0 0 9000,al 1,al 5],[br 9000 1],[]⟩)],b3 [],b3 [(0,⟨[b0 0 9000,al 1,al 5],[br 9000 1],[]⟩)],e7 [],ew [],ff [],e6 []⟩ bG a7 au bC Tryz.func135 []
def aoP(n:Nat):e5 aZ a0 aaU (yK n):=iN ⟨er aZ,a0,ey [],n,[10000,10001],b3 [],b3 [(9004003,⟨[],[(10000,.box [.b (.row 6010)]),(10001,.box [.b (.row 9001)]),br 6010 1,br 9001 1],[]⟩),(15000005,⟨[],[(10000,.box [.b (.row 9000)]),(10001,.box [.b (.row 6020)]),br 9000 1,br 6020 1],[]⟩)],b3 [(0,⟨[],[(10000,.box [.b (.row 6010)]),(10001,.box [.b (.row 9001)]),br 6010 1,br 9001 1],[]⟩)],e7 [],ew [(14,⟨S8,wD n,6010,[]⟩),(20,⟨S8,wD n,6020,[]⟩)],ff [],e6 []⟩ bG a7 (bJ (abe n) (bJ (abe n) au)) bC Tryz.func134 []
def aoQ(yL:List D->Option (List D))(n:Nat)(aoR:e5 aZ a0 zS yL):e5 aZ a0 zS (Rt yL n):=iN ⟨er aZ,a0,ey [],n,[10000,10001],b3 [(4,⟨[al 1,(2,.fn (.func Zj) [] [.ptr 10000 0,.ptr 10001 0]),al 15,al 16,al 17],[a9 10000 1,a9 10001 1],[]⟩)],b3 [],b3 [(0,⟨[],[a9 10000 1,a9 10001 1],[]⟩)],e7 [],ew [(12,⟨aaT,FJ n,6010,[]⟩),(25,⟨zS,yL,6020,[]⟩)],ff [],e6 []⟩ bG a7 (bJ (aoO n) (bJ aoR au)) bC Tryz.func133 []
def abf:∀n,e5 aZ a0 zS (uD n)
 |0=>yk (s:=zS) (yl (T:=er aZ) (os:=λ_=>none) Tryz.func133) (λ_=>rfl)|n+1=>by have ih:=abf n;exact aoQ (uD n) n ih
def aoS(n:Nat):e5 aZ a0 zS (uD n):=(abf n)
def Tc(n:Nat):bu aZ a0 159 (sT n):=cE ⟨er aZ,a0,ey [],n,[],b3 [],b3 [],b3 [],e7 [],ew [(7,⟨zS,uD n,6010,[]⟩)],ff [],e6 []⟩ bG a7 (bJ (aoS n) au) bC Tryz.func159
def aoT(yM:List D->Option (List D))(n:Nat)(aoU:e5 aZ a0 w1 yM):e5 aZ a0 w1 (Ru yM n):=iN ⟨er aZ,a0,ey [],n,[10000,10001],b3 [(4,⟨[al 1,(2,.fn (.func Zi) [] [.ptr 10000 0,.ptr 10001 0]),al 15,al 16,al 17],[(10000,.box [.b (.row 6010)]),(10001,.box [.b (.row 6011)]),br 6010 1,br 6011 1],[]⟩)],b3 [],b3 [(0,⟨[],[(10000,.box [.b (.row 6010)]),(10001,.box [.b (.row 6011)]),br 6010 1,br 6011 1],[]⟩)],e7 [],ew [(12,⟨aaU,yK n,6010,[]⟩),(25,⟨w1,yM,6020,[]⟩)],ff [],e6 []⟩ bG a7 (bJ (aoP n) (bJ aoU au)) bC Tryz.func133 []
def abg:∀n,e5 aZ a0 w1 (rq n)
 |0=>yk (s:=w1) (yl (T:=er aZ) (os:=λ_=>none) Tryz.func133) (λ_=>rfl)|n+1=>by have ih:=abg n;exact aoT (rq n) n ih
def abh(n:Nat):e5 aZ a0 w1 (rq n):=(abg n)
def Mx(n:Nat):bu aZ a0 99 (rr n):=cE ⟨er aZ,a0,ey [],n,[],b3 [],b3 [],b3 [],e7 [(2,[0,1,2,3])],ew [(6,⟨w1,rq n,6010,[.box 3 0 5900 1,.box 2 0 5901 1]⟩)],ff [],e6 []⟩ bG a7 (bJ (abh n) au) bC Tryz.func99
def aoV(n:Nat):bu aZ a0 130 (yN n):=cE (b9 n [(159,sT n),(99,rr n)] [] [] []) bG (bk (Tc n) (bk (Mx n) a7)) au bC Tryz.func130
def aoW(n:Nat):bu aZ a0 131 (FL n):=cE (b9 n [] [] [(6005000,⟨[al 3,al 6],[],[]⟩),(6006000,⟨[al 3,al 6],[],[]⟩),(6007000,⟨[al 3,al 6],[],[]⟩),(6008000,⟨[al 3,al 6],[],[]⟩),(12011000,⟨[al 12],[],[]⟩),(12012000,⟨[al 12],[],[]⟩),(12013000,⟨[al 12],[],[]⟩),(12014000,⟨[al 12],[],[]⟩),(12015000,⟨[al 12],[],[]⟩),(12016000,⟨[al 12],[],[]⟩)] [(0,⟨[],[],[]⟩)]) bG a7 au bC Tryz.func131
def aoX(n:Nat):e5 aZ a0 aaV (FM n):=iN ⟨er aZ,a0,ey [(130,yN n),(131,FL n)],n,[10000,10001],b3 [],b3 [(40007006,⟨[(3,.b (.ptr 10001 0))],[a9 10001 1,a9 10000 1],[]⟩),(43009008,⟨[(3,.b (.ptr 10001 0))],[a9 10001 1,a9 10000 1],[]⟩),(46011010,⟨[(3,.b (.ptr 10001 0))],[a9 10001 1,a9 10000 1],[]⟩),(50013012,⟨[(3,.b (.ptr 10001 0))],[a9 10001 1,a9 10000 1],[]⟩),(65000014,⟨[(3,.b (.ptr 10001 0))],[a9 10001 1,a9 10000 1],[]⟩)],b3 [(0,⟨[(3,.b (.ptr 10001 0))],[a9 10001 1,a9 10000 1],[]⟩)],e7 [],ew [],ff [],e6 []⟩ bG (bk (aoV n) (bk (aoW n) a7)) au bC Tryz.func129 []
def Td(n:Nat):bu aZ a0 160 (uE n):=cE (b9 n [] [(3,⟨[(3,.b (.map 8)),al 9,al 10,al 11],[(8,.map)],[]⟩)] [(24000007,⟨[(3,.b (.map 8)),al 9,al 10,al 11],[(8,.map)],[]⟩)] [(0,⟨[(3,.b (.map 8))],[(8,.map)],[]⟩),(1,⟨[(3,.b (.map 8)),al 9,al 10,al 11],[(8,.map)],[]⟩)]) bG a7 au bC Tryz.func160
def aoY(n:Nat):bu aZ a0 161 (FP n):=cE ⟨er aZ,a0,ey [(160,uE n),(99,rr n)],n,[],b3 [(4,⟨[al 3,b0 4 5002,al 16,al 17,al 18],[br 5002 1],[.slot 4 5002 1]⟩),(9,⟨[al 3,b0 4 5002,b0 7 5001,al 16,al 17,al 18,al 28,al 29,al 30],[br 5002 1,br 5001 1],[.slot 7 5001 1]⟩)],b3 [(40000013,⟨[al 3,b0 4 5002,b0 7 44,al 16,al 17,al 18,al 28,al 29,al 30],[br 5002 1,br 44 1],[.slot 7 5000 1]⟩)],b3 [(0,⟨[b0 4 5002],[br 5002 1],[]⟩),(1,⟨[al 3,b0 4 49,al 16,al 17,al 18],[br 49 1],[]⟩),(2,⟨[al 3,b0 4 5002,b0 7 5001,al 16,al 17,al 18],[br 5002 1,br 5001 1],[]⟩),(3,⟨[al 3,b0 4 5002,b0 7 44,al 16,al 17,al 18,al 28,al 29,al 30],[br 5002 1,br 44 1],[]⟩)],e7 [],ew [],ff [48],e6 []⟩ bG (bk (Td n) (bk (Mx n) a7)) au bC Tryz.func161
def aoZ(yO:List D->Option (List D))(n:Nat)(ao0:e5 aZ a0 w2 yO):e5 aZ a0 w2 (Ln yO n):=iN ⟨er aZ,a0,ey [],n,[10000,10001,10002],b3 [(1,⟨[(2,.b (.ptr 10001 0)),(3,.b (.ptr 10002 0)),al 10,al 11,al 12],[(10001,.box [.b (.map 9000)]),(10002,.box [.fn (.func wz) [] [.ptr 10000 0,.ptr 10001 0,.ptr 10002 0]]),a9 10000 1,(9000,.map)],[]⟩)],b3 [(19000004,⟨[(2,.b (.ptr 10001 0)),(3,.b (.ptr 10002 0)),al 10,al 11,al 12],[(10001,.box [.b (.map 6010)]),(10002,.box [.fn (.func wz) [] [.ptr 10000 0,.ptr 10001 0,.ptr 10002 0]]),a9 10000 1,(6010,.map)],[]⟩)],b3 [(0,⟨[],[a9 10000 1,(10001,.box [.b (.map 9000)]),(10002,.box [.fn (.func wz) [] [.ptr 10000 0,.ptr 10001 0,.ptr 10002 0]]),(9000,.map)],[]⟩),(1,⟨[(2,.b (.ptr 10001 0)),(3,.b (.ptr 10002 0)),al 10,al 11,al 12],[(10001,.box [.b (.map 6010)]),(10002,.box [.fn (.func wz) [] [.ptr 10000 0,.ptr 10001 0,.ptr 10002 0]]),a9 10000 1,(6010,.map)],[]⟩)],e7 [],ew [(24,⟨w2,yO,6010,[]⟩)],ff [],e6 []⟩ bG a7 (bJ ao0 au) bC Tryz.func180 []
def abi:∀n,e5 aZ a0 w2 (ru n)
 |0=>yk (s:=w2) (yl (T:=er aZ) (os:=λ_=>none) Tryz.func180) (λ_=>rfl)|n+1=>by have ih:=abi n;exact aoZ (ru n) n ih
def abj(n:Nat):e5 aZ a0 w2 (ru n):=(abi n)
def ao1(n:Nat):e5 aZ a0 aaW (FT n):=iN ⟨er aZ,a0,ey [],n,[],b3 [(5,⟨[sp 5,sp 6,al 11,al 12,al 13],[(5,.box [.b (.map 9)]),(6,.box [.fn (.func wz) [] [.ptr 2 0,.ptr 5 0,.ptr 6 0]]),(9,.map),a9 2 1],[]⟩)],b3 [],b3 [(0,⟨[sp 5],[(5,.box [.b (.map 9)]),(9,.map)],[]⟩)],e7 [],ew [(19,⟨w2,ru n,6010,[]⟩)],ff [],e6 []⟩ bG a7 (bJ (abj n) au) bC Tryz.func162 []
def ao2(n:Nat):bu aZ a0 162 (BG n):=dz ⟨er aZ,a0,ey [],n,[],b3 [(5,⟨[sp 5,sp 6,al 11,al 12,al 13],[(5,.box [.b (.map 9)]),(6,.box [.fn (.func wz) [] [.ptr 2 0,.ptr 5 0,.ptr 6 0]]),(9,.map),a9 2 1],[]⟩)],b3 [],b3 [(0,⟨[sp 5],[(5,.box [.b (.map 9)]),(9,.map)],[]⟩)],e7 [],ew [(19,⟨w2,ru n,6010,[]⟩)],ff [],e6 []⟩ bG a7 (bJ (abj n) au) bC Tryz.func162
def ao3(uF:List D->Option (List D))(n:Nat)(ao4:e5 aZ a0 zT uF):e5 aZ a0 zT (FV uF n):=iN ⟨er aZ,a0,ey [],n,[10000,10001,10002,10003],b3 [(1,⟨[al 1,(2,.b (.ptr 10000 0)),(3,.b (.ptr 10001 0)),(4,.b (.ptr 10002 0)),(5,.b (.ptr 10003 0)),sp 6,sp 8],[a9 10000 1,a9 10001 1,a9 10002 1,(10003,.box [.fn (.func wA) [] [.ptr 10000 0,.ptr 10001 0,.ptr 10002 0,.ptr 10003 0]]),a9 6 4,a9 8 4],[]⟩),(10,⟨[al 1,(4,.b (.ptr 10002 0)),(5,.b (.ptr 10003 0)),sp 6,sp 8,b0 11 41,al 43,al 44,al 45],[a9 10002 1,(10003,.box [.fn (.func wA) [] [.ptr 10000 0,.ptr 10001 0,.ptr 10002 0,.ptr 10003 0]]),a9 6 4,a9 8 4,br 41 4,a9 10000 1,a9 10001 1],[]⟩)],b3 [(55000013,⟨[al 1,(4,.b (.ptr 10002 0)),(5,.b (.ptr 10003 0)),sp 6,sp 8,b0 11 41,al 43,al 44,al 45],[a9 10002 1,(10003,.box [.fn (.func wA) [] [.ptr 10000 0,.ptr 10001 0,.ptr 10002 0,.ptr 10003 0]]),a9 6 4,a9 8 4,br 41 4,a9 10000 1,a9 10001 1],[]⟩)],b3 [(0,⟨[al 1,(4,.b (.ptr 10002 0)),(5,.b (.ptr 10003 0)),sp 6,sp 8],[a9 10002 1,(10003,.box [.fn (.func wA) [] [.ptr 10000 0,.ptr 10001 0,.ptr 10002 0,.ptr 10003 0]]),a9 6 4,a9 8 4,a9 10000 1,a9 10001 1],[]⟩),(2,⟨[sp 6,sp 8,b0 11 41],[a9 6 4,a9 8 4,br 41 4,a9 10000 1,a9 10001 1,a9 10002 1,(10003,.box [.fn (.func wA) [] [.ptr 10000 0,.ptr 10001 0,.ptr 10002 0,.ptr 10003 0]])],[]⟩),(3,⟨[al 1,(4,.b (.ptr 10002 0)),(5,.b (.ptr 10003 0)),sp 6,sp 8,b0 11 41,al 43,al 44,al 45],[a9 10002 1,(10003,.box [.fn (.func wA) [] [.ptr 10000 0,.ptr 10001 0,.ptr 10002 0,.ptr 10003 0]]),a9 6 4,a9 8 4,br 41 4,a9 10000 1,a9 10001 1],[]⟩)],e7 [],ew [(62,⟨zT,uF,6010,[]⟩)],ff [20066],e6 []⟩ bG a7 (bJ ao4 au) bC Tryz.func181 []
def abk:∀n,e5 aZ a0 zT (sU n)
 |0=>yk (s:=zT) (yl (T:=er aZ) (os:=λ_=>none) Tryz.func181) (λ_=>rfl)|n+1=>by have ih:=abk n;exact ao3 (sU n) n ih
def ao5(n:Nat):e5 aZ a0 zT (sU n):=(abk n)
def ao6(n:Nat):bu aZ a0 163 (FW n):=dz ⟨er aZ,a0,ey [(160,uE n)],n,[],b3 [],b3 [],b3 [],e7 [],ew [(13,⟨zT,sU n,6010,[]⟩)],ff [],e6 []⟩ bG (bk (Td n) a7) (bJ (ao5 n) au) bC Tryz.func163
def My(n:Nat):bu aZ a0 137 (mu n):=dz ⟨(er Tryz.prog).sx [77],a0,ey [(159,sT n),(160,uE n),(161,FP n),(99,rr n),(162,BG n),(163,FW n)],n,[],b3 [(8,⟨[al 1,sp 2,sp 4,al 7,al 8,b0 9 5001,al 36,al 37,al 38],[a9 2 4,a9 4 4,br 5001 1],[.slot 9 5001 1]⟩),(16,⟨[al 1,sp 2,sp 4,al 8,(16,.b (.map 6010)),al 57,al 58,al 59],[a9 2 4,a9 4 4,(6010,.map)],[]⟩),(21,⟨[al 1,sp 2,sp 4,al 8,(16,.b (.map 6010)),al 67,al 68],[a9 2 4,a9 4 4,(6010,.map)],[]⟩)],b3 [(48000012,⟨[al 1,sp 2,sp 4,al 7,al 8,b0 9 52,al 36,al 37,al 38],[a9 2 4,a9 4 4,br 52 1],[.slot 9 5000 1]⟩)],b3 [(0,⟨[al 1,sp 2,sp 4,al 8,b0 9 5001],[a9 2 4,a9 4 4,br 5001 1],[]⟩),(1,⟨[al 1,sp 2,sp 4,al 7,al 8,b0 9 52,al 36,al 37,al 38],[a9 2 4,a9 4 4,br 52 1],[]⟩),(2,⟨[al 1,sp 2,sp 4,al 8,(16,.b (.map 6010))],[a9 2 4,a9 4 4,(6010,.map)],[]⟩),(4,⟨[al 1,sp 2,sp 4],[a9 2 4,a9 4 4],[]⟩)],e7 [],ew [(56,⟨aaW,FT n,6010,[]⟩)],ff [],e6 [(14,[[5001],[],[]])]⟩ ((tok _).sx _) (bk (Tc n) (bk (Td n) (bk (aoY n) (bk (Mx n) (bk (ao2 n) (bk (ao6 n) a7)))))) (bJ (ao1 n) au) bC Tryz.func137
def ao7(n:Nat):bu aZ a0 220 (FZ n):=cE (b9 n [] [(3,⟨[(3,.b (.map 8)),al 9,al 10,al 11],[(8,.map)],[]⟩)] [(24000007,⟨[(3,.b (.map 8)),al 9,al 10,al 11],[(8,.map)],[]⟩)] [(0,⟨[(3,.b (.map 8))],[(8,.map)],[]⟩),(1,⟨[(3,.b (.map 8)),al 9,al 10,al 11],[(8,.map)],[]⟩)]) bG a7 au bC Tryz.func220
def abl(n:Nat):bu aZ a0 222 (rv n):=dz (b9 n [] [] [] []) bG a7 au bC Tryz.func222
def ao8(n:Nat):bu aZ a0 223 (F2 n):=cE (b9 n [] [(2,⟨[sp 2,al 6,al 7,al 8],[a9 2 3],[]⟩)] [] [(0,⟨[sp 2],[a9 2 3],[]⟩)]) bG a7 au bC Tryz.func223
def ao9(n:Nat):bu aZ a0 224 (yR n):=g2 (b9 n [(222,rv n)] [] [(13000002,⟨[al 0,sp 4,sp 5,sp 6],[a9 4 3,a9 5 3,a9 6 3],[]⟩)] []) bG (bk (abl n) a7) au bC Tryz.func224
def apa(n:Nat):bu aZ a0 221 (oK n):=akn (b9 n [(222,rv n),(223,F2 n),(224,yR n)] [] [(29007000,⟨[al 0,al 1,al 3,al 4,sp 7,sp 10,al 16,al 29],[a9 7 4,a9 10 3],[]⟩),(69017000,⟨[al 4,sp 7,sp 10,al 16,al 69],[a9 7 4,a9 10 3],[]⟩),(69018000,⟨[al 4,sp 7,sp 10,al 16,al 69],[a9 7 4,a9 10 3],[]⟩),(69019000,⟨[al 4,sp 7,sp 10,al 16,al 69],[a9 7 4,a9 10 3],[]⟩),(69020000,⟨[al 4,sp 7,sp 10,al 16,al 69],[a9 7 4,a9 10 3],[]⟩),(126029000,⟨[al 4,sp 7,sp 10,al 126],[a9 7 4,a9 10 3],[]⟩),(164038000,⟨[al 4,sp 7,sp 10,al 152,al 164],[a9 7 4,a9 10 3],[]⟩)] [(0,⟨[al 4,sp 7,sp 10],[a9 7 4,a9 10 3],[]⟩)]) bG (bk (abl n) (bk (ao8 n) (bk (ao9 n) a7))) au bC Tryz.func221
def apb(yU:List D->Option D)(n:Nat)(ae:D)(an:D)(bb:D)(b4:D)(apc:bu aZ a0 219 yU){r:D}(h:RK yU n ae an bb b4=some r):eB aZ a0 219 [ae,an,bb,b4] (·=r):=eY (b9 n [(219,yU),(221,oK n)] [(3,⟨[al 0,al 1,al 3,sp 6,sp 8,b0 10 5000,al 16,al 17,al 18],[a9 6 4,a9 8 3,br 5000 3],[.slot 10 5000 3]⟩)] [] [(0,⟨[al 0,al 1,al 3,sp 6,sp 8,b0 10 5000],[a9 6 4,a9 8 3,br 5000 3],[]⟩)]) bG (bk apc (bk (apa n) a7)) au bC Tryz.func219 (ca (ca (ca (ca le_nil)))) h
def abm:∀n,bu aZ a0 219 (ry n)
 |0=>(λ_ _ h=>by cases h)
 |n+1=>by
  have ih:=abm n;exact(by
   intro aO r h;unfold ry at h;split at h
   case h_2=>cases h
   exact apb (ry n) n _ _ _ _ ih h)
def apd(n:Nat):bu aZ a0 219 (ry n):=(abm n)
def ape(n:Nat):bu aZ a0 218 (BO n):=g2 (b9 n [(159,sT n),(220,FZ n),(219,ry n)] [] [] []) bG (bk (Tc n) (bk (ao7 n) (bk (apd n) a7))) au bC Tryz.func218
def Te(n:Nat):bu aZ a0 217 (sY n):=g2 (b9 n [(137,mu n),(218,BO n)] [] [] []) bG (bk (My n) (bk (ape n) a7)) au bC Tryz.func217
def abn(n:Nat):bu aZ a0 228 (wI n):=g2 (b9 n [(217,sY n)] [] [] []) bG (bk (Te n) a7) au bC Tryz.func228
def apf(yV:List D->Option D)(n:Nat)(ae:D)(an:D)(apg:bu aZ a0 241 yV){r:D}(h:F7 yV n ae an=some r):eB aZ a0 241 [ae,an] (·=r):=eY (b9 n [(228,wI n),(241,yV)] [(4,⟨[sp 2,al 16,al 17,al 18],[a9 2 8],[]⟩)] [] [(0,⟨[],[],[]⟩)]) bG (bk (abn n) (bk apg a7)) au bC Tryz.func241 (ca (ca le_nil)) h
def abo:∀n,bu aZ a0 241 (sZ n)
 |0=>(λ_ _ h=>by cases h)
 |n+1=>by
  have ih:=abo n;exact(by
   intro aO r h;unfold sZ at h;split at h
   case h_2=>cases h
   exact apf (sZ n) n _ _ ih h)
def aph(n:Nat):bu aZ a0 241 (sZ n):=(abo n)
def api(n:Nat)(ae:D)(c1:List D){r:D}(h:Lu n ae c1=some r):eB aZ a0 232 [ae,.ref c1 0] (·=r):=eY (b9 n [] [] [] []) bG a7 au bC Tryz.func232 (ca (nR oA le_nil)) h
def apj(n:Nat):bu aZ a0 232 (F8 n):=by
 intro aO r h;unfold F8 at h;split at h
 case h_2=>cases h
 split at h
 case h_2=>cases h
 exact api n _ _ h
def apk(n:Nat)(ae:D)(cD:D){r:D}(h:Ga n ae cD=some r):eB aZ a0 154 [ae,(D.fn (.func Bx) [] [cD])] (·=r):=eY (b9 n [(232,F8 n)] [(2,⟨[al 0,(1,.b (.fd Bx 1)),al 7,al 8],[],[]⟩)] [] [(0,⟨[],[],[]⟩)]) bG (bk (apj n) a7) au bC Tryz.func154 (ca (ca le_nil)) h
def apl(n:Nat):bu aZ a0 154 (yW n):=by
 intro aO r h;unfold yW at h;split at h
 case h_2=>cases h
 split at h
 case h_2=>cases h
 rename_i ao;obtain rfl:=lQ ao;exact apk n _ _ h
def apm(n:Nat)(ae:D)(c1:List D){r:D}(h:Lv n ae c1=some r):eB aZ a0 234 [ae,.ref c1 0] (·=r):=eY (b9 n [] [] [] []) bG a7 au bC Tryz.func234 (ca (nR oA le_nil)) h
def apn(n:Nat):bu aZ a0 234 (Gb n):=by
 intro aO r h;unfold Gb at h;split at h
 case h_2=>cases h
 split at h
 case h_2=>cases h
 exact apm n _ _ h
def apo(n:Nat)(ae:D)(cD:D){r:D}(h:Gd n ae cD=some r):eB aZ a0 235 [ae,(D.fn (.func rj) [] [cD])] (·=r):=eY (b9 n [(234,Gb n)] [(2,⟨[al 0,(1,.b (.fd rj 1)),al 7,al 8],[],[]⟩)] [] [(0,⟨[],[],[]⟩)]) bG (bk (apn n) a7) au bC Tryz.func235 (ca (ca le_nil)) h
def apq(n:Nat):bu aZ a0 235 (yX n):=by
 intro aO r h;unfold yX at h;split at h
 case h_2=>cases h
 split at h
 case h_2=>cases h
 rename_i ao;obtain rfl:=lQ ao;exact apo n _ _ h
def apr(n:Nat)(ae:D)(cD:D){r:D}(h:Lw n ae cD=some r):eB aZ a0 233 [ae,(D.fn (.func rj) [] [cD])] (·=r):=eY (b9 n [(235,yX n)] [] [] []) bG (bk (apq n) a7) au bC Tryz.func233 (ca (ca le_nil)) h
def aps(n:Nat):bu aZ a0 233 (yY n):=by
 intro aO r h;unfold yY at h;split at h
 case h_2=>cases h
 split at h
 case h_2=>cases h
 rename_i ao;obtain rfl:=lQ ao;exact apr n _ _ h
def apt(n:Nat):bu aZ a0 231 (wJ n):=g2 (b9 n [(154,yW n),(233,yY n),(217,sY n)] [] [] []) bG (bk (apl n) (bk (aps n) (bk (Te n) a7))) au bC Tryz.func231
def apu(n:Nat):bu aZ a0 227 (BP n):=g2 (b9 n [(228,wI n)] [] [] []) bG (bk (abn n) a7) au bC Tryz.func227
def apv(n:Nat):bu aZ a0 216 (BQ n):=g2 (b9 n [(217,sY n)] [] [] []) bG (bk (Te n) a7) au bC Tryz.func216
def apw(n:Nat)(ae:D)(c1:List D){r:D}(h:Ly n ae c1=some r):eB aZ a0 213 [ae,.ref c1 0] (·=r):=eY (b9 n [] [] [] []) bG a7 au bC Tryz.func213 (ca (nR oA le_nil)) h
def apx(n:Nat):bu aZ a0 213 (Gg n):=by
 intro aO r h;unfold Gg at h;split at h
 case h_2=>cases h
 split at h
 case h_2=>cases h
 exact apw n _ _ h
def apy(n:Nat)(ae:D)(cD:D){r:D}(h:Gi n ae cD=some r):eB aZ a0 212 [ae,(D.fn (.func Bw) [] [cD])] (·=r):=eY (b9 n [(213,Gg n)] [(2,⟨[al 0,(1,.b (.fd Bw 1)),al 7,al 8],[],[]⟩)] [] [(0,⟨[],[],[]⟩)]) bG (bk (apx n) a7) au bC Tryz.func212 (ca (ca le_nil)) h
def apz(n:Nat):bu aZ a0 212 (yZ n):=by
 intro aO r h;unfold yZ at h;split at h
 case h_2=>cases h
 split at h
 case h_2=>cases h
 rename_i ao;obtain rfl:=lQ ao;exact apy n _ _ h
def apA(n:Nat):bu aZ a0 211 (BR n):=g2 ⟨er aZ,a0,ey [(99,rr n),(212,yZ n)],n,[],b3 [(3,⟨[al 0,al 2,b0 7 16,b0 8 18],[br 16 1,br 18 1],[]⟩),(7,⟨[al 0,al 2,b0 7 16,b0 8 18,al 35,al 36,al 37],[br 16 1,br 18 1],[]⟩)],b3 [(52000011,⟨[al 0,al 2,b0 7 16,b0 8 59,al 35,al 36,al 37],[br 16 1,br 59 1],[]⟩)],b3 [(0,⟨[al 2,b0 7 16],[br 16 1],[]⟩),(1,⟨[al 0,al 2,b0 7 16,b0 8 18],[br 16 1,br 18 1],[]⟩),(2,⟨[al 0,al 2,b0 7 16,b0 8 18],[br 16 1,br 18 1],[]⟩),(3,⟨[al 0,al 2,b0 7 16,b0 8 59,al 35,al 36,al 37],[br 16 1,br 59 1],[]⟩)],e7 [],ew [],ff [23],e6 []⟩ bG (bk (Mx n) (bk (apz n) a7)) au bC Tryz.func211
def apB(n:Nat)(ae:D)(c1:List D){r:D}(h:LB n ae c1=some r):eB aZ a0 205 [ae,.ref c1 0] (·=r):=eY (b9 n [] [] [] []) bG a7 au bC Tryz.func205 (ca (nR oA le_nil)) h
def apC(n:Nat):bu aZ a0 205 (Gj n):=by
 intro aO r h;unfold Gj at h;split at h
 case h_2=>cases h
 split at h
 case h_2=>cases h
 exact apB n _ _ h
def apD(n:Nat)(ae:D)(cD:D){r:D}(h:Gl n ae cD=some r):eB aZ a0 154 [ae,(D.fn (.func rh) [] [cD])] (·=r):=eY (b9 n [(205,Gj n)] [(2,⟨[al 0,(1,.b (.fd rh 1)),al 7,al 8],[],[]⟩)] [] [(0,⟨[],[],[]⟩)]) bG (bk (apC n) a7) au bC Tryz.func154 (ca (ca le_nil)) h
def apE(n:Nat):bu aZ a0 154 (y2 n):=by
 intro aO r h;unfold y2 at h;split at h
 case h_2=>cases h
 split at h
 case h_2=>cases h
 rename_i ao;obtain rfl:=lQ ao;exact apD n _ _ h
def apF(n:Nat)(ae:D)(cD:D){r:D}(h:LC n ae cD=some r):eB aZ a0 114 [ae,(D.fn (.func rh) [] [cD])] (·=r):=eY (b9 n [(154,y2 n)] [] [] []) bG (bk (apE n) a7) au bC Tryz.func114 (ca (ca le_nil)) h
def apG(n:Nat):bu aZ a0 114 (y3 n):=by
 intro aO r h;unfold y3 at h;split at h
 case h_2=>cases h
 split at h
 case h_2=>cases h
 rename_i ao;obtain rfl:=lQ ao;exact apF n _ _ h
def apH(n:Nat)(ae:D)(c1:List D){r:D}(h:LD n ae c1=some r):eB aZ a0 207 [ae,.ref c1 0] (·=r):=eY (b9 n [] [] [] []) bG a7 au bC Tryz.func207 (ca (nR oA le_nil)) h
def apI(n:Nat):bu aZ a0 207 (Gm n):=by
 intro aO r h;unfold Gm at h;split at h
 case h_2=>cases h
 split at h
 case h_2=>cases h
 exact apH n _ _ h
def apJ(n:Nat)(ae:D)(cD:D){r:D}(h:Gp n ae cD=some r):eB aZ a0 208 [ae,(D.fn (.func ri) [] [cD])] (·=r):=eY (b9 n [(207,Gm n)] [(2,⟨[al 0,(1,.b (.fd ri 1)),al 7,al 8],[],[]⟩)] [] [(0,⟨[],[],[]⟩)]) bG (bk (apI n) a7) au bC Tryz.func208 (ca (ca le_nil)) h
def apK(n:Nat):bu aZ a0 208 (y4 n):=by
 intro aO r h;unfold y4 at h;split at h
 case h_2=>cases h
 split at h
 case h_2=>cases h
 rename_i ao;obtain rfl:=lQ ao;exact apJ n _ _ h
def apL(n:Nat)(ae:D)(cD:D){r:D}(h:LF n ae cD=some r):eB aZ a0 206 [ae,(D.fn (.func ri) [] [cD])] (·=r):=eY (b9 n [(208,y4 n)] [] [] []) bG (bk (apK n) a7) au bC Tryz.func206 (ca (ca le_nil)) h
def apM(n:Nat):bu aZ a0 206 (y5 n):=by
 intro aO r h;unfold y5 at h;split at h
 case h_2=>cases h
 split at h
 case h_2=>cases h
 rename_i ao;obtain rfl:=lQ ao;exact apL n _ _ h
def apN(n:Nat):bu aZ a0 204 (uJ n):=g2 (b9 n [(113,sR n),(114,y3 n),(206,y5 n)] [] [(17005000,⟨[al 17],[],[]⟩)] []) bG (bk (Tb n) (bk (apG n) (bk (apM n) a7))) au bC Tryz.func204
def apO(n:Nat):bu aZ a0 236 (LG n):=cE (b9 n [] [] [] []) bG a7 au bC Tryz.func236
def apP(n:Nat):bu aZ a0 229 (LH n):=cE (b9 n [] [] [] []) bG a7 au bC Tryz.func229
def apQ(n:Nat):bu aZ a0 225 (LI n):=cE (b9 n [] [] [] []) bG a7 au bC Tryz.func225
def apR(n:Nat):bu aZ a0 214 (LJ n):=cE (b9 n [] [] [] []) bG a7 au bC Tryz.func214
def apS(n:Nat):bu aZ a0 209 (LK n):=cE (b9 n [] [] [] []) bG a7 au bC Tryz.func209
def apT(n:Nat):bu aZ a0 202 (LL n):=cE (b9 n [] [] [] []) bG a7 au bC Tryz.func202
def apU(n:Nat):bu aZ a0 103 (pz n):=dz (b9 n [(137,mu n)] [(2,⟨[al 1,b0 4 5000,al 11,al 12,al 13],[br 5000 4],[.slot 4 5000 4]⟩)] [] [(0,⟨[b0 4 5000],[br 5000 4],[]⟩)]) bG (bk (My n) a7) au bC Tryz.func103
def apV(n:Nat):bu aZ a0 104 (y6 n):=dz (b9 n [(137,mu n)] [(2,⟨[al 1,b0 4 5000,al 11,al 12,al 13],[br 5000 5],[.slot 4 5000 5]⟩)] [] [(0,⟨[b0 4 5000],[br 5000 5],[]⟩)]) bG (bk (My n) a7) au bC Tryz.func104
def apW(y7:List D->Option (List D))(n:Nat)(apX:e5 aZ a0 zU y7):e5 aZ a0 zU (s3 y7 n):=iN ⟨er aZ,a0,ey [(137,mu n)],n,[10000,10001],b3 [(8,⟨[(2,.b (.ptr 10001 0)),sp 3,sp 4,b0 8 5000,al 32,al 33,al 34],[(10001,.box [.fn (.func Lb) [] [.ptr 10000 0,.ptr 10001 0]]),a9 3 6,a9 4 6,br 5000 6,a9 10000 1],[.slot 8 5000 6]⟩)],b3 [],b3 [(0,⟨[sp 3,sp 4,b0 8 5000],[a9 3 6,a9 4 6,br 5000 6,a9 10000 1,(10001,.box [.fn (.func Lb) [] [.ptr 10000 0,.ptr 10001 0]])],[]⟩)],e7 [],ew [(41,⟨zU,y7,6020,[]⟩)],ff [20004],e6 []⟩ bG (bk (My n) a7) (bJ apX au) bC Tryz.func164 []
def abp:∀n,e5 aZ a0 zU (pA n)
 |0=>yk (s:=zU) (yl (T:=er aZ) (os:=λ_=>none) Tryz.func164) (λ_=>rfl)|n+1=>by have ih:=abp n;exact apW (pA n) n ih
def apY(n:Nat):e5 aZ a0 zU (pA n):=(abp n)
def apZ(n:Nat):e5 aZ a0 aaX (LO n):=iN ⟨er aZ,a0,ey [],n,[],b3 [],b3 [],b3 [],e7 [(2,[0,1,2,3])],ew [(6,⟨w1,rq n,6010,[.box 3 0 5900 1,.box 2 0 5901 1]⟩)],ff [],e6 []⟩ bG a7 (bJ (abh n) au) bC Tryz.func99 []
def abq(n:Nat):bu aZ a0 58 (wL n):=cE ⟨er aZ,a0,ey [],n,[],b3 [],b3 [],b3 [],e7 [],ew [(7,⟨aaX,LO n,6010,[]⟩)],ff [],e6 []⟩ bG a7 (bJ (apZ n) au) bC Tryz.func58
def Tf(n:Nat):bu aZ a0 69 (pB n):=dz (b9 n [] [(1,⟨[al 0,al 1],[],[]⟩)] [] [(0,⟨[al 1],[],[]⟩)]) bG a7 au bC Tryz.func69
def ap0(n:Nat):e5 aZ a0 aaY (BT n):=iN ⟨er aZ,a0,ey [(69,pB n)],n,[10000],b3 [(1,⟨[(0,.b (.map 10000)),al 1,al 6,al 7,al 8],[(10000,.map)],[]⟩)],b3 [],b3 [(0,⟨[],[(10000,.map)],[]⟩)],e7 [],ew [],ff [],e6 []⟩ bG (bk (Tf n) a7) au bC Tryz.func109 []
def ap1(n:Nat):e5 aZ a0 aaZ (BU n):=iN ⟨er aZ,a0,ey [(69,pB n)],n,[10000,10001],b3 [(1,⟨[(0,.b (.map 10000)),b0 1 10001,b0 6 10001,al 7,al 8],[(10000,.map),br 10001 1],[]⟩)],b3 [],b3 [(0,⟨[],[(10000,.map),br 10001 1],[]⟩)],e7 [],ew [],ff [],e6 []⟩ bG (bk (Tf n) a7) au bC Tryz.func109 []
def ap2(n:Nat):bu aZ a0 67 (Gw n):=cE ⟨er aZ,a0,ey [(58,wL n)],n,[],b3 [(3,⟨[sp 1,(3,.b (.map 12)),al 14,al 15,al 16],[a9 1 8,(12,.map)],[]⟩),(8,⟨[sp 1,(3,.b (.map 12)),al 34,al 35],[a9 1 8,(12,.map)],[]⟩),(11,⟨[sp 1,(3,.b (.map 12)),al 34,al 35,al 38,al 39,al 40],[a9 1 8,(12,.map)],[]⟩),(17,⟨[(3,.b (.map 12)),al 51,al 52,al 53],[(12,.map)],[]⟩)],b3 [],b3 [(0,⟨[sp 1,(3,.b (.map 12))],[a9 1 8,(12,.map)],[]⟩),(2,⟨[sp 1,(3,.b (.map 12))],[a9 1 8,(12,.map)],[]⟩),(3,⟨[sp 1,(3,.b (.map 12)),al 34,al 35],[a9 1 8,(12,.map)],[]⟩),(4,⟨[sp 1,(3,.b (.map 12)),al 34,al 35],[a9 1 8,(12,.map)],[]⟩),(6,⟨[(3,.b (.map 12))],[(12,.map)],[]⟩)],e7 [(19,[1,2,4,5,6,0,3,7])],ew [(47,⟨aaY,BT n,6010,[]⟩),(65,⟨aaZ,BU n,6020,[]⟩)],ff [],e6 []⟩ bG (bk (abq n) a7) (bJ (ap0 n) (bJ (ap1 n) au)) bC Tryz.func67
def ap3(n:Nat)(ae:D)(c1:List D)(nY:List D){r:D}(h:LU n ae c1 nY=some r):eB aZ a0 68 [ae,.ref c1 0,.ref nY 0] (·=r):=eY (b9 n [(69,pB n)] [] [] []) bG (bk (Tf n) a7) au bC Tryz.func68 (ca (nR oA (nR oA le_nil))) h
def ap4(n:Nat):bu aZ a0 68 (y8 n):=by
 intro aO r h;unfold y8 at h;split at h
 case h_2=>cases h
 split at h
 case h_2=>cases h
 split at h
 case h_2=>cases h
 exact ap3 n _ _ _ h
def ap5(n:Nat)(ae:D)(cD:D)(pC:D){r:D}(h:LV n ae cD pC=some r):eB aZ a0 107 [ae,(D.fn (.func sL) [] [cD,pC])] (·=r):=eY (b9 n [(68,y8 n)] [(2,⟨[al 0,(1,.b (.fd sL 2)),al 7,al 8],[],[]⟩)] [] [(0,⟨[],[],[]⟩)]) bG (bk (ap4 n) a7) au bC Tryz.func107 (ca (ca le_nil)) h
def ap6(n:Nat):bu aZ a0 107 (BV n):=by
 intro aO r h;unfold BV at h;split at h
 case h_2=>cases h
 split at h
 case h_2=>cases h
 rename_i ao;obtain rfl:=lQ ao;exact ap5 n _ _ _ h
def ap7(n:Nat)(ae:D)(cD:D)(pC:D){r:D}(h:LW n ae cD pC=some r):eB aZ a0 57 [ae,(D.fn (.func sL) [] [cD,pC])] (·=r):=eY (b9 n [(107,BV n)] [] [] []) bG (bk (ap6 n) a7) au bC Tryz.func57 (ca (ca le_nil)) h
def ap8(n:Nat):bu aZ a0 57 (y9 n):=by
 intro aO r h;unfold y9 at h;split at h
 case h_2=>cases h
 split at h
 case h_2=>cases h
 rename_i ao;obtain rfl:=lQ ao;exact ap7 n _ _ _ h
def ap9(n:Nat):bu aZ a0 150 (za n):=cE (b9 n [] [] [(4000002,⟨[al 0,al 2],[],[]⟩),(8000005,⟨[al 0,al 2],[],[]⟩),(14000008,⟨[al 0,al 2],[],[]⟩)] []) bG a7 au bC Tryz.func150
def abr(n:Nat):bu aZ a0 111 (rz n):=cE (b9 n [(150,za n)] [] [] []) bG (bk (ap9 n) a7) au bC Tryz.func111
def aqa(n:Nat):bu aZ a0 171 (GA n):=cE (b9 n [] [] [] []) bG a7 au bC Tryz.func171
def zW(n:Nat):bu aZ a0 146 (jm n):=dz (b9 n [(171,GA n)] [] [] []) bG (bk (aqa n) a7) au bC Tryz.func146
def aqb(n:Nat):e5 aZ a0 aa0 (BX n):=iN ⟨er aZ,a0,ey [(146,jm n)],n,[10000],b3 [(1,⟨[b0 0 10000,al 1,al 2,al 6],[br 10000 1],[]⟩),(4,⟨[b0 0 10000,al 1,al 2,al 6,al 7],[br 10000 1],[]⟩)],b3 [],b3 [(0,⟨[],[br 10000 1],[]⟩),(1,⟨[b0 0 10000,al 1,al 2,al 6],[br 10000 1],[]⟩),(2,⟨[b0 0 10000,al 1,al 2,al 6],[br 10000 1],[]⟩)],e7 [(6,[0,1,2,3,5,6,7,8,9,10,11,12,13,14,4,15,16,17])],ew [],ff [],e6 []⟩ bG (bk (zW n) a7) au bC Tryz.func140 []
def abt(n:Nat):e5 aZ a0 S9 (uL n):=iN ⟨er aZ,a0,ey [(146,jm n)],n,[10000],b3 [(1,⟨[b0 0 10000,al 2,al 3,al 8],[br 10000 1],[]⟩)],b3 [(36000004,⟨[b0 0 10000,al 2,al 3,al 8,al 9],[br 10000 1],[]⟩)],b3 [(0,⟨[],[br 10000 1],[]⟩)],e7 [(6,[0,1,2,3,4,5,6,8,9,10,11,12,13,14,15,16,17,18,19,20,7,21,22,23])],ew [],ff [],e6 []⟩ bG (bk (zW n) a7) au bC Tryz.func166 []
def aqc(n:Nat):e5 aZ a0 aa1 (B0 n):=iN ⟨er aZ,a0,ey [],n,[10000],b3 [(4,⟨[b0 0 10000,al 6,al 7,al 8,al 9],[br 10000 1],[]⟩),(8,⟨[b0 0 10000,al 6,al 7,al 10],[br 10000 1],[]⟩)],b3 [],b3 [(0,⟨[b0 0 10000,al 6,al 7,al 8],[br 10000 1],[]⟩),(2,⟨[],[br 10000 1],[]⟩)],e7 [(10,[0,1,2,3,4,6,7,8,9,10,11,12,13,14,15,16,5,17,18,19])],ew [(26,⟨S9,uL n,6010,[]⟩),(55,⟨S9,uL n,6020,[]⟩)],ff [],e6 []⟩ bG a7 (bJ (abt n) (bJ (abt n) au)) bC Tryz.func141 []
def aqd(n:Nat):bu aZ a0 167 (GD n):=cE (b9 n [(111,rz n)] [] [] []) bG (bk (abr n) a7) au bC Tryz.func167
def aqe(n:Nat):e5 aZ a0 aa2 (LZ n):=iN ⟨er aZ,a0,ey [],n,[10000],b3 [],b3 [],b3 [],e7 [],ew [],ff [],e6 []⟩ bG a7 au bC Tryz.func168 []
def aqf(n:Nat):e5 aZ a0 aa3 (zb n):=iN ⟨er aZ,a0,ey [(167,GD n)],n,[10000],b3 [(5,⟨[b0 0 10000,al 1,al 6,sp 7,al 8,al 9],[br 10000 1,a9 7 1],[]⟩)],b3 [(15000002,⟨[],[br 10000 1],[]⟩),(43000009,⟨[b0 0 10000,al 1,al 6,sp 7,al 8,al 9,al 10],[br 10000 1,a9 7 1],[]⟩)],b3 [(0,⟨[],[br 10000 1],[]⟩)],e7 [(10,[0,1,2,3,4,6,7,8,9,10,11,12,13,14,15,16,5,17,18,19])],ew [(36,⟨aa2,LZ n,6010,[]⟩)],ff [],e6 []⟩ bG (bk (aqd n) a7) (bJ (aqe n) au) bC Tryz.func142 []
def Tg(n:Nat):e5 aZ a0 Mv (s4 n):=iN ⟨er aZ,a0,ey [(146,jm n)],n,[10000],b3 [],b3 [],b3 [],e7 [],ew [],ff [],e6 []⟩ bG (bk (zW n) a7) au bC Tryz.func183 []
def abu(n:Nat):e5 aZ a0 Ta (uN n):=iN ⟨er aZ,a0,ey [],n,[10000],b3 [],b3 [],b3 [],e7 [],ew [(16,⟨Mv,s4 n,6010,[]⟩),(24,⟨Mv,s4 n,6020,[]⟩),(32,⟨Mv,s4 n,6030,[]⟩)],ff [],e6 []⟩ bG a7 (bJ (Tg n) (bJ (Tg n) (bJ (Tg n) au))) bC Tryz.func170 []
def Th(n:Nat):e5 aZ a0 Mw (pD n):=iN ⟨er aZ,a0,ey [],n,[10000],b3 [],b3 [],b3 [],e7 [],ew [(14,⟨Ta,uN n,6010,[]⟩)],ff [],e6 []⟩ bG a7 (bJ (abu n) au) bC Tryz.func169 []
def aqg(n:Nat):bu aZ a0 143 (wM n):=g2 ⟨er aZ,a0,ey [],n,[],b3 [],b3 [(32000007,⟨[sp 9,al 11],[a9 9 1],[]⟩),(34000008,⟨[al 0,sp 9,al 10,al 11,al 12],[a9 9 1],[]⟩)],b3 [],e7 [],ew [(37,⟨Mw,pD n,6010,[]⟩),(40,⟨Mw,pD n,6020,[]⟩),(43,⟨Mw,pD n,6030,[]⟩),(48,⟨Ta,uN n,6040,[]⟩)],ff [],e6 []⟩ bG a7 (bJ (Th n) (bJ (Th n) (bJ (Th n) (bJ (abu n) au)))) bC Tryz.func143
def aqh(n:Nat):e5 aZ a0 aa4 (B1 n):=iN ⟨er aZ,a0,ey [],n,[10000],b3 [(2,⟨[b0 0 10000,al 6,al 7],[br 10000 1],[]⟩)],b3 [],b3 [(0,⟨[],[br 10000 1],[]⟩)],e7 [],ew [],ff [],e6 []⟩ bG a7 au bC Tryz.func144 []
def aqi(n:Nat):e5 aZ a0 aa5 (wO n):=iN ⟨er aZ,a0,ey [(146,jm n)],n,[10000],b3 [(3,⟨[b0 0 10000,al 1,al 2,al 7,al 8],[br 10000 1],[]⟩),(5,⟨[b0 0 10000,al 1,al 2,al 7,al 8],[br 10000 1],[]⟩),(14,⟨[b0 0 10000,al 1,al 2,al 7,al 8,al 9],[br 10000 1],[]⟩),(20,⟨[b0 0 10000,al 1,al 2,al 7,al 8,al 10],[br 10000 1],[]⟩)],b3 [(61000013,⟨[b0 0 10000,al 1,al 2,al 7,al 8],[br 10000 1],[]⟩),(98000019,⟨[b0 0 10000,al 1,al 2,al 7,al 8],[br 10000 1],[]⟩)],b3 [(0,⟨[],[br 10000 1],[]⟩),(1,⟨[b0 0 10000,al 1,al 2,al 7,al 8],[br 10000 1],[]⟩),(2,⟨[b0 0 10000,al 1,al 2,al 7,al 8],[br 10000 1],[]⟩),(4,⟨[b0 0 10000,al 1,al 2,al 7,al 8],[br 10000 1],[]⟩),(6,⟨[b0 0 10000,al 1,al 2,al 7,al 8],[br 10000 1],[]⟩)],e7 [(11,[0,1,2,3,5,6,7,8,9,10,11,12,13,14,4,15,16,17]),(17,[0,1,2,3,5,6,7,8,9,10,11,12,13,14,4,15,16,17]),(23,[0,1,2,3,5,6,7,8,9,10,11,12,13,14,4,15,16,17])],ew [],ff [],e6 []⟩ bG (bk (zW n) a7) au bC Tryz.func145 []
def aqj(n:Nat):e5 aZ a0 aa6 (B6 n):=iN ⟨er aZ,a0,ey [(146,jm n)],n,[10000],b3 [(3,⟨[b0 0 10000,al 1,al 9,al 10],[br 10000 1],[]⟩),(5,⟨[b0 0 10000,al 1,al 9,al 10],[br 10000 1],[]⟩)],b3 [],b3 [(0,⟨[al 9],[br 10000 1],[]⟩),(1,⟨[b0 0 10000,al 1,al 9,al 10],[br 10000 1],[]⟩),(2,⟨[b0 0 10000,al 1,al 9,al 10],[br 10000 1],[]⟩),(4,⟨[b0 0 10000,al 1,al 9,al 10],[br 10000 1],[]⟩)],e7 [],ew [],ff [],e6 []⟩ bG (bk (zW n) a7) au bC Tryz.func147 []
def aqk(n:Nat):e5 aZ a0 aa7 (zi n):=iN ⟨er aZ,a0,ey [(146,jm n)],n,[10000],b3 [(3,⟨[b0 0 10000,al 1,al 10,al 11],[br 10000 1],[]⟩),(5,⟨[b0 0 10000,al 1,al 10,al 11],[br 10000 1],[]⟩),(13,⟨[b0 0 10000,al 1,al 10,al 11],[br 10000 1],[]⟩),(15,⟨[b0 0 10000,al 1,al 10,al 11],[br 10000 1],[]⟩)],b3 [],b3 [(0,⟨[b0 0 10000,al 1,al 10,al 11],[br 10000 1],[]⟩),(2,⟨[b0 0 10000,al 1,al 10,al 11],[br 10000 1],[]⟩),(4,⟨[b0 0 10000,al 1,al 11],[br 10000 1],[]⟩),(5,⟨[b0 0 10000,al 1,al 10,al 11],[br 10000 1],[]⟩),(6,⟨[b0 0 10000,al 1,al 10,al 11],[br 10000 1],[]⟩),(8,⟨[b0 0 10000,al 1,al 10,al 11],[br 10000 1],[]⟩)],e7 [],ew [],ff [],e6 []⟩ bG (bk (zW n) a7) au bC Tryz.func148 []
def aql(lV:List D->Option (List D))(n:Nat)(abv:e5 aZ a0 w3 lV):e5 aZ a0 w3 (Sh lV n):=iN ⟨er aZ,a0,ey [(143,wM n),(146,jm n)],n,[10000],b3 [(2,⟨[b0 0 10000,al 1,al 2,al 3,al 8,al 9],[br 10000 1],[]⟩)],b3 [(35000008,⟨[b0 0 10000,al 1,al 2,al 3,al 8,al 9,al 10],[br 10000 1],[]⟩),(50000012,⟨[b0 0 10000,al 1,al 2,al 3,al 8,al 9,al 10,al 11,al 12],[br 10000 1],[]⟩),(68000016,⟨[b0 0 10000,al 1,al 2,al 3,al 8,al 9,al 10,al 11],[br 10000 1],[]⟩),(113028025,⟨[b0 0 10000,al 1,al 2,al 3,al 8,al 9],[br 10000 1],[]⟩)],b3 [(1,⟨[b0 0 10000,al 1,al 2,al 3,al 8,al 9],[br 10000 1],[]⟩)],e7 [],ew [(27,⟨aa0,BX n,6010,[]⟩),(33,⟨aa1,B0 n,6020,[]⟩),(39,⟨aa3,zb n,6030,[]⟩),(54,⟨aa4,B1 n,6040,[]⟩),(72,⟨aa5,wO n,6050,[]⟩),(92,⟨aa6,B6 n,6060,[]⟩),(99,⟨aa7,zi n,6070,[]⟩),(121,⟨w3,lV,6080,[]⟩),(132,⟨w3,lV,6090,[]⟩)],ff [],e6 []⟩ bG (bk (aqg n) (bk (zW n) a7)) (bJ (aqb n) (bJ (aqc n) (bJ (aqf n) (bJ (aqh n) (bJ (aqi n) (bJ (aqj n) (bJ (aqk n) (bJ abv (bJ abv au))))))))) bC Tryz.func110 []
def abw:∀n,e5 aZ a0 w3 (rB n)
 |0=>yk (s:=w3) (yl (T:=er aZ) (os:=λ_=>none) Tryz.func110) (λ_=>rfl)|n+1=>by have ih:=abw n;exact aql (rB n) n ih
def aqm(n:Nat):e5 aZ a0 w3 (rB n):=(abw n)
def aqn(n:Nat):e5 aZ a0 aa8 (Cc n):=iN ⟨er aZ,a0,ey [(111,rz n)],n,[10000],b3 [],b3 [],b3 [],e7 [],ew [(10,⟨w3,rB n,6010,[]⟩)],ff [],e6 []⟩ bG (bk (abr n) a7) (bJ (aqm n) au) bC Tryz.func70 []
def abx(n:Nat):bu aZ a0 33 (uT n):=dz ⟨er aZ,a0,ey [(67,Gw n),(57,y9 n)],n,[],b3 [(4,⟨[al 1,sp 5,b0 6 5001,al 13,al 14,al 15],[a9 5 1,br 5001 1],[.slot 6 5001 1]⟩)],b3 [(22000008,⟨[al 1,sp 5,b0 6 27,al 13,al 14,al 15],[a9 5 1,br 27 1],[.slot 6 5000 1]⟩)],b3 [(0,⟨[b0 6 5001],[br 5001 1],[]⟩),(1,⟨[al 1,sp 5,b0 6 27,al 13,al 14,al 15],[a9 5 1,br 27 1],[]⟩)],e7 [],ew [(30,⟨aa8,Cc n,6010,[]⟩)],ff [],e6 []⟩ bG (bk (ap2 n) (bk (ap8 n) a7)) (bJ (aqn n) au) bC Tryz.func33
def aqo(n:Nat)(ae:D)(c1:List D){r:D}(h:Si n ae c1=some r):eB aZ a0 54 [ae,.ref c1 0] (·=r):=eY (b9 n [(55,sQ n)] [] [] []) bG (bk (abd n) a7) au bC Tryz.func54 (ca (nR oA le_nil)) h
def Ti(n:Nat):bu aZ a0 54 (rC n):=by
 intro aO r h;unfold rC at h;split at h
 case h_2=>cases h
 split at h
 case h_2=>cases h
 exact aqo n _ _ h
def aqp(n:Nat)(ae:D)(c1:List D){r:D}(h:Sj n ae c1=some r):eB aZ a0 61 [ae,.ref c1 0] (·=r):=eY ⟨((er aZ).vY [(7,[54])]),a0,ey [(54,rC n)],n,[],b3 [],b3 [],b3 [],e7 [],ew [],ff [],e6 []⟩ ((tok _).vY _) (bk (Ti n) a7) au bC Tryz.func61 (ca (nR oA le_nil)) h
def aqq(n:Nat):bu aZ a0 61 (Ce n):=by
 intro aO r h;unfold Ce at h;split at h
 case h_2=>cases h
 split at h
 case h_2=>cases h
 exact aqp n _ _ h
def aqr(n:Nat)(ae:D)(cD:D){r:D}(h:Sk n ae cD=some r):eB aZ a0 60 [ae,(D.fn (.func uA) [] [cD])] (·=r):=eY (b9 n [(61,Ce n)] [(3,⟨[(1,.b (.fd uA 1)),b0 5 5001,al 8,al 9,al 10],[br 5001 4],[.slot 5 5001 4]⟩)] [(16000006,⟨[(1,.b (.fd uA 1)),b0 5 20,al 8,al 9,al 10],[br 20 4],[.slot 5 5000 4]⟩)] [(0,⟨[b0 5 5001],[br 5001 4],[]⟩),(1,⟨[(1,.b (.fd uA 1)),b0 5 20,al 8,al 9,al 10],[br 20 4],[]⟩)]) bG (bk (aqq n) a7) au bC Tryz.func60 (ca (ca le_nil)) h
def aqs(n:Nat):bu aZ a0 60 (Cf n):=by
 intro aO r h;unfold Cf at h;split at h
 case h_2=>cases h
 split at h
 case h_2=>cases h
 rename_i ao;obtain rfl:=lQ ao;exact aqr n _ _ h
def aqt(n:Nat)(ae:D)(c1:List D){r:D}(h:Sl n ae c1=some r):eB aZ a0 59 [ae,.ref c1 0] (·=r):=eY ⟨((er aZ).vY [(6,[54])]),a0,ey [(54,rC n)],n,[],b3 [],b3 [],b3 [],e7 [],ew [],ff [],e6 []⟩ ((tok _).vY _) (bk (Ti n) a7) au bC Tryz.func59 (ca (nR oA le_nil)) h
def aqu(n:Nat):bu aZ a0 59 (Cg n):=by
 intro aO r h;unfold Cg at h;split at h
 case h_2=>cases h
 split at h
 case h_2=>cases h
 exact aqt n _ _ h
def aqv(n:Nat)(ae:D)(cD:D){r:D}(h:L7 n ae cD=some r):eB aZ a0 107 [ae,(D.fn (.func sK) [] [cD])] (·=r):=eY (b9 n [(59,Cg n)] [(2,⟨[al 0,(1,.b (.fd sK 1)),al 7,al 8],[],[]⟩)] [] [(0,⟨[],[],[]⟩)]) bG (bk (aqu n) a7) au bC Tryz.func107 (ca (ca le_nil)) h
def aqw(n:Nat):bu aZ a0 107 (Ch n):=by
 intro aO r h;unfold Ch at h;split at h
 case h_2=>cases h
 split at h
 case h_2=>cases h
 rename_i ao;obtain rfl:=lQ ao;exact aqv n _ _ h
def aqx(n:Nat)(ae:D)(cD:D){r:D}(h:L8 n ae cD=some r):eB aZ a0 57 [ae,(D.fn (.func sK) [] [cD])] (·=r):=eY (b9 n [(107,Ch n)] [] [] []) bG (bk (aqw n) a7) au bC Tryz.func57 (ca (ca le_nil)) h
def aqy(n:Nat):bu aZ a0 57 (zk n):=by
 intro aO r h;unfold zk at h;split at h
 case h_2=>cases h
 split at h
 case h_2=>cases h
 rename_i ao;obtain rfl:=lQ ao;exact aqx n _ _ h
def aqz(n:Nat)(ae:D)(c1:List D){r:D}(h:Sm n ae c1=some r):eB aZ a0 56 [ae,.ref c1 0] (·=r):=eY (b9 n [(58,wL n),(57,zk n)] [] [] []) bG (bk (abq n) (bk (aqy n) a7)) au bC Tryz.func56 (ca (nR oA le_nil)) h
def aqA(n:Nat):bu aZ a0 56 (Ci n):=by
 intro aO r h;unfold Ci at h;split at h
 case h_2=>cases h
 split at h
 case h_2=>cases h
 exact aqz n _ _ h
def aqB(n:Nat)(ae:D)(cD:D){r:D}(h:Sn n ae cD=some r):eB aZ a0 62 [ae,(D.fn (.func qi) [] [cD])] (·=r):=eY (b9 n [(56,Ci n)] [(3,⟨[(1,.b (.fd qi 1)),b0 5 5001,al 8,al 9,al 10],[br 5001 4],[.slot 5 5001 4]⟩)] [(16000006,⟨[(1,.b (.fd qi 1)),b0 5 20,al 8,al 9,al 10],[br 20 4],[.slot 5 5000 4]⟩)] [(0,⟨[b0 5 5001],[br 5001 4],[]⟩),(1,⟨[(1,.b (.fd qi 1)),b0 5 20,al 8,al 9,al 10],[br 20 4],[]⟩)]) bG (bk (aqA n) a7) au bC Tryz.func62 (ca (ca le_nil)) h
def aqC(n:Nat):bu aZ a0 62 (uU n):=by
 intro aO r h;unfold uU at h;split at h
 case h_2=>cases h
 split at h
 case h_2=>cases h
 rename_i ao;obtain rfl:=lQ ao;exact aqB n _ _ h
def aqD(n:Nat)(ae:D)(c1:List D){r:D}(h:So n ae c1=some r):eB aZ a0 64 [ae,.ref c1 0] (·=r):=eY ⟨((er aZ).vY [(7,[54])]),a0,ey [(54,rC n)],n,[],b3 [],b3 [],b3 [],e7 [],ew [],ff [],e6 []⟩ ((tok _).vY _) (bk (Ti n) a7) au bC Tryz.func64 (ca (nR oA le_nil)) h
def aqE(n:Nat):bu aZ a0 64 (Cj n):=by
 intro aO r h;unfold Cj at h;split at h
 case h_2=>cases h
 split at h
 case h_2=>cases h
 exact aqD n _ _ h
def aqF(n:Nat)(ae:D)(cD:D){r:D}(h:Sp n ae cD=some r):eB aZ a0 63 [ae,(D.fn (.func uB) [] [cD])] (·=r):=eY (b9 n [(64,Cj n)] [(3,⟨[(1,.b (.fd uB 1)),b0 5 5001,al 8,al 9,al 10],[br 5001 5],[.slot 5 5001 5]⟩)] [(16000006,⟨[(1,.b (.fd uB 1)),b0 5 20,al 8,al 9,al 10],[br 20 5],[.slot 5 5000 5]⟩)] [(0,⟨[b0 5 5001],[br 5001 5],[]⟩),(1,⟨[(1,.b (.fd uB 1)),b0 5 20,al 8,al 9,al 10],[br 20 5],[]⟩)]) bG (bk (aqE n) a7) au bC Tryz.func63 (ca (ca le_nil)) h
def aqG(n:Nat):bu aZ a0 63 (Ck n):=by
 intro aO r h;unfold Ck at h;split at h
 case h_2=>cases h
 split at h
 case h_2=>cases h
 rename_i ao;obtain rfl:=lQ ao;exact aqF n _ _ h
def aby(n:Nat):bu aZ a0 29 (wQ n):=dz ⟨er aZ,a0,ey [(33,uT n),(60,Cf n),(62,uU n),(63,Ck n)],n,[],b3 [],b3 [],b3 [],e7 [],ew [],ff [],e6 [(4,[[],[5],[6]])]⟩ bG (bk (abx n) (bk (aqs n) (bk (aqC n) (bk (aqG n) a7)))) au bC Tryz.func29
def aqH(n:Nat):bu aZ a0 12 (Sr n):=dz (b9 n [] [(4,⟨[al 0,al 1,al 5],[],[]⟩)] [] [(0,⟨[],[],[]⟩)]) bG a7 au bC Tryz.func12
def aqI(n:Nat):bu aZ a0 78 (Cl n):=dz (b9 n [] [(4,⟨[al 0,al 1,al 12,al 13],[],[]⟩)] [] [(0,⟨[],[],[]⟩)]) bG a7 au bC Tryz.func78
def aqJ(zl:List D->Option D)(n:Nat)(ae:D)(an:D)(aqK:bu aZ a0 75 zl){r:D}(h:GY zl n ae an=some r):eB aZ a0 75 [ae,an] (·=r):=eY (b9 n [(75,zl)] [(4,⟨[sp 3,al 36,al 37,al 38],[a9 3 4],[]⟩)] [] [(0,⟨[],[],[]⟩)]) bG (bk aqK a7) au bC Tryz.func75 (ca (ca le_nil)) h
def abz:∀n,bu aZ a0 75 (qn n)
 |0=>(λ_ _ h=>by cases h)
 |n+1=>by
  have ih:=abz n;exact(by
   intro aO r h;unfold qn at h;split at h
   case h_2=>cases h
   exact aqJ (qn n) n _ _ ih h)
def abA(n:Nat):bu aZ a0 75 (qn n):=(abz n)
def aqL(n:Nat):bu aZ a0 74 (Cm n):=dz (b9 n [(75,qn n)] [] [] []) bG (bk (abA n) a7) au bC Tryz.func74
def aqM(n:Nat)(ae:D)(an:D){r:D}(h:L9 n ae an=some r):eB aZ a0 79 [ae,an,(D.val (.func (.func yw) #[] #[]))] (·=r):=eY (b9 n [(74,Cm n)] [(4,⟨[al 1,(2,.b (.Ez yw)),al 15,al 16,al 17],[],[]⟩)] [] [(0,⟨[],[],[]⟩)]) bG (bk (aqL n) a7) au bC Tryz.func79 (ca (ca (ca le_nil))) h
def aqN(n:Nat):bu aZ a0 79 (zm n):=by
 intro aO r h;unfold zm at h;split at h
 case h_2=>cases h
 obtain⟨ao,h⟩:=ll h;obtain rfl:=QQ ao;exact aqM n _ _ h
def aqO(n:Nat)(ae:D)(an:D){r:D}(h:Ma n ae an=some r):eB aZ a0 77 [ae,an,(D.val (.func (.func Bv) #[] #[]))] (·=r):=eY (b9 n [(75,qn n)] [(4,⟨[al 1,(2,.b (.Ez Bv)),al 15,al 16,al 17],[],[]⟩)] [] [(0,⟨[],[],[]⟩)]) bG (bk (abA n) a7) au bC Tryz.func77 (ca (ca (ca le_nil))) h
def aqP(n:Nat):bu aZ a0 77 (Cn n):=by
 intro aO r h;unfold Cn at h;split at h
 case h_2=>cases h
 obtain⟨ao,h⟩:=ll h;obtain rfl:=QQ ao;exact aqO n _ _ h
def aqQ(n:Nat):bu aZ a0 76 (uV n):=dz (b9 n [(77,Cn n)] [] [] []) bG (bk (aqP n) a7) au bC Tryz.func76
def aqR(n:Nat):bu aZ a0 39 (G1 n):=dz (b9 n [(78,Cl n),(79,zm n),(76,uV n)] [] [] []) bG (bk (aqI n) (bk (aqN n) (bk (aqQ n) a7))) au bC Tryz.func39
def abB(n:Nat):bu aZ a0 117 (zn n):=cE (b9 n [] [] [] []) bG a7 au bC Tryz.func117
def aqS(n:Nat):bu aZ a0 155 (G2 n):=cE (b9 n [] [] [] []) bG a7 au bC Tryz.func155
def aqT(n:Nat):bu aZ a0 118 (G4 n):=g2 (b9 n [(155,G2 n),(117,zn n)] [(1,⟨[al 0,al 1,al 2],[],[]⟩)] [] [(0,⟨[al 1],[],[]⟩)]) bG (bk (aqS n) (bk (abB n) a7)) au bC Tryz.func118
def aqU(n:Nat):bu aZ a0 120 (Mb n):=Ep (b9 n [] [] [] []) bG a7 au bC Tryz.func120
def aqV(n:Nat):bu aZ a0 119 (Cp n):=dz (b9 n [] [(2,⟨[al 0,al 1,al 5],[],[]⟩)] [] [(0,⟨[],[],[]⟩)]) bG a7 au bC Tryz.func119
def Tj(n:Nat):bu aZ a0 80 (s7 n):=cE (b9 n [(117,zn n),(118,G4 n),(120,Mb n),(119,Cp n)] [] [] []) bG (bk (abB n) (bk (aqT n) (bk (aqU n) (bk (aqV n) a7)))) au bC Tryz.func80
def aqW(n:Nat):bu aZ a0 81 (Cq n):=cE (b9 n [] [] [] []) bG a7 au bC Tryz.func81
def abC(n:Nat):bu aZ a0 82 (zo n):=cE (b9 n [] [] [(19000007,⟨[al 3],[],[]⟩)] []) bG a7 au bC Tryz.func82
def aqX(n:Nat):bu aZ a0 40 (G7 n):=cE (b9 n [(80,s7 n),(81,Cq n),(82,zo n)] [(2,⟨[al 0,al 4],[],[]⟩),(7,⟨[al 0,al 4,al 5],[],[]⟩)] [] [(0,⟨[],[],[]⟩),(1,⟨[al 0,al 4],[],[]⟩),(2,⟨[al 0,al 4],[],[]⟩)]) bG (bk (Tj n) (bk (aqW n) (bk (abC n) a7))) au bC Tryz.func40
def aqY(n:Nat):bu aZ a0 83 (G8 n):=cE (b9 n [] [(2,⟨[al 0,al 3],[],[]⟩)] [] [(0,⟨[al 3],[],[]⟩)]) bG a7 au bC Tryz.func83
def aqZ(n:Nat):bu aZ a0 41 (G9 n):=cE (b9 n [(82,zo n),(83,G8 n)] [(3,⟨[sp 1,al 3,al 4],[a9 1 8],[]⟩)] [] [(0,⟨[al 3],[],[]⟩)]) bG (bk (abC n) (bk (aqY n) a7)) au bC Tryz.func41
def abD(n:Nat):bu aZ a0 84 (zr n):=dz (b9 n [] [(2,⟨[al 1,sp 2,al 5],[a9 2 8],[]⟩)] [] [(0,⟨[],[],[]⟩)]) bG a7 au bC Tryz.func84
def abE(n:Nat):bu aZ a0 85 (zs n):=dz (b9 n [] [(2,⟨[al 1,sp 2,al 5],[a9 2 8],[]⟩)] [] [(0,⟨[],[],[]⟩)]) bG a7 au bC Tryz.func85
def aq0(n:Nat):bu aZ a0 182 (Hd n):=dz (b9 n [] [(2,⟨[al 0,al 1,al 5],[],[]⟩)] [] [(0,⟨[],[],[]⟩)]) bG a7 au bC Tryz.func182
def aq1(n:Nat):bu aZ a0 165 (zt n):=dz (b9 n [(182,Hd n)] [(6,⟨[al 0,al 1,b0 5 12,al 6,al 7],[br 12 1],[]⟩)] [(28000009,⟨[al 0,al 1,b0 5 32,al 6,al 7],[br 32 1],[]⟩),(41000013,⟨[b0 5 45],[br 45 1],[]⟩)] [(0,⟨[al 1,b0 5 12,al 6],[br 12 1],[]⟩)]) bG (bk (aq0 n) a7) au bC Tryz.func165
def aq2(zu:List D->Option D)(n:Nat)(ae:D)(an:D)(bb:D)(aq3:bu aZ a0 139 zu){r:D}(h:He zu n ae an bb=some r):eB aZ a0 139 [ae,an,bb] (·=r):=eY (b9 n [(165,zt n),(139,zu)] [(4,⟨[al 1,al 2,sp 3,al 7],[a9 3 4],[]⟩)] [(11000002,⟨[al 1,al 2,sp 3],[a9 3 4],[]⟩)] [(0,⟨[al 2],[],[]⟩)]) bG (bk (aq1 n) (bk aq3 a7)) au bC Tryz.func139 (ca (ca (ca le_nil))) h
def abF:∀n,bu aZ a0 139 (rE n)
 |0=>(λ_ _ h=>by cases h)
 |n+1=>by
  have ih:=abF n;exact(by
   intro aO r h;unfold rE at h;split at h
   case h_2=>cases h
   exact aq2 (rE n) n _ _ _ ih h)
def aq4(n:Nat):bu aZ a0 139 (rE n):=(abF n)
def Mz(n:Nat):bu aZ a0 108 (rF n):=cE (b9 n [(139,rE n)] [] [] []) bG (bk (aq4 n) a7) au bC Tryz.func108
def aq5(n:Nat):bu aZ a0 86 (Hf n):=dz (b9 n [(108,rF n),(85,zs n)] [(4,⟨[sp 2,b0 5 15,b0 6 17,al 7],[a9 2 8,br 15 1,br 17 1],[]⟩),(8,⟨[sp 2,b0 5 15,b0 6 17,al 7,al 8,al 10],[a9 2 8,br 15 1,br 17 1],[]⟩)] [(57000012,⟨[sp 2,b0 5 15,b0 6 64,al 7,al 8,al 10],[a9 2 8,br 15 1,br 64 1],[]⟩)] [(0,⟨[b0 5 15],[br 15 1],[]⟩),(1,⟨[sp 2,b0 5 15,b0 6 17,al 7],[a9 2 8,br 15 1,br 17 1],[]⟩),(2,⟨[sp 2,b0 5 15,b0 6 17,al 7],[a9 2 8,br 15 1,br 17 1],[]⟩),(3,⟨[sp 2,b0 5 15,b0 6 64,al 7,al 8,al 10],[a9 2 8,br 15 1,br 64 1],[]⟩)]) bG (bk (Mz n) (bk (abE n) a7)) au bC Tryz.func86
def aq6(n:Nat):bu aZ a0 158 (Ct n):=cE (b9 n [] [] [(5003000,⟨[al 0,al 4,al 5],[],[]⟩),(5004000,⟨[al 0,al 4,al 5],[],[]⟩),(5005000,⟨[al 0,al 4,al 5],[],[]⟩),(12010000,⟨[al 0,al 4,al 12],[],[]⟩)] [(0,⟨[al 0],[],[]⟩)]) bG a7 au bC Tryz.func158
def abG(n:Nat):bu aZ a0 127 (zw n):=dz (b9 n [(158,Ct n)] [] [(22000008,⟨[sp 2,al 5,al 6,al 7,al 8],[a9 2 4],[]⟩),(25000010,⟨[sp 2,al 5,al 6,al 7,al 8],[a9 2 4],[]⟩)] []) bG (bk (aq6 n) a7) au bC Tryz.func127
def aq7(zx:List D->Option D)(n:Nat)(ae:D)(an:D)(bb:D)(aq8:bu aZ a0 123 zx){r:D}(h:SD zx n ae an bb=some r):eB aZ a0 123 [ae,an,bb] (·=r):=eY (b9 n [(127,zw n),(123,zx)] [(8,⟨[al 1,al 2,sp 3,al 9],[a9 3 4],[]⟩)] [] [(0,⟨[al 2],[],[]⟩)]) bG (bk (abG n) (bk aq8 a7)) au bC Tryz.func123 (ca (ca (ca le_nil))) h
def abH:∀n,bu aZ a0 123 (s8 n)
 |0=>(λ_ _ h=>by cases h)
 |n+1=>by
  have ih:=abH n;exact(by
   intro aO r h;unfold s8 at h;split at h
   case h_2=>cases h
   exact aq7 (s8 n) n _ _ _ ih h)
def aq9(n:Nat):bu aZ a0 123 (s8 n):=(abH n)
def Tk(n:Nat):bu aZ a0 91 (uW n):=cE (b9 n [(123,s8 n)] [] [] []) bG (bk (aq9 n) a7) au bC Tryz.func91
def abI(n:Nat):bu aZ a0 126 (wR n):=dz (b9 n [] [(2,⟨[al 0,al 1,al 5],[],[]⟩)] [] [(0,⟨[],[],[]⟩)]) bG a7 au bC Tryz.func126
def ara(n:Nat):bu aZ a0 124 (Hj n):=dz (b9 n [(108,rF n),(126,wR n)] [(4,⟨[al 1,b0 5 10,al 6,al 8],[br 10 1],[]⟩)] [(29000008,⟨[al 1,b0 5 33,al 6,al 8],[br 33 1],[]⟩)] [(0,⟨[b0 5 10],[br 10 1],[]⟩),(1,⟨[al 1,b0 5 33,al 6,al 8],[br 33 1],[]⟩)]) bG (bk (Mz n) (bk (abI n) a7)) au bC Tryz.func124
def abJ(n:Nat):bu aZ a0 125 (wS n):=dz (b9 n [] [(2,⟨[al 0,al 1,al 5],[],[]⟩)] [] [(0,⟨[],[],[]⟩)]) bG a7 au bC Tryz.func125
def arb(zy:List D->Option D)(n:Nat)(ae:D)(an:D)(bb:D)(arc:bu aZ a0 92 zy){r:D}(h:Mi zy n ae an bb=some r):eB aZ a0 92 [ae,an,bb] (·=r):=eY ⟨(er Tryz.prog).sx [42],a0,ey [(124,Hj n),(125,wS n),(92,zy)],n,[],b3 [(3,⟨[al 1,al 2,al 7,al 8],[],[]⟩)],b3 [(24000006,⟨[al 1,al 2,al 7,al 8],[],[]⟩)],b3 [(0,⟨[al 2],[],[]⟩),(1,⟨[al 1,al 2,al 7,al 8],[],[]⟩)],e7 [(6,[0,1,2,3,4,5,6,7,12,13,14,15,8,9,10,11,16,17,18,19])],ew [],ff [],e6 []⟩ ((tok _).sx _) (bk (ara n) (bk (abJ n) (bk arc a7))) au bC Tryz.func92 (ca (ca (ca le_nil))) h
def abK:∀n,bu aZ a0 92 (qo n)
 |0=>(λ_ _ h=>by cases h)
 |n+1=>by
  have ih:=abK n;exact(by
   intro aO r h;unfold qo at h;split at h
   case h_2=>cases h
   exact arb (qo n) n _ _ _ ih h)
def abL(n:Nat):bu aZ a0 92 (qo n):=(abK n)
def ard(n:Nat):bu aZ a0 93 (Hm n):=dz (b9 n [(92,qo n),(125,wS n)] [] [] []) bG (bk (abL n) (bk (abJ n) a7)) au bC Tryz.func93
def are(wT:List D->Option D)(n:Nat)(ae:D)(an:D)(bb:D)(b4:D)(arf:bu aZ a0 94 wT){r:D}(h:rH wT n ae an bb b4=some r):eB aZ a0 94 [ae,an,bb,b4] (·=r):=eY (b9 n [(126,wR n),(94,wT),(127,zw n)] [(13,⟨[al 1,al 2,al 3,sp 4,sp 8,b0 13 53,al 14],[a9 4 4,a9 8 4,br 53 4],[]⟩)] [(20000002,⟨[al 1,al 2,al 3,sp 4,sp 8],[a9 4 4,a9 8 4],[]⟩)] [(0,⟨[al 3,sp 4,sp 8,b0 13 53],[a9 4 4,a9 8 4,br 53 4],[]⟩)]) bG (bk (abI n) (bk arf (bk (abG n) a7))) au bC Tryz.func94 (ca (ca (ca (ca le_nil)))) h
def abM:∀n,bu aZ a0 94 (rI n)
 |0=>(λ_ _ h=>by cases h)
 |n+1=>by
  have ih:=abM n;exact(by
   intro aO r h;unfold rI at h;split at h
   case h_2=>cases h
   exact are (rI n) n _ _ _ _ ih h)
def arh(n:Nat):bu aZ a0 94 (rI n):=(abM n)
def MA(n:Nat):bu aZ a0 47 (my n):=dz (b9 n [(91,uW n),(92,qo n),(93,Hm n),(94,rI n)] [(6,⟨[al 1,sp 2,sp 4,al 7,al 8],[a9 2 4,a9 4 4],[]⟩)] [] [(0,⟨[al 1,sp 2,sp 4],[a9 2 4,a9 4 4],[]⟩)]) bG (bk (Tk n) (bk (abL n) (bk (ard n) (bk (arh n) a7)))) au bC Tryz.func47
def abN(n:Nat):bu aZ a0 173 (qp n):=dz (b9 n [] [] [] []) bG a7 au bC Tryz.func173
def ari(n:Nat):bu aZ a0 174 (Hs n):=dz (b9 n [] [(2,⟨[al 0,al 1,al 5],[],[]⟩)] [] [(0,⟨[],[],[]⟩)]) bG a7 au bC Tryz.func174
def arj(n:Nat):bu aZ a0 184 (Hu n):=cE (b9 n [] [(2,⟨[al 0,al 3],[],[]⟩)] [] [(0,⟨[],[],[]⟩)]) bG a7 au bC Tryz.func184
def ark(n:Nat):bu aZ a0 185 (Hv n):=dz (b9 n [] [(4,⟨[b0 6 30,al 7,al 8,al 9],[br 30 1],[]⟩)] [] [(0,⟨[al 7,al 8],[],[]⟩)]) bG a7 au bC Tryz.func185
def arl(n:Nat):bu aZ a0 175 (zz n):=dz (b9 n [(184,Hu n),(173,qp n),(185,Hv n)] [] [(13005000,⟨[al 1,sp 2,sp 4,sp 6,al 7,al 12,al 13],[a9 2 4,a9 4 3,a9 6 3],[]⟩),(13006000,⟨[al 1,sp 2,sp 4,sp 6,al 7,al 12,al 13],[a9 2 4,a9 4 3,a9 6 3],[]⟩),(13007000,⟨[al 1,sp 2,sp 4,sp 6,al 7,al 12,al 13],[a9 2 4,a9 4 3,a9 6 3],[]⟩),(13008000,⟨[al 1,sp 2,sp 4,sp 6,al 7,al 12,al 13],[a9 2 4,a9 4 3,a9 6 3],[]⟩),(25013000,⟨[al 1,sp 2,sp 4,sp 6,al 7,al 12,al 25],[a9 2 4,a9 4 3,a9 6 3],[]⟩)] [(0,⟨[al 1,sp 2,sp 4,sp 6,al 7],[a9 2 4,a9 4 3,a9 6 3],[]⟩)]) bG (bk (arj n) (bk (abN n) (bk (ark n) a7))) au bC Tryz.func175
def arn(zA:List D->Option D)(n:Nat)(ae:D)(an:D)(bb:D)(aro:bu aZ a0 156 zA){r:D}(h:uX zA n ae an bb=some r):eB aZ a0 156 [ae,an,bb] (·=r):=eY (b9 n [(173,qp n),(174,Hs n),(156,zA),(175,zz n)] [(18,⟨[al 0,al 2,sp 4,sp 6,b0 9 64,al 10],[a9 4 4,a9 6 3,br 64 3],[]⟩)] [(27007000,⟨[al 0,al 2,sp 4,sp 6,al 27],[a9 4 4,a9 6 3],[]⟩)] [(1,⟨[sp 4,sp 6,b0 9 64],[a9 4 4,a9 6 3,br 64 3],[]⟩)]) bG (bk (abN n) (bk (ari n) (bk aro (bk (arl n) a7)))) au bC Tryz.func156 (ca (ca (ca le_nil))) h
def abO:∀n,bu aZ a0 156 (mY n)
 |0=>(λ_ _ h=>by cases h)
 |n+1=>by
  have ih:=abO n;exact(by
   intro aO r h;unfold mY at h;split at h
   case h_2=>cases h
   exact arn (mY n) n _ _ _ ih h)
def arp(n:Nat):bu aZ a0 156 (mY n):=(abO n)
def arq(n:Nat):bu aZ a0 121 (Cy n):=g2 (b9 n [(91,uW n),(156,mY n)] [] [] []) bG (bk (Tk n) (bk (arp n) a7)) au bC Tryz.func121
def Tl(n:Nat):bu aZ a0 87 (s9 n):=g2 (b9 n [(47,my n),(121,Cy n)] [] [] []) bG (bk (MA n) (bk (arq n) a7)) au bC Tryz.func87
def ars(n:Nat):bu aZ a0 42 (wU n):=cE (b9 n [(80,s7 n),(84,zr n),(85,zs n),(86,Hf n),(87,s9 n)] [(2,⟨[sp 1,al 4],[a9 1 8],[]⟩),(9,⟨[sp 1,al 5],[a9 1 8],[]⟩),(14,⟨[sp 1,al 6],[a9 1 8],[]⟩)] [] [(0,⟨[sp 1],[a9 1 8],[]⟩),(2,⟨[sp 1],[a9 1 8],[]⟩),(4,⟨[],[],[]⟩)]) bG (bk (Tj n) (bk (abD n) (bk (abE n) (bk (aq5 n) (bk (Tl n) a7))))) au bC Tryz.func42
def abP(n:Nat):bu aZ a0 88 (wV n):=g2 (b9 n [(87,s9 n)] [] [] []) bG (bk (Tl n) a7) au bC Tryz.func88
def art(n:Nat):bu aZ a0 43 (uY n):=g2 (b9 n [(88,wV n)] [(2,⟨[al 1,al 2,sp 3,al 8],[a9 3 8],[]⟩)] [] [(0,⟨[],[],[]⟩)]) bG (bk (abP n) a7) au bC Tryz.func43
def aru(n:Nat):bu aZ a0 44 (CA n):=cE (b9 n [(84,zr n),(87,s9 n)] [(2,⟨[sp 1,al 4],[a9 1 8],[]⟩),(8,⟨[sp 1,al 4,al 5,al 6],[a9 1 8],[]⟩)] [(69000014,⟨[sp 1,al 4,al 8],[a9 1 8],[]⟩)] [(0,⟨[],[],[]⟩),(1,⟨[sp 1,al 4],[a9 1 8],[]⟩),(2,⟨[sp 1,al 4,al 5],[a9 1 8],[]⟩)]) bG (bk (abD n) (bk (Tl n) a7)) au bC Tryz.func44
def arv(n:Nat):bu aZ a0 176 (CB n):=cE (b9 n [] [] [(6005000,⟨[al 3,al 6],[],[]⟩),(6006000,⟨[al 3,al 6],[],[]⟩),(6007000,⟨[al 3,al 6],[],[]⟩),(6008000,⟨[al 3,al 6],[],[]⟩),(6009000,⟨[al 3,al 6],[],[]⟩),(6010000,⟨[al 3,al 6],[],[]⟩),(14013000,⟨[al 14],[],[]⟩),(14014000,⟨[al 14],[],[]⟩),(14015000,⟨[al 14],[],[]⟩),(14016000,⟨[al 14],[],[]⟩)] [(0,⟨[],[],[]⟩)]) bG a7 au bC Tryz.func176
def arw(n:Nat):bu aZ a0 177 (HB n):=cE (b9 n [] [] [] []) bG a7 au bC Tryz.func177
def arx(n:Nat):bu aZ a0 157 (uZ n):=cE (b9 n [(176,CB n),(91,uW n),(108,rF n),(177,HB n)] [] [(12000004,⟨[sp 1],[a9 1 6],[]⟩)] []) bG (bk (arv n) (bk (Tk n) (bk (Mz n) (bk (arw n) a7)))) au bC Tryz.func157
def ary(zC:List D->Option D)(n:Nat)(ae:D)(an:D)(bb:D)(arz:bu aZ a0 122 zC){r:D}(h:SU zC n ae an bb=some r):eB aZ a0 122 [ae,an,bb] (·=r):=eY (b9 n [(157,uZ n),(122,zC)] [(10,⟨[al 1,al 2,sp 3,al 9],[a9 3 6],[]⟩)] [] [(0,⟨[al 2],[],[]⟩)]) bG (bk (arx n) (bk arz a7)) au bC Tryz.func122 (ca (ca (ca le_nil))) h
def abQ:∀n,bu aZ a0 122 (ta n)
 |0=>(λ_ _ h=>by cases h)
 |n+1=>by
  have ih:=abQ n;exact(by
   intro aO r h;unfold ta at h;split at h
   case h_2=>cases h
   exact ary (ta n) n _ _ _ ih h)
def arA(n:Nat):bu aZ a0 122 (ta n):=(abQ n)
def abR(n:Nat):bu aZ a0 89 (zD n):=cE (b9 n [(122,ta n)] [] [] []) bG (bk (arA n) a7) au bC Tryz.func89
def arB(zE:List D->Option D)(n:Nat)(ae:D)(an:D)(arC:bu aZ a0 90 zE){r:D}(h:HD zE n ae an=some r):eB aZ a0 90 [ae,an] (·=r):=eY (b9 n [(88,wV n),(90,zE)] [(4,⟨[sp 2,sp 3,al 5],[a9 2 8,a9 3 6],[]⟩)] [] [(0,⟨[],[],[]⟩)]) bG (bk (abP n) (bk arC a7)) au bC Tryz.func90 (ca (ca le_nil)) h
def abS:∀n,bu aZ a0 90 (tb n)
 |0=>(λ_ _ h=>by cases h)
 |n+1=>by
  have ih:=abS n;exact(by
   intro aO r h;unfold tb at h;split at h
   case h_2=>cases h
   exact arB (tb n) n _ _ ih h)
def arD(n:Nat):bu aZ a0 90 (tb n):=(abS n)
def arE(n:Nat):bu aZ a0 45 (CE n):=cE (b9 n [(80,s7 n),(89,zD n),(90,tb n)] [(2,⟨[sp 1,al 4],[a9 1 8],[]⟩),(7,⟨[sp 1,al 4,al 5],[a9 1 8],[]⟩)] [(50000013,⟨[sp 1,al 4,al 6],[a9 1 8],[]⟩)] [(0,⟨[],[],[]⟩),(1,⟨[sp 1,al 4],[a9 1 8],[]⟩),(2,⟨[sp 1,al 4],[a9 1 8],[]⟩)]) bG (bk (Tj n) (bk (abR n) (bk (arD n) a7))) au bC Tryz.func45
def abT(n:Nat):bu aZ a0 18 (rJ n):=cE (b9 n [(40,G7 n),(41,G9 n),(42,wU n),(43,uY n),(44,CA n),(45,CE n)] [(3,⟨[sp 1,sp 2,b0 4 33,al 5],[a9 1 8,a9 2 2,br 33 1],[]⟩),(13,⟨[sp 1,sp 2,al 6,al 7,al 8],[a9 1 8,a9 2 2],[]⟩)] [(68018017,⟨[sp 1,sp 2,al 6,al 7,al 8],[a9 1 8,a9 2 2],[]⟩),(75020019,⟨[sp 1,sp 2,al 6,al 7,al 8],[a9 1 8,a9 2 2],[]⟩),(84022021,⟨[sp 1,sp 2,al 6,al 7,al 8],[a9 1 8,a9 2 2],[]⟩),(93024023,⟨[sp 1,sp 2,al 6,al 7,al 8],[a9 1 8,a9 2 2],[]⟩),(100026025,⟨[sp 1,sp 2,al 6,al 7,al 8],[a9 1 8,a9 2 2],[]⟩),(109028027,⟨[sp 1,sp 2,al 6,al 7,al 8],[a9 1 8,a9 2 2],[]⟩),(118000029,⟨[sp 1,sp 2,al 6,al 7,al 8],[a9 1 8,a9 2 2],[]⟩)] [(0,⟨[sp 1,sp 2],[a9 1 8,a9 2 2],[]⟩),(2,⟨[sp 2],[a9 2 2],[]⟩),(3,⟨[sp 1,sp 2,al 6,al 7,al 8],[a9 1 8,a9 2 2],[]⟩),(4,⟨[sp 1,sp 2,al 6,al 7,al 8],[a9 1 8,a9 2 2],[]⟩)]) bG (bk (aqX n) (bk (aqZ n) (bk (ars n) (bk (art n) (bk (aru n) (bk (arE n) a7)))))) au bC Tryz.func18
def arF(n:Nat):bu aZ a0 46 (pF n):=dz (b9 n [(47,my n)] [(3,⟨[al 0,al 1,b0 7 11,al 8],[br 11 4],[]⟩)] [] [(0,⟨[b0 7 11],[br 11 4],[]⟩)]) bG (bk (MA n) a7) au bC Tryz.func46
def arG(zF:List D->Option D)(n:Nat)(ae:D)(an:D)(arH:bu aZ a0 95 zF){r:D}(h:tc zF n ae an=some r):eB aZ a0 95 [ae,an] (·=r):=eY (b9 n [(47,my n),(95,zF)] [(9,⟨[al 1,sp 2,sp 4,b0 8 29,al 9],[a9 2 6,a9 4 6,br 29 6],[]⟩)] [] [(0,⟨[sp 2,sp 4,b0 8 29],[a9 2 6,a9 4 6,br 29 6],[]⟩)]) bG (bk (MA n) (bk arH a7)) au bC Tryz.func95 (ca (ca le_nil)) h
def abU:∀n,bu aZ a0 95 (oL n)
 |0=>(λ_ _ h=>by cases h)
 |n+1=>by
  have ih:=abU n;exact(by
   intro aO r h;unfold oL at h;split at h
   case h_2=>cases h
   exact arG (oL n) n _ _ ih h)
def arI(n:Nat):bu aZ a0 95 (oL n):=(abU n)
def arJ(n:Nat):bu aZ a0 48 (zG n):=dz (b9 n [(89,zD n),(95,oL n)] [] [] []) bG (bk (abR n) (bk (arI n) a7)) au bC Tryz.func48
def arK(n:Nat):bu aZ a0 20 (HE n):=cE ⟨er aZ,a0,ey [(46,pF n),(47,my n),(48,zG n)],n,[],b3 [(11,⟨[sp 1,sp 2,sp 3,sp 5,al 9],[a9 1 8,a9 2 8,a9 3 2,(5,.box [.b (.d),.b (.d),.b (.d),.b (.d),.b (.row 5000),.b (.d),.b (.d),.b (.d)]),br 5000 5],[.box 5 4 5000 5]⟩),(26,⟨[sp 1,sp 2,sp 3,sp 5,al 12],[a9 1 8,a9 2 8,a9 3 2,(5,.box [.b (.d),.b (.d),.b (.d),.b (.d),.b (.row 5000),.b (.d),.b (.d),.b (.row 5001)]),br 5000 5,br 5001 7],[.box 5 7 5001 7]⟩)],b3 [],b3 [(0,⟨[sp 1,sp 2,sp 3,sp 5],[a9 1 8,a9 2 8,a9 3 2,(5,.box [.b (.d),.b (.d),.b (.d),.b (.d),.b (.row 5000),.b (.d),.b (.d),.b (.d)]),br 5000 5],[]⟩),(2,⟨[sp 2,sp 3,sp 5],[a9 2 8,a9 3 2,(5,.box [.b (.d),.b (.d),.b (.d),.b (.d),.b (.row 5000),.b (.d),.b (.d),.b (.row 5001)]),br 5000 5,br 5001 7],[]⟩)],e7 [],ew [],ff [20002],e6 []⟩ bG (bk (arF n) (bk (MA n) (bk (arJ n) a7))) au bC Tryz.func20
def MB(n:Nat):bu aZ a0 32 (oM n):=dz (b9 n [] [(2,⟨[al 0,al 1,al 5],[],[]⟩)] [] [(0,⟨[],[],[]⟩)]) bG a7 au bC Tryz.func32
def abV(n:Nat):bu aZ a0 66 (wY n):=cE (b9 n [(108,rF n),(32,oM n)] [(4,⟨[al 4,b0 5 14,al 6],[br 14 1],[]⟩)] [(27000007,⟨[al 4,b0 5 34,al 6],[br 34 1],[]⟩)] [(0,⟨[b0 5 14],[br 14 1],[]⟩),(1,⟨[al 4,b0 5 34,al 6],[br 34 1],[]⟩)]) bG (bk (Mz n) (bk (MB n) a7)) au bC Tryz.func66
def arL(n:Nat):bu aZ a0 49 (HI n):=cE ⟨(er Tryz.prog).sx [57],a0,ey [(66,wY n)],n,[],b3 [(4,⟨[sp 1,b0 3 7,b0 4 20,al 5],[a9 1 8,br 7 1,br 20 4],[]⟩),(8,⟨[sp 1,b0 3 7,al 6],[a9 1 8,br 7 1],[]⟩)],b3 [],b3 [(0,⟨[sp 1,b0 3 7],[a9 1 8,br 7 1],[]⟩),(2,⟨[b0 3 7],[br 7 1],[]⟩)],e7 [(2,[1,2,4,5,7,8,10,11,0,3,6,9,12,13]),(10,[1,2,3,4,5,6,8,9,10,11,12,13,14,0,7,15,16,17,18])],ew [],ff [],e6 []⟩ ((tok _).sx _) (bk (abV n) a7) au bC Tryz.func49
def abW(n:Nat):bu aZ a0 65 (zI n):=dz (b9 n [(32,oM n)] [(2,⟨[al 0,al 1,al 5],[],[]⟩)] [] [(0,⟨[],[],[]⟩)]) bG (bk (MB n) a7) au bC Tryz.func65
def arM(n:Nat):bu aZ a0 30 (CO n):=dz (b9 n [(32,oM n),(49,HI n),(65,zI n)] [(3,⟨[al 1,sp 2,b0 5 11,al 6],[a9 2 8,br 11 1],[]⟩),(9,⟨[sp 2,b0 5 11,al 7,al 8],[a9 2 8,br 11 1],[]⟩),(12,⟨[sp 2,b0 5 11,al 7,al 8,al 9],[a9 2 8,br 11 1],[]⟩),(16,⟨[sp 2,b0 5 11,al 7,al 8,al 9,al 10],[a9 2 8,br 11 1],[]⟩)] [(26000006,⟨[al 1,sp 2,b0 5 35,al 6],[a9 2 8,br 35 1],[]⟩),(76000019,⟨[sp 2,b0 5 86,al 7,al 8,al 9,al 10],[a9 2 8,br 86 1],[]⟩)] [(0,⟨[sp 2,b0 5 11],[a9 2 8,br 11 1],[]⟩),(1,⟨[al 1,sp 2,b0 5 35,al 6],[a9 2 8,br 35 1],[]⟩),(2,⟨[b0 5 11],[br 11 1],[]⟩),(3,⟨[sp 2,b0 5 11,al 7,al 8],[a9 2 8,br 11 1],[]⟩),(4,⟨[sp 2,b0 5 11,al 7,al 8],[a9 2 8,br 11 1],[]⟩),(5,⟨[sp 2,b0 5 11,al 7,al 8,al 9],[a9 2 8,br 11 1],[]⟩),(6,⟨[sp 2,b0 5 11,al 7,al 8,al 9],[a9 2 8,br 11 1],[]⟩),(7,⟨[sp 2,b0 5 86,al 7,al 8,al 9,al 10],[a9 2 8,br 86 1],[]⟩)]) bG (bk (MB n) (bk (arL n) (bk (abW n) a7))) au bC Tryz.func30
def arN(n:Nat):bu aZ a0 31 (qq n):=dz (b9 n [(66,wY n),(65,zI n)] [(3,⟨[al 0,al 1,b0 5 8,al 6],[br 8 4],[]⟩)] [(27000007,⟨[al 0,al 1,b0 5 34,al 6],[br 34 4],[]⟩)] [(0,⟨[b0 5 8],[br 8 4],[]⟩),(1,⟨[al 0,al 1,b0 5 34,al 6],[br 34 4],[]⟩)]) bG (bk (abV n) (bk (abW n) a7)) au bC Tryz.func31
def arO(n:Nat):bu aZ a0 11 (zJ n):=dz ⟨er aZ,a0,ey [(18,rJ n),(20,HE n),(30,CO n),(31,qq n),(32,oM n)],n,[],b3 [(8,⟨[sp 4,sp 8,al 11,sp 12,al 13],[a9 4 8,a9 8 8,(12,.box [.b (.row 5001),.b (.d),.b (.d),.b (.d),.b (.d),.b (.d),.b (.d),.b (.d)]),br 5001 4],[.box 12 0 5001 4]⟩),(13,⟨[sp 4,sp 8,al 11,sp 12,al 14],[a9 4 8,a9 8 8,(12,.box [.b (.row 5001),.b (.d),.b (.d),.b (.d),.b (.row 5003),.b (.d),.b (.d),.b (.d)]),br 5001 4,br 5003 5],[.box 12 4 5003 5]⟩)],b3 [(63000011,⟨[sp 4,sp 8,al 11,sp 12,al 13],[a9 4 8,a9 8 8,(12,.box [.b (.row 72),.b (.d),.b (.d),.b (.d),.b (.d),.b (.d),.b (.d),.b (.d)]),br 72 4],[.box 12 0 5000 4]⟩),(88000016,⟨[sp 4,sp 8,al 11,sp 12,al 14],[a9 4 8,a9 8 8,(12,.box [.b (.row 5001),.b (.d),.b (.d),.b (.d),.b (.row 97),.b (.d),.b (.d),.b (.d)]),br 5001 4,br 97 5],[.box 12 4 5002 5]⟩)],b3 [(0,⟨[sp 4,sp 8,al 11,sp 12],[a9 4 8,a9 8 8,(12,.box [.b (.row 5001),.b (.d),.b (.d),.b (.d),.b (.d),.b (.d),.b (.d),.b (.d)]),br 5001 4],[]⟩),(1,⟨[sp 4,sp 8,al 11,sp 12,al 13],[a9 4 8,a9 8 8,(12,.box [.b (.row 72),.b (.d),.b (.d),.b (.d),.b (.d),.b (.d),.b (.d),.b (.d)]),br 72 4],[]⟩),(2,⟨[sp 4,sp 12],[a9 4 8,(12,.box [.b (.row 5001),.b (.d),.b (.d),.b (.d),.b (.row 5003),.b (.d),.b (.d),.b (.d)]),br 5001 4,br 5003 5],[]⟩),(3,⟨[sp 4,sp 8,al 11,sp 12,al 14],[a9 4 8,a9 8 8,(12,.box [.b (.row 5001),.b (.d),.b (.d),.b (.d),.b (.row 97),.b (.d),.b (.d),.b (.d)]),br 5001 4,br 97 5],[]⟩)],e7 [],ew [],ff [20004],e6 []⟩ bG (bk (abT n) (bk (arK n) (bk (arM n) (bk (arN n) (bk (MB n) a7))))) au bC Tryz.func11
def arP(zK:List D->Option D)(n:Nat)(ae:D)(an:D)(arQ:bu aZ a0 71 zK){r:D}(h:HM zK n ae an=some r):eB aZ a0 71 [ae,an] (·=r):=eY (b9 n [(71,zK)] [(4,⟨[sp 2,sp 3,al 5],[a9 2 4,a9 3 4],[]⟩)] [] [(0,⟨[],[],[]⟩)]) bG (bk arQ a7) au bC Tryz.func71 (ca (ca le_nil)) h
def abX:∀n,bu aZ a0 71 (te n)
 |0=>(λ_ _ h=>by cases h)
 |n+1=>by
  have ih:=abX n;exact(by
   intro aO r h;unfold te at h;split at h
   case h_2=>cases h
   exact arP (te n) n _ _ ih h)
def arR(n:Nat):bu aZ a0 71 (te n):=(abX n)
def arS(zL:List D->Option D)(n:Nat)(ae:D)(an:D)(arT:bu aZ a0 35 zL){r:D}(h:CS zL n ae an=some r):eB aZ a0 35 [ae,an] (·=r):=eY (b9 n [(71,te n),(35,zL)] [(4,⟨[sp 2,sp 3,al 5],[a9 2 6,a9 3 6],[]⟩)] [] [(0,⟨[],[],[]⟩)]) bG (bk (arR n) (bk arT a7)) au bC Tryz.func35 (ca (ca le_nil)) h
def abY:∀n,bu aZ a0 35 (nZ n)
 |0=>(λ_ _ h=>by cases h)
 |n+1=>by
  have ih:=abY n;exact(by
   intro aO r h;unfold nZ at h;split at h
   case h_2=>cases h
   exact arS (nZ n) n _ _ ih h)
def abZ(n:Nat):bu aZ a0 35 (nZ n):=(abY n)
def ab0(n:Nat):bu aZ a0 37 (rL n):=dz (b9 n [(35,nZ n)] [(4,⟨[al 0,al 1,al 5],[],[]⟩)] [] [(0,⟨[],[],[]⟩)]) bG (bk (abZ n) a7) au bC Tryz.func37
def arU(n:Nat):bu aZ a0 36 (zM n):=dz ⟨(er Tryz.prog).sx [34,40],a0,ey [(37,rL n)],n,[],b3 [(4,⟨[al 0,al 1,al 5],[],[]⟩)],b3 [],b3 [(0,⟨[],[],[]⟩)],e7 [],ew [],ff [],e6 []⟩ ((tok _).sx _) (bk (ab0 n) a7) au bC Tryz.func36
def arV(n:Nat):bu aZ a0 15 (u0 n):=dz (b9 n [(35,nZ n),(36,zM n),(37,rL n)] [(4,⟨[sp 2,sp 3,al 5],[a9 2 8,a9 3 8],[]⟩),(9,⟨[sp 2,sp 3,al 6],[a9 2 8,a9 3 8],[]⟩)] [] [(0,⟨[sp 2,sp 3],[a9 2 8,a9 3 8],[]⟩),(2,⟨[sp 2,sp 3],[a9 2 8,a9 3 8],[]⟩)]) bG (bk (abZ n) (bk (arU n) (bk (ab0 n) a7))) au bC Tryz.func15
def arW(n:Nat):bu aZ a0 19 (HP n):=cE (b9 n [] [(3,⟨[sp 1,b0 3 5,al 4],[a9 1 8,br 5 1],[]⟩)] [] [(0,⟨[b0 3 5],[br 5 1],[]⟩)]) bG a7 au bC Tryz.func19
def arX(n:Nat):bu aZ a0 17 (wZ n):=dz (b9 n [(18,rJ n),(19,HP n),(11,zJ n),(15,u0 n)] [] [] []) bG (bk (abT n) (bk (arW n) (bk (arO n) (bk (arV n) a7)))) au bC Tryz.func17
def arY(zO:List D->Option (List D))(n:Nat)(arZ:e5 aZ a0 zV zO):e5 aZ a0 zV (S3 zO n):=iN ⟨er aZ,a0,ey [],n,[10000,10001],b3 [(4,⟨[al 1,(2,.fn (.func Zh) [] [.ptr 10000 0,.ptr 10001 0]),al 15,al 16,al 17],[a9 10000 1,a9 10001 1],[]⟩)],b3 [],b3 [(0,⟨[],[a9 10000 1,a9 10001 1],[]⟩)],e7 [],ew [(12,⟨aaV,FM n,6010,[]⟩),(25,⟨zV,zO,6020,[]⟩)],ff [],e6 []⟩ bG a7 (bJ (aoX n) (bJ arZ au)) bC Tryz.func128 []
def ab1:∀n,e5 aZ a0 zV (u1 n)
 |0=>yk (s:=zV) (yl (T:=er aZ) (os:=λ_=>none) Tryz.func128) (λ_=>rfl)|n+1=>by have ih:=ab1 n;exact arY (u1 n) n ih
def ar0(n:Nat):e5 aZ a0 zV (u1 n):=(ab1 n)
def ab2(n:Nat):bu aZ a0 96 (zP n):=cE ⟨er aZ,a0,ey [],n,[],b3 [],b3 [],b3 [],e7 [],ew [(7,⟨zV,u1 n,6010,[]⟩)],ff [],e6 []⟩ bG a7 (bJ (ar0 n) au) bC Tryz.func96
def ar1(n:Nat):bu aZ a0 238 (u2 n):=g2 (b9 n [(113,sR n),(239,yI n),(96,zP n),(241,sZ n)] [] [] []) bG (bk (Tb n) (bk (aoL n) (bk (ab2 n) (bk (aph n) a7)))) au bC Tryz.func238
def ab3(n:Nat):bu aZ a0 38 (rM n):=cE ⟨((er Tryz.prog).Kh [114,115,116,118,119,120]),a0,ey [(72,BF n),(73,Fx n),(237,Fy n),(230,Fz n),(226,rp n),(215,FB n),(210,FC n),(203,FD n),(238,u2 n),(231,wJ n),(227,BP n),(216,BQ n),(211,BR n),(204,uJ n),(236,LG n),(229,LH n),(225,LI n),(214,LJ n),(209,LK n),(202,LL n)],n,[],b3 [(2,⟨[sp 1,sp 2,al 36,al 37],[a9 1 8,a9 2 2],[]⟩),(13,⟨[sp 1,sp 2,al 93,al 94],[a9 1 8,a9 2 2],[]⟩),(16,⟨[sp 1,sp 2,al 9,al 93,al 94,al 98,al 99],[a9 1 8,a9 2 2],[]⟩)],b3 [],b3 [(0,⟨[sp 1,sp 2],[a9 1 8,a9 2 2],[]⟩),(2,⟨[sp 2],[a9 2 2],[]⟩),(3,⟨[sp 1,sp 2,al 93,al 94],[a9 1 8,a9 2 2],[]⟩),(4,⟨[sp 1,sp 2,al 93,al 94],[a9 1 8,a9 2 2],[]⟩)],e7 [],ew [],ff [],e6 []⟩ ((tok _).Kh _) (bk (aow n) (bk (aoz n) (bk (aoA n) (bk (aoB n) (bk (aoC n) (bk (aoD n) (bk (aoE n) (bk (aoF n) (bk (ar1 n) (bk (apt n) (bk (apu n) (bk (apv n) (bk (apA n) (bk (apN n) (bk (apO n) (bk (apP n) (bk (apQ n) (bk (apR n) (bk (apS n) (bk (apT n) a7)))))))))))))))))))) au bC Tryz.func38
def ar2(n:Nat):bu aZ a0 138 (zQ n):=dz ⟨er aZ,a0,ey [(96,zP n)],n,[],b3 [],b3 [],b3 [],e7 [],ew [(17,⟨zU,pA n,6010,[]⟩)],ff [],e6 []⟩ bG (bk (ab2 n) a7) (bJ (apY n) au) bC Tryz.func138
def ar3(n:Nat):bu aZ a0 105 (zR n):=dz (b9 n [(138,zQ n)] [(2,⟨[al 1,b0 4 5000,al 11,al 12,al 13],[br 5000 7],[.slot 4 5000 7]⟩)] [] [(0,⟨[b0 4 5000],[br 5000 7],[]⟩)]) bG (bk (ar2 n) a7) au bC Tryz.func105
def ar4(n:Nat):bu aZ a0 53 (HS n):=cE ⟨er aZ,a0,ey [(103,pz n),(104,y6 n),(105,zR n)],n,[],b3 [],b3 [],b3 [],e7 [(4,[1,2,0,3,4,5,6,7]),(7,[1,2,0,3,4,5,6,7]),(10,[1,2,0,3,4,5,6,7]),(13,[1,2,0,3,4,5,6,7]),(16,[1,2,0,3,4,5,6,7]),(19,[1,2,0,3,4,5,6,7])],ew [],ff [],e6 []⟩ bG (bk (apU n) (bk (apV n) (bk (ar3 n) a7))) au bC Tryz.func53
def Tn(n:Nat):bu aZ a0 28 (tg n):=cE (b9 n [(38,rM n),(53,HS n)] [] [] []) bG (bk (ab3 n) (bk (ar4 n) a7)) au bC Tryz.func28
def ar5(n:Nat):bu aZ a0 10 (Mt n):=dz (b9 n [(28,tg n),(29,wQ n)] [] [] []) bG (bk (Tn n) (bk (aby n) a7)) au bC Tryz.func10
def ar6(n:Nat):bu aZ a0 13 (S7 n):=dz (b9 n [(28,tg n),(33,uT n)] [] [] []) bG (bk (Tn n) (bk (abx n) a7)) au bC Tryz.func13
def ab4(n:Nat):bu aZ a0 16 (th n):=dz ⟨er aZ,a0,ey [(28,tg n),(38,rM n),(29,wQ n),(39,G1 n)],n,[],b3 [(7,⟨[sp 3,sp 5,b0 9 5000,al 35,al 36,al 37],[a9 3 8,a9 5 8,br 5000 1],[.slot 9 5000 1]⟩)],b3 [],b3 [(0,⟨[sp 3,sp 5,b0 9 5000],[a9 3 8,a9 5 8,br 5000 1],[]⟩)],e7 [],ew [],ff [],e6 [(11,[[5000],[],[]])]⟩ bG (bk (Tn n) (bk (ab3 n) (bk (aby n) (bk (aqR n) a7)))) au bC Tryz.func16
def ar7(n:Nat):bu aZ a0 9 (HV n):=Ep ⟨er aZ,a0,ey [(27,Ld n),(10,Mt n),(13,S7 n),(12,Sr n),(16,th n)],n,[],b3 [],b3 [],b3 [],e7 [],ew [],ff [19,25,30],e6 []⟩ bG (bk (aok n) (bk (ar5 n) (bk (ar6 n) (bk (aqH n) (bk (ab4 n) a7))))) au bC Tryz.func9
def ar8(n:Nat):bu aZ a0 4 (HW n):=dz (b9 n [(7,wB n),(9,HV n),(16,th n),(17,wZ n)] [] [] []) bG (bk (aoj n) (bk (ar7 n) (bk (ab4 n) (bk (arX n) a7)))) au bC Tryz.func4
end Go.Am
