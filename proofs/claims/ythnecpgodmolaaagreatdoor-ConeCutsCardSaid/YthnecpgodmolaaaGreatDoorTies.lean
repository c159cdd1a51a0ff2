/- That the functions of the program compute this. No condition. -/
import Derived.Test.YthnecpgodmolaaaGreatDoorCode
import Derived.Test.YthnecpgodmolaaaGreatDoorProg
import Derived.KernelRfl
set_option linter.all false
set_option linter.unnecessarySimpa false
namespace Go.Am
open Go.Proofs
set_option maxRecDepth 100000
noncomputable abbrev aZ:Program:=Tryz.prog
theorem bB:aZ.follows .mixedOrders=true:=by kernel_rfl
def bF:dM aZ (ej aZ):=tok _
def a0:dm:=λg=>if g=0 then some Fb else none
noncomputable abbrev b8(n:Nat):=aj4 aZ a0 n
def a8:hj aZ a0 (en []):=aj1
def au:kV aZ a0 (ek []):=ajZ
def bj{f:FuncId}{F:List D->Option D}{l:List (FuncId×(List D->Option D))}(h:bw aZ a0 f F)(bz:hj aZ a0 (en l)):hj aZ a0 (en ((f,F)::l)):=aj2 h bz
def bJ{t:Tmp}{e:Bg}{l:List (Tmp×Bg)}(h:e2 aZ a0 e.s e.F)(bz:kV aZ a0 (ek l)):kV aZ a0 (ek ((t,e)::l)):=aj0 h bz
def aaF:fM:=⟨178,[.b (.d),.b (.d),.b (.ptr 10000 0),.b (.ptr 10001 0)],[a7 10000 1,a7 10001 1],.b (.d),[a7 10000 1,a7 10001 1]⟩
def S0:fM:=⟨135,[.b (.row 9000),.b (.d)],[br 9000 1],.b (.row 9000),[br 9000 1]⟩
def aaG:fM:=⟨134,[.b (.d),.b (.d),.b (.ptr 10000 0),.b (.ptr 10001 0)],[(10000,.box [.b (.row 9000)]),(10001,.box [.b (.row 9001)]),br 9000 1,br 9001 1],.b (.d),[(10000,.box [.b (.row 9000)]),(10001,.box [.b (.row 9001)]),br 9000 1,br 9001 1]⟩
def zR:fM:=⟨133,[.b (.d),.b (.d),.fn (.func Y2) [] [.ptr 10000 0,.ptr 10001 0]],[a7 10000 1,a7 10001 1],.b (.d),[a7 10000 1,a7 10001 1]⟩
def wX:fM:=⟨133,[.b (.d),.b (.d),.fn (.func Y1) [] [.ptr 10000 0,.ptr 10001 0]],[(10000,.box [.b (.row 9000)]),(10001,.box [.b (.row 9001)]),br 9000 1,br 9001 1],.b (.d),[(10000,.box [.b (.row 9000)]),(10001,.box [.b (.row 9001)]),br 9000 1,br 9001 1]⟩
def aaH:fM:=⟨129,[.b (.d),.b (.d),.b (.ptr 10000 0),.b (.ptr 10001 0)],[a7 10000 1,a7 10001 1],.b (.d),[a7 10000 1,a7 10001 1]⟩
def wY:fM:=⟨180,[.b (.d),.b (.ptr 10000 0),.b (.ptr 10001 0),.b (.ptr 10002 0)],[a7 10000 1,(10001,.box [.b (.map 9000)]),(10002,.box [.fn (.func wx) [] [.ptr 10000 0,.ptr 10001 0,.ptr 10002 0]]),(9000,.map)],.b (.d),[a7 10000 1,(10001,.box [.b (.map 9000)]),(10002,.box [.fn (.func wx) [] [.ptr 10000 0,.ptr 10001 0,.ptr 10002 0]]),(9000,.map)]⟩
def aaI:fM:=⟨162,[.b (.d),.b (.d)],[],.b (.map 9000),[(9000,.map)]⟩
def zS:fM:=⟨181,[.b (.d),.b (.d),.b (.ptr 10000 0),.b (.ptr 10001 0),.b (.ptr 10002 0),.b (.ptr 10003 0)],[a7 10000 1,a7 10001 1,a7 10002 1,(10003,.box [.fn (.func wy) [] [.ptr 10000 0,.ptr 10001 0,.ptr 10002 0,.ptr 10003 0]])],.b (.d),[a7 10000 1,a7 10001 1,a7 10002 1,(10003,.box [.fn (.func wy) [] [.ptr 10000 0,.ptr 10001 0,.ptr 10002 0,.ptr 10003 0]])]⟩
def zT:fM:=⟨164,[.b (.d),.b (.ptr 10000 0),.b (.ptr 10001 0)],[a7 10000 1,(10001,.box [.fn (.func K4) [] [.ptr 10000 0,.ptr 10001 0]])],.b (.d),[a7 10000 1,(10001,.box [.fn (.func K4) [] [.ptr 10000 0,.ptr 10001 0]])]⟩
def aaJ:fM:=⟨99,[.b (.d)],[],.a1 [.row 9000,.row 9001],[br 9000 1,br 9001 1]⟩
def aaK:fM:=⟨109,[.b (.map 10000),.b (.d)],[(10000,.map)],.b (.d),[(10000,.map)]⟩
def aaL:fM:=⟨109,[.b (.map 10000),.b (.row 10001)],[(10000,.map),br 10001 1],.b (.d),[(10000,.map),br 10001 1]⟩
def aaM:fM:=⟨140,[.b (.row 10000),.b (.d),.b (.d)],[br 10000 1],.b (.d),[br 10000 1]⟩
def S1:fM:=⟨166,[.b (.row 10000),.b (.d),.b (.d),.b (.d)],[br 10000 1],.b (.d),[br 10000 1]⟩
def aaN:fM:=⟨141,[.b (.row 10000),.b (.d),.b (.d)],[br 10000 1],.b (.d),[br 10000 1]⟩
def aaO:fM:=⟨168,[.b (.ptr 10000 0)],[a7 10000 1],.b (.d),[a7 10000 1]⟩
def aaP:fM:=⟨142,[.b (.row 10000),.b (.d),.b (.d)],[br 10000 1],.b (.d),[br 10000 1]⟩
def Mn:fM:=⟨183,[.b (.d),.b (.d),.b (.d),.b (.ptr 10000 0)],[a7 10000 1],.b (.d),[a7 10000 1]⟩
def S2:fM:=⟨170,[.b (.d),.b (.d),.b (.d),.b (.d),.b (.ptr 10000 0)],[a7 10000 1],.b (.d),[a7 10000 1]⟩
def Mo:fM:=⟨169,[.b (.d),.b (.d),.b (.ptr 10000 0)],[a7 10000 1],.b (.d),[a7 10000 1]⟩
def aaQ:fM:=⟨144,[.b (.row 10000),.b (.d),.b (.d)],[br 10000 1],.b (.d),[br 10000 1]⟩
def aaR:fM:=⟨145,[.b (.row 10000),.b (.d),.b (.d)],[br 10000 1],.b (.d),[br 10000 1]⟩
def aaS:fM:=⟨147,[.b (.row 10000),.b (.d),.b (.d),.b (.d)],[br 10000 1],.b (.d),[br 10000 1]⟩
def aaT:fM:=⟨148,[.b (.row 10000),.b (.d),.b (.d),.b (.d)],[br 10000 1],.b (.d),[br 10000 1]⟩
def wZ:fM:=⟨110,[.b (.row 10000),.b (.d),.b (.d),.b (.d)],[br 10000 1],.b (.d),[br 10000 1]⟩
def aaU:fM:=⟨70,[.b (.row 10000)],[br 10000 1],.b (.d),[br 10000 1]⟩
def zU:fM:=⟨128,[.b (.d),.b (.d),.fn (.func Y0) [] [.ptr 10000 0,.ptr 10001 0]],[a7 10000 1,a7 10001 1],.b (.d),[a7 10000 1,a7 10001 1]⟩
def anZ(yu:List D->Option D)(n:Nat)(ae:D)(ao:D)(an0:bw aZ a0 25 yu){r:D}(h:Q7 yu n ae ao=some r):ez aZ a0 25 [ae,ao] (·=r):=eW (b8 n [(25,yu)] [(2,⟨[al 0,al 1,al 5],[],[]⟩)] [] [(0,⟨[al 1],[],[]⟩)]) bF (bj an0 a8) au bB Tryz.func25 (ca (ca le_nil)) h
def aaV:∀n,bw aZ a0 25 (nQ n)
 |0=>(λ_ _ h=>by cases h)
 |n+1=>by
  have ih:=aaV n;exact(by
   intro aO r h;unfold nQ at h;split at h
   case h_2=>cases h
   exact anZ (nQ n) n _ _ ih h)
def an1(n:Nat):bw aZ a0 25 (nQ n):=(aaV n)
def an2(yw:List D->Option D)(n:Nat)(ae:D)(ao:D)(an3:bw aZ a0 102 yw){r:D}(h:Q8 yw n ae ao=some r):ez aZ a0 102 [ae,ao] (·=r):=eW (b8 n [(102,yw)] [(2,⟨[al 1,sp 2,al 5],[a7 2 4],[]⟩)] [] [(0,⟨[al 1],[],[]⟩)]) bF (bj an3 a8) au bB Tryz.func102 (ca (ca le_nil)) h
def aaW:∀n,bw aZ a0 102 (sH n)
 |0=>(λ_ _ h=>by cases h)
 |n+1=>by
  have ih:=aaW n;exact(by
   intro aO r h;unfold sH at h;split at h
   case h_2=>cases h
   exact an2 (sH n) n _ _ ih h)
def an4(n:Nat):bw aZ a0 102 (sH n):=(aaW n)
def an5(yx:List D->Option D)(n:Nat)(ae:D)(ao:D)(an6:bw aZ a0 52 yx){r:D}(h:Q9 yx n ae ao=some r):ez aZ a0 52 [ae,ao] (·=r):=eW (b8 n [(102,sH n),(52,yx)] [(3,⟨[al 1,sp 2,al 5],[a7 2 6],[]⟩)] [] [(0,⟨[al 1],[],[]⟩)]) bF (bj (an4 n) (bj an6 a8)) au bB Tryz.func52 (ca (ca le_nil)) h
def aaX:∀n,bw aZ a0 52 (sI n)
 |0=>(λ_ _ h=>by cases h)
 |n+1=>by
  have ih:=aaX n;exact(by
   intro aO r h;unfold sI at h;split at h
   case h_2=>cases h
   exact an5 (sI n) n _ _ ih h)
def an7(n:Nat):bw aZ a0 52 (sI n):=(aaX n)
def an8(n:Nat):bw aZ a0 26 (Fh n):=dx (b8 n [(52,sI n)] [] [] []) bF (bj (an7 n) a8) au bB Tryz.func26
def an9(n:Nat):bw aZ a0 7 (yA n):=cB (b8 n [(25,nQ n),(26,Fh n)] [(8,⟨[sp 1,al 3,al 4],[a7 1 8],[]⟩),(12,⟨[sp 1,al 3,al 5],[a7 1 8],[]⟩),(16,⟨[sp 1,al 3,al 6],[a7 1 8],[]⟩)] [] [(0,⟨[sp 1,al 3],[a7 1 8],[]⟩),(2,⟨[sp 1,al 3],[a7 1 8],[]⟩),(4,⟨[al 3],[],[]⟩)]) bF (bj (an1 n) (bj (an8 n) a8)) au bB Tryz.func7
def aoa(n:Nat):bw aZ a0 8 (BF n):=cB (b8 n [] [(2,⟨[al 0,al 3],[],[]⟩)] [] [(0,⟨[al 0],[],[]⟩)]) bF a8 au bB Tryz.func8
def aob(n:Nat):bw aZ a0 27 (K6 n):=cB (b8 n [] [] [] []) bF a8 au bB Tryz.func27
def aaY(n:Nat):bw aZ a0 151 (yB n):=cB (b8 n [] [] [] []) bF a8 au bB Tryz.func151
def aoc(n:Nat):bw aZ a0 172 (Fl n):=cB (b8 n [] [] [] []) bF a8 au bB Tryz.func172
def aod(n:Nat):bw aZ a0 153 (Fo n):=cB (b8 n [(151,yB n),(172,Fl n)] [] [] []) bF (bj (aaY n) (bj (aoc n) a8)) au bB Tryz.func153
def aoe(n:Nat)(ae:D){r:D}(h:Rd n ae=some r):ez aZ a0 152 [ae,(D.val (.func (.func Fc) #[] #[]))] (·=r):=eW (b8 n [(153,Fo n)] [(2,⟨[al 0,(1,.b (.Ez Fc)),al 5],[],[]⟩)] [] [(0,⟨[al 5],[],[]⟩)]) bF (bj (aod n) a8) au bB Tryz.func152 (ca (ca le_nil)) h
def aof(n:Nat):bw aZ a0 152 (BG n):=by
 intro aO r h;unfold BG at h;split at h
 case h_2=>cases h
 obtain⟨an,h⟩:=lj h;obtain rfl:=QE an;exact aoe n _ h
def aog(n:Nat):bw aZ a0 106 (wz n):=dx (b8 n [] [(2,⟨[al 0,al 1,al 7,al 8],[],[]⟩)] [] [(0,⟨[],[],[]⟩)]) bF a8 au bB Tryz.func106
def aaZ(n:Nat):bw aZ a0 55 (sK n):=dx (b8 n [(106,wz n)] [] [] []) bF (bj (aog n) a8) au bB Tryz.func55
def S3(n:Nat):bw aZ a0 113 (sL n):=cB (b8 n [(151,yB n),(152,BG n),(55,sK n)] [] [] []) bF (bj (aaY n) (bj (aof n) (bj (aaZ n) a8))) au bB Tryz.func113
def aoh(n:Nat)(ae:D)(c0:List D){r:D}(h:Rf n ae c0=some r):ez aZ a0 112 [ae,.ref c0 0] (·=r):=eW (b8 n [] [] [] []) bF a8 au bB Tryz.func112 (ca (nN ow le_nil)) h
def aoi(n:Nat):bw aZ a0 112 (BH n):=by
 intro aO r h;unfold BH at h;split at h
 case h_2=>cases h
 split at h
 case h_2=>cases h
 exact aoh n _ _ h
def aoj(n:Nat)(ae:D)(cD:D){r:D}(h:Rg n ae cD=some r):ez aZ a0 154 [ae,(D.fn (.func sG) [] [cD])] (·=r):=eW (b8 n [(112,BH n)] [(2,⟨[al 0,(1,.b (.fd sG 1)),al 7,al 8],[],[]⟩)] [] [(0,⟨[],[],[]⟩)]) bF (bj (aoi n) a8) au bB Tryz.func154 (ca (ca le_nil)) h
def aok(n:Nat):bw aZ a0 154 (yD n):=by
 intro aO r h;unfold yD at h;split at h
 case h_2=>cases h
 split at h
 case h_2=>cases h
 rename_i an;obtain rfl:=lQ an;exact aoj n _ _ h
def aol(n:Nat)(ae:D)(cD:D){r:D}(h:Rh n ae cD=some r):ez aZ a0 114 [ae,(D.fn (.func sG) [] [cD])] (·=r):=eW (b8 n [(154,yD n)] [] [] []) bF (bj (aok n) a8) au bB Tryz.func114 (ca (ca le_nil)) h
def aom(n:Nat):bw aZ a0 114 (BI n):=by
 intro aO r h;unfold BI at h;split at h
 case h_2=>cases h
 split at h
 case h_2=>cases h
 rename_i an;obtain rfl:=lQ an;exact aol n _ _ h
def aon(n:Nat):bw aZ a0 72 (BJ n):=cB (b8 n [(113,sL n),(114,BI n)] [(2,⟨[al 0,al 8,al 9,al 10],[],[]⟩)] [] [(0,⟨[],[],[]⟩)]) bF (bj (S3 n) (bj (aom n) a8)) au bB Tryz.func72
def aoo(n:Nat):bw aZ a0 116 (Fu n):=cB (b8 n [] [] [] []) bF a8 au bB Tryz.func116
def aop(n:Nat):bw aZ a0 115 (Fv n):=cB (b8 n [] [(2,⟨[al 0,al 4],[],[]⟩)] [] [(0,⟨[],[],[]⟩)]) bF a8 au bB Tryz.func115
def aoq(n:Nat):bw aZ a0 73 (Fx n):=cB (b8 n [(116,Fu n),(115,Fv n)] [(3,⟨[al 3,al 7,al 8,al 9],[],[]⟩)] [] [(0,⟨[al 3],[],[]⟩)]) bF (bj (aoo n) (bj (aop n) a8)) au bB Tryz.func73
def aor(n:Nat):bw aZ a0 237 (Fy n):=cB (b8 n [] [] [] []) bF a8 au bB Tryz.func237
def aos(n:Nat):bw aZ a0 230 (Fz n):=cB (b8 n [] [] [] []) bF a8 au bB Tryz.func230
def aot(n:Nat):bw aZ a0 226 (ri n):=cB (b8 n [] [] [] []) bF a8 au bB Tryz.func226
def aou(n:Nat):bw aZ a0 215 (FB n):=cB (b8 n [] [] [] []) bF a8 au bB Tryz.func215
def aov(n:Nat):bw aZ a0 210 (FC n):=cB (b8 n [] [] [] []) bF a8 au bB Tryz.func210
def aow(n:Nat):bw aZ a0 203 (FD n):=cB (b8 n [] [] [] []) bF a8 au bB Tryz.func203
def aox(n:Nat)(ae:D)(c0:List D){r:D}(h:La n ae c0=some r):ez aZ a0 240 [ae,.ref c0 0] (·=r):=eW (b8 n [] [] [] []) bF a8 au bB Tryz.func240 (ca (nN ow le_nil)) h
def aoy(n:Nat):bw aZ a0 240 (FE n):=by
 intro aO r h;unfold FE at h;split at h
 case h_2=>cases h
 split at h
 case h_2=>cases h
 exact aox n _ _ h
def aoz(n:Nat)(ae:D)(cD:D){r:D}(h:FG n ae cD=some r):ez aZ a0 242 [ae,(D.fn (.func rb) [] [cD])] (·=r):=eW (b8 n [(240,FE n)] [(2,⟨[al 0,(1,.b (.fd rb 1)),al 7,al 8],[],[]⟩)] [] [(0,⟨[],[],[]⟩)]) bF (bj (aoy n) a8) au bB Tryz.func242 (ca (ca le_nil)) h
def aoA(n:Nat):bw aZ a0 242 (yG n):=by
 intro aO r h;unfold yG at h;split at h
 case h_2=>cases h
 split at h
 case h_2=>cases h
 rename_i an;obtain rfl:=lQ an;exact aoz n _ _ h
def aoB(n:Nat)(ae:D)(cD:D){r:D}(h:Lb n ae cD=some r):ez aZ a0 239 [ae,(D.fn (.func rb) [] [cD])] (·=r):=eW (b8 n [(242,yG n)] [] [] []) bF (bj (aoA n) a8) au bB Tryz.func239 (ca (ca le_nil)) h
def aoC(n:Nat):bw aZ a0 239 (yH n):=by
 intro aO r h;unfold yH at h;split at h
 case h_2=>cases h
 split at h
 case h_2=>cases h
 rename_i an;obtain rfl:=lQ an;exact aoB n _ _ h
def aoD(n:Nat):bw aZ a0 186 (FH n):=cB (b8 n [] [] [(5004000,⟨[al 4,al 5],[],[]⟩),(5005000,⟨[al 4,al 5],[],[]⟩),(5006000,⟨[al 4,al 5],[],[]⟩),(12011000,⟨[al 4,al 12],[],[]⟩),(15014000,⟨[al 4,al 15],[],[]⟩),(15015000,⟨[al 4,al 15],[],[]⟩),(15016000,⟨[al 4,al 15],[],[]⟩),(15017000,⟨[al 4,al 15],[],[]⟩),(15018000,⟨[al 4,al 15],[],[]⟩),(15019000,⟨[al 4,al 15],[],[]⟩),(15020000,⟨[al 4,al 15],[],[]⟩),(15021000,⟨[al 4,al 15],[],[]⟩),(15022000,⟨[al 4,al 15],[],[]⟩)] []) bF a8 au bB Tryz.func186
def aoE(n:Nat):bw aZ a0 179 (FI n):=cB (b8 n [(186,FH n)] [] [(18008007,⟨[sp 1,al 3,al 4,al 5,al 6],[a7 1 4],[]⟩),(20000009,⟨[sp 1,al 3,al 4,al 5,al 6],[a7 1 4],[]⟩)] [(0,⟨[sp 1,al 3,al 4,al 5,al 6],[a7 1 4],[]⟩)]) bF (bj (aoD n) a8) au bB Tryz.func179
def aoF(n:Nat):e2 aZ a0 aaF (FJ n):=iO ⟨ej aZ,a0,en [(179,FI n)],n,[10000,10001],bZ [],bZ [(10004003,⟨[(3,.b (.ptr 10001 0))],[a7 10001 1,a7 10000 1],[]⟩),(18000006,⟨[(3,.b (.ptr 10001 0))],[a7 10001 1,a7 10000 1],[]⟩)],bZ [],eV [],ek [],e3 [],eU []⟩ bF (bj (aoE n) a8) au bB Tryz.func178 []
def aa0(n:Nat):e2 aZ a0 S0 (wA n):=iO ⟨ej aZ,a0,en [],n,[],bZ [(2,⟨[bY 0 9000,al 1,al 5],[br 9000 1],[]⟩)],bZ [],bZ [(0,⟨[bY 0 9000,al 1,al 5],[br 9000 1],[]⟩)],eV [],ek [],e3 [],eU []⟩ bF a8 au bB Tryz.func135 []
def aoG(n:Nat):e2 aZ a0 aaG (yJ n):=iO ⟨ej aZ,a0,en [],n,[10000,10001],bZ [],bZ [(9004003,⟨[],[(10000,.box [.b (.row 6010)]),(10001,.box [.b (.row 9001)]),br 6010 1,br 9001 1],[]⟩),(15000005,⟨[],[(10000,.box [.b (.row 9000)]),(10001,.box [.b (.row 6020)]),br 9000 1,br 6020 1],[]⟩)],bZ [(0,⟨[],[(10000,.box [.b (.row 6010)]),(10001,.box [.b (.row 9001)]),br 6010 1,br 9001 1],[]⟩)],eV [],ek [(14,⟨S0,wA n,6010,[]⟩),(20,⟨S0,wA n,6020,[]⟩)],e3 [],eU []⟩ bF a8 (bJ (aa0 n) (bJ (aa0 n) au)) bB Tryz.func134 []
def aoH(yK:List D->Option (List D))(n:Nat)(aoI:e2 aZ a0 zR yK):e2 aZ a0 zR (Ri yK n):=iO ⟨ej aZ,a0,en [],n,[10000,10001],bZ [(4,⟨[al 1,(2,.fn (.func Y2) [] [.ptr 10000 0,.ptr 10001 0]),al 15,al 16,al 17],[a7 10000 1,a7 10001 1],[]⟩)],bZ [],bZ [(0,⟨[],[a7 10000 1,a7 10001 1],[]⟩)],eV [],ek [(12,⟨aaF,FJ n,6010,[]⟩),(25,⟨zR,yK,6020,[]⟩)],e3 [],eU []⟩ bF a8 (bJ (aoF n) (bJ aoI au)) bB Tryz.func133 []
def aa1:∀n,e2 aZ a0 zR (uz n)
 |0=>yh (s:=zR) (yj (T:=ej aZ) (os:=λ_=>none) Tryz.func133) (λ_=>rfl)|n+1=>by have ih:=aa1 n;exact aoH (uz n) n ih
def aoJ(n:Nat):e2 aZ a0 zR (uz n):=(aa1 n)
def S4(n:Nat):bw aZ a0 159 (sN n):=cB ⟨ej aZ,a0,en [],n,[],bZ [],bZ [],bZ [],eV [],ek [(7,⟨zR,uz n,6010,[]⟩)],e3 [],eU []⟩ bF a8 (bJ (aoJ n) au) bB Tryz.func159
def aoK(yL:List D->Option (List D))(n:Nat)(aoL:e2 aZ a0 wX yL):e2 aZ a0 wX (Rj yL n):=iO ⟨ej aZ,a0,en [],n,[10000,10001],bZ [(4,⟨[al 1,(2,.fn (.func Y1) [] [.ptr 10000 0,.ptr 10001 0]),al 15,al 16,al 17],[(10000,.box [.b (.row 6010)]),(10001,.box [.b (.row 6011)]),br 6010 1,br 6011 1],[]⟩)],bZ [],bZ [(0,⟨[],[(10000,.box [.b (.row 6010)]),(10001,.box [.b (.row 6011)]),br 6010 1,br 6011 1],[]⟩)],eV [],ek [(12,⟨aaG,yJ n,6010,[]⟩),(25,⟨wX,yL,6020,[]⟩)],e3 [],eU []⟩ bF a8 (bJ (aoG n) (bJ aoL au)) bB Tryz.func133 []
def aa2:∀n,e2 aZ a0 wX (rj n)
 |0=>yh (s:=wX) (yj (T:=ej aZ) (os:=λ_=>none) Tryz.func133) (λ_=>rfl)|n+1=>by have ih:=aa2 n;exact aoK (rj n) n ih
def aa3(n:Nat):e2 aZ a0 wX (rj n):=(aa2 n)
def Mp(n:Nat):bw aZ a0 99 (rk n):=cB ⟨ej aZ,a0,en [],n,[],bZ [],bZ [],bZ [],eV [(2,[0,1,2,3])],ek [(6,⟨wX,rj n,6010,[.box 3 0 5900 1,.box 2 0 5901 1]⟩)],e3 [],eU []⟩ bF a8 (bJ (aa3 n) au) bB Tryz.func99
def aoM(n:Nat):bw aZ a0 130 (yM n):=cB (b8 n [(159,sN n),(99,rk n)] [] [] []) bF (bj (S4 n) (bj (Mp n) a8)) au bB Tryz.func130
def aoN(n:Nat):bw aZ a0 131 (FL n):=cB (b8 n [] [] [(6005000,⟨[al 3,al 6],[],[]⟩),(6006000,⟨[al 3,al 6],[],[]⟩),(6007000,⟨[al 3,al 6],[],[]⟩),(6008000,⟨[al 3,al 6],[],[]⟩),(12011000,⟨[al 12],[],[]⟩),(12012000,⟨[al 12],[],[]⟩),(12013000,⟨[al 12],[],[]⟩),(12014000,⟨[al 12],[],[]⟩),(12015000,⟨[al 12],[],[]⟩),(12016000,⟨[al 12],[],[]⟩)] [(0,⟨[],[],[]⟩)]) bF a8 au bB Tryz.func131
def aoO(n:Nat):e2 aZ a0 aaH (FM n):=iO ⟨ej aZ,a0,en [(130,yM n),(131,FL n)],n,[10000,10001],bZ [],bZ [(40007006,⟨[(3,.b (.ptr 10001 0))],[a7 10001 1,a7 10000 1],[]⟩),(43009008,⟨[(3,.b (.ptr 10001 0))],[a7 10001 1,a7 10000 1],[]⟩),(46011010,⟨[(3,.b (.ptr 10001 0))],[a7 10001 1,a7 10000 1],[]⟩),(50013012,⟨[(3,.b (.ptr 10001 0))],[a7 10001 1,a7 10000 1],[]⟩),(65000014,⟨[(3,.b (.ptr 10001 0))],[a7 10001 1,a7 10000 1],[]⟩)],bZ [(0,⟨[(3,.b (.ptr 10001 0))],[a7 10001 1,a7 10000 1],[]⟩)],eV [],ek [],e3 [],eU []⟩ bF (bj (aoM n) (bj (aoN n) a8)) au bB Tryz.func129 []
def S5(n:Nat):bw aZ a0 160 (uA n):=cB (b8 n [] [(3,⟨[(3,.b (.map 8)),al 9,al 10,al 11],[(8,.map)],[]⟩)] [(24000007,⟨[(3,.b (.map 8)),al 9,al 10,al 11],[(8,.map)],[]⟩)] [(0,⟨[(3,.b (.map 8))],[(8,.map)],[]⟩),(1,⟨[(3,.b (.map 8)),al 9,al 10,al 11],[(8,.map)],[]⟩)]) bF a8 au bB Tryz.func160
def aoP(n:Nat):bw aZ a0 161 (FP n):=cB ⟨ej aZ,a0,en [(160,uA n),(99,rk n)],n,[],bZ [(4,⟨[al 3,bY 4 5002,al 16,al 17,al 18],[br 5002 1],[.slot 4 5002 1]⟩),(9,⟨[al 3,bY 4 5002,bY 7 5001,al 16,al 17,al 18,al 28,al 29,al 30],[br 5002 1,br 5001 1],[.slot 7 5001 1]⟩)],bZ [(40000013,⟨[al 3,bY 4 5002,bY 7 44,al 16,al 17,al 18,al 28,al 29,al 30],[br 5002 1,br 44 1],[.slot 7 5000 1]⟩)],bZ [(0,⟨[bY 4 5002],[br 5002 1],[]⟩),(1,⟨[al 3,bY 4 49,al 16,al 17,al 18],[br 49 1],[]⟩),(2,⟨[al 3,bY 4 5002,bY 7 5001,al 16,al 17,al 18],[br 5002 1,br 5001 1],[]⟩),(3,⟨[al 3,bY 4 5002,bY 7 44,al 16,al 17,al 18,al 28,al 29,al 30],[br 5002 1,br 44 1],[]⟩)],eV [],ek [],e3 [48],eU []⟩ bF (bj (S5 n) (bj (Mp n) a8)) au bB Tryz.func161
def aoQ(yN:List D->Option (List D))(n:Nat)(aoR:e2 aZ a0 wY yN):e2 aZ a0 wY (Lg yN n):=iO ⟨ej aZ,a0,en [],n,[10000,10001,10002],bZ [(1,⟨[(2,.b (.ptr 10001 0)),(3,.b (.ptr 10002 0)),al 10,al 11,al 12],[(10001,.box [.b (.map 9000)]),(10002,.box [.fn (.func wx) [] [.ptr 10000 0,.ptr 10001 0,.ptr 10002 0]]),a7 10000 1,(9000,.map)],[]⟩)],bZ [(19000004,⟨[(2,.b (.ptr 10001 0)),(3,.b (.ptr 10002 0)),al 10,al 11,al 12],[(10001,.box [.b (.map 6010)]),(10002,.box [.fn (.func wx) [] [.ptr 10000 0,.ptr 10001 0,.ptr 10002 0]]),a7 10000 1,(6010,.map)],[]⟩)],bZ [(0,⟨[],[a7 10000 1,(10001,.box [.b (.map 9000)]),(10002,.box [.fn (.func wx) [] [.ptr 10000 0,.ptr 10001 0,.ptr 10002 0]]),(9000,.map)],[]⟩),(1,⟨[(2,.b (.ptr 10001 0)),(3,.b (.ptr 10002 0)),al 10,al 11,al 12],[(10001,.box [.b (.map 6010)]),(10002,.box [.fn (.func wx) [] [.ptr 10000 0,.ptr 10001 0,.ptr 10002 0]]),a7 10000 1,(6010,.map)],[]⟩)],eV [],ek [(24,⟨wY,yN,6010,[]⟩)],e3 [],eU []⟩ bF a8 (bJ aoR au) bB Tryz.func180 []
def aa4:∀n,e2 aZ a0 wY (rl n)
 |0=>yh (s:=wY) (yj (T:=ej aZ) (os:=λ_=>none) Tryz.func180) (λ_=>rfl)|n+1=>by have ih:=aa4 n;exact aoQ (rl n) n ih
def aa5(n:Nat):e2 aZ a0 wY (rl n):=(aa4 n)
def aoS(n:Nat):e2 aZ a0 aaI (FT n):=iO ⟨ej aZ,a0,en [],n,[],bZ [(5,⟨[sp 5,sp 6,al 11,al 12,al 13],[(5,.box [.b (.map 9)]),(6,.box [.fn (.func wx) [] [.ptr 2 0,.ptr 5 0,.ptr 6 0]]),(9,.map),a7 2 1],[]⟩)],bZ [],bZ [(0,⟨[sp 5],[(5,.box [.b (.map 9)]),(9,.map)],[]⟩)],eV [],ek [(19,⟨wY,rl n,6010,[]⟩)],e3 [],eU []⟩ bF a8 (bJ (aa5 n) au) bB Tryz.func162 []
def aoT(n:Nat):bw aZ a0 162 (BK n):=dx ⟨ej aZ,a0,en [],n,[],bZ [(5,⟨[sp 5,sp 6,al 11,al 12,al 13],[(5,.box [.b (.map 9)]),(6,.box [.fn (.func wx) [] [.ptr 2 0,.ptr 5 0,.ptr 6 0]]),(9,.map),a7 2 1],[]⟩)],bZ [],bZ [(0,⟨[sp 5],[(5,.box [.b (.map 9)]),(9,.map)],[]⟩)],eV [],ek [(19,⟨wY,rl n,6010,[]⟩)],e3 [],eU []⟩ bF a8 (bJ (aa5 n) au) bB Tryz.func162
def aoU(uB:List D->Option (List D))(n:Nat)(aoV:e2 aZ a0 zS uB):e2 aZ a0 zS (FV uB n):=iO ⟨ej aZ,a0,en [],n,[10000,10001,10002,10003],bZ [(1,⟨[al 1,(2,.b (.ptr 10000 0)),(3,.b (.ptr 10001 0)),(4,.b (.ptr 10002 0)),(5,.b (.ptr 10003 0)),sp 6,sp 8],[a7 10000 1,a7 10001 1,a7 10002 1,(10003,.box [.fn (.func wy) [] [.ptr 10000 0,.ptr 10001 0,.ptr 10002 0,.ptr 10003 0]]),a7 6 4,a7 8 4],[]⟩),(10,⟨[al 1,(4,.b (.ptr 10002 0)),(5,.b (.ptr 10003 0)),sp 6,sp 8,bY 11 41,al 43,al 44,al 45],[a7 10002 1,(10003,.box [.fn (.func wy) [] [.ptr 10000 0,.ptr 10001 0,.ptr 10002 0,.ptr 10003 0]]),a7 6 4,a7 8 4,br 41 4,a7 10000 1,a7 10001 1],[]⟩)],bZ [(55000013,⟨[al 1,(4,.b (.ptr 10002 0)),(5,.b (.ptr 10003 0)),sp 6,sp 8,bY 11 41,al 43,al 44,al 45],[a7 10002 1,(10003,.box [.fn (.func wy) [] [.ptr 10000 0,.ptr 10001 0,.ptr 10002 0,.ptr 10003 0]]),a7 6 4,a7 8 4,br 41 4,a7 10000 1,a7 10001 1],[]⟩)],bZ [(0,⟨[al 1,(4,.b (.ptr 10002 0)),(5,.b (.ptr 10003 0)),sp 6,sp 8],[a7 10002 1,(10003,.box [.fn (.func wy) [] [.ptr 10000 0,.ptr 10001 0,.ptr 10002 0,.ptr 10003 0]]),a7 6 4,a7 8 4,a7 10000 1,a7 10001 1],[]⟩),(2,⟨[sp 6,sp 8,bY 11 41],[a7 6 4,a7 8 4,br 41 4,a7 10000 1,a7 10001 1,a7 10002 1,(10003,.box [.fn (.func wy) [] [.ptr 10000 0,.ptr 10001 0,.ptr 10002 0,.ptr 10003 0]])],[]⟩),(3,⟨[al 1,(4,.b (.ptr 10002 0)),(5,.b (.ptr 10003 0)),sp 6,sp 8,bY 11 41,al 43,al 44,al 45],[a7 10002 1,(10003,.box [.fn (.func wy) [] [.ptr 10000 0,.ptr 10001 0,.ptr 10002 0,.ptr 10003 0]]),a7 6 4,a7 8 4,br 41 4,a7 10000 1,a7 10001 1],[]⟩)],eV [],ek [(62,⟨zS,uB,6010,[]⟩)],e3 [20066],eU []⟩ bF a8 (bJ aoV au) bB Tryz.func181 []
def aa6:∀n,e2 aZ a0 zS (sO n)
 |0=>yh (s:=zS) (yj (T:=ej aZ) (os:=λ_=>none) Tryz.func181) (λ_=>rfl)|n+1=>by have ih:=aa6 n;exact aoU (sO n) n ih
def aoW(n:Nat):e2 aZ a0 zS (sO n):=(aa6 n)
def aoX(n:Nat):bw aZ a0 163 (FW n):=dx ⟨ej aZ,a0,en [(160,uA n)],n,[],bZ [],bZ [],bZ [],eV [],ek [(13,⟨zS,sO n,6010,[]⟩)],e3 [],eU []⟩ bF (bj (S5 n) a8) (bJ (aoW n) au) bB Tryz.func163
def Mq(n:Nat):bw aZ a0 137 (mr n):=dx ⟨(ej Tryz.prog).so [77],a0,en [(159,sN n),(160,uA n),(161,FP n),(99,rk n),(162,BK n),(163,FW n)],n,[],bZ [(8,⟨[al 1,sp 2,sp 4,al 7,al 8,bY 9 5001,al 36,al 37,al 38],[a7 2 4,a7 4 4,br 5001 1],[.slot 9 5001 1]⟩),(16,⟨[al 1,sp 2,sp 4,al 8,(16,.b (.map 6010)),al 57,al 58,al 59],[a7 2 4,a7 4 4,(6010,.map)],[]⟩),(21,⟨[al 1,sp 2,sp 4,al 8,(16,.b (.map 6010)),al 67,al 68],[a7 2 4,a7 4 4,(6010,.map)],[]⟩)],bZ [(48000012,⟨[al 1,sp 2,sp 4,al 7,al 8,bY 9 52,al 36,al 37,al 38],[a7 2 4,a7 4 4,br 52 1],[.slot 9 5000 1]⟩)],bZ [(0,⟨[al 1,sp 2,sp 4,al 8,bY 9 5001],[a7 2 4,a7 4 4,br 5001 1],[]⟩),(1,⟨[al 1,sp 2,sp 4,al 7,al 8,bY 9 52,al 36,al 37,al 38],[a7 2 4,a7 4 4,br 52 1],[]⟩),(2,⟨[al 1,sp 2,sp 4,al 8,(16,.b (.map 6010))],[a7 2 4,a7 4 4,(6010,.map)],[]⟩),(4,⟨[al 1,sp 2,sp 4],[a7 2 4,a7 4 4],[]⟩)],eV [],ek [(56,⟨aaI,FT n,6010,[]⟩)],e3 [],eU [(14,[[5001],[],[]])]⟩ ((tok _).so _) (bj (S4 n) (bj (S5 n) (bj (aoP n) (bj (Mp n) (bj (aoT n) (bj (aoX n) a8)))))) (bJ (aoS n) au) bB Tryz.func137
def aoY(n:Nat):bw aZ a0 220 (FZ n):=cB (b8 n [] [(3,⟨[(3,.b (.map 8)),al 9,al 10,al 11],[(8,.map)],[]⟩)] [(24000007,⟨[(3,.b (.map 8)),al 9,al 10,al 11],[(8,.map)],[]⟩)] [(0,⟨[(3,.b (.map 8))],[(8,.map)],[]⟩),(1,⟨[(3,.b (.map 8)),al 9,al 10,al 11],[(8,.map)],[]⟩)]) bF a8 au bB Tryz.func220
def aa7(n:Nat):bw aZ a0 222 (rm n):=dx (b8 n [] [] [] []) bF a8 au bB Tryz.func222
def aoZ(n:Nat):bw aZ a0 223 (F2 n):=cB (b8 n [] [(2,⟨[sp 2,al 6,al 7,al 8],[a7 2 3],[]⟩)] [] [(0,⟨[sp 2],[a7 2 3],[]⟩)]) bF a8 au bB Tryz.func223
def ao0(n:Nat):bw aZ a0 224 (yQ n):=gZ (b8 n [(222,rm n)] [] [(13000002,⟨[al 0,sp 4,sp 5,sp 6],[a7 4 3,a7 5 3,a7 6 3],[]⟩)] []) bF (bj (aa7 n) a8) au bB Tryz.func224
def ao1(n:Nat):bw aZ a0 221 (oG n):=aj5 (b8 n [(222,rm n),(223,F2 n),(224,yQ n)] [] [(29007000,⟨[al 0,al 1,al 3,al 4,sp 7,sp 10,al 16,al 29],[a7 7 4,a7 10 3],[]⟩),(69017000,⟨[al 4,sp 7,sp 10,al 16,al 69],[a7 7 4,a7 10 3],[]⟩),(69018000,⟨[al 4,sp 7,sp 10,al 16,al 69],[a7 7 4,a7 10 3],[]⟩),(69019000,⟨[al 4,sp 7,sp 10,al 16,al 69],[a7 7 4,a7 10 3],[]⟩),(69020000,⟨[al 4,sp 7,sp 10,al 16,al 69],[a7 7 4,a7 10 3],[]⟩),(126029000,⟨[al 4,sp 7,sp 10,al 126],[a7 7 4,a7 10 3],[]⟩),(164038000,⟨[al 4,sp 7,sp 10,al 152,al 164],[a7 7 4,a7 10 3],[]⟩)] [(0,⟨[al 4,sp 7,sp 10],[a7 7 4,a7 10 3],[]⟩)]) bF (bj (aa7 n) (bj (aoZ n) (bj (ao0 n) a8))) au bB Tryz.func221
def ao2(yS:List D->Option D)(n:Nat)(ae:D)(ao:D)(ba:D)(b6:D)(ao3:bw aZ a0 219 yS){r:D}(h:Rz yS n ae ao ba b6=some r):ez aZ a0 219 [ae,ao,ba,b6] (·=r):=eW (b8 n [(219,yS),(221,oG n)] [(3,⟨[al 0,al 1,al 3,sp 6,sp 8,bY 10 5000,al 16,al 17,al 18],[a7 6 4,a7 8 3,br 5000 3],[.slot 10 5000 3]⟩)] [] [(0,⟨[al 0,al 1,al 3,sp 6,sp 8,bY 10 5000],[a7 6 4,a7 8 3,br 5000 3],[]⟩)]) bF (bj ao3 (bj (ao1 n) a8)) au bB Tryz.func219 (ca (ca (ca (ca le_nil)))) h
def aa8:∀n,bw aZ a0 219 (rn n)
 |0=>(λ_ _ h=>by cases h)
 |n+1=>by
  have ih:=aa8 n;exact(by
   intro aO r h;unfold rn at h;split at h
   case h_2=>cases h
   exact ao2 (rn n) n _ _ _ _ ih h)
def ao4(n:Nat):bw aZ a0 219 (rn n):=(aa8 n)
def ao5(n:Nat):bw aZ a0 218 (BS n):=gZ (b8 n [(159,sN n),(220,FZ n),(219,rn n)] [] [] []) bF (bj (S4 n) (bj (aoY n) (bj (ao4 n) a8))) au bB Tryz.func218
def S6(n:Nat):bw aZ a0 217 (sS n):=gZ (b8 n [(137,mr n),(218,BS n)] [] [] []) bF (bj (Mq n) (bj (ao5 n) a8)) au bB Tryz.func217
def aa9(n:Nat):bw aZ a0 228 (wF n):=gZ (b8 n [(217,sS n)] [] [] []) bF (bj (S6 n) a8) au bB Tryz.func228
def ao6(yU:List D->Option D)(n:Nat)(ae:D)(ao:D)(ao7:bw aZ a0 241 yU){r:D}(h:F7 yU n ae ao=some r):ez aZ a0 241 [ae,ao] (·=r):=eW (b8 n [(228,wF n),(241,yU)] [(4,⟨[sp 2,al 16,al 17,al 18],[a7 2 8],[]⟩)] [] [(0,⟨[],[],[]⟩)]) bF (bj (aa9 n) (bj ao7 a8)) au bB Tryz.func241 (ca (ca le_nil)) h
def aba:∀n,bw aZ a0 241 (sT n)
 |0=>(λ_ _ h=>by cases h)
 |n+1=>by
  have ih:=aba n;exact(by
   intro aO r h;unfold sT at h;split at h
   case h_2=>cases h
   exact ao6 (sT n) n _ _ ih h)
def ao8(n:Nat):bw aZ a0 241 (sT n):=(aba n)
def ao9(n:Nat)(ae:D)(c0:List D){r:D}(h:Ln n ae c0=some r):ez aZ a0 232 [ae,.ref c0 0] (·=r):=eW (b8 n [] [] [] []) bF a8 au bB Tryz.func232 (ca (nN ow le_nil)) h
def apa(n:Nat):bw aZ a0 232 (F8 n):=by
 intro aO r h;unfold F8 at h;split at h
 case h_2=>cases h
 split at h
 case h_2=>cases h
 exact ao9 n _ _ h
def apb(n:Nat)(ae:D)(cD:D){r:D}(h:Ga n ae cD=some r):ez aZ a0 154 [ae,(D.fn (.func Bz) [] [cD])] (·=r):=eW (b8 n [(232,F8 n)] [(2,⟨[al 0,(1,.b (.fd Bz 1)),al 7,al 8],[],[]⟩)] [] [(0,⟨[],[],[]⟩)]) bF (bj (apa n) a8) au bB Tryz.func154 (ca (ca le_nil)) h
def apc(n:Nat):bw aZ a0 154 (yV n):=by
 intro aO r h;unfold yV at h;split at h
 case h_2=>cases h
 split at h
 case h_2=>cases h
 rename_i an;obtain rfl:=lQ an;exact apb n _ _ h
def apd(n:Nat)(ae:D)(c0:List D){r:D}(h:Lo n ae c0=some r):ez aZ a0 234 [ae,.ref c0 0] (·=r):=eW (b8 n [] [] [] []) bF a8 au bB Tryz.func234 (ca (nN ow le_nil)) h
def ape(n:Nat):bw aZ a0 234 (Gb n):=by
 intro aO r h;unfold Gb at h;split at h
 case h_2=>cases h
 split at h
 case h_2=>cases h
 exact apd n _ _ h
def apf(n:Nat)(ae:D)(cD:D){r:D}(h:Gd n ae cD=some r):ez aZ a0 235 [ae,(D.fn (.func ra) [] [cD])] (·=r):=eW (b8 n [(234,Gb n)] [(2,⟨[al 0,(1,.b (.fd ra 1)),al 7,al 8],[],[]⟩)] [] [(0,⟨[],[],[]⟩)]) bF (bj (ape n) a8) au bB Tryz.func235 (ca (ca le_nil)) h
def apg(n:Nat):bw aZ a0 235 (yW n):=by
 intro aO r h;unfold yW at h;split at h
 case h_2=>cases h
 split at h
 case h_2=>cases h
 rename_i an;obtain rfl:=lQ an;exact apf n _ _ h
def aph(n:Nat)(ae:D)(cD:D){r:D}(h:Lp n ae cD=some r):ez aZ a0 233 [ae,(D.fn (.func ra) [] [cD])] (·=r):=eW (b8 n [(235,yW n)] [] [] []) bF (bj (apg n) a8) au bB Tryz.func233 (ca (ca le_nil)) h
def api(n:Nat):bw aZ a0 233 (yX n):=by
 intro aO r h;unfold yX at h;split at h
 case h_2=>cases h
 split at h
 case h_2=>cases h
 rename_i an;obtain rfl:=lQ an;exact aph n _ _ h
def apj(n:Nat):bw aZ a0 231 (wG n):=gZ (b8 n [(154,yV n),(233,yX n),(217,sS n)] [] [] []) bF (bj (apc n) (bj (api n) (bj (S6 n) a8))) au bB Tryz.func231
def apk(n:Nat):bw aZ a0 227 (BT n):=gZ (b8 n [(228,wF n)] [] [] []) bF (bj (aa9 n) a8) au bB Tryz.func227
def apl(n:Nat):bw aZ a0 216 (BU n):=gZ (b8 n [(217,sS n)] [] [] []) bF (bj (S6 n) a8) au bB Tryz.func216
def apm(n:Nat)(ae:D)(c0:List D){r:D}(h:Lr n ae c0=some r):ez aZ a0 213 [ae,.ref c0 0] (·=r):=eW (b8 n [] [] [] []) bF a8 au bB Tryz.func213 (ca (nN ow le_nil)) h
def apn(n:Nat):bw aZ a0 213 (Gg n):=by
 intro aO r h;unfold Gg at h;split at h
 case h_2=>cases h
 split at h
 case h_2=>cases h
 exact apm n _ _ h
def apo(n:Nat)(ae:D)(cD:D){r:D}(h:Gi n ae cD=some r):ez aZ a0 212 [ae,(D.fn (.func By) [] [cD])] (·=r):=eW (b8 n [(213,Gg n)] [(2,⟨[al 0,(1,.b (.fd By 1)),al 7,al 8],[],[]⟩)] [] [(0,⟨[],[],[]⟩)]) bF (bj (apn n) a8) au bB Tryz.func212 (ca (ca le_nil)) h
def apq(n:Nat):bw aZ a0 212 (yY n):=by
 intro aO r h;unfold yY at h;split at h
 case h_2=>cases h
 split at h
 case h_2=>cases h
 rename_i an;obtain rfl:=lQ an;exact apo n _ _ h
def apr(n:Nat):bw aZ a0 211 (BV n):=gZ ⟨ej aZ,a0,en [(99,rk n),(212,yY n)],n,[],bZ [(3,⟨[al 0,al 2,bY 7 16,bY 8 18],[br 16 1,br 18 1],[]⟩),(7,⟨[al 0,al 2,bY 7 16,bY 8 18,al 35,al 36,al 37],[br 16 1,br 18 1],[]⟩)],bZ [(52000011,⟨[al 0,al 2,bY 7 16,bY 8 59,al 35,al 36,al 37],[br 16 1,br 59 1],[]⟩)],bZ [(0,⟨[al 2,bY 7 16],[br 16 1],[]⟩),(1,⟨[al 0,al 2,bY 7 16,bY 8 18],[br 16 1,br 18 1],[]⟩),(2,⟨[al 0,al 2,bY 7 16,bY 8 18],[br 16 1,br 18 1],[]⟩),(3,⟨[al 0,al 2,bY 7 16,bY 8 59,al 35,al 36,al 37],[br 16 1,br 59 1],[]⟩)],eV [],ek [],e3 [23],eU []⟩ bF (bj (Mp n) (bj (apq n) a8)) au bB Tryz.func211
def aps(n:Nat)(ae:D)(c0:List D){r:D}(h:Lu n ae c0=some r):ez aZ a0 205 [ae,.ref c0 0] (·=r):=eW (b8 n [] [] [] []) bF a8 au bB Tryz.func205 (ca (nN ow le_nil)) h
def apt(n:Nat):bw aZ a0 205 (Gj n):=by
 intro aO r h;unfold Gj at h;split at h
 case h_2=>cases h
 split at h
 case h_2=>cases h
 exact aps n _ _ h
def apu(n:Nat)(ae:D)(cD:D){r:D}(h:Gl n ae cD=some r):ez aZ a0 154 [ae,(D.fn (.func q8) [] [cD])] (·=r):=eW (b8 n [(205,Gj n)] [(2,⟨[al 0,(1,.b (.fd q8 1)),al 7,al 8],[],[]⟩)] [] [(0,⟨[],[],[]⟩)]) bF (bj (apt n) a8) au bB Tryz.func154 (ca (ca le_nil)) h
def apv(n:Nat):bw aZ a0 154 (y1 n):=by
 intro aO r h;unfold y1 at h;split at h
 case h_2=>cases h
 split at h
 case h_2=>cases h
 rename_i an;obtain rfl:=lQ an;exact apu n _ _ h
def apw(n:Nat)(ae:D)(cD:D){r:D}(h:Lv n ae cD=some r):ez aZ a0 114 [ae,(D.fn (.func q8) [] [cD])] (·=r):=eW (b8 n [(154,y1 n)] [] [] []) bF (bj (apv n) a8) au bB Tryz.func114 (ca (ca le_nil)) h
def apx(n:Nat):bw aZ a0 114 (y2 n):=by
 intro aO r h;unfold y2 at h;split at h
 case h_2=>cases h
 split at h
 case h_2=>cases h
 rename_i an;obtain rfl:=lQ an;exact apw n _ _ h
def apy(n:Nat)(ae:D)(c0:List D){r:D}(h:Lw n ae c0=some r):ez aZ a0 207 [ae,.ref c0 0] (·=r):=eW (b8 n [] [] [] []) bF a8 au bB Tryz.func207 (ca (nN ow le_nil)) h
def apz(n:Nat):bw aZ a0 207 (Gm n):=by
 intro aO r h;unfold Gm at h;split at h
 case h_2=>cases h
 split at h
 case h_2=>cases h
 exact apy n _ _ h
def apA(n:Nat)(ae:D)(cD:D){r:D}(h:Gp n ae cD=some r):ez aZ a0 208 [ae,(D.fn (.func q9) [] [cD])] (·=r):=eW (b8 n [(207,Gm n)] [(2,⟨[al 0,(1,.b (.fd q9 1)),al 7,al 8],[],[]⟩)] [] [(0,⟨[],[],[]⟩)]) bF (bj (apz n) a8) au bB Tryz.func208 (ca (ca le_nil)) h
def apB(n:Nat):bw aZ a0 208 (y3 n):=by
 intro aO r h;unfold y3 at h;split at h
 case h_2=>cases h
 split at h
 case h_2=>cases h
 rename_i an;obtain rfl:=lQ an;exact apA n _ _ h
def apC(n:Nat)(ae:D)(cD:D){r:D}(h:Lx n ae cD=some r):ez aZ a0 206 [ae,(D.fn (.func q9) [] [cD])] (·=r):=eW (b8 n [(208,y3 n)] [] [] []) bF (bj (apB n) a8) au bB Tryz.func206 (ca (ca le_nil)) h
def apD(n:Nat):bw aZ a0 206 (y4 n):=by
 intro aO r h;unfold y4 at h;split at h
 case h_2=>cases h
 split at h
 case h_2=>cases h
 rename_i an;obtain rfl:=lQ an;exact apC n _ _ h
def apE(n:Nat):bw aZ a0 204 (uF n):=gZ (b8 n [(113,sL n),(114,y2 n),(206,y4 n)] [] [(17005000,⟨[al 17],[],[]⟩)] []) bF (bj (S3 n) (bj (apx n) (bj (apD n) a8))) au bB Tryz.func204
def apF(n:Nat):bw aZ a0 236 (Ly n):=cB (b8 n [] [] [] []) bF a8 au bB Tryz.func236
def apG(n:Nat):bw aZ a0 229 (Lz n):=cB (b8 n [] [] [] []) bF a8 au bB Tryz.func229
def apH(n:Nat):bw aZ a0 225 (LA n):=cB (b8 n [] [] [] []) bF a8 au bB Tryz.func225
def apI(n:Nat):bw aZ a0 214 (LB n):=cB (b8 n [] [] [] []) bF a8 au bB Tryz.func214
def apJ(n:Nat):bw aZ a0 209 (LC n):=cB (b8 n [] [] [] []) bF a8 au bB Tryz.func209
def apK(n:Nat):bw aZ a0 202 (LD n):=cB (b8 n [] [] [] []) bF a8 au bB Tryz.func202
def apL(n:Nat):bw aZ a0 103 (pr n):=dx (b8 n [(137,mr n)] [(2,⟨[al 1,bY 4 5000,al 11,al 12,al 13],[br 5000 4],[.slot 4 5000 4]⟩)] [] [(0,⟨[bY 4 5000],[br 5000 4],[]⟩)]) bF (bj (Mq n) a8) au bB Tryz.func103
def apM(n:Nat):bw aZ a0 104 (y5 n):=dx (b8 n [(137,mr n)] [(2,⟨[al 1,bY 4 5000,al 11,al 12,al 13],[br 5000 5],[.slot 4 5000 5]⟩)] [] [(0,⟨[bY 4 5000],[br 5000 5],[]⟩)]) bF (bj (Mq n) a8) au bB Tryz.func104
def apN(y6:List D->Option (List D))(n:Nat)(apO:e2 aZ a0 zT y6):e2 aZ a0 zT (sU y6 n):=iO ⟨ej aZ,a0,en [(137,mr n)],n,[10000,10001],bZ [(8,⟨[(2,.b (.ptr 10001 0)),sp 3,sp 4,bY 8 5000,al 32,al 33,al 34],[(10001,.box [.fn (.func K4) [] [.ptr 10000 0,.ptr 10001 0]]),a7 3 6,a7 4 6,br 5000 6,a7 10000 1],[.slot 8 5000 6]⟩)],bZ [],bZ [(0,⟨[sp 3,sp 4,bY 8 5000],[a7 3 6,a7 4 6,br 5000 6,a7 10000 1,(10001,.box [.fn (.func K4) [] [.ptr 10000 0,.ptr 10001 0]])],[]⟩)],eV [],ek [(41,⟨zT,y6,6020,[]⟩)],e3 [20004],eU []⟩ bF (bj (Mq n) a8) (bJ apO au) bB Tryz.func164 []
def abb:∀n,e2 aZ a0 zT (ps n)
 |0=>yh (s:=zT) (yj (T:=ej aZ) (os:=λ_=>none) Tryz.func164) (λ_=>rfl)|n+1=>by have ih:=abb n;exact apN (ps n) n ih
def apP(n:Nat):e2 aZ a0 zT (ps n):=(abb n)
def apQ(n:Nat):e2 aZ a0 aaJ (LH n):=iO ⟨ej aZ,a0,en [],n,[],bZ [],bZ [],bZ [],eV [(2,[0,1,2,3])],ek [(6,⟨wX,rj n,6010,[.box 3 0 5900 1,.box 2 0 5901 1]⟩)],e3 [],eU []⟩ bF a8 (bJ (aa3 n) au) bB Tryz.func99 []
def abc(n:Nat):bw aZ a0 58 (wI n):=cB ⟨ej aZ,a0,en [],n,[],bZ [],bZ [],bZ [],eV [],ek [(7,⟨aaJ,LH n,6010,[]⟩)],e3 [],eU []⟩ bF a8 (bJ (apQ n) au) bB Tryz.func58
def S7(n:Nat):bw aZ a0 69 (pt n):=dx (b8 n [] [(1,⟨[al 0,al 1],[],[]⟩)] [] [(0,⟨[al 1],[],[]⟩)]) bF a8 au bB Tryz.func69
def apR(n:Nat):e2 aZ a0 aaK (BX n):=iO ⟨ej aZ,a0,en [(69,pt n)],n,[10000],bZ [(1,⟨[(0,.b (.map 10000)),al 1,al 6,al 7,al 8],[(10000,.map)],[]⟩)],bZ [],bZ [(0,⟨[],[(10000,.map)],[]⟩)],eV [],ek [],e3 [],eU []⟩ bF (bj (S7 n) a8) au bB Tryz.func109 []
def apS(n:Nat):e2 aZ a0 aaL (BY n):=iO ⟨ej aZ,a0,en [(69,pt n)],n,[10000,10001],bZ [(1,⟨[(0,.b (.map 10000)),bY 1 10001,bY 6 10001,al 7,al 8],[(10000,.map),br 10001 1],[]⟩)],bZ [],bZ [(0,⟨[],[(10000,.map),br 10001 1],[]⟩)],eV [],ek [],e3 [],eU []⟩ bF (bj (S7 n) a8) au bB Tryz.func109 []
def apT(n:Nat):bw aZ a0 67 (Gw n):=cB ⟨ej aZ,a0,en [(58,wI n)],n,[],bZ [(3,⟨[sp 1,(3,.b (.map 12)),al 14,al 15,al 16],[a7 1 8,(12,.map)],[]⟩),(8,⟨[sp 1,(3,.b (.map 12)),al 34,al 35],[a7 1 8,(12,.map)],[]⟩),(11,⟨[sp 1,(3,.b (.map 12)),al 34,al 35,al 38,al 39,al 40],[a7 1 8,(12,.map)],[]⟩),(17,⟨[(3,.b (.map 12)),al 51,al 52,al 53],[(12,.map)],[]⟩)],bZ [],bZ [(0,⟨[sp 1,(3,.b (.map 12))],[a7 1 8,(12,.map)],[]⟩),(2,⟨[sp 1,(3,.b (.map 12))],[a7 1 8,(12,.map)],[]⟩),(3,⟨[sp 1,(3,.b (.map 12)),al 34,al 35],[a7 1 8,(12,.map)],[]⟩),(4,⟨[sp 1,(3,.b (.map 12)),al 34,al 35],[a7 1 8,(12,.map)],[]⟩),(6,⟨[(3,.b (.map 12))],[(12,.map)],[]⟩)],eV [(19,[1,2,4,5,6,0,3,7])],ek [(47,⟨aaK,BX n,6010,[]⟩),(65,⟨aaL,BY n,6020,[]⟩)],e3 [],eU []⟩ bF (bj (abc n) a8) (bJ (apR n) (bJ (apS n) au)) bB Tryz.func67
def apU(n:Nat)(ae:D)(c0:List D)(nV:List D){r:D}(h:LM n ae c0 nV=some r):ez aZ a0 68 [ae,.ref c0 0,.ref nV 0] (·=r):=eW (b8 n [(69,pt n)] [] [] []) bF (bj (S7 n) a8) au bB Tryz.func68 (ca (nN ow (nN ow le_nil))) h
def apV(n:Nat):bw aZ a0 68 (y7 n):=by
 intro aO r h;unfold y7 at h;split at h
 case h_2=>cases h
 split at h
 case h_2=>cases h
 split at h
 case h_2=>cases h
 exact apU n _ _ _ h
def apW(n:Nat)(ae:D)(cD:D)(pw:D){r:D}(h:LN n ae cD pw=some r):ez aZ a0 107 [ae,(D.fn (.func sF) [] [cD,pw])] (·=r):=eW (b8 n [(68,y7 n)] [(2,⟨[al 0,(1,.b (.fd sF 2)),al 7,al 8],[],[]⟩)] [] [(0,⟨[],[],[]⟩)]) bF (bj (apV n) a8) au bB Tryz.func107 (ca (ca le_nil)) h
def apX(n:Nat):bw aZ a0 107 (BZ n):=by
 intro aO r h;unfold BZ at h;split at h
 case h_2=>cases h
 split at h
 case h_2=>cases h
 rename_i an;obtain rfl:=lQ an;exact apW n _ _ _ h
def apY(n:Nat)(ae:D)(cD:D)(pw:D){r:D}(h:LO n ae cD pw=some r):ez aZ a0 57 [ae,(D.fn (.func sF) [] [cD,pw])] (·=r):=eW (b8 n [(107,BZ n)] [] [] []) bF (bj (apX n) a8) au bB Tryz.func57 (ca (ca le_nil)) h
def apZ(n:Nat):bw aZ a0 57 (y8 n):=by
 intro aO r h;unfold y8 at h;split at h
 case h_2=>cases h
 split at h
 case h_2=>cases h
 rename_i an;obtain rfl:=lQ an;exact apY n _ _ _ h
def ap0(n:Nat):bw aZ a0 150 (y9 n):=cB (b8 n [] [] [(4000002,⟨[al 0,al 2],[],[]⟩),(8000005,⟨[al 0,al 2],[],[]⟩),(14000008,⟨[al 0,al 2],[],[]⟩)] []) bF a8 au bB Tryz.func150
def abd(n:Nat):bw aZ a0 111 (rp n):=cB (b8 n [(150,y9 n)] [] [] []) bF (bj (ap0 n) a8) au bB Tryz.func111
def ap1(n:Nat):bw aZ a0 171 (GA n):=cB (b8 n [] [] [] []) bF a8 au bB Tryz.func171
def zV(n:Nat):bw aZ a0 146 (jn n):=dx (b8 n [(171,GA n)] [] [] []) bF (bj (ap1 n) a8) au bB Tryz.func146
def ap2(n:Nat):e2 aZ a0 aaM (B1 n):=iO ⟨ej aZ,a0,en [(146,jn n)],n,[10000],bZ [(1,⟨[bY 0 10000,al 1,al 2,al 6],[br 10000 1],[]⟩),(4,⟨[bY 0 10000,al 1,al 2,al 6,al 7],[br 10000 1],[]⟩)],bZ [],bZ [(0,⟨[],[br 10000 1],[]⟩),(1,⟨[bY 0 10000,al 1,al 2,al 6],[br 10000 1],[]⟩),(2,⟨[bY 0 10000,al 1,al 2,al 6],[br 10000 1],[]⟩)],eV [(6,[0,1,2,3,5,6,7,8,9,10,11,12,13,14,4,15,16,17])],ek [],e3 [],eU []⟩ bF (bj (zV n) a8) au bB Tryz.func140 []
def abe(n:Nat):e2 aZ a0 S1 (uH n):=iO ⟨ej aZ,a0,en [(146,jn n)],n,[10000],bZ [(1,⟨[bY 0 10000,al 2,al 3,al 8],[br 10000 1],[]⟩)],bZ [(36000004,⟨[bY 0 10000,al 2,al 3,al 8,al 9],[br 10000 1],[]⟩)],bZ [(0,⟨[],[br 10000 1],[]⟩)],eV [(6,[0,1,2,3,4,5,6,8,9,10,11,12,13,14,15,16,17,18,19,20,7,21,22,23])],ek [],e3 [],eU []⟩ bF (bj (zV n) a8) au bB Tryz.func166 []
def ap3(n:Nat):e2 aZ a0 aaN (B4 n):=iO ⟨ej aZ,a0,en [],n,[10000],bZ [(4,⟨[bY 0 10000,al 6,al 7,al 8,al 9],[br 10000 1],[]⟩),(8,⟨[bY 0 10000,al 6,al 7,al 10],[br 10000 1],[]⟩)],bZ [],bZ [(0,⟨[bY 0 10000,al 6,al 7,al 8],[br 10000 1],[]⟩),(2,⟨[],[br 10000 1],[]⟩)],eV [(10,[0,1,2,3,4,6,7,8,9,10,11,12,13,14,15,16,5,17,18,19])],ek [(26,⟨S1,uH n,6010,[]⟩),(55,⟨S1,uH n,6020,[]⟩)],e3 [],eU []⟩ bF a8 (bJ (abe n) (bJ (abe n) au)) bB Tryz.func141 []
def ap4(n:Nat):bw aZ a0 167 (GD n):=cB (b8 n [(111,rp n)] [] [] []) bF (bj (abd n) a8) au bB Tryz.func167
def ap5(n:Nat):e2 aZ a0 aaO (LR n):=iO ⟨ej aZ,a0,en [],n,[10000],bZ [],bZ [],bZ [],eV [],ek [],e3 [],eU []⟩ bF a8 au bB Tryz.func168 []
def ap6(n:Nat):e2 aZ a0 aaP (za n):=iO ⟨ej aZ,a0,en [(167,GD n)],n,[10000],bZ [(5,⟨[bY 0 10000,al 1,al 6,sp 7,al 8,al 9],[br 10000 1,a7 7 1],[]⟩)],bZ [(15000002,⟨[],[br 10000 1],[]⟩),(43000009,⟨[bY 0 10000,al 1,al 6,sp 7,al 8,al 9,al 10],[br 10000 1,a7 7 1],[]⟩)],bZ [(0,⟨[],[br 10000 1],[]⟩)],eV [(10,[0,1,2,3,4,6,7,8,9,10,11,12,13,14,15,16,5,17,18,19])],ek [(36,⟨aaO,LR n,6010,[]⟩)],e3 [],eU []⟩ bF (bj (ap4 n) a8) (bJ (ap5 n) au) bB Tryz.func142 []
def S8(n:Nat):e2 aZ a0 Mn (sV n):=iO ⟨ej aZ,a0,en [(146,jn n)],n,[10000],bZ [],bZ [],bZ [],eV [],ek [],e3 [],eU []⟩ bF (bj (zV n) a8) au bB Tryz.func183 []
def abf(n:Nat):e2 aZ a0 S2 (uJ n):=iO ⟨ej aZ,a0,en [],n,[10000],bZ [],bZ [],bZ [],eV [],ek [(16,⟨Mn,sV n,6010,[]⟩),(24,⟨Mn,sV n,6020,[]⟩),(32,⟨Mn,sV n,6030,[]⟩)],e3 [],eU []⟩ bF a8 (bJ (S8 n) (bJ (S8 n) (bJ (S8 n) au))) bB Tryz.func170 []
def S9(n:Nat):e2 aZ a0 Mo (px n):=iO ⟨ej aZ,a0,en [],n,[10000],bZ [],bZ [],bZ [],eV [],ek [(14,⟨S2,uJ n,6010,[]⟩)],e3 [],eU []⟩ bF a8 (bJ (abf n) au) bB Tryz.func169 []
def ap7(n:Nat):bw aZ a0 143 (wJ n):=gZ ⟨ej aZ,a0,en [],n,[],bZ [],bZ [(32000007,⟨[sp 9,al 11],[a7 9 1],[]⟩),(34000008,⟨[al 0,sp 9,al 10,al 11,al 12],[a7 9 1],[]⟩)],bZ [],eV [],ek [(37,⟨Mo,px n,6010,[]⟩),(40,⟨Mo,px n,6020,[]⟩),(43,⟨Mo,px n,6030,[]⟩),(48,⟨S2,uJ n,6040,[]⟩)],e3 [],eU []⟩ bF a8 (bJ (S9 n) (bJ (S9 n) (bJ (S9 n) (bJ (abf n) au)))) bB Tryz.func143
def ap8(n:Nat):e2 aZ a0 aaQ (B5 n):=iO ⟨ej aZ,a0,en [],n,[10000],bZ [(2,⟨[bY 0 10000,al 6,al 7],[br 10000 1],[]⟩)],bZ [],bZ [(0,⟨[],[br 10000 1],[]⟩)],eV [],ek [],e3 [],eU []⟩ bF a8 au bB Tryz.func144 []
def ap9(n:Nat):e2 aZ a0 aaR (wL n):=iO ⟨ej aZ,a0,en [(146,jn n)],n,[10000],bZ [(3,⟨[bY 0 10000,al 1,al 2,al 7,al 8],[br 10000 1],[]⟩),(5,⟨[bY 0 10000,al 1,al 2,al 7,al 8],[br 10000 1],[]⟩),(14,⟨[bY 0 10000,al 1,al 2,al 7,al 8,al 9],[br 10000 1],[]⟩),(20,⟨[bY 0 10000,al 1,al 2,al 7,al 8,al 10],[br 10000 1],[]⟩)],bZ [(61000013,⟨[bY 0 10000,al 1,al 2,al 7,al 8],[br 10000 1],[]⟩),(98000019,⟨[bY 0 10000,al 1,al 2,al 7,al 8],[br 10000 1],[]⟩)],bZ [(0,⟨[],[br 10000 1],[]⟩),(1,⟨[bY 0 10000,al 1,al 2,al 7,al 8],[br 10000 1],[]⟩),(2,⟨[bY 0 10000,al 1,al 2,al 7,al 8],[br 10000 1],[]⟩),(4,⟨[bY 0 10000,al 1,al 2,al 7,al 8],[br 10000 1],[]⟩),(6,⟨[bY 0 10000,al 1,al 2,al 7,al 8],[br 10000 1],[]⟩)],eV [(11,[0,1,2,3,5,6,7,8,9,10,11,12,13,14,4,15,16,17]),(17,[0,1,2,3,5,6,7,8,9,10,11,12,13,14,4,15,16,17]),(23,[0,1,2,3,5,6,7,8,9,10,11,12,13,14,4,15,16,17])],ek [],e3 [],eU []⟩ bF (bj (zV n) a8) au bB Tryz.func145 []
def aqa(n:Nat):e2 aZ a0 aaS (Ca n):=iO ⟨ej aZ,a0,en [(146,jn n)],n,[10000],bZ [(3,⟨[bY 0 10000,al 1,al 9,al 10],[br 10000 1],[]⟩),(5,⟨[bY 0 10000,al 1,al 9,al 10],[br 10000 1],[]⟩)],bZ [],bZ [(0,⟨[al 9],[br 10000 1],[]⟩),(1,⟨[bY 0 10000,al 1,al 9,al 10],[br 10000 1],[]⟩),(2,⟨[bY 0 10000,al 1,al 9,al 10],[br 10000 1],[]⟩),(4,⟨[bY 0 10000,al 1,al 9,al 10],[br 10000 1],[]⟩)],eV [],ek [],e3 [],eU []⟩ bF (bj (zV n) a8) au bB Tryz.func147 []
def aqb(n:Nat):e2 aZ a0 aaT (zh n):=iO ⟨ej aZ,a0,en [(146,jn n)],n,[10000],bZ [(3,⟨[bY 0 10000,al 1,al 10,al 11],[br 10000 1],[]⟩),(5,⟨[bY 0 10000,al 1,al 10,al 11],[br 10000 1],[]⟩),(13,⟨[bY 0 10000,al 1,al 10,al 11],[br 10000 1],[]⟩),(15,⟨[bY 0 10000,al 1,al 10,al 11],[br 10000 1],[]⟩)],bZ [],bZ [(0,⟨[bY 0 10000,al 1,al 10,al 11],[br 10000 1],[]⟩),(2,⟨[bY 0 10000,al 1,al 10,al 11],[br 10000 1],[]⟩),(4,⟨[bY 0 10000,al 1,al 11],[br 10000 1],[]⟩),(5,⟨[bY 0 10000,al 1,al 10,al 11],[br 10000 1],[]⟩),(6,⟨[bY 0 10000,al 1,al 10,al 11],[br 10000 1],[]⟩),(8,⟨[bY 0 10000,al 1,al 10,al 11],[br 10000 1],[]⟩)],eV [],ek [],e3 [],eU []⟩ bF (bj (zV n) a8) au bB Tryz.func148 []
def aqc(lV:List D->Option (List D))(n:Nat)(abg:e2 aZ a0 wZ lV):e2 aZ a0 wZ (R8 lV n):=iO ⟨ej aZ,a0,en [(143,wJ n),(146,jn n)],n,[10000],bZ [(2,⟨[bY 0 10000,al 1,al 2,al 3,al 8,al 9],[br 10000 1],[]⟩)],bZ [(35000008,⟨[bY 0 10000,al 1,al 2,al 3,al 8,al 9,al 10],[br 10000 1],[]⟩),(50000012,⟨[bY 0 10000,al 1,al 2,al 3,al 8,al 9,al 10,al 11,al 12],[br 10000 1],[]⟩),(68000016,⟨[bY 0 10000,al 1,al 2,al 3,al 8,al 9,al 10,al 11],[br 10000 1],[]⟩),(113028025,⟨[bY 0 10000,al 1,al 2,al 3,al 8,al 9],[br 10000 1],[]⟩)],bZ [(1,⟨[bY 0 10000,al 1,al 2,al 3,al 8,al 9],[br 10000 1],[]⟩)],eV [],ek [(27,⟨aaM,B1 n,6010,[]⟩),(33,⟨aaN,B4 n,6020,[]⟩),(39,⟨aaP,za n,6030,[]⟩),(54,⟨aaQ,B5 n,6040,[]⟩),(72,⟨aaR,wL n,6050,[]⟩),(92,⟨aaS,Ca n,6060,[]⟩),(99,⟨aaT,zh n,6070,[]⟩),(121,⟨wZ,lV,6080,[]⟩),(132,⟨wZ,lV,6090,[]⟩)],e3 [],eU []⟩ bF (bj (ap7 n) (bj (zV n) a8)) (bJ (ap2 n) (bJ (ap3 n) (bJ (ap6 n) (bJ (ap8 n) (bJ (ap9 n) (bJ (aqa n) (bJ (aqb n) (bJ abg (bJ abg au))))))))) bB Tryz.func110 []
def abh:∀n,e2 aZ a0 wZ (rr n)
 |0=>yh (s:=wZ) (yj (T:=ej aZ) (os:=λ_=>none) Tryz.func110) (λ_=>rfl)|n+1=>by have ih:=abh n;exact aqc (rr n) n ih
def aqd(n:Nat):e2 aZ a0 wZ (rr n):=(abh n)
def aqe(n:Nat):e2 aZ a0 aaU (Cg n):=iO ⟨ej aZ,a0,en [(111,rp n)],n,[10000],bZ [],bZ [],bZ [],eV [],ek [(10,⟨wZ,rr n,6010,[]⟩)],e3 [],eU []⟩ bF (bj (abd n) a8) (bJ (aqd n) au) bB Tryz.func70 []
def abi(n:Nat):bw aZ a0 33 (uP n):=dx ⟨ej aZ,a0,en [(67,Gw n),(57,y8 n)],n,[],bZ [(4,⟨[al 1,sp 5,bY 6 5001,al 13,al 14,al 15],[a7 5 1,br 5001 1],[.slot 6 5001 1]⟩)],bZ [(22000008,⟨[al 1,sp 5,bY 6 27,al 13,al 14,al 15],[a7 5 1,br 27 1],[.slot 6 5000 1]⟩)],bZ [(0,⟨[bY 6 5001],[br 5001 1],[]⟩),(1,⟨[al 1,sp 5,bY 6 27,al 13,al 14,al 15],[a7 5 1,br 27 1],[]⟩)],eV [],ek [(30,⟨aaU,Cg n,6010,[]⟩)],e3 [],eU []⟩ bF (bj (apT n) (bj (apZ n) a8)) (bJ (aqe n) au) bB Tryz.func33
def aqf(n:Nat)(ae:D)(c0:List D){r:D}(h:R9 n ae c0=some r):ez aZ a0 54 [ae,.ref c0 0] (·=r):=eW (b8 n [(55,sK n)] [] [] []) bF (bj (aaZ n) a8) au bB Tryz.func54 (ca (nN ow le_nil)) h
def Ta(n:Nat):bw aZ a0 54 (ru n):=by
 intro aO r h;unfold ru at h;split at h
 case h_2=>cases h
 split at h
 case h_2=>cases h
 exact aqf n _ _ h
def aqg(n:Nat)(ae:D)(c0:List D){r:D}(h:Sa n ae c0=some r):ez aZ a0 61 [ae,.ref c0 0] (·=r):=eW ⟨((ej aZ).vV [(7,[54])]),a0,en [(54,ru n)],n,[],bZ [],bZ [],bZ [],eV [],ek [],e3 [],eU []⟩ ((tok _).vV _) (bj (Ta n) a8) au bB Tryz.func61 (ca (nN ow le_nil)) h
def aqh(n:Nat):bw aZ a0 61 (Ci n):=by
 intro aO r h;unfold Ci at h;split at h
 case h_2=>cases h
 split at h
 case h_2=>cases h
 exact aqg n _ _ h
def aqi(n:Nat)(ae:D)(cD:D){r:D}(h:Sb n ae cD=some r):ez aZ a0 60 [ae,(D.fn (.func uw) [] [cD])] (·=r):=eW (b8 n [(61,Ci n)] [(3,⟨[(1,.b (.fd uw 1)),bY 5 5001,al 8,al 9,al 10],[br 5001 4],[.slot 5 5001 4]⟩)] [(16000006,⟨[(1,.b (.fd uw 1)),bY 5 20,al 8,al 9,al 10],[br 20 4],[.slot 5 5000 4]⟩)] [(0,⟨[bY 5 5001],[br 5001 4],[]⟩),(1,⟨[(1,.b (.fd uw 1)),bY 5 20,al 8,al 9,al 10],[br 20 4],[]⟩)]) bF (bj (aqh n) a8) au bB Tryz.func60 (ca (ca le_nil)) h
def aqj(n:Nat):bw aZ a0 60 (Cj n):=by
 intro aO r h;unfold Cj at h;split at h
 case h_2=>cases h
 split at h
 case h_2=>cases h
 rename_i an;obtain rfl:=lQ an;exact aqi n _ _ h
def aqk(n:Nat)(ae:D)(c0:List D){r:D}(h:Sc n ae c0=some r):ez aZ a0 59 [ae,.ref c0 0] (·=r):=eW ⟨((ej aZ).vV [(6,[54])]),a0,en [(54,ru n)],n,[],bZ [],bZ [],bZ [],eV [],ek [],e3 [],eU []⟩ ((tok _).vV _) (bj (Ta n) a8) au bB Tryz.func59 (ca (nN ow le_nil)) h
def aql(n:Nat):bw aZ a0 59 (Ck n):=by
 intro aO r h;unfold Ck at h;split at h
 case h_2=>cases h
 split at h
 case h_2=>cases h
 exact aqk n _ _ h
def aqm(n:Nat)(ae:D)(cD:D){r:D}(h:L0 n ae cD=some r):ez aZ a0 107 [ae,(D.fn (.func sE) [] [cD])] (·=r):=eW (b8 n [(59,Ck n)] [(2,⟨[al 0,(1,.b (.fd sE 1)),al 7,al 8],[],[]⟩)] [] [(0,⟨[],[],[]⟩)]) bF (bj (aql n) a8) au bB Tryz.func107 (ca (ca le_nil)) h
def aqn(n:Nat):bw aZ a0 107 (Cl n):=by
 intro aO r h;unfold Cl at h;split at h
 case h_2=>cases h
 split at h
 case h_2=>cases h
 rename_i an;obtain rfl:=lQ an;exact aqm n _ _ h
def aqo(n:Nat)(ae:D)(cD:D){r:D}(h:L1 n ae cD=some r):ez aZ a0 57 [ae,(D.fn (.func sE) [] [cD])] (·=r):=eW (b8 n [(107,Cl n)] [] [] []) bF (bj (aqn n) a8) au bB Tryz.func57 (ca (ca le_nil)) h
def aqp(n:Nat):bw aZ a0 57 (zi n):=by
 intro aO r h;unfold zi at h;split at h
 case h_2=>cases h
 split at h
 case h_2=>cases h
 rename_i an;obtain rfl:=lQ an;exact aqo n _ _ h
def aqq(n:Nat)(ae:D)(c0:List D){r:D}(h:Sd n ae c0=some r):ez aZ a0 56 [ae,.ref c0 0] (·=r):=eW (b8 n [(58,wI n),(57,zi n)] [] [] []) bF (bj (abc n) (bj (aqp n) a8)) au bB Tryz.func56 (ca (nN ow le_nil)) h
def aqr(n:Nat):bw aZ a0 56 (Cm n):=by
 intro aO r h;unfold Cm at h;split at h
 case h_2=>cases h
 split at h
 case h_2=>cases h
 exact aqq n _ _ h
def aqs(n:Nat)(ae:D)(cD:D){r:D}(h:Se n ae cD=some r):ez aZ a0 62 [ae,(D.fn (.func qd) [] [cD])] (·=r):=eW (b8 n [(56,Cm n)] [(3,⟨[(1,.b (.fd qd 1)),bY 5 5001,al 8,al 9,al 10],[br 5001 4],[.slot 5 5001 4]⟩)] [(16000006,⟨[(1,.b (.fd qd 1)),bY 5 20,al 8,al 9,al 10],[br 20 4],[.slot 5 5000 4]⟩)] [(0,⟨[bY 5 5001],[br 5001 4],[]⟩),(1,⟨[(1,.b (.fd qd 1)),bY 5 20,al 8,al 9,al 10],[br 20 4],[]⟩)]) bF (bj (aqr n) a8) au bB Tryz.func62 (ca (ca le_nil)) h
def aqt(n:Nat):bw aZ a0 62 (uQ n):=by
 intro aO r h;unfold uQ at h;split at h
 case h_2=>cases h
 split at h
 case h_2=>cases h
 rename_i an;obtain rfl:=lQ an;exact aqs n _ _ h
def aqu(n:Nat)(ae:D)(c0:List D){r:D}(h:Sf n ae c0=some r):ez aZ a0 64 [ae,.ref c0 0] (·=r):=eW ⟨((ej aZ).vV [(7,[54])]),a0,en [(54,ru n)],n,[],bZ [],bZ [],bZ [],eV [],ek [],e3 [],eU []⟩ ((tok _).vV _) (bj (Ta n) a8) au bB Tryz.func64 (ca (nN ow le_nil)) h
def aqv(n:Nat):bw aZ a0 64 (Cn n):=by
 intro aO r h;unfold Cn at h;split at h
 case h_2=>cases h
 split at h
 case h_2=>cases h
 exact aqu n _ _ h
def aqw(n:Nat)(ae:D)(cD:D){r:D}(h:Sg n ae cD=some r):ez aZ a0 63 [ae,(D.fn (.func ux) [] [cD])] (·=r):=eW (b8 n [(64,Cn n)] [(3,⟨[(1,.b (.fd ux 1)),bY 5 5001,al 8,al 9,al 10],[br 5001 5],[.slot 5 5001 5]⟩)] [(16000006,⟨[(1,.b (.fd ux 1)),bY 5 20,al 8,al 9,al 10],[br 20 5],[.slot 5 5000 5]⟩)] [(0,⟨[bY 5 5001],[br 5001 5],[]⟩),(1,⟨[(1,.b (.fd ux 1)),bY 5 20,al 8,al 9,al 10],[br 20 5],[]⟩)]) bF (bj (aqv n) a8) au bB Tryz.func63 (ca (ca le_nil)) h
def aqx(n:Nat):bw aZ a0 63 (Co n):=by
 intro aO r h;unfold Co at h;split at h
 case h_2=>cases h
 split at h
 case h_2=>cases h
 rename_i an;obtain rfl:=lQ an;exact aqw n _ _ h
def abj(n:Nat):bw aZ a0 29 (wN n):=dx ⟨ej aZ,a0,en [(33,uP n),(60,Cj n),(62,uQ n),(63,Co n)],n,[],bZ [],bZ [],bZ [],eV [],ek [],e3 [],eU [(4,[[],[5],[6]])]⟩ bF (bj (abi n) (bj (aqj n) (bj (aqt n) (bj (aqx n) a8)))) au bB Tryz.func29
def abk(n:Nat):bw aZ a0 12 (uR n):=dx (b8 n [] [(4,⟨[al 0,al 1,al 5],[],[]⟩)] [] [(0,⟨[],[],[]⟩)]) bF a8 au bB Tryz.func12
def aqy(n:Nat):bw aZ a0 78 (Si n):=dx (b8 n [] [(4,⟨[al 0,al 1,al 12,al 13],[],[]⟩)] [] [(0,⟨[],[],[]⟩)]) bF a8 au bB Tryz.func78
def aqz(zj:List D->Option D)(n:Nat)(ae:D)(ao:D)(aqA:bw aZ a0 75 zj){r:D}(h:ZX zj n ae ao=some r):ez aZ a0 75 [ae,ao] (·=r):=eW (b8 n [(75,zj)] [(4,⟨[sp 3,al 36,al 37,al 38],[a7 3 4],[]⟩)] [] [(0,⟨[],[],[]⟩)]) bF (bj aqA a8) au bB Tryz.func75 (ca (ca le_nil)) h
def abl:∀n,bw aZ a0 75 (uS n)
 |0=>(λ_ _ h=>by cases h)
 |n+1=>by
  have ih:=abl n;exact(by
   intro aO r h;unfold uS at h;split at h
   case h_2=>cases h
   exact aqz (uS n) n _ _ ih h)
def abm(n:Nat):bw aZ a0 75 (uS n):=(abl n)
def aqB(n:Nat):bw aZ a0 74 (Sj n):=dx (b8 n [(75,uS n)] [] [] []) bF (bj (abm n) a8) au bB Tryz.func74
def aqC(n:Nat)(ae:D)(ao:D){r:D}(h:ZY n ae ao=some r):ez aZ a0 79 [ae,ao,(D.val (.func (.func K2) #[] #[]))] (·=r):=eW (b8 n [(74,Sj n)] [(4,⟨[al 1,(2,.b (.Ez K2)),al 15,al 16,al 17],[],[]⟩)] [] [(0,⟨[],[],[]⟩)]) bF (bj (aqB n) a8) au bB Tryz.func79 (ca (ca (ca le_nil))) h
def aqD(n:Nat):bw aZ a0 79 (L3 n):=by
 intro aO r h;unfold L3 at h;split at h
 case h_2=>cases h
 obtain⟨an,h⟩:=lj h;obtain rfl:=QE an;exact aqC n _ _ h
def aqE(n:Nat)(ae:D)(ao:D){r:D}(h:ZZ n ae ao=some r):ez aZ a0 77 [ae,ao,(D.val (.func (.func K3) #[] #[]))] (·=r):=eW (b8 n [(75,uS n)] [(4,⟨[al 1,(2,.b (.Ez K3)),al 15,al 16,al 17],[],[]⟩)] [] [(0,⟨[],[],[]⟩)]) bF (bj (abm n) a8) au bB Tryz.func77 (ca (ca (ca le_nil))) h
def aqF(n:Nat):bw aZ a0 77 (L4 n):=by
 intro aO r h;unfold L4 at h;split at h
 case h_2=>cases h
 obtain⟨an,h⟩:=lj h;obtain rfl:=QE an;exact aqE n _ _ h
def aqG(n:Nat):bw aZ a0 76 (Cp n):=dx (b8 n [(77,L4 n)] [] [] []) bF (bj (aqF n) a8) au bB Tryz.func76
def aqH(n:Nat):bw aZ a0 39 (Sk n):=dx (b8 n [(78,Si n),(79,L3 n),(76,Cp n)] [] [] []) bF (bj (aqy n) (bj (aqD n) (bj (aqG n) a8))) au bB Tryz.func39
def abn(n:Nat):bw aZ a0 117 (zk n):=cB (b8 n [] [] [] []) bF a8 au bB Tryz.func117
def aqI(n:Nat):bw aZ a0 155 (GX n):=cB (b8 n [] [] [] []) bF a8 au bB Tryz.func155
def aqJ(n:Nat):bw aZ a0 118 (GZ n):=gZ (b8 n [(155,GX n),(117,zk n)] [(1,⟨[al 0,al 1,al 2],[],[]⟩)] [] [(0,⟨[al 1],[],[]⟩)]) bF (bj (aqI n) (bj (abn n) a8)) au bB Tryz.func118
def aqK(n:Nat):bw aZ a0 120 (L5 n):=Ep (b8 n [] [] [] []) bF a8 au bB Tryz.func120
def aqL(n:Nat):bw aZ a0 119 (Cr n):=dx (b8 n [] [(2,⟨[al 0,al 1,al 5],[],[]⟩)] [] [(0,⟨[],[],[]⟩)]) bF a8 au bB Tryz.func119
def Tb(n:Nat):bw aZ a0 80 (sY n):=cB (b8 n [(117,zk n),(118,GZ n),(120,L5 n),(119,Cr n)] [] [] []) bF (bj (abn n) (bj (aqJ n) (bj (aqK n) (bj (aqL n) a8)))) au bB Tryz.func80
def aqM(n:Nat):bw aZ a0 81 (Cs n):=cB (b8 n [] [] [] []) bF a8 au bB Tryz.func81
def abo(n:Nat):bw aZ a0 82 (zl n):=cB (b8 n [] [] [(19000007,⟨[al 3],[],[]⟩)] []) bF a8 au bB Tryz.func82
def aqN(n:Nat):bw aZ a0 40 (G2 n):=cB (b8 n [(80,sY n),(81,Cs n),(82,zl n)] [(2,⟨[al 0,al 4],[],[]⟩),(7,⟨[al 0,al 4,al 5],[],[]⟩)] [] [(0,⟨[],[],[]⟩),(1,⟨[al 0,al 4],[],[]⟩),(2,⟨[al 0,al 4],[],[]⟩)]) bF (bj (Tb n) (bj (aqM n) (bj (abo n) a8))) au bB Tryz.func40
def aqO(n:Nat):bw aZ a0 83 (G3 n):=cB (b8 n [] [(2,⟨[al 0,al 3],[],[]⟩)] [] [(0,⟨[al 3],[],[]⟩)]) bF a8 au bB Tryz.func83
def aqP(n:Nat):bw aZ a0 41 (G4 n):=cB (b8 n [(82,zl n),(83,G3 n)] [(3,⟨[sp 1,al 3,al 4],[a7 1 8],[]⟩)] [] [(0,⟨[al 3],[],[]⟩)]) bF (bj (abo n) (bj (aqO n) a8)) au bB Tryz.func41
def abp(n:Nat):bw aZ a0 84 (zo n):=dx (b8 n [] [(2,⟨[al 1,sp 2,al 5],[a7 2 8],[]⟩)] [] [(0,⟨[],[],[]⟩)]) bF a8 au bB Tryz.func84
def abq(n:Nat):bw aZ a0 85 (zp n):=dx (b8 n [] [(2,⟨[al 1,sp 2,al 5],[a7 2 8],[]⟩)] [] [(0,⟨[],[],[]⟩)]) bF a8 au bB Tryz.func85
def aqQ(n:Nat):bw aZ a0 182 (G8 n):=dx (b8 n [] [(2,⟨[al 0,al 1,al 5],[],[]⟩)] [] [(0,⟨[],[],[]⟩)]) bF a8 au bB Tryz.func182
def aqR(n:Nat):bw aZ a0 165 (zq n):=dx (b8 n [(182,G8 n)] [(6,⟨[al 0,al 1,bY 5 12,al 6,al 7],[br 12 1],[]⟩)] [(28000009,⟨[al 0,al 1,bY 5 32,al 6,al 7],[br 32 1],[]⟩),(41000013,⟨[bY 5 45],[br 45 1],[]⟩)] [(0,⟨[al 1,bY 5 12,al 6],[br 12 1],[]⟩)]) bF (bj (aqQ n) a8) au bB Tryz.func165
def aqS(zr:List D->Option D)(n:Nat)(ae:D)(ao:D)(ba:D)(aqT:bw aZ a0 139 zr){r:D}(h:G9 zr n ae ao ba=some r):ez aZ a0 139 [ae,ao,ba] (·=r):=eW (b8 n [(165,zq n),(139,zr)] [(4,⟨[al 1,al 2,sp 3,al 7],[a7 3 4],[]⟩)] [(11000002,⟨[al 1,al 2,sp 3],[a7 3 4],[]⟩)] [(0,⟨[al 2],[],[]⟩)]) bF (bj (aqR n) (bj aqT a8)) au bB Tryz.func139 (ca (ca (ca le_nil))) h
def abr:∀n,bw aZ a0 139 (ry n)
 |0=>(λ_ _ h=>by cases h)
 |n+1=>by
  have ih:=abr n;exact(by
   intro aO r h;unfold ry at h;split at h
   case h_2=>cases h
   exact aqS (ry n) n _ _ _ ih h)
def aqU(n:Nat):bw aZ a0 139 (ry n):=(abr n)
def Mr(n:Nat):bw aZ a0 108 (rz n):=cB (b8 n [(139,ry n)] [] [] []) bF (bj (aqU n) a8) au bB Tryz.func108
def aqV(n:Nat):bw aZ a0 86 (Ha n):=dx (b8 n [(108,rz n),(85,zp n)] [(4,⟨[sp 2,bY 5 15,bY 6 17,al 7],[a7 2 8,br 15 1,br 17 1],[]⟩),(8,⟨[sp 2,bY 5 15,bY 6 17,al 7,al 8,al 10],[a7 2 8,br 15 1,br 17 1],[]⟩)] [(57000012,⟨[sp 2,bY 5 15,bY 6 64,al 7,al 8,al 10],[a7 2 8,br 15 1,br 64 1],[]⟩)] [(0,⟨[bY 5 15],[br 15 1],[]⟩),(1,⟨[sp 2,bY 5 15,bY 6 17,al 7],[a7 2 8,br 15 1,br 17 1],[]⟩),(2,⟨[sp 2,bY 5 15,bY 6 17,al 7],[a7 2 8,br 15 1,br 17 1],[]⟩),(3,⟨[sp 2,bY 5 15,bY 6 64,al 7,al 8,al 10],[a7 2 8,br 15 1,br 64 1],[]⟩)]) bF (bj (Mr n) (bj (abq n) a8)) au bB Tryz.func86
def aqW(n:Nat):bw aZ a0 158 (Cv n):=cB (b8 n [] [] [(5003000,⟨[al 0,al 4,al 5],[],[]⟩),(5004000,⟨[al 0,al 4,al 5],[],[]⟩),(5005000,⟨[al 0,al 4,al 5],[],[]⟩),(12010000,⟨[al 0,al 4,al 12],[],[]⟩)] [(0,⟨[al 0],[],[]⟩)]) bF a8 au bB Tryz.func158
def abt(n:Nat):bw aZ a0 127 (zt n):=dx (b8 n [(158,Cv n)] [] [(22000008,⟨[sp 2,al 5,al 6,al 7,al 8],[a7 2 4],[]⟩),(25000010,⟨[sp 2,al 5,al 6,al 7,al 8],[a7 2 4],[]⟩)] []) bF (bj (aqW n) a8) au bB Tryz.func127
def aqX(zu:List D->Option D)(n:Nat)(ae:D)(ao:D)(ba:D)(aqY:bw aZ a0 123 zu){r:D}(h:St zu n ae ao ba=some r):ez aZ a0 123 [ae,ao,ba] (·=r):=eW (b8 n [(127,zt n),(123,zu)] [(8,⟨[al 1,al 2,sp 3,al 9],[a7 3 4],[]⟩)] [] [(0,⟨[al 2],[],[]⟩)]) bF (bj (abt n) (bj aqY a8)) au bB Tryz.func123 (ca (ca (ca le_nil))) h
def abu:∀n,bw aZ a0 123 (sZ n)
 |0=>(λ_ _ h=>by cases h)
 |n+1=>by
  have ih:=abu n;exact(by
   intro aO r h;unfold sZ at h;split at h
   case h_2=>cases h
   exact aqX (sZ n) n _ _ _ ih h)
def aqZ(n:Nat):bw aZ a0 123 (sZ n):=(abu n)
def Tc(n:Nat):bw aZ a0 91 (uT n):=cB (b8 n [(123,sZ n)] [] [] []) bF (bj (aqZ n) a8) au bB Tryz.func91
def abv(n:Nat):bw aZ a0 126 (wO n):=dx (b8 n [] [(2,⟨[al 0,al 1,al 5],[],[]⟩)] [] [(0,⟨[],[],[]⟩)]) bF a8 au bB Tryz.func126
def aq0(n:Nat):bw aZ a0 124 (He n):=dx (b8 n [(108,rz n),(126,wO n)] [(4,⟨[al 1,bY 5 10,al 6,al 8],[br 10 1],[]⟩)] [(29000008,⟨[al 1,bY 5 33,al 6,al 8],[br 33 1],[]⟩)] [(0,⟨[bY 5 10],[br 10 1],[]⟩),(1,⟨[al 1,bY 5 33,al 6,al 8],[br 33 1],[]⟩)]) bF (bj (Mr n) (bj (abv n) a8)) au bB Tryz.func124
def abw(n:Nat):bw aZ a0 125 (wP n):=dx (b8 n [] [(2,⟨[al 0,al 1,al 5],[],[]⟩)] [] [(0,⟨[],[],[]⟩)]) bF a8 au bB Tryz.func125
def aq1(zv:List D->Option D)(n:Nat)(ae:D)(ao:D)(ba:D)(aq2:bw aZ a0 92 zv){r:D}(h:Mc zv n ae ao ba=some r):ez aZ a0 92 [ae,ao,ba] (·=r):=eW ⟨(ej Tryz.prog).so [42],a0,en [(124,He n),(125,wP n),(92,zv)],n,[],bZ [(3,⟨[al 1,al 2,al 7,al 8],[],[]⟩)],bZ [(24000006,⟨[al 1,al 2,al 7,al 8],[],[]⟩)],bZ [(0,⟨[al 2],[],[]⟩),(1,⟨[al 1,al 2,al 7,al 8],[],[]⟩)],eV [(6,[0,1,2,3,4,5,6,7,12,13,14,15,8,9,10,11,16,17,18,19])],ek [],e3 [],eU []⟩ ((tok _).so _) (bj (aq0 n) (bj (abw n) (bj aq2 a8))) au bB Tryz.func92 (ca (ca (ca le_nil))) h
def abx:∀n,bw aZ a0 92 (qi n)
 |0=>(λ_ _ h=>by cases h)
 |n+1=>by
  have ih:=abx n;exact(by
   intro aO r h;unfold qi at h;split at h
   case h_2=>cases h
   exact aq1 (qi n) n _ _ _ ih h)
def aby(n:Nat):bw aZ a0 92 (qi n):=(abx n)
def aq3(n:Nat):bw aZ a0 93 (Hh n):=dx (b8 n [(92,qi n),(125,wP n)] [] [] []) bF (bj (aby n) (bj (abw n) a8)) au bB Tryz.func93
def aq4(wQ:List D->Option D)(n:Nat)(ae:D)(ao:D)(ba:D)(b6:D)(aq5:bw aZ a0 94 wQ){r:D}(h:rB wQ n ae ao ba b6=some r):ez aZ a0 94 [ae,ao,ba,b6] (·=r):=eW (b8 n [(126,wO n),(94,wQ),(127,zt n)] [(13,⟨[al 1,al 2,al 3,sp 4,sp 8,bY 13 53,al 14],[a7 4 4,a7 8 4,br 53 4],[]⟩)] [(20000002,⟨[al 1,al 2,al 3,sp 4,sp 8],[a7 4 4,a7 8 4],[]⟩)] [(0,⟨[al 3,sp 4,sp 8,bY 13 53],[a7 4 4,a7 8 4,br 53 4],[]⟩)]) bF (bj (abv n) (bj aq5 (bj (abt n) a8))) au bB Tryz.func94 (ca (ca (ca (ca le_nil)))) h
def abz:∀n,bw aZ a0 94 (rC n)
 |0=>(λ_ _ h=>by cases h)
 |n+1=>by
  have ih:=abz n;exact(by
   intro aO r h;unfold rC at h;split at h
   case h_2=>cases h
   exact aq4 (rC n) n _ _ _ _ ih h)
def aq6(n:Nat):bw aZ a0 94 (rC n):=(abz n)
def Ms(n:Nat):bw aZ a0 47 (mx n):=dx (b8 n [(91,uT n),(92,qi n),(93,Hh n),(94,rC n)] [(6,⟨[al 1,sp 2,sp 4,al 7,al 8],[a7 2 4,a7 4 4],[]⟩)] [] [(0,⟨[al 1,sp 2,sp 4],[a7 2 4,a7 4 4],[]⟩)]) bF (bj (Tc n) (bj (aby n) (bj (aq3 n) (bj (aq6 n) a8)))) au bB Tryz.func47
def abA(n:Nat):bw aZ a0 173 (qj n):=dx (b8 n [] [] [] []) bF a8 au bB Tryz.func173
def aq7(n:Nat):bw aZ a0 174 (Hn n):=dx (b8 n [] [(2,⟨[al 0,al 1,al 5],[],[]⟩)] [] [(0,⟨[],[],[]⟩)]) bF a8 au bB Tryz.func174
def aq8(n:Nat):bw aZ a0 184 (Hp n):=cB (b8 n [] [(2,⟨[al 0,al 3],[],[]⟩)] [] [(0,⟨[],[],[]⟩)]) bF a8 au bB Tryz.func184
def aq9(n:Nat):bw aZ a0 185 (Hq n):=dx (b8 n [] [(4,⟨[bY 6 30,al 7,al 8,al 9],[br 30 1],[]⟩)] [] [(0,⟨[al 7,al 8],[],[]⟩)]) bF a8 au bB Tryz.func185
def ara(n:Nat):bw aZ a0 175 (zw n):=dx (b8 n [(184,Hp n),(173,qj n),(185,Hq n)] [] [(13005000,⟨[al 1,sp 2,sp 4,sp 6,al 7,al 12,al 13],[a7 2 4,a7 4 3,a7 6 3],[]⟩),(13006000,⟨[al 1,sp 2,sp 4,sp 6,al 7,al 12,al 13],[a7 2 4,a7 4 3,a7 6 3],[]⟩),(13007000,⟨[al 1,sp 2,sp 4,sp 6,al 7,al 12,al 13],[a7 2 4,a7 4 3,a7 6 3],[]⟩),(13008000,⟨[al 1,sp 2,sp 4,sp 6,al 7,al 12,al 13],[a7 2 4,a7 4 3,a7 6 3],[]⟩),(25013000,⟨[al 1,sp 2,sp 4,sp 6,al 7,al 12,al 25],[a7 2 4,a7 4 3,a7 6 3],[]⟩)] [(0,⟨[al 1,sp 2,sp 4,sp 6,al 7],[a7 2 4,a7 4 3,a7 6 3],[]⟩)]) bF (bj (aq8 n) (bj (abA n) (bj (aq9 n) a8))) au bB Tryz.func175
def arb(zx:List D->Option D)(n:Nat)(ae:D)(ao:D)(ba:D)(arc:bw aZ a0 156 zx){r:D}(h:uU zx n ae ao ba=some r):ez aZ a0 156 [ae,ao,ba] (·=r):=eW (b8 n [(173,qj n),(174,Hn n),(156,zx),(175,zw n)] [(18,⟨[al 0,al 2,sp 4,sp 6,bY 9 64,al 10],[a7 4 4,a7 6 3,br 64 3],[]⟩)] [(27007000,⟨[al 0,al 2,sp 4,sp 6,al 27],[a7 4 4,a7 6 3],[]⟩)] [(1,⟨[sp 4,sp 6,bY 9 64],[a7 4 4,a7 6 3,br 64 3],[]⟩)]) bF (bj (abA n) (bj (aq7 n) (bj arc (bj (ara n) a8)))) au bB Tryz.func156 (ca (ca (ca le_nil))) h
def abB:∀n,bw aZ a0 156 (mV n)
 |0=>(λ_ _ h=>by cases h)
 |n+1=>by
  have ih:=abB n;exact(by
   intro aO r h;unfold mV at h;split at h
   case h_2=>cases h
   exact arb (mV n) n _ _ _ ih h)
def ard(n:Nat):bw aZ a0 156 (mV n):=(abB n)
def are(n:Nat):bw aZ a0 121 (CA n):=gZ (b8 n [(91,uT n),(156,mV n)] [] [] []) bF (bj (Tc n) (bj (ard n) a8)) au bB Tryz.func121
def Td(n:Nat):bw aZ a0 87 (s3 n):=gZ (b8 n [(47,mx n),(121,CA n)] [] [] []) bF (bj (Ms n) (bj (are n) a8)) au bB Tryz.func87
def arf(n:Nat):bw aZ a0 42 (wR n):=cB (b8 n [(80,sY n),(84,zo n),(85,zp n),(86,Ha n),(87,s3 n)] [(2,⟨[sp 1,al 4],[a7 1 8],[]⟩),(9,⟨[sp 1,al 5],[a7 1 8],[]⟩),(14,⟨[sp 1,al 6],[a7 1 8],[]⟩)] [] [(0,⟨[sp 1],[a7 1 8],[]⟩),(2,⟨[sp 1],[a7 1 8],[]⟩),(4,⟨[],[],[]⟩)]) bF (bj (Tb n) (bj (abp n) (bj (abq n) (bj (aqV n) (bj (Td n) a8))))) au bB Tryz.func42
def abC(n:Nat):bw aZ a0 88 (wS n):=gZ (b8 n [(87,s3 n)] [] [] []) bF (bj (Td n) a8) au bB Tryz.func88
def arh(n:Nat):bw aZ a0 43 (uV n):=gZ (b8 n [(88,wS n)] [(2,⟨[al 1,al 2,sp 3,al 8],[a7 3 8],[]⟩)] [] [(0,⟨[],[],[]⟩)]) bF (bj (abC n) a8) au bB Tryz.func43
def ari(n:Nat):bw aZ a0 44 (CC n):=cB (b8 n [(84,zo n),(87,s3 n)] [(2,⟨[sp 1,al 4],[a7 1 8],[]⟩),(8,⟨[sp 1,al 4,al 5,al 6],[a7 1 8],[]⟩)] [(69000014,⟨[sp 1,al 4,al 8],[a7 1 8],[]⟩)] [(0,⟨[],[],[]⟩),(1,⟨[sp 1,al 4],[a7 1 8],[]⟩),(2,⟨[sp 1,al 4,al 5],[a7 1 8],[]⟩)]) bF (bj (abp n) (bj (Td n) a8)) au bB Tryz.func44
def arj(n:Nat):bw aZ a0 176 (CD n):=cB (b8 n [] [] [(6005000,⟨[al 3,al 6],[],[]⟩),(6006000,⟨[al 3,al 6],[],[]⟩),(6007000,⟨[al 3,al 6],[],[]⟩),(6008000,⟨[al 3,al 6],[],[]⟩),(6009000,⟨[al 3,al 6],[],[]⟩),(6010000,⟨[al 3,al 6],[],[]⟩),(14013000,⟨[al 14],[],[]⟩),(14014000,⟨[al 14],[],[]⟩),(14015000,⟨[al 14],[],[]⟩),(14016000,⟨[al 14],[],[]⟩)] [(0,⟨[],[],[]⟩)]) bF a8 au bB Tryz.func176
def ark(n:Nat):bw aZ a0 177 (Hw n):=cB (b8 n [] [] [] []) bF a8 au bB Tryz.func177
def arl(n:Nat):bw aZ a0 157 (uW n):=cB (b8 n [(176,CD n),(91,uT n),(108,rz n),(177,Hw n)] [] [(12000004,⟨[sp 1],[a7 1 6],[]⟩)] []) bF (bj (arj n) (bj (Tc n) (bj (Mr n) (bj (ark n) a8)))) au bB Tryz.func157
def arn(zz:List D->Option D)(n:Nat)(ae:D)(ao:D)(ba:D)(aro:bw aZ a0 122 zz){r:D}(h:SJ zz n ae ao ba=some r):ez aZ a0 122 [ae,ao,ba] (·=r):=eW (b8 n [(157,uW n),(122,zz)] [(10,⟨[al 1,al 2,sp 3,al 9],[a7 3 6],[]⟩)] [] [(0,⟨[al 2],[],[]⟩)]) bF (bj (arl n) (bj aro a8)) au bB Tryz.func122 (ca (ca (ca le_nil))) h
def abD:∀n,bw aZ a0 122 (s4 n)
 |0=>(λ_ _ h=>by cases h)
 |n+1=>by
  have ih:=abD n;exact(by
   intro aO r h;unfold s4 at h;split at h
   case h_2=>cases h
   exact arn (s4 n) n _ _ _ ih h)
def arp(n:Nat):bw aZ a0 122 (s4 n):=(abD n)
def abE(n:Nat):bw aZ a0 89 (zA n):=cB (b8 n [(122,s4 n)] [] [] []) bF (bj (arp n) a8) au bB Tryz.func89
def arq(zB:List D->Option D)(n:Nat)(ae:D)(ao:D)(ars:bw aZ a0 90 zB){r:D}(h:Hy zB n ae ao=some r):ez aZ a0 90 [ae,ao] (·=r):=eW (b8 n [(88,wS n),(90,zB)] [(4,⟨[sp 2,sp 3,al 5],[a7 2 8,a7 3 6],[]⟩)] [] [(0,⟨[],[],[]⟩)]) bF (bj (abC n) (bj ars a8)) au bB Tryz.func90 (ca (ca le_nil)) h
def abF:∀n,bw aZ a0 90 (s5 n)
 |0=>(λ_ _ h=>by cases h)
 |n+1=>by
  have ih:=abF n;exact(by
   intro aO r h;unfold s5 at h;split at h
   case h_2=>cases h
   exact arq (s5 n) n _ _ ih h)
def art(n:Nat):bw aZ a0 90 (s5 n):=(abF n)
def aru(n:Nat):bw aZ a0 45 (CG n):=cB (b8 n [(80,sY n),(89,zA n),(90,s5 n)] [(2,⟨[sp 1,al 4],[a7 1 8],[]⟩),(7,⟨[sp 1,al 4,al 5],[a7 1 8],[]⟩)] [(50000013,⟨[sp 1,al 4,al 6],[a7 1 8],[]⟩)] [(0,⟨[],[],[]⟩),(1,⟨[sp 1,al 4],[a7 1 8],[]⟩),(2,⟨[sp 1,al 4],[a7 1 8],[]⟩)]) bF (bj (Tb n) (bj (abE n) (bj (art n) a8))) au bB Tryz.func45
def abG(n:Nat):bw aZ a0 18 (rD n):=cB (b8 n [(40,G2 n),(41,G4 n),(42,wR n),(43,uV n),(44,CC n),(45,CG n)] [(3,⟨[sp 1,sp 2,bY 4 33,al 5],[a7 1 8,a7 2 2,br 33 1],[]⟩),(13,⟨[sp 1,sp 2,al 6,al 7,al 8],[a7 1 8,a7 2 2],[]⟩)] [(68018017,⟨[sp 1,sp 2,al 6,al 7,al 8],[a7 1 8,a7 2 2],[]⟩),(75020019,⟨[sp 1,sp 2,al 6,al 7,al 8],[a7 1 8,a7 2 2],[]⟩),(84022021,⟨[sp 1,sp 2,al 6,al 7,al 8],[a7 1 8,a7 2 2],[]⟩),(93024023,⟨[sp 1,sp 2,al 6,al 7,al 8],[a7 1 8,a7 2 2],[]⟩),(100026025,⟨[sp 1,sp 2,al 6,al 7,al 8],[a7 1 8,a7 2 2],[]⟩),(109028027,⟨[sp 1,sp 2,al 6,al 7,al 8],[a7 1 8,a7 2 2],[]⟩),(118000029,⟨[sp 1,sp 2,al 6,al 7,al 8],[a7 1 8,a7 2 2],[]⟩)] [(0,⟨[sp 1,sp 2],[a7 1 8,a7 2 2],[]⟩),(2,⟨[sp 2],[a7 2 2],[]⟩),(3,⟨[sp 1,sp 2,al 6,al 7,al 8],[a7 1 8,a7 2 2],[]⟩),(4,⟨[sp 1,sp 2,al 6,al 7,al 8],[a7 1 8,a7 2 2],[]⟩)]) bF (bj (aqN n) (bj (aqP n) (bj (arf n) (bj (arh n) (bj (ari n) (bj (aru n) a8)))))) au bB Tryz.func18
def arv(n:Nat):bw aZ a0 46 (pz n):=dx (b8 n [(47,mx n)] [(3,⟨[al 0,al 1,bY 7 11,al 8],[br 11 4],[]⟩)] [] [(0,⟨[bY 7 11],[br 11 4],[]⟩)]) bF (bj (Ms n) a8) au bB Tryz.func46
def arw(zC:List D->Option D)(n:Nat)(ae:D)(ao:D)(arx:bw aZ a0 95 zC){r:D}(h:s6 zC n ae ao=some r):ez aZ a0 95 [ae,ao] (·=r):=eW (b8 n [(47,mx n),(95,zC)] [(9,⟨[al 1,sp 2,sp 4,bY 8 29,al 9],[a7 2 6,a7 4 6,br 29 6],[]⟩)] [] [(0,⟨[sp 2,sp 4,bY 8 29],[a7 2 6,a7 4 6,br 29 6],[]⟩)]) bF (bj (Ms n) (bj arx a8)) au bB Tryz.func95 (ca (ca le_nil)) h
def abH:∀n,bw aZ a0 95 (oH n)
 |0=>(λ_ _ h=>by cases h)
 |n+1=>by
  have ih:=abH n;exact(by
   intro aO r h;unfold oH at h;split at h
   case h_2=>cases h
   exact arw (oH n) n _ _ ih h)
def ary(n:Nat):bw aZ a0 95 (oH n):=(abH n)
def arz(n:Nat):bw aZ a0 48 (zD n):=dx (b8 n [(89,zA n),(95,oH n)] [] [] []) bF (bj (abE n) (bj (ary n) a8)) au bB Tryz.func48
def abI(n:Nat):bw aZ a0 20 (zE n):=cB ⟨ej aZ,a0,en [(46,pz n),(47,mx n),(48,zD n)],n,[],bZ [(11,⟨[sp 1,sp 2,sp 3,sp 5,al 9],[a7 1 8,a7 2 8,a7 3 2,(5,.box [.b (.d),.b (.d),.b (.d),.b (.d),.b (.row 5000),.b (.d),.b (.d),.b (.d)]),br 5000 5],[.box 5 4 5000 5]⟩),(26,⟨[sp 1,sp 2,sp 3,sp 5,al 12],[a7 1 8,a7 2 8,a7 3 2,(5,.box [.b (.d),.b (.d),.b (.d),.b (.d),.b (.row 5000),.b (.d),.b (.d),.b (.row 5001)]),br 5000 5,br 5001 7],[.box 5 7 5001 7]⟩)],bZ [],bZ [(0,⟨[sp 1,sp 2,sp 3,sp 5],[a7 1 8,a7 2 8,a7 3 2,(5,.box [.b (.d),.b (.d),.b (.d),.b (.d),.b (.row 5000),.b (.d),.b (.d),.b (.d)]),br 5000 5],[]⟩),(2,⟨[sp 2,sp 3,sp 5],[a7 2 8,a7 3 2,(5,.box [.b (.d),.b (.d),.b (.d),.b (.d),.b (.row 5000),.b (.d),.b (.d),.b (.row 5001)]),br 5000 5,br 5001 7],[]⟩)],eV [],ek [],e3 [20002],eU []⟩ bF (bj (arv n) (bj (Ms n) (bj (arz n) a8))) au bB Tryz.func20
def Mt(n:Nat):bw aZ a0 32 (pA n):=dx (b8 n [] [(2,⟨[al 0,al 1,al 5],[],[]⟩)] [] [(0,⟨[],[],[]⟩)]) bF a8 au bB Tryz.func32
def abJ(n:Nat):bw aZ a0 66 (wV n):=cB (b8 n [(108,rz n),(32,pA n)] [(4,⟨[al 4,bY 5 14,al 6],[br 14 1],[]⟩)] [(27000007,⟨[al 4,bY 5 34,al 6],[br 34 1],[]⟩)] [(0,⟨[bY 5 14],[br 14 1],[]⟩),(1,⟨[al 4,bY 5 34,al 6],[br 34 1],[]⟩)]) bF (bj (Mr n) (bj (Mt n) a8)) au bB Tryz.func66
def arA(n:Nat):bw aZ a0 49 (HC n):=cB ⟨(ej Tryz.prog).so [57],a0,en [(66,wV n)],n,[],bZ [(4,⟨[sp 1,bY 3 7,bY 4 20,al 5],[a7 1 8,br 7 1,br 20 4],[]⟩),(8,⟨[sp 1,bY 3 7,al 6],[a7 1 8,br 7 1],[]⟩)],bZ [],bZ [(0,⟨[sp 1,bY 3 7],[a7 1 8,br 7 1],[]⟩),(2,⟨[bY 3 7],[br 7 1],[]⟩)],eV [(2,[1,2,4,5,7,8,10,11,0,3,6,9,12,13]),(10,[1,2,3,4,5,6,8,9,10,11,12,13,14,0,7,15,16,17,18])],ek [],e3 [],eU []⟩ ((tok _).so _) (bj (abJ n) a8) au bB Tryz.func49
def abK(n:Nat):bw aZ a0 65 (zG n):=dx (b8 n [(32,pA n)] [(2,⟨[al 0,al 1,al 5],[],[]⟩)] [] [(0,⟨[],[],[]⟩)]) bF (bj (Mt n) a8) au bB Tryz.func65
def abL(n:Nat):bw aZ a0 30 (wW n):=dx (b8 n [(32,pA n),(49,HC n),(65,zG n)] [(3,⟨[al 1,sp 2,bY 5 11,al 6],[a7 2 8,br 11 1],[]⟩),(9,⟨[sp 2,bY 5 11,al 7,al 8],[a7 2 8,br 11 1],[]⟩),(12,⟨[sp 2,bY 5 11,al 7,al 8,al 9],[a7 2 8,br 11 1],[]⟩),(16,⟨[sp 2,bY 5 11,al 7,al 8,al 9,al 10],[a7 2 8,br 11 1],[]⟩)] [(26000006,⟨[al 1,sp 2,bY 5 35,al 6],[a7 2 8,br 35 1],[]⟩),(76000019,⟨[sp 2,bY 5 86,al 7,al 8,al 9,al 10],[a7 2 8,br 86 1],[]⟩)] [(0,⟨[sp 2,bY 5 11],[a7 2 8,br 11 1],[]⟩),(1,⟨[al 1,sp 2,bY 5 35,al 6],[a7 2 8,br 35 1],[]⟩),(2,⟨[bY 5 11],[br 11 1],[]⟩),(3,⟨[sp 2,bY 5 11,al 7,al 8],[a7 2 8,br 11 1],[]⟩),(4,⟨[sp 2,bY 5 11,al 7,al 8],[a7 2 8,br 11 1],[]⟩),(5,⟨[sp 2,bY 5 11,al 7,al 8,al 9],[a7 2 8,br 11 1],[]⟩),(6,⟨[sp 2,bY 5 11,al 7,al 8,al 9],[a7 2 8,br 11 1],[]⟩),(7,⟨[sp 2,bY 5 86,al 7,al 8,al 9,al 10],[a7 2 8,br 86 1],[]⟩)]) bF (bj (Mt n) (bj (arA n) (bj (abK n) a8))) au bB Tryz.func30
def arB(n:Nat):bw aZ a0 31 (qk n):=dx (b8 n [(66,wV n),(65,zG n)] [(3,⟨[al 0,al 1,bY 5 8,al 6],[br 8 4],[]⟩)] [(27000007,⟨[al 0,al 1,bY 5 34,al 6],[br 34 4],[]⟩)] [(0,⟨[bY 5 8],[br 8 4],[]⟩),(1,⟨[al 0,al 1,bY 5 34,al 6],[br 34 4],[]⟩)]) bF (bj (abJ n) (bj (abK n) a8)) au bB Tryz.func31
def arC(n:Nat):bw aZ a0 11 (zH n):=dx ⟨ej aZ,a0,en [(18,rD n),(20,zE n),(30,wW n),(31,qk n),(32,pA n)],n,[],bZ [(8,⟨[sp 4,sp 8,al 11,sp 12,al 13],[a7 4 8,a7 8 8,(12,.box [.b (.row 5001),.b (.d),.b (.d),.b (.d),.b (.d),.b (.d),.b (.d),.b (.d)]),br 5001 4],[.box 12 0 5001 4]⟩),(13,⟨[sp 4,sp 8,al 11,sp 12,al 14],[a7 4 8,a7 8 8,(12,.box [.b (.row 5001),.b (.d),.b (.d),.b (.d),.b (.row 5003),.b (.d),.b (.d),.b (.d)]),br 5001 4,br 5003 5],[.box 12 4 5003 5]⟩)],bZ [(63000011,⟨[sp 4,sp 8,al 11,sp 12,al 13],[a7 4 8,a7 8 8,(12,.box [.b (.row 72),.b (.d),.b (.d),.b (.d),.b (.d),.b (.d),.b (.d),.b (.d)]),br 72 4],[.box 12 0 5000 4]⟩),(88000016,⟨[sp 4,sp 8,al 11,sp 12,al 14],[a7 4 8,a7 8 8,(12,.box [.b (.row 5001),.b (.d),.b (.d),.b (.d),.b (.row 97),.b (.d),.b (.d),.b (.d)]),br 5001 4,br 97 5],[.box 12 4 5002 5]⟩)],bZ [(0,⟨[sp 4,sp 8,al 11,sp 12],[a7 4 8,a7 8 8,(12,.box [.b (.row 5001),.b (.d),.b (.d),.b (.d),.b (.d),.b (.d),.b (.d),.b (.d)]),br 5001 4],[]⟩),(1,⟨[sp 4,sp 8,al 11,sp 12,al 13],[a7 4 8,a7 8 8,(12,.box [.b (.row 72),.b (.d),.b (.d),.b (.d),.b (.d),.b (.d),.b (.d),.b (.d)]),br 72 4],[]⟩),(2,⟨[sp 4,sp 12],[a7 4 8,(12,.box [.b (.row 5001),.b (.d),.b (.d),.b (.d),.b (.row 5003),.b (.d),.b (.d),.b (.d)]),br 5001 4,br 5003 5],[]⟩),(3,⟨[sp 4,sp 8,al 11,sp 12,al 14],[a7 4 8,a7 8 8,(12,.box [.b (.row 5001),.b (.d),.b (.d),.b (.d),.b (.row 97),.b (.d),.b (.d),.b (.d)]),br 5001 4,br 97 5],[]⟩)],eV [],ek [],e3 [20004],eU []⟩ bF (bj (abG n) (bj (abI n) (bj (abL n) (bj (arB n) (bj (Mt n) a8))))) au bB Tryz.func11
def arD(n:Nat):bw aZ a0 34 (HG n):=cB ⟨ej aZ,a0,en [],n,[],bZ [(3,⟨[al 0,bY 3 7,al 4],[br 7 1],[]⟩),(6,⟨[al 0,bY 3 7,al 4,al 5],[br 7 1],[]⟩)],bZ [],bZ [(0,⟨[bY 3 7],[br 7 1],[]⟩),(1,⟨[al 0,bY 3 46,al 4],[br 46 1],[]⟩),(2,⟨[al 0,bY 3 7,al 4,al 5],[br 7 1],[]⟩)],eV [(8,[1,2,3,5,6,7,8,0,4,9,10,11])],ek [],e3 [],eU []⟩ bF a8 au bB Tryz.func34
def arE(n:Nat):bw aZ a0 14 (zI n):=dx (b8 n [(18,rD n),(20,zE n),(30,wW n),(34,HG n)] [] [] []) bF (bj (abG n) (bj (abI n) (bj (abL n) (bj (arD n) a8)))) au bB Tryz.func14
def arF(zJ:List D->Option D)(n:Nat)(ae:D)(ao:D)(arG:bw aZ a0 71 zJ){r:D}(h:HI zJ n ae ao=some r):ez aZ a0 71 [ae,ao] (·=r):=eW (b8 n [(71,zJ)] [(4,⟨[sp 2,sp 3,al 5],[a7 2 4,a7 3 4],[]⟩)] [] [(0,⟨[],[],[]⟩)]) bF (bj arG a8) au bB Tryz.func71 (ca (ca le_nil)) h
def abM:∀n,bw aZ a0 71 (s8 n)
 |0=>(λ_ _ h=>by cases h)
 |n+1=>by
  have ih:=abM n;exact(by
   intro aO r h;unfold s8 at h;split at h
   case h_2=>cases h
   exact arF (s8 n) n _ _ ih h)
def arH(n:Nat):bw aZ a0 71 (s8 n):=(abM n)
def arI(zK:List D->Option D)(n:Nat)(ae:D)(ao:D)(arJ:bw aZ a0 35 zK){r:D}(h:CV zK n ae ao=some r):ez aZ a0 35 [ae,ao] (·=r):=eW (b8 n [(71,s8 n),(35,zK)] [(4,⟨[sp 2,sp 3,al 5],[a7 2 6,a7 3 6],[]⟩)] [] [(0,⟨[],[],[]⟩)]) bF (bj (arH n) (bj arJ a8)) au bB Tryz.func35 (ca (ca le_nil)) h
def abN:∀n,bw aZ a0 35 (nW n)
 |0=>(λ_ _ h=>by cases h)
 |n+1=>by
  have ih:=abN n;exact(by
   intro aO r h;unfold nW at h;split at h
   case h_2=>cases h
   exact arI (nW n) n _ _ ih h)
def abO(n:Nat):bw aZ a0 35 (nW n):=(abN n)
def abP(n:Nat):bw aZ a0 37 (rF n):=dx (b8 n [(35,nW n)] [(4,⟨[al 0,al 1,al 5],[],[]⟩)] [] [(0,⟨[],[],[]⟩)]) bF (bj (abO n) a8) au bB Tryz.func37
def arK(n:Nat):bw aZ a0 36 (zL n):=dx ⟨(ej Tryz.prog).so [34,40],a0,en [(37,rF n)],n,[],bZ [(4,⟨[al 0,al 1,al 5],[],[]⟩)],bZ [],bZ [(0,⟨[],[],[]⟩)],eV [],ek [],e3 [],eU []⟩ ((tok _).so _) (bj (abP n) a8) au bB Tryz.func36
def arL(n:Nat):bw aZ a0 15 (s9 n):=dx (b8 n [(35,nW n),(36,zL n),(37,rF n)] [(4,⟨[sp 2,sp 3,al 5],[a7 2 8,a7 3 8],[]⟩),(9,⟨[sp 2,sp 3,al 6],[a7 2 8,a7 3 8],[]⟩)] [] [(0,⟨[sp 2,sp 3],[a7 2 8,a7 3 8],[]⟩),(2,⟨[sp 2,sp 3],[a7 2 8,a7 3 8],[]⟩)]) bF (bj (abO n) (bj (arK n) (bj (abP n) a8))) au bB Tryz.func15
def arM(zN:List D->Option (List D))(n:Nat)(arN:e2 aZ a0 zU zN):e2 aZ a0 zU (SS zN n):=iO ⟨ej aZ,a0,en [],n,[10000,10001],bZ [(4,⟨[al 1,(2,.fn (.func Y0) [] [.ptr 10000 0,.ptr 10001 0]),al 15,al 16,al 17],[a7 10000 1,a7 10001 1],[]⟩)],bZ [],bZ [(0,⟨[],[a7 10000 1,a7 10001 1],[]⟩)],eV [],ek [(12,⟨aaH,FM n,6010,[]⟩),(25,⟨zU,zN,6020,[]⟩)],e3 [],eU []⟩ bF a8 (bJ (aoO n) (bJ arN au)) bB Tryz.func128 []
def abQ:∀n,e2 aZ a0 zU (uX n)
 |0=>yh (s:=zU) (yj (T:=ej aZ) (os:=λ_=>none) Tryz.func128) (λ_=>rfl)|n+1=>by have ih:=abQ n;exact arM (uX n) n ih
def arO(n:Nat):e2 aZ a0 zU (uX n):=(abQ n)
def abR(n:Nat):bw aZ a0 96 (zO n):=cB ⟨ej aZ,a0,en [],n,[],bZ [],bZ [],bZ [],eV [],ek [(7,⟨zU,uX n,6010,[]⟩)],e3 [],eU []⟩ bF a8 (bJ (arO n) au) bB Tryz.func96
def arP(n:Nat):bw aZ a0 238 (uY n):=gZ (b8 n [(113,sL n),(239,yH n),(96,zO n),(241,sT n)] [] [] []) bF (bj (S3 n) (bj (aoC n) (bj (abR n) (bj (ao8 n) a8)))) au bB Tryz.func238
def abS(n:Nat):bw aZ a0 38 (rG n):=cB ⟨((ej Tryz.prog).J7 [114,115,116,118,119,120]),a0,en [(72,BJ n),(73,Fx n),(237,Fy n),(230,Fz n),(226,ri n),(215,FB n),(210,FC n),(203,FD n),(238,uY n),(231,wG n),(227,BT n),(216,BU n),(211,BV n),(204,uF n),(236,Ly n),(229,Lz n),(225,LA n),(214,LB n),(209,LC n),(202,LD n)],n,[],bZ [(2,⟨[sp 1,sp 2,al 36,al 37],[a7 1 8,a7 2 2],[]⟩),(13,⟨[sp 1,sp 2,al 93,al 94],[a7 1 8,a7 2 2],[]⟩),(16,⟨[sp 1,sp 2,al 9,al 93,al 94,al 98,al 99],[a7 1 8,a7 2 2],[]⟩)],bZ [],bZ [(0,⟨[sp 1,sp 2],[a7 1 8,a7 2 2],[]⟩),(2,⟨[sp 2],[a7 2 2],[]⟩),(3,⟨[sp 1,sp 2,al 93,al 94],[a7 1 8,a7 2 2],[]⟩),(4,⟨[sp 1,sp 2,al 93,al 94],[a7 1 8,a7 2 2],[]⟩)],eV [],ek [],e3 [],eU []⟩ ((tok _).J7 _) (bj (aon n) (bj (aoq n) (bj (aor n) (bj (aos n) (bj (aot n) (bj (aou n) (bj (aov n) (bj (aow n) (bj (arP n) (bj (apj n) (bj (apk n) (bj (apl n) (bj (apr n) (bj (apE n) (bj (apF n) (bj (apG n) (bj (apH n) (bj (apI n) (bj (apJ n) (bj (apK n) a8)))))))))))))))))))) au bB Tryz.func38
def arQ(n:Nat):bw aZ a0 138 (zP n):=dx ⟨ej aZ,a0,en [(96,zO n)],n,[],bZ [],bZ [],bZ [],eV [],ek [(17,⟨zT,ps n,6010,[]⟩)],e3 [],eU []⟩ bF (bj (abR n) a8) (bJ (apP n) au) bB Tryz.func138
def arR(n:Nat):bw aZ a0 105 (zQ n):=dx (b8 n [(138,zP n)] [(2,⟨[al 1,bY 4 5000,al 11,al 12,al 13],[br 5000 7],[.slot 4 5000 7]⟩)] [] [(0,⟨[bY 4 5000],[br 5000 7],[]⟩)]) bF (bj (arQ n) a8) au bB Tryz.func105
def arS(n:Nat):bw aZ a0 53 (HM n):=cB ⟨ej aZ,a0,en [(103,pr n),(104,y5 n),(105,zQ n)],n,[],bZ [],bZ [],bZ [],eV [(4,[1,2,0,3,4,5,6,7]),(7,[1,2,0,3,4,5,6,7]),(10,[1,2,0,3,4,5,6,7]),(13,[1,2,0,3,4,5,6,7]),(16,[1,2,0,3,4,5,6,7]),(19,[1,2,0,3,4,5,6,7])],ek [],e3 [],eU []⟩ bF (bj (apL n) (bj (apM n) (bj (arR n) a8))) au bB Tryz.func53
def Te(n:Nat):bw aZ a0 28 (ta n):=cB (b8 n [(38,rG n),(53,HM n)] [] [] []) bF (bj (abS n) (bj (arS n) a8)) au bB Tryz.func28
def abT(n:Nat):bw aZ a0 10 (tb n):=dx (b8 n [(28,ta n),(29,wN n)] [] [] []) bF (bj (Te n) (bj (abj n) a8)) au bB Tryz.func10
def abU(n:Nat):bw aZ a0 13 (uZ n):=dx (b8 n [(28,ta n),(33,uP n)] [] [] []) bF (bj (Te n) (bj (abi n) a8)) au bB Tryz.func13
def arT(n:Nat):bw aZ a0 16 (SZ n):=dx ⟨ej aZ,a0,en [(28,ta n),(38,rG n),(29,wN n),(39,Sk n)],n,[],bZ [(7,⟨[sp 3,sp 5,bY 9 5000,al 35,al 36,al 37],[a7 3 8,a7 5 8,br 5000 1],[.slot 9 5000 1]⟩)],bZ [],bZ [(0,⟨[sp 3,sp 5,bY 9 5000],[a7 3 8,a7 5 8,br 5000 1],[]⟩)],eV [],ek [],e3 [],eU [(11,[[5000],[],[]])]⟩ bF (bj (Te n) (bj (abS n) (bj (abj n) (bj (aqH n) a8)))) au bB Tryz.func16
def arU(n:Nat):bw aZ a0 9 (HN n):=Ep ⟨ej aZ,a0,en [(27,K6 n),(10,tb n),(13,uZ n),(12,uR n),(16,SZ n)],n,[],bZ [],bZ [],bZ [],eV [],ek [],e3 [19,25,30],eU []⟩ bF (bj (aob n) (bj (abT n) (bj (abU n) (bj (abk n) (bj (arT n) a8))))) au bB Tryz.func9
def arV(n:Nat):bw aZ a0 3 (C1 n):=dx (b8 n [(7,yA n),(8,BF n),(9,HN n),(10,tb n),(11,zH n),(13,uZ n),(14,zI n),(12,uR n),(15,s9 n)] [] [] []) bF (bj (an9 n) (bj (aoa n) (bj (arU n) (bj (abT n) (bj (arC n) (bj (abU n) (bj (arE n) (bj (abk n) (bj (arL n) a8))))))))) au bB Tryz.func3
end Go.Am
