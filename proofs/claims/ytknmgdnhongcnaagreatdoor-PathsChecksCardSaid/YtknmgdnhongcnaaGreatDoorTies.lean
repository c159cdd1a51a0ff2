/- That the functions of the program compute this. No condition. -/
import Derived.Test.YtknmgdnhongcnaaGreatDoorCode
import Derived.Test.YtknmgdnhongcnaaGreatDoorProg
import Derived.KernelRfl
set_option linter.all false
set_option linter.unnecessarySimpa false
namespace Go.Am
open Go.Proofs
set_option maxRecDepth 100000
noncomputable abbrev aV:Program:=Tryz.prog
theorem bD:aV.follows .mixedOrders=true:=by kernel_rfl
def bI:eE aV (fV aV):=tok _
def aW:dG:=λg=>if g=0 then some H3 else none
noncomputable abbrev bW(n:Nat):=an4 aV aW n
def aX:ht aV aW (gj []):=an1
def ao:k7 aV aW (gi []):=anZ
def a8{f:FuncId}{F:List D->Option D}{l:List (FuncId×(List D->Option D))}(h:bf aV aW f F)(bL:ht aV aW (gj l)):ht aV aW (gj ((f,F)::l)):=an2 h bL
def bH{t:Tmp}{e:Ea}{l:List (Tmp×Ea)}(h:gl aV aW e.s e.F)(bL:k7 aV aW (gi l)):k7 aV aW (gi ((t,e)::l)):=an0 h bL
def adz:h0:=⟨177,[.b (.d),.b (.d),.b (.ptr 10000 0),.b (.ptr 10001 0)],[a5 10000 1,a5 10001 1],.b (.d),[a5 10000 1,a5 10001 1]⟩
def VE:h0:=⟨180,[.b (.row 9000),.b (.d)],[cp 9000 1],.b (.row 9000),[cp 9000 1]⟩
def adA:h0:=⟨179,[.b (.d),.b (.d),.b (.ptr 10000 0),.b (.ptr 10001 0)],[(10000,.box [.b (.row 9000)]),(10001,.box [.b (.row 9001)]),cp 9000 1,cp 9001 1],.b (.d),[(10000,.box [.b (.row 9000)]),(10001,.box [.b (.row 9001)]),cp 9000 1,cp 9001 1]⟩
def CJ:h0:=⟨176,[.b (.d),.b (.d),.fn (.func ab6) [] [.ptr 10000 0,.ptr 10001 0]],[a5 10000 1,a5 10001 1],.b (.d),[a5 10000 1,a5 10001 1]⟩
def CK:h0:=⟨176,[.b (.d),.b (.d),.fn (.func ab7) [] [.ptr 10000 0,.ptr 10001 0]],[(10000,.box [.b (.row 9000)]),(10001,.box [.b (.row 9001)]),cp 9000 1,cp 9001 1],.b (.d),[(10000,.box [.b (.row 9000)]),(10001,.box [.b (.row 9001)]),cp 9000 1,cp 9001 1]⟩
def adB:h0:=⟨77,[.b (.d),.b (.d),.b (.ptr 10000 0),.b (.ptr 10001 0)],[a5 10000 1,a5 10001 1],.b (.d),[a5 10000 1,a5 10001 1]⟩
def CL:h0:=⟨76,[.b (.d),.b (.d),.fn (.func ab5) [] [.ptr 10000 0,.ptr 10001 0]],[a5 10000 1,a5 10001 1],.b (.d),[a5 10000 1,a5 10001 1]⟩
def zz:h0:=⟨192,[.b (.d),.b (.ptr 10000 0),.b (.ptr 10001 0),.b (.ptr 10002 0)],[a5 10000 1,(10001,.box [.b (.map 9000)]),(10002,.box [.fn (.func y3) [] [.ptr 10000 0,.ptr 10001 0,.ptr 10002 0]]),(9000,.map)],.b (.d),[a5 10000 1,(10001,.box [.b (.map 9000)]),(10002,.box [.fn (.func y3) [] [.ptr 10000 0,.ptr 10001 0,.ptr 10002 0]]),(9000,.map)]⟩
def adC:h0:=⟨162,[.b (.d),.b (.d)],[],.b (.map 9000),[(9000,.map)]⟩
def CM:h0:=⟨193,[.b (.d),.b (.d),.b (.ptr 10000 0),.b (.ptr 10001 0),.b (.ptr 10002 0),.b (.ptr 10003 0)],[a5 10000 1,a5 10001 1,a5 10002 1,(10003,.box [.fn (.func y4) [] [.ptr 10000 0,.ptr 10001 0,.ptr 10002 0,.ptr 10003 0]])],.b (.d),[a5 10000 1,a5 10001 1,a5 10002 1,(10003,.box [.fn (.func y4) [] [.ptr 10000 0,.ptr 10001 0,.ptr 10002 0,.ptr 10003 0]])]⟩
def CN:h0:=⟨113,[.b (.d),.b (.ptr 10000 0),.b (.ptr 10001 0)],[a5 10000 1,(10001,.box [.fn (.func N2) [] [.ptr 10000 0,.ptr 10001 0]])],.b (.d),[a5 10000 1,(10001,.box [.fn (.func N2) [] [.ptr 10000 0,.ptr 10001 0]])]⟩
def CO:h0:=⟨148,[.b (.d),.b (.ptr 10000 0),.b (.ptr 10001 0),.b (.ptr 10002 0),.b (.ptr 10003 0),.b (.ptr 10004 0)],[(10000,.box [.fn (.func Bd) [] [.ptr 10000 0,.ptr 10001 0,.ptr 10002 0,.ptr 10003 0,.ptr 10004 0]]),a5 10001 1,a5 10002 1,a5 10003 1,a5 10004 1],.b (.d),[(10000,.box [.fn (.func Bd) [] [.ptr 10000 0,.ptr 10001 0,.ptr 10002 0,.ptr 10003 0,.ptr 10004 0]]),a5 10001 1,a5 10002 1,a5 10003 1,a5 10004 1]⟩
def KM:h0:=⟨181,[.b (.d),.b (.d),.b (.ptr 10000 0),.b (.ptr 10001 0)],[a5 10000 12,(10001,.box [.b (.row 9000)]),cp 9000 7],.b (.d),[a5 10000 12,(10001,.box [.b (.row 9000)]),cp 9000 7]⟩
def CP:h0:=⟨44,[.b (.d),.b (.d),.b (.d),.b (.ptr 10000 0)],[(10000,.box [.b (.row 9000)]),cp 9000 7],.b (.d),[(10000,.box [.b (.row 9000)]),cp 9000 7]⟩
def asz(Be:List D->Option D)(n:Nat)(ab:D)(ah:D)(asA:bf aV aW 59 Be){r:D}(h:N3 Be n ab ah=some r):en aV aW 59 [ab,ah] (·=r):=eC (bW n [(59,Be)] [(3,⟨[aq 1,sp 2,aq 5,aq 6],[a5 2 4],[]⟩)] [] [(0,⟨[aq 5],[],[]⟩)]) bI (a8 asA aX) ao bD Tryz.func59 (bX (bX le_nil)) h
def adD:∀n,bf aV aW 59 (rW n)
 |0=>(λ_ _ h=>by cases h)
 |n+1=>by
  have ih:=adD n;exact(by
   intro aM r h;unfold rW at h;split at h
   case h_2=>cases h
   exact asz (rW n) n _ _ ih h)
def adE(n:Nat):bf aV aW 59 (rW n):=(adD n)
def asB(Bf:List D->Option D)(n:Nat)(ab:D)(ah:D)(asC:bf aV aW 60 Bf){r:D}(h:N4 Bf n ab ah=some r):en aV aW 60 [ab,ah] (·=r):=eC (bW n [(59,rW n),(60,Bf)] [(3,⟨[aq 1,sp 2,aq 5,aq 6],[a5 2 6],[]⟩)] [] [(0,⟨[aq 5],[],[]⟩)]) bI (a8 (adE n) (a8 asC aX)) ao bD Tryz.func60 (bX (bX le_nil)) h
def adF:∀n,bf aV aW 60 (vi n)
 |0=>(λ_ _ h=>by cases h)
 |n+1=>by
  have ih:=adF n;exact(by
   intro aM r h;unfold vi at h;split at h
   case h_2=>cases h
   exact asB (vi n) n _ _ ih h)
def asD(n:Nat):bf aV aW 60 (vi n):=(adF n)
def asE(n:Nat):bf aV aW 28 (Ex n):=dV ⟨fV aV,aW,gj [(59,rW n),(60,vi n)],n,[],cS [(6,⟨[aq 1,sp 2,aq 5,cZ 6 5000,aq 7],[a5 2 8,cp 5000 4],[.slot 6 5000 4]⟩),(10,⟨[aq 1,sp 2,aq 5,cZ 6 5000,aq 8],[a5 2 8,cp 5000 4],[]⟩),(15,⟨[aq 1,sp 2,aq 5,cZ 6 89,aq 9],[a5 2 8,cp 89 4],[]⟩),(19,⟨[aq 1,sp 2,aq 5,aq 10],[a5 2 8],[]⟩)],cS [],cS [(0,⟨[aq 1,sp 2,aq 5,cZ 6 5000],[a5 2 8,cp 5000 4],[]⟩),(2,⟨[aq 1,sp 2,aq 5,cZ 6 5000],[a5 2 8,cp 5000 4],[]⟩),(4,⟨[aq 1,sp 2,aq 5],[a5 2 8],[]⟩),(6,⟨[aq 1,aq 5],[],[]⟩)],gU [(13,[1,2,4,5,7,8,10,11,0,3,6,9,12,13])],gi [],g7 [],g0 []⟩ bI (a8 (adE n) (a8 (asD n) aX)) ao bD Tryz.func28
def asF(n:Nat):bf aV aW 7 (Bj n):=dV (bW n [(28,Ex n)] [(2,⟨[aq 1,sp 2,aq 7,aq 8,aq 9],[a5 2 8],[]⟩)] [] [(0,⟨[aq 1,sp 2],[a5 2 8],[]⟩)]) bI (a8 (asE n) aX) ao bD Tryz.func7
def asG(Bk:List D->Option D)(n:Nat)(ab:D)(ah:D)(asH:bf aV aW 61 Bk){r:D}(h:Ui Bk n ab ah=some r):en aV aW 61 [ab,ah] (·=r):=eC (bW n [(61,Bk)] [(2,⟨[aq 1,sp 2,aq 5],[a5 2 4],[]⟩)] [] [(0,⟨[aq 1],[],[]⟩)]) bI (a8 asH aX) ao bD Tryz.func61 (bX (bX le_nil)) h
def adG:∀n,bf aV aW 61 (vj n)
 |0=>(λ_ _ h=>by cases h)
 |n+1=>by
  have ih:=adG n;exact(by
   intro aM r h;unfold vj at h;split at h
   case h_2=>cases h
   exact asG (vj n) n _ _ ih h)
def asI(n:Nat):bf aV aW 61 (vj n):=(adG n)
def asJ(Bl:List D->Option D)(n:Nat)(ab:D)(ah:D)(asK:bf aV aW 29 Bl){r:D}(h:Uj Bl n ab ah=some r):en aV aW 29 [ab,ah] (·=r):=eC (bW n [(61,vj n),(29,Bl)] [(3,⟨[aq 1,sp 2,aq 5],[a5 2 6],[]⟩)] [] [(0,⟨[aq 1],[],[]⟩)]) bI (a8 (asI n) (a8 asK aX)) ao bD Tryz.func29 (bX (bX le_nil)) h
def adH:∀n,bf aV aW 29 (vk n)
 |0=>(λ_ _ h=>by cases h)
 |n+1=>by
  have ih:=adH n;exact(by
   intro aM r h;unfold vk at h;split at h
   case h_2=>cases h
   exact asJ (vk n) n _ _ ih h)
def asL(n:Nat):bf aV aW 29 (vk n):=(adH n)
def adI(n:Nat):bf aV aW 8 (Bm n):=dV (bW n [(29,vk n)] [] [] []) bI (a8 (asL n) aX) ao bD Tryz.func8
def asM(n:Nat):bf aV aW 62 (Bn n):=cK (bW n [] [] [] []) bI aX ao bD Tryz.func62
def asN(n:Nat):bf aV aW 63 (Bo n):=dV (bW n [] [] [] []) bI aX ao bD Tryz.func63
def asO(n:Nat):bf aV aW 30 (Uk n):=p0 ⟨(fV Tryz.prog).rQ [11,19,21,29,39],aW,gj [(62,Bn n),(63,Bo n)],n,[],cS [],cS [],cS [],gU [(4,[2,10,0,1,3,4,5,6,7,8,9,11,12,13,14,15,16,17,18]),(5,[3,9,13,0,2,4,10,12,14,5,6,7,15,16,17,1,8,11,18,19,20])],gi [],g7 [],g0 []⟩ ((tok _).rQ _) (a8 (asM n) (a8 (asN n) aX)) ao bD Tryz.func30
def adJ(n:Nat):bf aV aW 188 (Bp n):=cK (bW n [] [] [] []) bI aX ao bD Tryz.func188
def asP(n:Nat):bf aV aW 203 (Ie n):=cK (bW n [] [] [] []) bI aX ao bD Tryz.func203
def asQ(n:Nat):bf aV aW 190 (Ig n):=cK (bW n [(188,Bp n),(203,Ie n)] [] [] []) bI (a8 (adJ n) (a8 (asP n) aX)) ao bD Tryz.func190
def asR(n:Nat)(ab:D){r:D}(h:Ul n ab=some r):en aV aW 189 [ab,(D.val (.func (.func H4) #[] #[]))] (·=r):=eC (bW n [(190,Ig n)] [(2,⟨[aq 0,(1,.b (.HA H4)),aq 5],[],[]⟩)] [] [(0,⟨[aq 5],[],[]⟩)]) bI (a8 (asQ n) aX) ao bD Tryz.func189 (bX (bX le_nil)) h
def asS(n:Nat):bf aV aW 189 (Ey n):=by
 intro aM r h;unfold Ey at h;split at h
 case h_2=>cases h
 obtain⟨aj,h⟩:=nb h;obtain rfl:=TE aj;exact asR n _ h
def asT(n:Nat):bf aV aW 204 (EA n):=dV (bW n [] [(2,⟨[aq 0,aq 1,aq 7,aq 8],[],[]⟩)] [] [(0,⟨[],[],[]⟩)]) bI aX ao bD Tryz.func204
def asU(n:Nat):bf aV aW 191 (Ii n):=dV (bW n [(204,EA n)] [] [] []) bI (a8 (asT n) aX) ao bD Tryz.func191
def VF(n:Nat):bf aV aW 156 (vl n):=cK (bW n [(188,Bp n),(189,Ey n),(191,Ii n)] [] [] []) bI (a8 (adJ n) (a8 (asS n) (a8 (asU n) aX))) ao bD Tryz.func156
def asV(n:Nat)(ab:D)(x1:List D){r:D}(h:Uo n ab x1=some r):en aV aW 155 [ab,.ref x1 0] (·=r):=eC (bW n [] [] [] []) bI aX ao bD Tryz.func155 (bX (o7 p6 le_nil)) h
def asW(n:Nat):bf aV aW 155 (EB n):=by
 intro aM r h;unfold EB at h;split at h
 case h_2=>cases h
 split at h
 case h_2=>cases h
 exact asV n _ _ h
def asX(n:Nat)(ab:D)(cG:D){r:D}(h:Up n ab cG=some r):en aV aW 103 [ab,(D.fn (.func vh) [] [cG])] (·=r):=eC (bW n [(155,EB n)] [(2,⟨[aq 0,(1,.b (.fd vh 1)),aq 7,aq 8],[],[]⟩)] [] [(0,⟨[],[],[]⟩)]) bI (a8 (asW n) aX) ao bD Tryz.func103 (bX (bX le_nil)) h
def asY(n:Nat):bf aV aW 103 (Br n):=by
 intro aM r h;unfold Br at h;split at h
 case h_2=>cases h
 split at h
 case h_2=>cases h
 rename_i aj;obtain rfl:=mz aj;exact asX n _ _ h
def asZ(n:Nat)(ab:D)(cG:D){r:D}(h:Uq n ab cG=some r):en aV aW 157 [ab,(D.fn (.func vh) [] [cG])] (·=r):=eC (bW n [(103,Br n)] [] [] []) bI (a8 (asY n) aX) ao bD Tryz.func157 (bX (bX le_nil)) h
def as0(n:Nat):bf aV aW 157 (EC n):=by
 intro aM r h;unfold EC at h;split at h
 case h_2=>cases h
 split at h
 case h_2=>cases h
 rename_i aj;obtain rfl:=mz aj;exact asZ n _ _ h
def as1(n:Nat):bf aV aW 107 (ED n):=cK (bW n [(156,vl n),(157,EC n)] [(2,⟨[aq 0,aq 8,aq 9,aq 10],[],[]⟩)] [] [(0,⟨[],[],[]⟩)]) bI (a8 (VF n) (a8 (as0 n) aX)) ao bD Tryz.func107
def as2(n:Nat):bf aV aW 159 (Ij n):=cK (bW n [] [] [] []) bI aX ao bD Tryz.func159
def as3(n:Nat):bf aV aW 158 (Ik n):=cK (bW n [] [(2,⟨[aq 0,aq 4],[],[]⟩)] [] [(0,⟨[],[],[]⟩)]) bI aX ao bD Tryz.func158
def as4(n:Nat):bf aV aW 108 (Il n):=cK (bW n [(159,Ij n),(158,Ik n)] [(3,⟨[aq 3,aq 7,aq 8,aq 9],[],[]⟩)] [] [(0,⟨[aq 3],[],[]⟩)]) bI (a8 (as2 n) (a8 (as3 n) aX)) ao bD Tryz.func108
def as5(n:Nat):bf aV aW 253 (Im n):=cK (bW n [] [] [] []) bI aX ao bD Tryz.func253
def as6(n:Nat):bf aV aW 246 (Io n):=cK (bW n [] [] [] []) bI aX ao bD Tryz.func246
def as7(n:Nat):bf aV aW 242 (tB n):=cK (bW n [] [] [] []) bI aX ao bD Tryz.func242
def as8(n:Nat):bf aV aW 238 (Iq n):=cK (bW n [] [] [] []) bI aX ao bD Tryz.func238
def as9(n:Nat):bf aV aW 233 (Ir n):=cK (bW n [] [] [] []) bI aX ao bD Tryz.func233
def ata(n:Nat):bf aV aW 226 (Is n):=cK (bW n [] [] [] []) bI aX ao bD Tryz.func226
def atb(n:Nat)(ab:D)(x1:List D){r:D}(h:N9 n ab x1=some r):en aV aW 256 [ab,.ref x1 0] (·=r):=eC (bW n [] [] [] []) bI aX ao bD Tryz.func256 (bX (o7 p6 le_nil)) h
def atc(n:Nat):bf aV aW 256 (It n):=by
 intro aM r h;unfold It at h;split at h
 case h_2=>cases h
 split at h
 case h_2=>cases h
 exact atb n _ _ h
def atd(n:Nat)(ab:D)(cG:D){r:D}(h:Iv n ab cG=some r):en aV aW 258 [ab,(D.fn (.func tz) [] [cG])] (·=r):=eC (bW n [(256,It n)] [(2,⟨[aq 0,(1,.b (.fd tz 1)),aq 7,aq 8],[],[]⟩)] [] [(0,⟨[],[],[]⟩)]) bI (a8 (atc n) aX) ao bD Tryz.func258 (bX (bX le_nil)) h
def ate(n:Nat):bf aV aW 258 (Bt n):=by
 intro aM r h;unfold Bt at h;split at h
 case h_2=>cases h
 split at h
 case h_2=>cases h
 rename_i aj;obtain rfl:=mz aj;exact atd n _ _ h
def atf(n:Nat)(ab:D)(cG:D){r:D}(h:Oa n ab cG=some r):en aV aW 255 [ab,(D.fn (.func tz) [] [cG])] (·=r):=eC (bW n [(258,Bt n)] [] [] []) bI (a8 (ate n) aX) ao bD Tryz.func255 (bX (bX le_nil)) h
def atg(n:Nat):bf aV aW 255 (Bu n):=by
 intro aM r h;unfold Bu at h;split at h
 case h_2=>cases h
 split at h
 case h_2=>cases h
 rename_i aj;obtain rfl:=mz aj;exact atf n _ _ h
def ath(n:Nat):bf aV aW 199 (Iw n):=cK (bW n [] [] [(5004000,⟨[aq 4,aq 5],[],[]⟩),(5005000,⟨[aq 4,aq 5],[],[]⟩),(5006000,⟨[aq 4,aq 5],[],[]⟩),(12011000,⟨[aq 4,aq 12],[],[]⟩),(15014000,⟨[aq 4,aq 15],[],[]⟩),(15015000,⟨[aq 4,aq 15],[],[]⟩),(15016000,⟨[aq 4,aq 15],[],[]⟩),(15017000,⟨[aq 4,aq 15],[],[]⟩),(15018000,⟨[aq 4,aq 15],[],[]⟩),(15019000,⟨[aq 4,aq 15],[],[]⟩),(15020000,⟨[aq 4,aq 15],[],[]⟩),(15021000,⟨[aq 4,aq 15],[],[]⟩),(15022000,⟨[aq 4,aq 15],[],[]⟩)] []) bI aX ao bD Tryz.func199
def ati(n:Nat):bf aV aW 178 (Ix n):=cK (bW n [(199,Iw n)] [] [(18008007,⟨[sp 1,aq 3,aq 4,aq 5,aq 6],[a5 1 4],[]⟩),(20000009,⟨[sp 1,aq 3,aq 4,aq 5,aq 6],[a5 1 4],[]⟩)] [(0,⟨[sp 1,aq 3,aq 4,aq 5,aq 6],[a5 1 4],[]⟩)]) bI (a8 (ath n) aX) ao bD Tryz.func178
def atj(n:Nat):gl aV aW adz (Iy n):=p7 ⟨fV aV,aW,gj [(178,Ix n)],n,[10000,10001],cS [],cS [(10004003,⟨[(3,.b (.ptr 10001 0))],[a5 10001 1,a5 10000 1],[]⟩),(18000006,⟨[(3,.b (.ptr 10001 0))],[a5 10001 1,a5 10000 1],[]⟩)],cS [],gU [],gi [],g7 [],g0 []⟩ bI (a8 (ati n) aX) ao bD Tryz.func177 []
def adK(n:Nat):gl aV aW VE (y5 n):=p7 ⟨fV aV,aW,gj [],n,[],cS [(2,⟨[cZ 0 9000,aq 1,aq 5],[cp 9000 1],[]⟩)],cS [],cS [(0,⟨[cZ 0 9000,aq 1,aq 5],[cp 9000 1],[]⟩)],gU [],gi [],g7 [],g0 []⟩ bI aX ao bD Tryz.func180 []
def atk(n:Nat):gl aV aW adA (Bv n):=p7 ⟨fV aV,aW,gj [],n,[10000,10001],cS [],cS [(9004003,⟨[],[(10000,.box [.b (.row 6010)]),(10001,.box [.b (.row 9001)]),cp 6010 1,cp 9001 1],[]⟩),(15000005,⟨[],[(10000,.box [.b (.row 9000)]),(10001,.box [.b (.row 6020)]),cp 9000 1,cp 6020 1],[]⟩)],cS [(0,⟨[],[(10000,.box [.b (.row 6010)]),(10001,.box [.b (.row 9001)]),cp 6010 1,cp 9001 1],[]⟩)],gU [],gi [(14,⟨VE,y5 n,6010,[]⟩),(20,⟨VE,y5 n,6020,[]⟩)],g7 [],g0 []⟩ bI aX (bH (adK n) (bH (adK n) ao)) bD Tryz.func179 []
def atl(Bw:List D->Option (List D))(n:Nat)(atm:gl aV aW CJ Bw):gl aV aW CJ (Us Bw n):=p7 ⟨fV aV,aW,gj [],n,[10000,10001],cS [(4,⟨[aq 1,(2,.fn (.func ab6) [] [.ptr 10000 0,.ptr 10001 0]),aq 15,aq 16,aq 17],[a5 10000 1,a5 10001 1],[]⟩)],cS [],cS [(0,⟨[],[a5 10000 1,a5 10001 1],[]⟩)],gU [],gi [(12,⟨adz,Iy n,6010,[]⟩),(25,⟨CJ,Bw,6020,[]⟩)],g7 [],g0 []⟩ bI aX (bH (atj n) (bH atm ao)) bD Tryz.func176 []
def adL:∀n,gl aV aW CJ (w7 n)
 |0=>yW (s:=CJ) (yY (T:=fV aV) (os:=λ_=>none) Tryz.func176) (λ_=>rfl)|n+1=>by have ih:=adL n;exact atl (w7 n) n ih
def atn(n:Nat):gl aV aW CJ (w7 n):=(adL n)
def VG(n:Nat):bf aV aW 124 (vm n):=cK ⟨fV aV,aW,gj [],n,[],cS [],cS [],cS [],gU [],gi [(7,⟨CJ,w7 n,6010,[]⟩)],g7 [],g0 []⟩ bI aX (bH (atn n) ao) bD Tryz.func124
def ato(Bx:List D->Option (List D))(n:Nat)(atp:gl aV aW CK Bx):gl aV aW CK (Ut Bx n):=p7 ⟨fV aV,aW,gj [],n,[10000,10001],cS [(4,⟨[aq 1,(2,.fn (.func ab7) [] [.ptr 10000 0,.ptr 10001 0]),aq 15,aq 16,aq 17],[(10000,.box [.b (.row 6010)]),(10001,.box [.b (.row 6011)]),cp 6010 1,cp 6011 1],[]⟩)],cS [],cS [(0,⟨[],[(10000,.box [.b (.row 6010)]),(10001,.box [.b (.row 6011)]),cp 6010 1,cp 6011 1],[]⟩)],gU [],gi [(12,⟨adA,Bv n,6010,[]⟩),(25,⟨CK,Bx,6020,[]⟩)],g7 [],g0 []⟩ bI aX (bH (atk n) (bH atp ao)) bD Tryz.func176 []
def adM:∀n,gl aV aW CK (w8 n)
 |0=>yW (s:=CK) (yY (T:=fV aV) (os:=λ_=>none) Tryz.func176) (λ_=>rfl)|n+1=>by have ih:=adM n;exact ato (w8 n) n ih
def atq(n:Nat):gl aV aW CK (w8 n):=(adM n)
def Ps(n:Nat):bf aV aW 125 (tC n):=cK ⟨fV aV,aW,gj [],n,[],cS [],cS [],cS [],gU [(2,[0,1,2,3])],gi [(6,⟨CK,w8 n,6010,[.box 3 0 5900 1,.box 2 0 5901 1]⟩)],g7 [],g0 []⟩ bI aX (bH (atq n) ao) bD Tryz.func125
def atr(n:Nat):bf aV aW 78 (By n):=cK (bW n [(124,vm n),(125,tC n)] [] [] []) bI (a8 (VG n) (a8 (Ps n) aX)) ao bD Tryz.func78
def ats(n:Nat):bf aV aW 79 (IC n):=cK (bW n [] [] [(6005000,⟨[aq 3,aq 6],[],[]⟩),(6006000,⟨[aq 3,aq 6],[],[]⟩),(6007000,⟨[aq 3,aq 6],[],[]⟩),(6008000,⟨[aq 3,aq 6],[],[]⟩),(12011000,⟨[aq 12],[],[]⟩),(12012000,⟨[aq 12],[],[]⟩),(12013000,⟨[aq 12],[],[]⟩),(12014000,⟨[aq 12],[],[]⟩),(12015000,⟨[aq 12],[],[]⟩),(12016000,⟨[aq 12],[],[]⟩)] [(0,⟨[],[],[]⟩)]) bI aX ao bD Tryz.func79
def att(n:Nat):gl aV aW adB (ID n):=p7 ⟨fV aV,aW,gj [(78,By n),(79,IC n)],n,[10000,10001],cS [],cS [(40007006,⟨[(3,.b (.ptr 10001 0))],[a5 10001 1,a5 10000 1],[]⟩),(43009008,⟨[(3,.b (.ptr 10001 0))],[a5 10001 1,a5 10000 1],[]⟩),(46011010,⟨[(3,.b (.ptr 10001 0))],[a5 10001 1,a5 10000 1],[]⟩),(50013012,⟨[(3,.b (.ptr 10001 0))],[a5 10001 1,a5 10000 1],[]⟩),(65000014,⟨[(3,.b (.ptr 10001 0))],[a5 10001 1,a5 10000 1],[]⟩)],cS [(0,⟨[(3,.b (.ptr 10001 0))],[a5 10001 1,a5 10000 1],[]⟩)],gU [],gi [],g7 [],g0 []⟩ bI (a8 (atr n) (a8 (ats n) aX)) ao bD Tryz.func77 []
def atu(Bz:List D->Option (List D))(n:Nat)(atv:gl aV aW CL Bz):gl aV aW CL (Uu Bz n):=p7 ⟨fV aV,aW,gj [],n,[10000,10001],cS [(4,⟨[aq 1,(2,.fn (.func ab5) [] [.ptr 10000 0,.ptr 10001 0]),aq 15,aq 16,aq 17],[a5 10000 1,a5 10001 1],[]⟩)],cS [],cS [(0,⟨[],[a5 10000 1,a5 10001 1],[]⟩)],gU [],gi [(12,⟨adB,ID n,6010,[]⟩),(25,⟨CL,Bz,6020,[]⟩)],g7 [],g0 []⟩ bI aX (bH (att n) (bH atv ao)) bD Tryz.func76 []
def adN:∀n,gl aV aW CL (w9 n)
 |0=>yW (s:=CL) (yY (T:=fV aV) (os:=λ_=>none) Tryz.func76) (λ_=>rfl)|n+1=>by have ih:=adN n;exact atu (w9 n) n ih
def atw(n:Nat):gl aV aW CL (w9 n):=(adN n)
def KN(n:Nat):bf aV aW 42 (qV n):=cK ⟨fV aV,aW,gj [],n,[],cS [],cS [],cS [],gU [],gi [(7,⟨CL,w9 n,6010,[]⟩)],g7 [],g0 []⟩ bI aX (bH (atw n) ao) bD Tryz.func42
def VH(n:Nat):bf aV aW 160 (xa n):=cK (bW n [] [(3,⟨[(3,.b (.map 8)),aq 9,aq 10,aq 11],[(8,.map)],[]⟩)] [(24000007,⟨[(3,.b (.map 8)),aq 9,aq 10,aq 11],[(8,.map)],[]⟩)] [(0,⟨[(3,.b (.map 8))],[(8,.map)],[]⟩),(1,⟨[(3,.b (.map 8)),aq 9,aq 10,aq 11],[(8,.map)],[]⟩)]) bI aX ao bD Tryz.func160
def atx(n:Nat):bf aV aW 161 (IH n):=cK ⟨fV aV,aW,gj [(160,xa n),(125,tC n)],n,[],cS [(4,⟨[aq 3,cZ 4 5002,aq 16,aq 17,aq 18],[cp 5002 1],[.slot 4 5002 1]⟩),(9,⟨[aq 3,cZ 4 5002,cZ 7 5001,aq 16,aq 17,aq 18,aq 28,aq 29,aq 30],[cp 5002 1,cp 5001 1],[.slot 7 5001 1]⟩)],cS [(40000013,⟨[aq 3,cZ 4 5002,cZ 7 44,aq 16,aq 17,aq 18,aq 28,aq 29,aq 30],[cp 5002 1,cp 44 1],[.slot 7 5000 1]⟩)],cS [(0,⟨[cZ 4 5002],[cp 5002 1],[]⟩),(1,⟨[aq 3,cZ 4 49,aq 16,aq 17,aq 18],[cp 49 1],[]⟩),(2,⟨[aq 3,cZ 4 5002,cZ 7 5001,aq 16,aq 17,aq 18],[cp 5002 1,cp 5001 1],[]⟩),(3,⟨[aq 3,cZ 4 5002,cZ 7 44,aq 16,aq 17,aq 18,aq 28,aq 29,aq 30],[cp 5002 1,cp 44 1],[]⟩)],gU [],gi [],g7 [48],g0 []⟩ bI (a8 (VH n) (a8 (Ps n) aX)) ao bD Tryz.func161
def aty(BA:List D->Option (List D))(n:Nat)(atz:gl aV aW zz BA):gl aV aW zz (Og BA n):=p7 ⟨fV aV,aW,gj [],n,[10000,10001,10002],cS [(1,⟨[(2,.b (.ptr 10001 0)),(3,.b (.ptr 10002 0)),aq 10,aq 11,aq 12],[(10001,.box [.b (.map 9000)]),(10002,.box [.fn (.func y3) [] [.ptr 10000 0,.ptr 10001 0,.ptr 10002 0]]),a5 10000 1,(9000,.map)],[]⟩)],cS [(19000004,⟨[(2,.b (.ptr 10001 0)),(3,.b (.ptr 10002 0)),aq 10,aq 11,aq 12],[(10001,.box [.b (.map 6010)]),(10002,.box [.fn (.func y3) [] [.ptr 10000 0,.ptr 10001 0,.ptr 10002 0]]),a5 10000 1,(6010,.map)],[]⟩)],cS [(0,⟨[],[a5 10000 1,(10001,.box [.b (.map 9000)]),(10002,.box [.fn (.func y3) [] [.ptr 10000 0,.ptr 10001 0,.ptr 10002 0]]),(9000,.map)],[]⟩),(1,⟨[(2,.b (.ptr 10001 0)),(3,.b (.ptr 10002 0)),aq 10,aq 11,aq 12],[(10001,.box [.b (.map 6010)]),(10002,.box [.fn (.func y3) [] [.ptr 10000 0,.ptr 10001 0,.ptr 10002 0]]),a5 10000 1,(6010,.map)],[]⟩)],gU [],gi [(24,⟨zz,BA,6010,[]⟩)],g7 [],g0 []⟩ bI aX (bH atz ao) bD Tryz.func192 []
def adO:∀n,gl aV aW zz (tD n)
 |0=>yW (s:=zz) (yY (T:=fV aV) (os:=λ_=>none) Tryz.func192) (λ_=>rfl)|n+1=>by have ih:=adO n;exact aty (tD n) n ih
def adP(n:Nat):gl aV aW zz (tD n):=(adO n)
def atA(n:Nat):gl aV aW adC (IK n):=p7 ⟨fV aV,aW,gj [],n,[],cS [(5,⟨[sp 5,sp 6,aq 11,aq 12,aq 13],[(5,.box [.b (.map 9)]),(6,.box [.fn (.func y3) [] [.ptr 2 0,.ptr 5 0,.ptr 6 0]]),(9,.map),a5 2 1],[]⟩)],cS [],cS [(0,⟨[sp 5],[(5,.box [.b (.map 9)]),(9,.map)],[]⟩)],gU [],gi [(19,⟨zz,tD n,6010,[]⟩)],g7 [],g0 []⟩ bI aX (bH (adP n) ao) bD Tryz.func162 []
def atB(n:Nat):bf aV aW 162 (EE n):=dV ⟨fV aV,aW,gj [],n,[],cS [(5,⟨[sp 5,sp 6,aq 11,aq 12,aq 13],[(5,.box [.b (.map 9)]),(6,.box [.fn (.func y3) [] [.ptr 2 0,.ptr 5 0,.ptr 6 0]]),(9,.map),a5 2 1],[]⟩)],cS [],cS [(0,⟨[sp 5],[(5,.box [.b (.map 9)]),(9,.map)],[]⟩)],gU [],gi [(19,⟨zz,tD n,6010,[]⟩)],g7 [],g0 []⟩ bI aX (bH (adP n) ao) bD Tryz.func162
def atC(xb:List D->Option (List D))(n:Nat)(atD:gl aV aW CM xb):gl aV aW CM (IN xb n):=p7 ⟨fV aV,aW,gj [],n,[10000,10001,10002,10003],cS [(1,⟨[aq 1,(2,.b (.ptr 10000 0)),(3,.b (.ptr 10001 0)),(4,.b (.ptr 10002 0)),(5,.b (.ptr 10003 0)),sp 6,sp 8],[a5 10000 1,a5 10001 1,a5 10002 1,(10003,.box [.fn (.func y4) [] [.ptr 10000 0,.ptr 10001 0,.ptr 10002 0,.ptr 10003 0]]),a5 6 4,a5 8 4],[]⟩),(10,⟨[aq 1,(4,.b (.ptr 10002 0)),(5,.b (.ptr 10003 0)),sp 6,sp 8,cZ 11 41,aq 43,aq 44,aq 45],[a5 10002 1,(10003,.box [.fn (.func y4) [] [.ptr 10000 0,.ptr 10001 0,.ptr 10002 0,.ptr 10003 0]]),a5 6 4,a5 8 4,cp 41 4,a5 10000 1,a5 10001 1],[]⟩)],cS [(55000013,⟨[aq 1,(4,.b (.ptr 10002 0)),(5,.b (.ptr 10003 0)),sp 6,sp 8,cZ 11 41,aq 43,aq 44,aq 45],[a5 10002 1,(10003,.box [.fn (.func y4) [] [.ptr 10000 0,.ptr 10001 0,.ptr 10002 0,.ptr 10003 0]]),a5 6 4,a5 8 4,cp 41 4,a5 10000 1,a5 10001 1],[]⟩)],cS [(0,⟨[aq 1,(4,.b (.ptr 10002 0)),(5,.b (.ptr 10003 0)),sp 6,sp 8],[a5 10002 1,(10003,.box [.fn (.func y4) [] [.ptr 10000 0,.ptr 10001 0,.ptr 10002 0,.ptr 10003 0]]),a5 6 4,a5 8 4,a5 10000 1,a5 10001 1],[]⟩),(2,⟨[sp 6,sp 8,cZ 11 41],[a5 6 4,a5 8 4,cp 41 4,a5 10000 1,a5 10001 1,a5 10002 1,(10003,.box [.fn (.func y4) [] [.ptr 10000 0,.ptr 10001 0,.ptr 10002 0,.ptr 10003 0]])],[]⟩),(3,⟨[aq 1,(4,.b (.ptr 10002 0)),(5,.b (.ptr 10003 0)),sp 6,sp 8,cZ 11 41,aq 43,aq 44,aq 45],[a5 10002 1,(10003,.box [.fn (.func y4) [] [.ptr 10000 0,.ptr 10001 0,.ptr 10002 0,.ptr 10003 0]]),a5 6 4,a5 8 4,cp 41 4,a5 10000 1,a5 10001 1],[]⟩)],gU [],gi [(62,⟨CM,xb,6010,[]⟩)],g7 [20066],g0 []⟩ bI aX (bH atD ao) bD Tryz.func193 []
def adQ:∀n,gl aV aW CM (vn n)
 |0=>yW (s:=CM) (yY (T:=fV aV) (os:=λ_=>none) Tryz.func193) (λ_=>rfl)|n+1=>by have ih:=adQ n;exact atC (vn n) n ih
def atE(n:Nat):gl aV aW CM (vn n):=(adQ n)
def atF(n:Nat):bf aV aW 163 (IP n):=dV ⟨fV aV,aW,gj [(160,xa n)],n,[],cS [],cS [],cS [],gU [],gi [(13,⟨CM,vn n,6010,[]⟩)],g7 [],g0 []⟩ bI (a8 (VH n) aX) (bH (atE n) ao) bD Tryz.func163
def Pt(n:Nat):bf aV aW 114 (ni n):=dV ⟨(fV Tryz.prog).rQ [77],aW,gj [(124,vm n),(160,xa n),(161,IH n),(125,tC n),(162,EE n),(163,IP n)],n,[],cS [(8,⟨[aq 1,sp 2,sp 4,aq 7,aq 8,cZ 9 5001,aq 36,aq 37,aq 38],[a5 2 4,a5 4 4,cp 5001 1],[.slot 9 5001 1]⟩),(16,⟨[aq 1,sp 2,sp 4,aq 8,(16,.b (.map 6010)),aq 57,aq 58,aq 59],[a5 2 4,a5 4 4,(6010,.map)],[]⟩),(21,⟨[aq 1,sp 2,sp 4,aq 8,(16,.b (.map 6010)),aq 67,aq 68],[a5 2 4,a5 4 4,(6010,.map)],[]⟩)],cS [(48000012,⟨[aq 1,sp 2,sp 4,aq 7,aq 8,cZ 9 52,aq 36,aq 37,aq 38],[a5 2 4,a5 4 4,cp 52 1],[.slot 9 5000 1]⟩)],cS [(0,⟨[aq 1,sp 2,sp 4,aq 8,cZ 9 5001],[a5 2 4,a5 4 4,cp 5001 1],[]⟩),(1,⟨[aq 1,sp 2,sp 4,aq 7,aq 8,cZ 9 52,aq 36,aq 37,aq 38],[a5 2 4,a5 4 4,cp 52 1],[]⟩),(2,⟨[aq 1,sp 2,sp 4,aq 8,(16,.b (.map 6010))],[a5 2 4,a5 4 4,(6010,.map)],[]⟩),(4,⟨[aq 1,sp 2,sp 4],[a5 2 4,a5 4 4],[]⟩)],gU [],gi [(56,⟨adC,IK n,6010,[]⟩)],g7 [],g0 [(14,[[5001],[],[]])]⟩ ((tok _).rQ _) (a8 (VG n) (a8 (VH n) (a8 (atx n) (a8 (Ps n) (a8 (atB n) (a8 (atF n) aX)))))) (bH (atA n) ao) bD Tryz.func114
def adR(n:Nat):bf aV aW 147 (BC n):=cK (bW n [] [(3,⟨[(3,.b (.map 8)),aq 9,aq 10,aq 11],[(8,.map)],[]⟩)] [(24000007,⟨[(3,.b (.map 8)),aq 9,aq 10,aq 11],[(8,.map)],[]⟩)] [(0,⟨[(3,.b (.map 8))],[(8,.map)],[]⟩),(1,⟨[(3,.b (.map 8)),aq 9,aq 10,aq 11],[(8,.map)],[]⟩)]) bI aX ao bD Tryz.func147
def adS(n:Nat):bf aV aW 205 (tF n):=dV (bW n [] [] [] []) bI aX ao bD Tryz.func205
def atG(n:Nat):bf aV aW 206 (IV n):=cK (bW n [] [(2,⟨[sp 2,aq 6,aq 7,aq 8],[a5 2 3],[]⟩)] [] [(0,⟨[sp 2],[a5 2 3],[]⟩)]) bI aX ao bD Tryz.func206
def atH(n:Nat):bf aV aW 207 (BD n):=iB (bW n [(205,tF n)] [] [(13000002,⟨[aq 0,sp 4,sp 5,sp 6],[a5 4 3,a5 5 3,a5 6 3],[]⟩)] []) bI (a8 (adS n) aX) ao bD Tryz.func207
def atI(n:Nat):bf aV aW 194 (qf n):=TL (bW n [(205,tF n),(206,IV n),(207,BD n)] [] [(29007000,⟨[aq 0,aq 1,aq 3,aq 4,sp 7,sp 10,aq 16,aq 29],[a5 7 4,a5 10 3],[]⟩),(69017000,⟨[aq 4,sp 7,sp 10,aq 16,aq 69],[a5 7 4,a5 10 3],[]⟩),(69018000,⟨[aq 4,sp 7,sp 10,aq 16,aq 69],[a5 7 4,a5 10 3],[]⟩),(69019000,⟨[aq 4,sp 7,sp 10,aq 16,aq 69],[a5 7 4,a5 10 3],[]⟩),(69020000,⟨[aq 4,sp 7,sp 10,aq 16,aq 69],[a5 7 4,a5 10 3],[]⟩),(126029000,⟨[aq 4,sp 7,sp 10,aq 126],[a5 7 4,a5 10 3],[]⟩),(164038000,⟨[aq 4,sp 7,sp 10,aq 152,aq 164],[a5 7 4,a5 10 3],[]⟩)] [(0,⟨[aq 4,sp 7,sp 10],[a5 7 4,a5 10 3],[]⟩)]) bI (a8 (adS n) (a8 (atG n) (a8 (atH n) aX))) ao bD Tryz.func194
def atJ(BJ:List D->Option D)(n:Nat)(ab:D)(ah:D)(aT:D)(bq:D)(atK:bf aV aW 164 BJ){r:D}(h:UE BJ n ab ah aT bq=some r):en aV aW 164 [ab,ah,aT,bq] (·=r):=eC (bW n [(164,BJ),(194,qf n)] [(3,⟨[aq 0,aq 1,aq 3,sp 6,sp 8,cZ 10 5000,aq 16,aq 17,aq 18],[a5 6 4,a5 8 3,cp 5000 3],[.slot 10 5000 3]⟩)] [] [(0,⟨[aq 0,aq 1,aq 3,sp 6,sp 8,cZ 10 5000],[a5 6 4,a5 8 3,cp 5000 3],[]⟩)]) bI (a8 atK (a8 (atI n) aX)) ao bD Tryz.func164 (bX (bX (bX (bX le_nil)))) h
def adT:∀n,bf aV aW 164 (tH n)
 |0=>(λ_ _ h=>by cases h)
 |n+1=>by
  have ih:=adT n;exact(by
   intro aM r h;unfold tH at h;split at h
   case h_2=>cases h
   exact atJ (tH n) n _ _ _ _ ih h)
def atL(n:Nat):bf aV aW 164 (tH n):=(adT n)
def VI(n:Nat):bf aV aW 115 (vq n):=iB (bW n [(124,vm n),(147,BC n),(164,tH n)] [] [] []) bI (a8 (VG n) (a8 (adR n) (a8 (atL n) aX))) ao bD Tryz.func115
def VJ(n:Nat):bf aV aW 240 (vr n):=iB (bW n [(114,ni n),(115,vq n)] [] [] []) bI (a8 (Pt n) (a8 (VI n) aX)) ao bD Tryz.func240
def adU(n:Nat):bf aV aW 244 (y7 n):=iB (bW n [(240,vr n)] [] [] []) bI (a8 (VJ n) aX) ao bD Tryz.func244
def atM(BK:List D->Option D)(n:Nat)(ab:D)(ah:D)(atN:bf aV aW 257 BK){r:D}(h:I5 BK n ab ah=some r):en aV aW 257 [ab,ah] (·=r):=eC (bW n [(244,y7 n),(257,BK)] [(4,⟨[sp 2,aq 16,aq 17,aq 18],[a5 2 8],[]⟩)] [] [(0,⟨[],[],[]⟩)]) bI (a8 (adU n) (a8 atN aX)) ao bD Tryz.func257 (bX (bX le_nil)) h
def adV:∀n,bf aV aW 257 (vt n)
 |0=>(λ_ _ h=>by cases h)
 |n+1=>by
  have ih:=adV n;exact(by
   intro aM r h;unfold vt at h;split at h
   case h_2=>cases h
   exact atM (vt n) n _ _ ih h)
def atO(n:Nat):bf aV aW 257 (vt n):=(adV n)
def atP(n:Nat):bf aV aW 254 (xf n):=iB (bW n [(156,vl n),(255,Bu n),(42,qV n),(257,vt n)] [] [] []) bI (a8 (VF n) (a8 (atg n) (a8 (KN n) (a8 (atO n) aX)))) ao bD Tryz.func254
def atQ(n:Nat)(ab:D)(x1:List D){r:D}(h:Oo n ab x1=some r):en aV aW 248 [ab,.ref x1 0] (·=r):=eC (bW n [] [] [] []) bI aX ao bD Tryz.func248 (bX (o7 p6 le_nil)) h
def atS(n:Nat):bf aV aW 248 (I8 n):=by
 intro aM r h;unfold I8 at h;split at h
 case h_2=>cases h
 split at h
 case h_2=>cases h
 exact atQ n _ _ h
def atT(n:Nat)(ab:D)(cG:D){r:D}(h:Ja n ab cG=some r):en aV aW 103 [ab,(D.fn (.func Es) [] [cG])] (·=r):=eC (bW n [(248,I8 n)] [(2,⟨[aq 0,(1,.b (.fd Es 1)),aq 7,aq 8],[],[]⟩)] [] [(0,⟨[],[],[]⟩)]) bI (a8 (atS n) aX) ao bD Tryz.func103 (bX (bX le_nil)) h
def atU(n:Nat):bf aV aW 103 (BL n):=by
 intro aM r h;unfold BL at h;split at h
 case h_2=>cases h
 split at h
 case h_2=>cases h
 rename_i aj;obtain rfl:=mz aj;exact atT n _ _ h
def atV(n:Nat)(ab:D)(x1:List D){r:D}(h:Oq n ab x1=some r):en aV aW 250 [ab,.ref x1 0] (·=r):=eC (bW n [] [] [] []) bI aX ao bD Tryz.func250 (bX (o7 p6 le_nil)) h
def atW(n:Nat):bf aV aW 250 (Jb n):=by
 intro aM r h;unfold Jb at h;split at h
 case h_2=>cases h
 split at h
 case h_2=>cases h
 exact atV n _ _ h
def atX(n:Nat)(ab:D)(cG:D){r:D}(h:Jd n ab cG=some r):en aV aW 251 [ab,(D.fn (.func tx) [] [cG])] (·=r):=eC (bW n [(250,Jb n)] [(2,⟨[aq 0,(1,.b (.fd tx 1)),aq 7,aq 8],[],[]⟩)] [] [(0,⟨[],[],[]⟩)]) bI (a8 (atW n) aX) ao bD Tryz.func251 (bX (bX le_nil)) h
def atY(n:Nat):bf aV aW 251 (BM n):=by
 intro aM r h;unfold BM at h;split at h
 case h_2=>cases h
 split at h
 case h_2=>cases h
 rename_i aj;obtain rfl:=mz aj;exact atX n _ _ h
def atZ(n:Nat)(ab:D)(cG:D){r:D}(h:Ot n ab cG=some r):en aV aW 249 [ab,(D.fn (.func tx) [] [cG])] (·=r):=eC (bW n [(251,BM n)] [] [] []) bI (a8 (atY n) aX) ao bD Tryz.func249 (bX (bX le_nil)) h
def at0(n:Nat):bf aV aW 249 (BN n):=by
 intro aM r h;unfold BN at h;split at h
 case h_2=>cases h
 split at h
 case h_2=>cases h
 rename_i aj;obtain rfl:=mz aj;exact atZ n _ _ h
def at1(n:Nat):bf aV aW 247 (y8 n):=iB (bW n [(103,BL n),(249,BN n),(240,vr n)] [] [] []) bI (a8 (atU n) (a8 (at0 n) (a8 (VJ n) aX))) ao bD Tryz.func247
def at2(n:Nat):bf aV aW 243 (EL n):=iB (bW n [(244,y7 n)] [] [] []) bI (a8 (adU n) aX) ao bD Tryz.func243
def at3(n:Nat):bf aV aW 239 (EM n):=iB (bW n [(240,vr n)] [] [] []) bI (a8 (VJ n) aX) ao bD Tryz.func239
def at4(n:Nat)(ab:D)(x1:List D){r:D}(h:Ov n ab x1=some r):en aV aW 236 [ab,.ref x1 0] (·=r):=eC (bW n [] [] [] []) bI aX ao bD Tryz.func236 (bX (o7 p6 le_nil)) h
def at5(n:Nat):bf aV aW 236 (Jf n):=by
 intro aM r h;unfold Jf at h;split at h
 case h_2=>cases h
 split at h
 case h_2=>cases h
 exact at4 n _ _ h
def at6(n:Nat)(ab:D)(cG:D){r:D}(h:Jh n ab cG=some r):en aV aW 235 [ab,(D.fn (.func Er) [] [cG])] (·=r):=eC (bW n [(236,Jf n)] [(2,⟨[aq 0,(1,.b (.fd Er 1)),aq 7,aq 8],[],[]⟩)] [] [(0,⟨[],[],[]⟩)]) bI (a8 (at5 n) aX) ao bD Tryz.func235 (bX (bX le_nil)) h
def at7(n:Nat):bf aV aW 235 (BO n):=by
 intro aM r h;unfold BO at h;split at h
 case h_2=>cases h
 split at h
 case h_2=>cases h
 rename_i aj;obtain rfl:=mz aj;exact at6 n _ _ h
def aua(n:Nat):bf aV aW 234 (EN n):=iB ⟨fV aV,aW,gj [(125,tC n),(235,BO n)],n,[],cS [(3,⟨[aq 0,aq 2,cZ 7 16,cZ 8 18],[cp 16 1,cp 18 1],[]⟩),(7,⟨[aq 0,aq 2,cZ 7 16,cZ 8 18,aq 35,aq 36,aq 37],[cp 16 1,cp 18 1],[]⟩)],cS [(52000011,⟨[aq 0,aq 2,cZ 7 16,cZ 8 59,aq 35,aq 36,aq 37],[cp 16 1,cp 59 1],[]⟩)],cS [(0,⟨[aq 2,cZ 7 16],[cp 16 1],[]⟩),(1,⟨[aq 0,aq 2,cZ 7 16,cZ 8 18],[cp 16 1,cp 18 1],[]⟩),(2,⟨[aq 0,aq 2,cZ 7 16,cZ 8 18],[cp 16 1,cp 18 1],[]⟩),(3,⟨[aq 0,aq 2,cZ 7 16,cZ 8 59,aq 35,aq 36,aq 37],[cp 16 1,cp 59 1],[]⟩)],gU [],gi [],g7 [23],g0 []⟩ bI (a8 (Ps n) (a8 (at7 n) aX)) ao bD Tryz.func234
def aub(n:Nat)(ab:D)(x1:List D){r:D}(h:Oy n ab x1=some r):en aV aW 228 [ab,.ref x1 0] (·=r):=eC (bW n [] [] [] []) bI aX ao bD Tryz.func228 (bX (o7 p6 le_nil)) h
def auc(n:Nat):bf aV aW 228 (Ji n):=by
 intro aM r h;unfold Ji at h;split at h
 case h_2=>cases h
 split at h
 case h_2=>cases h
 exact aub n _ _ h
def aud(n:Nat)(ab:D)(cG:D){r:D}(h:Jk n ab cG=some r):en aV aW 103 [ab,(D.fn (.func tu) [] [cG])] (·=r):=eC (bW n [(228,Ji n)] [(2,⟨[aq 0,(1,.b (.fd tu 1)),aq 7,aq 8],[],[]⟩)] [] [(0,⟨[],[],[]⟩)]) bI (a8 (auc n) aX) ao bD Tryz.func103 (bX (bX le_nil)) h
def aue(n:Nat):bf aV aW 103 (BQ n):=by
 intro aM r h;unfold BQ at h;split at h
 case h_2=>cases h
 split at h
 case h_2=>cases h
 rename_i aj;obtain rfl:=mz aj;exact aud n _ _ h
def auf(n:Nat)(ab:D)(cG:D){r:D}(h:Oz n ab cG=some r):en aV aW 157 [ab,(D.fn (.func tu) [] [cG])] (·=r):=eC (bW n [(103,BQ n)] [] [] []) bI (a8 (aue n) aX) ao bD Tryz.func157 (bX (bX le_nil)) h
def aug(n:Nat):bf aV aW 157 (BR n):=by
 intro aM r h;unfold BR at h;split at h
 case h_2=>cases h
 split at h
 case h_2=>cases h
 rename_i aj;obtain rfl:=mz aj;exact auf n _ _ h
def auh(n:Nat)(ab:D)(x1:List D){r:D}(h:OA n ab x1=some r):en aV aW 230 [ab,.ref x1 0] (·=r):=eC (bW n [] [] [] []) bI aX ao bD Tryz.func230 (bX (o7 p6 le_nil)) h
def aui(n:Nat):bf aV aW 230 (Jl n):=by
 intro aM r h;unfold Jl at h;split at h
 case h_2=>cases h
 split at h
 case h_2=>cases h
 exact auh n _ _ h
def auj(n:Nat)(ab:D)(cG:D){r:D}(h:Jn n ab cG=some r):en aV aW 231 [ab,(D.fn (.func tw) [] [cG])] (·=r):=eC (bW n [(230,Jl n)] [(2,⟨[aq 0,(1,.b (.fd tw 1)),aq 7,aq 8],[],[]⟩)] [] [(0,⟨[],[],[]⟩)]) bI (a8 (aui n) aX) ao bD Tryz.func231 (bX (bX le_nil)) h
def auk(n:Nat):bf aV aW 231 (BS n):=by
 intro aM r h;unfold BS at h;split at h
 case h_2=>cases h
 split at h
 case h_2=>cases h
 rename_i aj;obtain rfl:=mz aj;exact auj n _ _ h
def aul(n:Nat)(ab:D)(cG:D){r:D}(h:OB n ab cG=some r):en aV aW 229 [ab,(D.fn (.func tw) [] [cG])] (·=r):=eC (bW n [(231,BS n)] [] [] []) bI (a8 (auk n) aX) ao bD Tryz.func229 (bX (bX le_nil)) h
def aum(n:Nat):bf aV aW 229 (BT n):=by
 intro aM r h;unfold BT at h;split at h
 case h_2=>cases h
 split at h
 case h_2=>cases h
 rename_i aj;obtain rfl:=mz aj;exact aul n _ _ h
def aun(n:Nat):bf aV aW 227 (xh n):=iB (bW n [(156,vl n),(157,BR n),(229,BT n)] [] [(17005000,⟨[aq 17],[],[]⟩)] []) bI (a8 (VF n) (a8 (aug n) (a8 (aum n) aX))) ao bD Tryz.func227
def auo(n:Nat):bf aV aW 252 (OC n):=cK (bW n [] [] [] []) bI aX ao bD Tryz.func252
def aup(n:Nat):bf aV aW 245 (OD n):=cK (bW n [] [] [] []) bI aX ao bD Tryz.func245
def auq(n:Nat):bf aV aW 241 (OE n):=cK (bW n [] [] [] []) bI aX ao bD Tryz.func241
def aur(n:Nat):bf aV aW 237 (OF n):=cK (bW n [] [] [] []) bI aX ao bD Tryz.func237
def aus(n:Nat):bf aV aW 232 (OG n):=cK (bW n [] [] [] []) bI aX ao bD Tryz.func232
def aut(n:Nat):bf aV aW 225 (OH n):=cK (bW n [] [] [] []) bI aX ao bD Tryz.func225
def auu(n:Nat):bf aV aW 64 (r8 n):=cK ⟨((fV Tryz.prog).M3 [151,152,153,155,156,157]),aW,gj [(107,ED n),(108,Il n),(253,Im n),(246,Io n),(242,tB n),(238,Iq n),(233,Ir n),(226,Is n),(254,xf n),(247,y8 n),(243,EL n),(239,EM n),(234,EN n),(227,xh n),(252,OC n),(245,OD n),(241,OE n),(237,OF n),(232,OG n),(225,OH n)],n,[],cS [(2,⟨[sp 1,sp 2,aq 36,aq 37],[a5 1 8,a5 2 2],[]⟩),(13,⟨[sp 1,sp 2,aq 93,aq 94],[a5 1 8,a5 2 2],[]⟩),(16,⟨[sp 1,sp 2,aq 9,aq 93,aq 94,aq 98,aq 99],[a5 1 8,a5 2 2],[]⟩)],cS [],cS [(0,⟨[sp 1,sp 2],[a5 1 8,a5 2 2],[]⟩),(2,⟨[sp 2],[a5 2 2],[]⟩),(3,⟨[sp 1,sp 2,aq 93,aq 94],[a5 1 8,a5 2 2],[]⟩),(4,⟨[sp 1,sp 2,aq 93,aq 94],[a5 1 8,a5 2 2],[]⟩)],gU [],gi [],g7 [],g0 []⟩ ((tok _).M3 _) (a8 (as1 n) (a8 (as4 n) (a8 (as5 n) (a8 (as6 n) (a8 (as7 n) (a8 (as8 n) (a8 (as9 n) (a8 (ata n) (a8 (atP n) (a8 (at1 n) (a8 (at2 n) (a8 (at3 n) (a8 (aua n) (a8 (aun n) (a8 (auo n) (a8 (aup n) (a8 (auq n) (a8 (aur n) (a8 (aus n) (a8 (aut n) aX)))))))))))))))))))) ao bD Tryz.func64
def auv(n:Nat):bf aV aW 109 (qX n):=dV (bW n [(114,ni n)] [(2,⟨[aq 1,cZ 4 5000,aq 11,aq 12,aq 13],[cp 5000 4],[.slot 4 5000 4]⟩)] [] [(0,⟨[cZ 4 5000],[cp 5000 4],[]⟩)]) bI (a8 (Pt n) aX) ao bD Tryz.func109
def auw(n:Nat):bf aV aW 110 (BW n):=dV (bW n [(114,ni n)] [(2,⟨[aq 1,cZ 4 5000,aq 11,aq 12,aq 13],[cp 5000 5],[.slot 4 5000 5]⟩)] [] [(0,⟨[cZ 4 5000],[cp 5000 5],[]⟩)]) bI (a8 (Pt n) aX) ao bD Tryz.func110
def auy(BX:List D->Option (List D))(n:Nat)(auz:gl aV aW CN BX):gl aV aW CN (vu BX n):=p7 ⟨fV aV,aW,gj [(114,ni n)],n,[10000,10001],cS [(8,⟨[(2,.b (.ptr 10001 0)),sp 3,sp 4,cZ 8 5000,aq 32,aq 33,aq 34],[(10001,.box [.fn (.func N2) [] [.ptr 10000 0,.ptr 10001 0]]),a5 3 6,a5 4 6,cp 5000 6,a5 10000 1],[.slot 8 5000 6]⟩)],cS [],cS [(0,⟨[sp 3,sp 4,cZ 8 5000],[a5 3 6,a5 4 6,cp 5000 6,a5 10000 1,(10001,.box [.fn (.func N2) [] [.ptr 10000 0,.ptr 10001 0]])],[]⟩)],gU [],gi [(41,⟨CN,BX,6020,[]⟩)],g7 [20004],g0 []⟩ bI (a8 (Pt n) aX) (bH auz ao) bD Tryz.func113 []
def adW:∀n,gl aV aW CN (qY n)
 |0=>yW (s:=CN) (yY (T:=fV aV) (os:=λ_=>none) Tryz.func113) (λ_=>rfl)|n+1=>by have ih:=adW n;exact auy (qY n) n ih
def auA(n:Nat):gl aV aW CN (qY n):=(adW n)
def adX(n:Nat):bf aV aW 67 (xi n):=dV ⟨fV aV,aW,gj [(42,qV n)],n,[],cS [],cS [],cS [],gU [],gi [(17,⟨CN,qY n,6010,[]⟩)],g7 [],g0 []⟩ bI (a8 (KN n) aX) (bH (auA n) ao) bD Tryz.func67
def auB(n:Nat):bf aV aW 111 (BY n):=dV (bW n [(67,xi n)] [(2,⟨[aq 1,cZ 4 5000,aq 11,aq 12,aq 13],[cp 5000 7],[.slot 4 5000 7]⟩)] [] [(0,⟨[cZ 4 5000],[cp 5000 7],[]⟩)]) bI (a8 (adX n) aX) ao bD Tryz.func111
def auC(n:Nat):bf aV aW 65 (Jp n):=cK ⟨fV aV,aW,gj [(109,qX n),(110,BW n),(111,BY n)],n,[],cS [],cS [],cS [],gU [(4,[1,2,0,3,4,5,6,7]),(7,[1,2,0,3,4,5,6,7]),(10,[1,2,0,3,4,5,6,7]),(13,[1,2,0,3,4,5,6,7]),(16,[1,2,0,3,4,5,6,7]),(19,[1,2,0,3,4,5,6,7])],gi [],g7 [],g0 []⟩ bI (a8 (auv n) (a8 (auw n) (a8 (auB n) aX))) ao bD Tryz.func65
def Pu(n:Nat):bf aV aW 31 (qZ n):=cK (bW n [(64,r8 n),(65,Jp n)] [] [] []) bI (a8 (auu n) (a8 (auC n) aX)) ao bD Tryz.func31
def auD(n:Nat):bf aV aW 80 (ER n):=dV (bW n [] [(4,⟨[aq 1,aq 16,aq 17,aq 18],[],[]⟩)] [(28000008,⟨[aq 1,aq 5,aq 7,aq 8,aq 16,aq 17,aq 18],[],[]⟩)] [(0,⟨[],[],[]⟩)]) bI aX ao bD Tryz.func80
def adY(n:Nat):bf aV aW 149 (q0 n):=cK (bW n [] [] [] []) bI aX ao bD Tryz.func149
def auE(n:Nat):bf aV aW 186 (Jq n):=dV (bW n [] [] [] []) bI aX ao bD Tryz.func186
def adZ(n:Nat):bf aV aW 150 (vv n):=dV (bW n [(186,Jq n)] [] [] []) bI (a8 (auE n) aX) ao bD Tryz.func150
def auF(n:Nat):bf aV aW 202 (B2 n):=cK (bW n [] [] [] []) bI aX ao bD Tryz.func202
def auG(n:Nat):bf aV aW 201 (OM n):=dV (bW n [] [] [] []) bI aX ao bD Tryz.func201
def auH(n:Nat):bf aV aW 187 (y9 n):=dV (bW n [(202,B2 n),(201,OM n)] [] [] []) bI (a8 (auF n) (a8 (auG n) aX)) ao bD Tryz.func187
def auI(n:Nat):bf aV aW 151 (kM n):=dV (bW n [(149,q0 n),(150,vv n),(187,y9 n)] [(29,⟨[aq 1,sp 2,aq 6,aq 147,aq 148,aq 149],[a5 2 4],[]⟩)] [(35007000,⟨[aq 1,sp 2,aq 10,aq 35],[a5 2 4],[]⟩)] [(1,⟨[aq 1,sp 2,aq 6],[a5 2 4],[]⟩)]) bI (a8 (adY n) (a8 (adZ n) (a8 (auH n) aX))) ao bD Tryz.func151
def auJ(B5:List D->Option (List D))(n:Nat)(auK:gl aV aW CO B5):gl aV aW CO (xo B5 n):=p7 ⟨fV aV,aW,gj [(149,q0 n),(150,vv n),(151,kM n)],n,[10000,10001,10002,10003,10004],cS [(3,⟨[(1,.b (.ptr 10000 0)),(2,.b (.ptr 10001 0)),(3,.b (.ptr 10002 0)),(4,.b (.ptr 10003 0)),(5,.b (.ptr 10004 0)),sp 6,cZ 9 5000,aq 17,aq 18,aq 19],[(10000,.box [.fn (.func Bd) [] [.ptr 10000 0,.ptr 10001 0,.ptr 10002 0,.ptr 10003 0,.ptr 10004 0]]),a5 10001 1,a5 10002 1,a5 10003 1,a5 10004 1,a5 6 4,cp 5000 1],[.slot 9 5000 1]⟩)],cS [(43013000,⟨[(2,.b (.ptr 10001 0)),(3,.b (.ptr 10002 0)),(4,.b (.ptr 10003 0)),(5,.b (.ptr 10004 0)),sp 6,cZ 9 5000,aq 37,aq 43],[a5 10001 1,a5 10002 1,a5 10003 1,a5 10004 1,a5 6 4,cp 5000 1,(10000,.box [.fn (.func Bd) [] [.ptr 10000 0,.ptr 10001 0,.ptr 10002 0,.ptr 10003 0,.ptr 10004 0]])],[]⟩),(48016000,⟨[(2,.b (.ptr 10001 0)),(3,.b (.ptr 10002 0)),(4,.b (.ptr 10003 0)),(5,.b (.ptr 10004 0)),sp 6,cZ 9 5000,aq 48],[a5 10001 1,a5 10002 1,a5 10003 1,a5 10004 1,a5 6 4,cp 5000 1,(10000,.box [.fn (.func Bd) [] [.ptr 10000 0,.ptr 10001 0,.ptr 10002 0,.ptr 10003 0,.ptr 10004 0]])],[]⟩),(58000019,⟨[(5,.b (.ptr 10004 0)),aq 14,aq 15],[a5 10004 1,(10000,.box [.fn (.func Bd) [] [.ptr 10000 0,.ptr 10001 0,.ptr 10002 0,.ptr 10003 0,.ptr 10004 0]]),a5 10001 1,a5 10002 1,a5 10003 1],[]⟩)],cS [(0,⟨[(2,.b (.ptr 10001 0)),(3,.b (.ptr 10002 0)),(4,.b (.ptr 10003 0)),(5,.b (.ptr 10004 0)),sp 6,cZ 9 5000],[a5 10001 1,a5 10002 1,a5 10003 1,a5 10004 1,a5 6 4,cp 5000 1,(10000,.box [.fn (.func Bd) [] [.ptr 10000 0,.ptr 10001 0,.ptr 10002 0,.ptr 10003 0,.ptr 10004 0]])],[]⟩)],gU [],gi [(26,⟨CO,B5,6020,[]⟩)],g7 [],g0 []⟩ bI (a8 (adY n) (a8 (adZ n) (a8 (auI n) aX))) (bH auK ao) bD Tryz.func148 []
def ad0:∀n,gl aV aW CO (xp n)
 |0=>yW (s:=CO) (yY (T:=fV aV) (os:=λ_=>none) Tryz.func148) (λ_=>rfl)|n+1=>by have ih:=ad0 n;exact auJ (xp n) n ih
def auL(n:Nat):gl aV aW CO (xp n):=(ad0 n)
def ad1(n:Nat):bf aV aW 102 (sa n):=u9 ⟨fV aV,aW,gj [(115,vq n),(147,BC n)],n,[],cS [],cS [],cS [],gU [],gi [(34,⟨CO,xp n,6010,[]⟩)],g7 [],g0 []⟩ bI (a8 (VI n) (a8 (adR n) aX)) (bH (auL n) ao) bD Tryz.func102
def VK(n:Nat):bf aV aW 73 (tM n):=u9 (bW n [(102,sa n)] [] [] []) bI (a8 (ad1 n) aX) ao bD Tryz.func73
def auM(n:Nat)(ab:D)(x1:List D)(js:List D)(q1:List D){r:D}(h:OO n ab x1 js q1=some r):en aV aW 101 [ab,.ref x1 0,.ref js 0,.ref q1 0] (·=r):=eC (bW n [(73,tM n)] [] [] []) bI (a8 (VK n) aX) ao bD Tryz.func101 (bX (o7 p6 (o7 p6 (o7 p6 le_nil)))) h
def auN(n:Nat):bf aV aW 101 (Jz n):=by
 intro aM r h;unfold Jz at h;split at h
 case h_2=>cases h
 split at h
 case h_2=>cases h
 split at h
 case h_2=>cases h
 split at h
 case h_2=>cases h
 exact auM n _ _ _ _ h
def auO(n:Nat)(ab:D)(cG:D)(q2:D)(q3:D){r:D}(h:JB n ab cG q2 q3=some r):en aV aW 146 [ab,(D.fn (.func tp) [] [cG,q2,q3])] (·=r):=eC (bW n [(101,Jz n)] [(2,⟨[aq 0,(1,.b (.fd tp 3)),aq 7,aq 8],[],[]⟩)] [] [(0,⟨[],[],[]⟩)]) bI (a8 (auN n) aX) ao bD Tryz.func146 (bX (bX le_nil)) h
def auP(n:Nat):bf aV aW 146 (B6 n):=by
 intro aM r h;unfold B6 at h;split at h
 case h_2=>cases h
 split at h
 case h_2=>cases h
 rename_i aj;obtain rfl:=mz aj;exact auO n _ _ _ _ h
def auQ(n:Nat)(ab:D)(cG:D)(q2:D)(q3:D){r:D}(h:OP n ab cG q2 q3=some r):en aV aW 100 [ab,(D.fn (.func tp) [] [cG,q2,q3])] (·=r):=eC (bW n [(146,B6 n)] [] [] []) bI (a8 (auP n) aX) ao bD Tryz.func100 (bX (bX le_nil)) h
def auR(n:Nat):bf aV aW 100 (B7 n):=by
 intro aM r h;unfold B7 at h;split at h
 case h_2=>cases h
 split at h
 case h_2=>cases h
 rename_i aj;obtain rfl:=mz aj;exact auQ n _ _ _ _ h
def ad2(n:Nat):bf aV aW 53 (B8 n):=u9 (bW n [(100,B7 n)] [] [] []) bI (a8 (auR n) aX) ao bD Tryz.func53
def Pv(n:Nat):bf aV aW 43 (q4 n):=dV (bW n [(80,ER n),(53,B8 n)] [] [] []) bI (a8 (auD n) (a8 (ad2 n) aX)) ao bD Tryz.func43
def auS(n:Nat):bf aV aW 132 (OQ n):=cK (bW n [] [(3,⟨[aq 0,aq 11,aq 12],[],[]⟩)] [] [(0,⟨[aq 0],[],[]⟩)]) bI aX ao bD Tryz.func132
def auT(pe:List D->Option D)(q5:List D->Option D)(n:Nat)(ab:D)(ah:D)(js:List D)(ad3:bf aV aW 131 pe)(VL:bf aV aW 87 q5){r:D}(h:OR pe q5 n ab ah js=some r):en aV aW 131 [ab,ah,.ref js 0] (·=r):=eC ⟨fV aV,aW,gj [(87,q5)],n,[],cS [(3,⟨[aq 1,sp 5,sp 6,aq 12,aq 13,aq 14],[a5 5 6,(6,.box [.b (.d),.b (.d),.b (.d),.b (.d),.b (.d),.b (.row 5000)]),cp 5000 6],[.box 6 5 5000 6]⟩)],cS [],cS [(0,⟨[sp 5,sp 6],[a5 5 6,(6,.box [.b (.d),.b (.d),.b (.d),.b (.d),.b (.d),.b (.row 5000)]),cp 5000 6],[]⟩)],gU [],gi [],g7 [20005],g0 []⟩ bI (a8 VL aX) ao bD Tryz.func131 (bX (bX (o7 p6 le_nil))) h
def auU(pe:List D->Option D)(q5:List D->Option D)(n:Nat)(ab:D)(ah:D)(ad3:bf aV aW 131 pe)(VL:bf aV aW 87 q5){r:D}(h:xq pe q5 n ab ah=some r):en aV aW 87 [ab,ah] (·=r):=eC ⟨fV aV,aW,gj [(87,q5),(131,pe),(132,OQ n)],n,[],cS [],cS [(67000015,⟨[sp 4,sp 6],[a5 4 6,a5 6 6],[]⟩)],cS [],gU [],gi [],g7 [20004,45,52,66,20006,79,84],g0 []⟩ bI (a8 VL (a8 ad3 (a8 (auS n) aX))) ao bD Tryz.func87 (bX (bX le_nil)) h
def ad4:∀n,bf aV aW 131 (zc n)/\bf aV aW 87 (oF n)
 |0=>⟨(λ_ _ h=>by cases h),(λ_ _ h=>by cases h)⟩
 |n+1=>by
  have ih:=ad4 n;exact⟨(by
   intro aM r h;unfold zc at h;split at h
   case h_2=>cases h
   split at h
   case h_2=>cases h
   exact auT (zc n) (oF n) n _ _ _ ih.1 ih.2 h),(by
   intro aM r h;unfold oF at h;split at h
   case h_2=>cases h
   exact auU (zc n) (oF n) n _ _ ih.1 ih.2 h)⟩
def auV(n:Nat):bf aV aW 87 (oF n):=(ad4 n).2
def ad5(n:Nat):bf aV aW 45 (tN n):=dV (bW n [(42,qV n),(87,oF n)] [] [] []) bI (a8 (KN n) (a8 (auV n) aX)) ao bD Tryz.func45
def auW(n:Nat):bf aV aW 81 (OS n):=cK (bW n [] [] [(11009000,⟨[sp 1,aq 4,aq 11],[a5 1 6],[]⟩),(11010000,⟨[sp 1,aq 4,aq 11],[a5 1 6],[]⟩),(11011000,⟨[sp 1,aq 4,aq 11],[a5 1 6],[]⟩),(16014000,⟨[sp 1,aq 4,aq 16],[a5 1 6],[]⟩),(16015000,⟨[sp 1,aq 4,aq 16],[a5 1 6],[]⟩),(16016000,⟨[sp 1,aq 4,aq 16],[a5 1 6],[]⟩),(21000019,⟨[],[],[]⟩),(23020000,⟨[],[],[]⟩)] [(0,⟨[],[],[]⟩),(1,⟨[],[],[]⟩)]) bI aX ao bD Tryz.func81
def ad6(n:Nat):bf aV aW 82 (tO n):=dV (bW n [] [(4,⟨[aq 0,aq 1,aq 12,aq 13],[],[]⟩)] [] [(0,⟨[],[],[]⟩)]) bI aX ao bD Tryz.func82
def auX(B9:List D->Option D)(n:Nat)(ab:D)(ah:D)(auY:bf aV aW 126 B9){r:D}(h:JG B9 n ab ah=some r):en aV aW 126 [ab,ah] (·=r):=eC (bW n [(126,B9)] [(4,⟨[sp 3,aq 36,aq 37,aq 38],[a5 3 4],[]⟩)] [] [(0,⟨[],[],[]⟩)]) bI (a8 auY aX) ao bD Tryz.func126 (bX (bX le_nil)) h
def ad7:∀n,bf aV aW 126 (vw n)
 |0=>(λ_ _ h=>by cases h)
 |n+1=>by
  have ih:=ad7 n;exact(by
   intro aM r h;unfold vw at h;split at h
   case h_2=>cases h
   exact auX (vw n) n _ _ ih h)
def auZ(n:Nat):bf aV aW 126 (vw n):=(ad7 n)
def au0(tP:List D->Option D)(tQ:List D->Option D)(n:Nat)(ab:D)(ah:D)(ad8:bf aV aW 127 tP)(ad9:bf aV aW 83 tQ){r:D}(h:OU tP tQ n ab ah=some r):en aV aW 127 [ab,ah,(D.val (.func (.func N1) #[] #[]))] (·=r):=eC (bW n [(83,tQ)] [(4,⟨[aq 1,(2,.b (.HA N1)),aq 15,aq 16,aq 17],[],[]⟩)] [] [(0,⟨[],[],[]⟩)]) bI (a8 ad9 aX) ao bD Tryz.func127 (bX (bX (bX le_nil))) h
def au1(tP:List D->Option D)(tQ:List D->Option D)(n:Nat)(ab:D)(ah:D)(ad8:bf aV aW 127 tP)(ad9:bf aV aW 83 tQ){r:D}(h:EV tP tQ n ab ah=some r):en aV aW 83 [ab,ah] (·=r):=eC (bW n [(126,vw n),(127,tP)] [] [] []) bI (a8 (auZ n) (a8 ad8 aX)) ao bD Tryz.func83 (bX (bX le_nil)) h
def aea:∀n,bf aV aW 127 (xr n)/\bf aV aW 83 (n1 n)
 |0=>⟨(λ_ _ h=>by cases h),(λ_ _ h=>by cases h)⟩
 |n+1=>by
  have ih:=aea n;exact⟨(by
   intro aM r h;unfold xr at h;split at h
   case h_2=>cases h
   obtain⟨aj,h⟩:=nb h;obtain rfl:=TE aj;exact au0 (xr n) (n1 n) n _ _ ih.1 ih.2 h),(by
   intro aM r h;unfold n1 at h;split at h
   case h_2=>cases h
   exact au1 (xr n) (n1 n) n _ _ ih.1 ih.2 h)⟩
def aeb(n:Nat):bf aV aW 83 (n1 n):=(aea n).2
def au2(n:Nat)(ab:D)(x1:List D){r:D}(h:OV n ab x1=some r):en aV aW 104 [ab,.ref x1 0] (·=r):=eC (bW n [] [] [] []) bI aX ao bD Tryz.func104 (bX (o7 p6 le_nil)) h
def au3(n:Nat):bf aV aW 104 (JI n):=by
 intro aM r h;unfold JI at h;split at h
 case h_2=>cases h
 split at h
 case h_2=>cases h
 exact au2 n _ _ h
def au4(n:Nat)(ab:D)(cG:D){r:D}(h:JK n ab cG=some r):en aV aW 103 [ab,(D.fn (.func Ep) [] [cG])] (·=r):=eC (bW n [(104,JI n)] [(2,⟨[aq 0,(1,.b (.fd Ep 1)),aq 7,aq 8],[],[]⟩)] [] [(0,⟨[],[],[]⟩)]) bI (a8 (au3 n) aX) ao bD Tryz.func103 (bX (bX le_nil)) h
def au5(n:Nat):bf aV aW 103 (Ca n):=by
 intro aM r h;unfold Ca at h;split at h
 case h_2=>cases h
 split at h
 case h_2=>cases h
 rename_i aj;obtain rfl:=mz aj;exact au4 n _ _ h
def aec(n:Nat):bf aV aW 55 (sb n):=iB (bW n [(43,q4 n),(102,sa n),(103,Ca n),(53,B8 n)] [(4,⟨[aq 1,aq 2,sp 3,aq 24,aq 25,aq 26],[a5 3 9],[]⟩)] [] [(0,⟨[aq 1,aq 2,sp 3],[a5 3 9],[]⟩)]) bI (a8 (Pv n) (a8 (ad1 n) (a8 (au5 n) (a8 (ad2 n) aX)))) ao bD Tryz.func55
def aed(n:Nat):bf aV aW 38 (pf n):=iB (bW n [(43,q4 n),(55,sb n),(73,tM n)] [(4,⟨[aq 1,aq 2,sp 3,aq 7],[a5 3 9],[]⟩),(11,⟨[aq 1,aq 2,sp 3,aq 61,aq 62,aq 63],[a5 3 9],[]⟩),(14,⟨[aq 1,aq 2,sp 3,sp 9,aq 61,aq 62,aq 63,aq 69,aq 70,aq 71],[a5 3 9,a5 9 4],[]⟩)] [] [(0,⟨[aq 1,aq 2,sp 3],[a5 3 9],[]⟩),(2,⟨[],[],[]⟩),(3,⟨[aq 1,aq 2,sp 3,aq 61,aq 62,aq 63],[a5 3 9],[]⟩),(4,⟨[],[],[]⟩)]) bI (a8 (Pv n) (a8 (aec n) (a8 (VK n) aX))) ao bD Tryz.func38
def au6(n:Nat):bf aV aW 112 (OW n):=dV (bW n [] [] [] []) bI aX ao bD Tryz.func112
def au7(Cb:List D->Option D)(n:Nat)(ab:D)(ah:D)(au8:bf aV aW 76 Cb){r:D}(h:E0 Cb n ab ah=some r):en aV aW 76 [ab,ah,(D.val (.func (.func vg) #[] #[]))] (·=r):=eC (bW n [(112,OW n),(76,Cb)] [(4,⟨[aq 1,(2,.b (.HA vg)),aq 15,aq 16,aq 17],[],[]⟩)] [] [(0,⟨[],[],[]⟩)]) bI (a8 (au6 n) (a8 au8 aX)) ao bD Tryz.func76 (bX (bX (bX le_nil))) h
def aee:∀n,bf aV aW 76 (vx n)
 |0=>(λ_ _ h=>by cases h)
 |n+1=>by
  have ih:=aee n;exact(by
   intro aM r h;unfold vx at h;split at h
   case h_2=>cases h
   obtain⟨aj,h⟩:=nb h;obtain rfl:=TE aj;exact au7 (vx n) n _ _ ih h)
def au9(n:Nat):bf aV aW 76 (vx n):=(aee n)
def ava(n:Nat):bf aV aW 66 (JO n):=cK (bW n [(76,vx n)] [] [] []) bI (a8 (au9 n) aX) ao bD Tryz.func66
def avb(mH:List D->Option D)(mI:List D->Option D)(mJ:List D->Option D)(mK:List D->Option D)(n:Nat)(ab:D)(x1:List D)(Pw:bf aV aW 117 mH)(Px:bf aV aW 165 mI)(Py:bf aV aW 116 mJ)(Pz:bf aV aW 68 mK){r:D}(h:OX mH mI mJ mK n ab x1=some r):en aV aW 117 [ab,.ref x1 0] (·=r):=eC (bW n [(68,mK)] [] [] []) bI (a8 Pz aX) ao bD Tryz.func117 (bX (o7 p6 le_nil)) h
def avc(mH:List D->Option D)(mI:List D->Option D)(mJ:List D->Option D)(mK:List D->Option D)(n:Nat)(ab:D)(cG:D)(Pw:bf aV aW 117 mH)(Px:bf aV aW 165 mI)(Py:bf aV aW 116 mJ)(Pz:bf aV aW 68 mK){r:D}(h:JP mH mI mJ mK n ab cG=some r):en aV aW 165 [ab,(D.fn (.func tq) [] [cG])] (·=r):=eC (bW n [(117,mH)] [(2,⟨[aq 0,(1,.b (.fd tq 1)),aq 7,aq 8],[],[]⟩)] [] [(0,⟨[],[],[]⟩)]) bI (a8 Pw aX) ao bD Tryz.func165 (bX (bX le_nil)) h
def avd(mH:List D->Option D)(mI:List D->Option D)(mJ:List D->Option D)(mK:List D->Option D)(n:Nat)(ab:D)(cG:D)(Pw:bf aV aW 117 mH)(Px:bf aV aW 165 mI)(Py:bf aV aW 116 mJ)(Pz:bf aV aW 68 mK){r:D}(h:OY mH mI mJ mK n ab cG=some r):en aV aW 116 [ab,(D.fn (.func tq) [] [cG])] (·=r):=eC (bW n [(165,mI)] [] [] []) bI (a8 Px aX) ao bD Tryz.func116 (bX (bX le_nil)) h
def ave(mH:List D->Option D)(mI:List D->Option D)(mJ:List D->Option D)(mK:List D->Option D)(n:Nat)(ab:D)(ah:D)(Pw:bf aV aW 117 mH)(Px:bf aV aW 165 mI)(Py:bf aV aW 116 mJ)(Pz:bf aV aW 68 mK){r:D}(h:E2 mH mI mJ mK n ab ah=some r):en aV aW 68 [ab,ah] (·=r):=eC (bW n [(115,vq n),(116,mJ)] [] [] []) bI (a8 (VI n) (a8 Py aX)) ao bD Tryz.func68 (bX (bX le_nil)) h
def aef:∀n,bf aV aW 117 (pg n)/\bf aV aW 165 (nj n)/\bf aV aW 116 (nk n)/\bf aV aW 68 (mL n)
 |0=>⟨(λ_ _ h=>by cases h),(λ_ _ h=>by cases h),(λ_ _ h=>by cases h),(λ_ _ h=>by cases h)⟩
 |n+1=>by
  have ih:=aef n;exact⟨(by
   intro aM r h;unfold pg at h;split at h
   case h_2=>cases h
   split at h
   case h_2=>cases h
   exact avb (pg n) (nj n) (nk n) (mL n) n _ _ ih.1 ih.2.1 ih.2.2.1 ih.2.2.2 h),(by
   intro aM r h;unfold nj at h;split at h
   case h_2=>cases h
   split at h
   case h_2=>cases h
   rename_i aj;obtain rfl:=mz aj;exact avc (pg n) (nj n) (nk n) (mL n) n _ _ ih.1 ih.2.1 ih.2.2.1 ih.2.2.2 h),(by
   intro aM r h;unfold nk at h;split at h
   case h_2=>cases h
   split at h
   case h_2=>cases h
   rename_i aj;obtain rfl:=mz aj;exact avd (pg n) (nj n) (nk n) (mL n) n _ _ ih.1 ih.2.1 ih.2.2.1 ih.2.2.2 h),(by
   intro aM r h;unfold mL at h;split at h
   case h_2=>cases h
   exact ave (pg n) (nj n) (nk n) (mL n) n _ _ ih.1 ih.2.1 ih.2.2.1 ih.2.2.2 h)⟩
def avf(n:Nat):bf aV aW 68 (mL n):=(aef n).2.2.2
def avg(tR:List D->Option D)(n:Nat)(ab:D)(ah:D)(aT:D)(avh:bf aV aW 69 tR){r:D}(h:ze tR n ab ah aT=some r):en aV aW 69 [ab,ah,aT] (·=r):=eC (bW n [(73,tM n),(69,tR)] [] [] []) bI (a8 (VK n) (a8 avh aX)) ao bD Tryz.func69 (bX (bX (bX le_nil))) h
def aeg:∀n,bf aV aW 69 (vy n)
 |0=>(λ_ _ h=>by cases h)
 |n+1=>by
  have ih:=aeg n;exact(by
   intro aM r h;unfold vy at h;split at h
   case h_2=>cases h
   exact avg (vy n) n _ _ _ ih h)
def avi(n:Nat):bf aV aW 69 (vy n):=(aeg n)
def aeh(n:Nat):bf aV aW 32 (sc n):=iB (bW n [(42,qV n),(66,JO n),(43,q4 n),(67,xi n),(68,mL n),(69,vy n)] [] [] []) bI (a8 (KN n) (a8 (ava n) (a8 (Pv n) (a8 (adX n) (a8 (avf n) (a8 (avi n) aX)))))) ao bD Tryz.func32
def avj(n:Nat):bf aV aW 128 (zf n):=iB (bW n [(32,sc n)] [] [] []) bI (a8 (aeh n) aX) ao bD Tryz.func128
def PA(n:Nat):gl aV aW KM (tS n):=p7 ⟨fV aV,aW,gj [],n,[10000,10001],cS [(2,⟨[(3,.b (.ptr 10001 0)),sp 4,aq 11,aq 12,aq 13],[(10001,.box [.b (.row 9000)]),a5 4 6,a5 10000 12,cp 9000 7],[]⟩)],cS [],cS [(0,⟨[],[a5 10000 12,(10001,.box [.b (.row 9000)]),cp 9000 7],[]⟩)],gU [],gi [],g7 [],g0 []⟩ bI aX ao bD Tryz.func181 []
def avk(n:Nat):bf aV aW 129 (ph n):=dV ⟨fV aV,aW,gj [(45,tN n)],n,[],cS [],cS [],cS [],gU [(13,[1,2,3,4,5,6,0,7]),(14,[0,1,2,3,4,5]),(18,[1,2,3,4,5,6,0])],gi [(69,⟨KM,tS n,6010,[.box 4 0 5900 7]⟩),(85,⟨KM,tS n,6020,[.box 4 0 5901 7]⟩),(117,⟨KM,tS n,6030,[.box 4 0 5902 7]⟩),(126,⟨KM,tS n,6040,[.box 4 0 5903 7]⟩)],g7 [],g0 []⟩ bI (a8 (ad5 n) aX) (bH (PA n) (bH (PA n) (bH (PA n) (bH (PA n) ao)))) bD Tryz.func129
def avl(n:Nat):bf aV aW 84 (sf n):=iB ⟨(fV Tryz.prog).rQ [62],aW,gj [(128,zf n),(129,ph n)],n,[],cS [],cS [],cS [],gU [],gi [],g7 [],g0 []⟩ ((tok _).rQ _) (a8 (avj n) (a8 (avk n) aX)) ao bD Tryz.func84
def avm(n:Nat)(ab:D)(x1:List D){r:D}(h:O0 n ab x1=some r):en aV aW 86 [ab,.ref x1 0] (·=r):=eC (bW n [(82,tO n),(83,n1 n)] [] [] []) bI (a8 (ad6 n) (a8 (aeb n) aX)) ao bD Tryz.func86 (bX (o7 p6 le_nil)) h
def avn(n:Nat):bf aV aW 86 (JR n):=by
 intro aM r h;unfold JR at h;split at h
 case h_2=>cases h
 split at h
 case h_2=>cases h
 exact avm n _ _ h
def avo(n:Nat)(ab:D)(cG:D){r:D}(h:JT n ab cG=some r):en aV aW 130 [ab,(D.fn (.func rV) [] [cG])] (·=r):=eC (bW n [(86,JR n)] [(2,⟨[aq 0,(1,.b (.fd rV 1)),aq 7,aq 8],[],[]⟩)] [] [(0,⟨[],[],[]⟩)]) bI (a8 (avn n) aX) ao bD Tryz.func130 (bX (bX le_nil)) h
def avp(n:Nat):bf aV aW 130 (Cc n):=by
 intro aM r h;unfold Cc at h;split at h
 case h_2=>cases h
 split at h
 case h_2=>cases h
 rename_i aj;obtain rfl:=mz aj;exact avo n _ _ h
def avq(n:Nat)(ab:D)(cG:D){r:D}(h:O1 n ab cG=some r):en aV aW 85 [ab,(D.fn (.func rV) [] [cG])] (·=r):=eC (bW n [(130,Cc n)] [] [] []) bI (a8 (avp n) aX) ao bD Tryz.func85 (bX (bX le_nil)) h
def avr(n:Nat):bf aV aW 85 (zh n):=by
 intro aM r h;unfold zh at h;split at h
 case h_2=>cases h
 split at h
 case h_2=>cases h
 rename_i aj;obtain rfl:=mz aj;exact avq n _ _ h
def avs(Cd:List D->Option (List D))(n:Nat)(avt:gl aV aW CP Cd):gl aV aW CP (mM Cd n):=p7 ⟨fV aV,aW,gj [(81,OS n),(82,tO n),(83,n1 n),(38,pf n),(84,sf n),(85,zh n)],n,[10000],cS [(11,⟨[(3,.b (.ptr 10000 0)),sp 4,sp 6,aq 108,aq 109,aq 110],[(10000,.box [.b (.row 106)]),a5 4 9,a5 6 12,cp 106 7],[]⟩)],cS [(95000009,⟨[(3,.b (.ptr 10000 0)),sp 4,sp 6,aq 9],[(10000,.box [.b (.row 106)]),a5 4 9,a5 6 12,cp 106 7],[]⟩)],cS [(0,⟨[],[(10000,.box [.b (.row 106)]),cp 106 7],[]⟩)],gU [(13,[0,1,2,3,4,5,6,7])],gi [(123,⟨CP,Cd,6010,[]⟩)],g7 [],g0 []⟩ bI (a8 (auW n) (a8 (ad6 n) (a8 (aeb n) (a8 (aed n) (a8 (avl n) (a8 (avr n) aX)))))) (bH avt ao) bD Tryz.func44 []
def aei:∀n,gl aV aW CP (nm n)
 |0=>yW (s:=CP) (yY (T:=fV aV) (os:=gU [(13,[0,1,2,3,4,5,6,7])]) Tryz.func44) (λ_=>rfl)|n+1=>by have ih:=aei n;exact avs (nm n) n ih
def avu(n:Nat):gl aV aW CP (nm n):=(aei n)
def aej(n:Nat):bf aV aW 15 (tT n):=u9 ⟨fV aV,aW,gj [(31,qZ n),(42,qV n),(43,q4 n),(45,tN n)],n,[],cS [],cS [],cS [],gU [(9,[0,1,5,2,3,4])],gi [(36,⟨CP,nm n,6010,[.box 8 0 5900 7]⟩)],g7 [],g0 []⟩ bI (a8 (Pu n) (a8 (KN n) (a8 (Pv n) (a8 (ad5 n) aX)))) (bH (avu n) ao) bD Tryz.func15
def avv(n:Nat):bf aV aW 10 (U4 n):=iB (bW n [(31,qZ n),(32,sc n)] [] [] []) bI (a8 (Pu n) (a8 (aeh n) aX)) ao bD Tryz.func10
def avw(n:Nat):bf aV aW 23 (U5 n):=iB (bW n [(31,qZ n),(55,sb n)] [] [] []) bI (a8 (Pu n) (a8 (aec n) aX)) ao bD Tryz.func23
def avx(n:Nat):bf aV aW 12 (U6 n):=iB (bW n [(31,qZ n),(38,pf n)] [] [] []) bI (a8 (Pu n) (a8 (aed n) aX)) ao bD Tryz.func12
def avy(n:Nat):bf aV aW 9 (E6 n):=p0 ⟨fV aV,aW,gj [(30,Uk n),(15,tT n),(10,U4 n),(23,U5 n),(12,U6 n)],n,[],cS [],cS [],cS [],gU [],gi [],g7 [16,23,27,34],g0 []⟩ bI (a8 (asO n) (a8 (aej n) (a8 (avv n) (a8 (avw n) (a8 (avx n) aX))))) ao bD Tryz.func9
def aek(n:Nat):bf aV aW 182 (Ce n):=cK (bW n [] [] [] []) bI aX ao bD Tryz.func182
def avz(n:Nat):bf aV aW 200 (JU n):=cK (bW n [] [] [] []) bI aX ao bD Tryz.func200
def avA(n:Nat):bf aV aW 183 (JW n):=iB (bW n [(200,JU n),(182,Ce n)] [(1,⟨[aq 0,aq 1,aq 2],[],[]⟩)] [] [(0,⟨[aq 1],[],[]⟩)]) bI (a8 (avz n) (a8 (aek n) aX)) ao bD Tryz.func183
def avB(n:Nat):bf aV aW 185 (O2 n):=p0 (bW n [] [] [] []) bI aX ao bD Tryz.func185
def avC(n:Nat):bf aV aW 184 (E8 n):=dV (bW n [] [(2,⟨[aq 0,aq 1,aq 5],[],[]⟩)] [] [(0,⟨[],[],[]⟩)]) bI aX ao bD Tryz.func184
def VM(n:Nat):bf aV aW 136 (vz n):=cK (bW n [(182,Ce n),(183,JW n),(185,O2 n),(184,E8 n)] [] [] []) bI (a8 (aek n) (a8 (avA n) (a8 (avB n) (a8 (avC n) aX)))) ao bD Tryz.func136
def avD(n:Nat):bf aV aW 137 (E9 n):=cK (bW n [] [] [] []) bI aX ao bD Tryz.func137
def ael(n:Nat):bf aV aW 138 (Cf n):=cK (bW n [] [] [(19000007,⟨[aq 3],[],[]⟩)] []) bI aX ao bD Tryz.func138
def avE(n:Nat):bf aV aW 93 (JZ n):=cK (bW n [(136,vz n),(137,E9 n),(138,Cf n)] [(2,⟨[aq 0,aq 4],[],[]⟩),(7,⟨[aq 0,aq 4,aq 5],[],[]⟩)] [] [(0,⟨[],[],[]⟩),(1,⟨[aq 0,aq 4],[],[]⟩),(2,⟨[aq 0,aq 4],[],[]⟩)]) bI (a8 (VM n) (a8 (avD n) (a8 (ael n) aX))) ao bD Tryz.func93
def avF(n:Nat):bf aV aW 139 (J0 n):=cK (bW n [] [(2,⟨[aq 0,aq 3],[],[]⟩)] [] [(0,⟨[aq 3],[],[]⟩)]) bI aX ao bD Tryz.func139
def avG(n:Nat):bf aV aW 94 (J1 n):=cK (bW n [(138,Cf n),(139,J0 n)] [(3,⟨[sp 1,aq 3,aq 4],[a5 1 8],[]⟩)] [] [(0,⟨[aq 3],[],[]⟩)]) bI (a8 (ael n) (a8 (avF n) aX)) ao bD Tryz.func94
def aem(n:Nat):bf aV aW 140 (Ch n):=dV (bW n [] [(2,⟨[aq 1,sp 2,aq 5],[a5 2 8],[]⟩)] [] [(0,⟨[],[],[]⟩)]) bI aX ao bD Tryz.func140
def aen(n:Nat):bf aV aW 141 (Ci n):=dV (bW n [] [(2,⟨[aq 1,sp 2,aq 5],[a5 2 8],[]⟩)] [] [(0,⟨[],[],[]⟩)]) bI aX ao bD Tryz.func141
def avH(n:Nat):bf aV aW 209 (J5 n):=dV (bW n [] [(2,⟨[aq 0,aq 1,aq 5],[],[]⟩)] [] [(0,⟨[],[],[]⟩)]) bI aX ao bD Tryz.func209
def avI(n:Nat):bf aV aW 208 (Cj n):=dV (bW n [(209,J5 n)] [(6,⟨[aq 0,aq 1,cZ 5 12,aq 6,aq 7],[cp 12 1],[]⟩)] [(28000009,⟨[aq 0,aq 1,cZ 5 32,aq 6,aq 7],[cp 32 1],[]⟩),(41000013,⟨[cZ 5 45],[cp 45 1],[]⟩)] [(0,⟨[aq 1,cZ 5 12,aq 6],[cp 12 1],[]⟩)]) bI (a8 (avH n) aX) ao bD Tryz.func208
def avJ(Ck:List D->Option D)(n:Nat)(ab:D)(ah:D)(aT:D)(avK:bf aV aW 195 Ck){r:D}(h:J6 Ck n ab ah aT=some r):en aV aW 195 [ab,ah,aT] (·=r):=eC (bW n [(208,Cj n),(195,Ck)] [(4,⟨[aq 1,aq 2,sp 3,aq 7],[a5 3 4],[]⟩)] [(11000002,⟨[aq 1,aq 2,sp 3],[a5 3 4],[]⟩)] [(0,⟨[aq 2],[],[]⟩)]) bI (a8 (avI n) (a8 avK aX)) ao bD Tryz.func195 (bX (bX (bX le_nil))) h
def aeo:∀n,bf aV aW 195 (tU n)
 |0=>(λ_ _ h=>by cases h)
 |n+1=>by
  have ih:=aeo n;exact(by
   intro aM r h;unfold tU at h;split at h
   case h_2=>cases h
   exact avJ (tU n) n _ _ _ ih h)
def avL(n:Nat):bf aV aW 195 (tU n):=(aeo n)
def VN(n:Nat):bf aV aW 167 (xu n):=cK (bW n [(195,tU n)] [] [] []) bI (a8 (avL n) aX) ao bD Tryz.func167
def avM(n:Nat):bf aV aW 142 (J7 n):=dV (bW n [(167,xu n),(141,Ci n)] [(4,⟨[sp 2,cZ 5 15,cZ 6 17,aq 7],[a5 2 8,cp 15 1,cp 17 1],[]⟩),(8,⟨[sp 2,cZ 5 15,cZ 6 17,aq 7,aq 8,aq 10],[a5 2 8,cp 15 1,cp 17 1],[]⟩)] [(57000012,⟨[sp 2,cZ 5 15,cZ 6 64,aq 7,aq 8,aq 10],[a5 2 8,cp 15 1,cp 64 1],[]⟩)] [(0,⟨[cZ 5 15],[cp 15 1],[]⟩),(1,⟨[sp 2,cZ 5 15,cZ 6 17,aq 7],[a5 2 8,cp 15 1,cp 17 1],[]⟩),(2,⟨[sp 2,cZ 5 15,cZ 6 17,aq 7],[a5 2 8,cp 15 1,cp 17 1],[]⟩),(3,⟨[sp 2,cZ 5 15,cZ 6 64,aq 7,aq 8,aq 10],[a5 2 8,cp 15 1,cp 64 1],[]⟩)]) bI (a8 (VN n) (a8 (aen n) aX)) ao bD Tryz.func142
def avN(n:Nat):bf aV aW 198 (Fb n):=cK (bW n [] [] [(5003000,⟨[aq 0,aq 4,aq 5],[],[]⟩),(5004000,⟨[aq 0,aq 4,aq 5],[],[]⟩),(5005000,⟨[aq 0,aq 4,aq 5],[],[]⟩),(12010000,⟨[aq 0,aq 4,aq 12],[],[]⟩)] [(0,⟨[aq 0],[],[]⟩)]) bI aX ao bD Tryz.func198
def aep(n:Nat):bf aV aW 175 (Cm n):=dV (bW n [(198,Fb n)] [] [(22000008,⟨[sp 2,aq 5,aq 6,aq 7,aq 8],[a5 2 4],[]⟩),(25000010,⟨[sp 2,aq 5,aq 6,aq 7,aq 8],[a5 2 4],[]⟩)] []) bI (a8 (avN n) aX) ao bD Tryz.func175
def avO(Cn:List D->Option D)(n:Nat)(ab:D)(ah:D)(aT:D)(avP:bf aV aW 169 Cn){r:D}(h:Vc Cn n ab ah aT=some r):en aV aW 169 [ab,ah,aT] (·=r):=eC (bW n [(175,Cm n),(169,Cn)] [(8,⟨[aq 1,aq 2,sp 3,aq 9],[a5 3 4],[]⟩)] [] [(0,⟨[aq 2],[],[]⟩)]) bI (a8 (aep n) (a8 avP aX)) ao bD Tryz.func169 (bX (bX (bX le_nil))) h
def aeq:∀n,bf aV aW 169 (vA n)
 |0=>(λ_ _ h=>by cases h)
 |n+1=>by
  have ih:=aeq n;exact(by
   intro aM r h;unfold vA at h;split at h
   case h_2=>cases h
   exact avO (vA n) n _ _ _ ih h)
def avQ(n:Nat):bf aV aW 169 (vA n):=(aeq n)
def VO(n:Nat):bf aV aW 119 (xv n):=cK (bW n [(169,vA n)] [] [] []) bI (a8 (avQ n) aX) ao bD Tryz.func119
def aer(n:Nat):bf aV aW 174 (zi n):=dV (bW n [] [(2,⟨[aq 0,aq 1,aq 5],[],[]⟩)] [] [(0,⟨[],[],[]⟩)]) bI aX ao bD Tryz.func174
def avR(n:Nat):bf aV aW 172 (Ka n):=dV (bW n [(167,xu n),(174,zi n)] [(4,⟨[aq 1,cZ 5 10,aq 6,aq 8],[cp 10 1],[]⟩)] [(29000008,⟨[aq 1,cZ 5 33,aq 6,aq 8],[cp 33 1],[]⟩)] [(0,⟨[cZ 5 10],[cp 10 1],[]⟩),(1,⟨[aq 1,cZ 5 33,aq 6,aq 8],[cp 33 1],[]⟩)]) bI (a8 (VN n) (a8 (aer n) aX)) ao bD Tryz.func172
def aes(n:Nat):bf aV aW 173 (zj n):=dV (bW n [] [(2,⟨[aq 0,aq 1,aq 5],[],[]⟩)] [] [(0,⟨[],[],[]⟩)]) bI aX ao bD Tryz.func173
def avS(Co:List D->Option D)(n:Nat)(ab:D)(ah:D)(aT:D)(avT:bf aV aW 121 Co){r:D}(h:O9 Co n ab ah aT=some r):en aV aW 121 [ab,ah,aT] (·=r):=eC ⟨(fV Tryz.prog).rQ [42],aW,gj [(172,Ka n),(173,zj n),(121,Co)],n,[],cS [(3,⟨[aq 1,aq 2,aq 7,aq 8],[],[]⟩)],cS [(24000006,⟨[aq 1,aq 2,aq 7,aq 8],[],[]⟩)],cS [(0,⟨[aq 2],[],[]⟩),(1,⟨[aq 1,aq 2,aq 7,aq 8],[],[]⟩)],gU [(6,[0,1,2,3,4,5,6,7,12,13,14,15,8,9,10,11,16,17,18,19])],gi [],g7 [],g0 []⟩ ((tok _).rQ _) (a8 (avR n) (a8 (aes n) (a8 avT aX))) ao bD Tryz.func121 (bX (bX (bX le_nil))) h
def aet:∀n,bf aV aW 121 (sg n)
 |0=>(λ_ _ h=>by cases h)
 |n+1=>by
  have ih:=aet n;exact(by
   intro aM r h;unfold sg at h;split at h
   case h_2=>cases h
   exact avS (sg n) n _ _ _ ih h)
def aeu(n:Nat):bf aV aW 121 (sg n):=(aet n)
def avU(n:Nat):bf aV aW 122 (Kd n):=dV (bW n [(121,sg n),(173,zj n)] [] [] []) bI (a8 (aeu n) (a8 (aes n) aX)) ao bD Tryz.func122
def avV(zk:List D->Option D)(n:Nat)(ab:D)(ah:D)(aT:D)(bq:D)(avW:bf aV aW 123 zk){r:D}(h:tV zk n ab ah aT bq=some r):en aV aW 123 [ab,ah,aT,bq] (·=r):=eC (bW n [(174,zi n),(123,zk),(175,Cm n)] [(13,⟨[aq 1,aq 2,aq 3,sp 4,sp 8,cZ 13 53,aq 14],[a5 4 4,a5 8 4,cp 53 4],[]⟩)] [(20000002,⟨[aq 1,aq 2,aq 3,sp 4,sp 8],[a5 4 4,a5 8 4],[]⟩)] [(0,⟨[aq 3,sp 4,sp 8,cZ 13 53],[a5 4 4,a5 8 4,cp 53 4],[]⟩)]) bI (a8 (aer n) (a8 avW (a8 (aep n) aX))) ao bD Tryz.func123 (bX (bX (bX (bX le_nil)))) h
def aev:∀n,bf aV aW 123 (tW n)
 |0=>(λ_ _ h=>by cases h)
 |n+1=>by
  have ih:=aev n;exact(by
   intro aM r h;unfold tW at h;split at h
   case h_2=>cases h
   exact avV (tW n) n _ _ _ _ ih h)
def avX(n:Nat):bf aV aW 123 (tW n):=(aev n)
def PB(n:Nat):bf aV aW 75 (np n):=dV (bW n [(119,xv n),(121,sg n),(122,Kd n),(123,tW n)] [(6,⟨[aq 1,sp 2,sp 4,aq 7,aq 8],[a5 2 4,a5 4 4],[]⟩)] [] [(0,⟨[aq 1,sp 2,sp 4],[a5 2 4,a5 4 4],[]⟩)]) bI (a8 (VO n) (a8 (aeu n) (a8 (avU n) (a8 (avX n) aX)))) ao bD Tryz.func75
def aew(n:Nat):bf aV aW 170 (sh n):=dV (bW n [] [] [] []) bI aX ao bD Tryz.func170
def VP(n:Nat):bf aV aW 57 (xw n):=dV (bW n [] [(2,⟨[aq 0,aq 1,aq 5],[],[]⟩)] [] [(0,⟨[],[],[]⟩)]) bI aX ao bD Tryz.func57
def avY(n:Nat):bf aV aW 196 (Kj n):=cK (bW n [] [(2,⟨[aq 0,aq 3],[],[]⟩)] [] [(0,⟨[],[],[]⟩)]) bI aX ao bD Tryz.func196
def avZ(n:Nat):bf aV aW 197 (Kk n):=dV (bW n [] [(4,⟨[cZ 6 30,aq 7,aq 8,aq 9],[cp 30 1],[]⟩)] [] [(0,⟨[aq 7,aq 8],[],[]⟩)]) bI aX ao bD Tryz.func197
def av0(n:Nat):bf aV aW 171 (Cp n):=dV (bW n [(196,Kj n),(170,sh n),(197,Kk n)] [] [(13005000,⟨[aq 1,sp 2,sp 4,sp 6,aq 7,aq 12,aq 13],[a5 2 4,a5 4 3,a5 6 3],[]⟩),(13006000,⟨[aq 1,sp 2,sp 4,sp 6,aq 7,aq 12,aq 13],[a5 2 4,a5 4 3,a5 6 3],[]⟩),(13007000,⟨[aq 1,sp 2,sp 4,sp 6,aq 7,aq 12,aq 13],[a5 2 4,a5 4 3,a5 6 3],[]⟩),(13008000,⟨[aq 1,sp 2,sp 4,sp 6,aq 7,aq 12,aq 13],[a5 2 4,a5 4 3,a5 6 3],[]⟩),(25013000,⟨[aq 1,sp 2,sp 4,sp 6,aq 7,aq 12,aq 25],[a5 2 4,a5 4 3,a5 6 3],[]⟩)] [(0,⟨[aq 1,sp 2,sp 4,sp 6,aq 7],[a5 2 4,a5 4 3,a5 6 3],[]⟩)]) bI (a8 (avY n) (a8 (aew n) (a8 (avZ n) aX))) ao bD Tryz.func171
def av1(Cq:List D->Option D)(n:Nat)(ab:D)(ah:D)(aT:D)(av2:bf aV aW 120 Cq){r:D}(h:xx Cq n ab ah aT=some r):en aV aW 120 [ab,ah,aT] (·=r):=eC (bW n [(170,sh n),(57,xw n),(120,Cq),(171,Cp n)] [(18,⟨[aq 0,aq 2,sp 4,sp 6,cZ 9 64,aq 10],[a5 4 4,a5 6 3,cp 64 3],[]⟩)] [(27007000,⟨[aq 0,aq 2,sp 4,sp 6,aq 27],[a5 4 4,a5 6 3],[]⟩)] [(1,⟨[sp 4,sp 6,cZ 9 64],[a5 4 4,a5 6 3,cp 64 3],[]⟩)]) bI (a8 (aew n) (a8 (VP n) (a8 av2 (a8 (av0 n) aX)))) ao bD Tryz.func120 (bX (bX (bX le_nil))) h
def aex:∀n,bf aV aW 120 (n2 n)
 |0=>(λ_ _ h=>by cases h)
 |n+1=>by
  have ih:=aex n;exact(by
   intro aM r h;unfold n2 at h;split at h
   case h_2=>cases h
   exact av1 (n2 n) n _ _ _ ih h)
def av3(n:Nat):bf aV aW 120 (n2 n):=(aex n)
def PC(n:Nat):bf aV aW 72 (si n):=iB (bW n [(119,xv n),(120,n2 n)] [] [] []) bI (a8 (VO n) (a8 (av3 n) aX)) ao bD Tryz.func72
def VQ(n:Nat):bf aV aW 143 (vB n):=iB (bW n [(75,np n),(72,si n)] [] [] []) bI (a8 (PB n) (a8 (PC n) aX)) ao bD Tryz.func143
def av4(n:Nat):bf aV aW 95 (zl n):=cK (bW n [(136,vz n),(140,Ch n),(141,Ci n),(142,J7 n),(143,vB n)] [(2,⟨[sp 1,aq 4],[a5 1 8],[]⟩),(9,⟨[sp 1,aq 5],[a5 1 8],[]⟩),(14,⟨[sp 1,aq 6],[a5 1 8],[]⟩)] [] [(0,⟨[sp 1],[a5 1 8],[]⟩),(2,⟨[sp 1],[a5 1 8],[]⟩),(4,⟨[],[],[]⟩)]) bI (a8 (VM n) (a8 (aem n) (a8 (aen n) (a8 (avM n) (a8 (VQ n) aX))))) ao bD Tryz.func95
def aey(n:Nat):bf aV aW 144 (zm n):=iB (bW n [(143,vB n)] [] [] []) bI (a8 (VQ n) aX) ao bD Tryz.func144
def av5(n:Nat):bf aV aW 96 (xy n):=iB (bW n [(144,zm n)] [(2,⟨[aq 1,aq 2,sp 3,aq 8],[a5 3 8],[]⟩)] [] [(0,⟨[],[],[]⟩)]) bI (a8 (aey n) aX) ao bD Tryz.func96
def av6(n:Nat):bf aV aW 97 (Fi n):=cK (bW n [(140,Ch n),(143,vB n)] [(2,⟨[sp 1,aq 4],[a5 1 8],[]⟩),(8,⟨[sp 1,aq 4,aq 5,aq 6],[a5 1 8],[]⟩)] [(69000014,⟨[sp 1,aq 4,aq 8],[a5 1 8],[]⟩)] [(0,⟨[],[],[]⟩),(1,⟨[sp 1,aq 4],[a5 1 8],[]⟩),(2,⟨[sp 1,aq 4,aq 5],[a5 1 8],[]⟩)]) bI (a8 (aem n) (a8 (VQ n) aX)) ao bD Tryz.func97
def av7(n:Nat):bf aV aW 166 (Fj n):=cK (bW n [] [] [(6005000,⟨[aq 3,aq 6],[],[]⟩),(6006000,⟨[aq 3,aq 6],[],[]⟩),(6007000,⟨[aq 3,aq 6],[],[]⟩),(6008000,⟨[aq 3,aq 6],[],[]⟩),(6009000,⟨[aq 3,aq 6],[],[]⟩),(6010000,⟨[aq 3,aq 6],[],[]⟩),(14013000,⟨[aq 14],[],[]⟩),(14014000,⟨[aq 14],[],[]⟩),(14015000,⟨[aq 14],[],[]⟩),(14016000,⟨[aq 14],[],[]⟩)] [(0,⟨[],[],[]⟩)]) bI aX ao bD Tryz.func166
def av8(n:Nat):bf aV aW 168 (Ks n):=cK (bW n [] [] [] []) bI aX ao bD Tryz.func168
def av9(n:Nat):bf aV aW 118 (xz n):=cK (bW n [(166,Fj n),(119,xv n),(167,xu n),(168,Ks n)] [] [(12000004,⟨[sp 1],[a5 1 6],[]⟩)] []) bI (a8 (av7 n) (a8 (VO n) (a8 (VN n) (a8 (av8 n) aX)))) ao bD Tryz.func118
def awa(Cs:List D->Option D)(n:Nat)(ab:D)(ah:D)(aT:D)(awb:bf aV aW 70 Cs){r:D}(h:Vt Cs n ab ah aT=some r):en aV aW 70 [ab,ah,aT] (·=r):=eC (bW n [(118,xz n),(70,Cs)] [(10,⟨[aq 1,aq 2,sp 3,aq 9],[a5 3 6],[]⟩)] [] [(0,⟨[aq 2],[],[]⟩)]) bI (a8 (av9 n) (a8 awb aX)) ao bD Tryz.func70 (bX (bX (bX le_nil))) h
def aez:∀n,bf aV aW 70 (vC n)
 |0=>(λ_ _ h=>by cases h)
 |n+1=>by
  have ih:=aez n;exact(by
   intro aM r h;unfold vC at h;split at h
   case h_2=>cases h
   exact awa (vC n) n _ _ _ ih h)
def awc(n:Nat):bf aV aW 70 (vC n):=(aez n)
def KO(n:Nat):bf aV aW 33 (q6 n):=cK (bW n [(70,vC n)] [] [] []) bI (a8 (awc n) aX) ao bD Tryz.func33
def awd(Ct:List D->Option D)(n:Nat)(ab:D)(ah:D)(awe:bf aV aW 145 Ct){r:D}(h:Ku Ct n ab ah=some r):en aV aW 145 [ab,ah] (·=r):=eC (bW n [(144,zm n),(145,Ct)] [(4,⟨[sp 2,sp 3,aq 5],[a5 2 8,a5 3 6],[]⟩)] [] [(0,⟨[],[],[]⟩)]) bI (a8 (aey n) (a8 awe aX)) ao bD Tryz.func145 (bX (bX le_nil)) h
def aeA:∀n,bf aV aW 145 (vD n)
 |0=>(λ_ _ h=>by cases h)
 |n+1=>by
  have ih:=aeA n;exact(by
   intro aM r h;unfold vD at h;split at h
   case h_2=>cases h
   exact awd (vD n) n _ _ ih h)
def awf(n:Nat):bf aV aW 145 (vD n):=(aeA n)
def awg(n:Nat):bf aV aW 98 (Fo n):=cK (bW n [(136,vz n),(33,q6 n),(145,vD n)] [(2,⟨[sp 1,aq 4],[a5 1 8],[]⟩),(7,⟨[sp 1,aq 4,aq 5],[a5 1 8],[]⟩)] [(50000013,⟨[sp 1,aq 4,aq 6],[a5 1 8],[]⟩)] [(0,⟨[],[],[]⟩),(1,⟨[sp 1,aq 4],[a5 1 8],[]⟩),(2,⟨[sp 1,aq 4],[a5 1 8],[]⟩)]) bI (a8 (VM n) (a8 (KO n) (a8 (awf n) aX))) ao bD Tryz.func98
def awh(n:Nat):bf aV aW 50 (sj n):=cK (bW n [(93,JZ n),(94,J1 n),(95,zl n),(96,xy n),(97,Fi n),(98,Fo n)] [(3,⟨[sp 1,sp 2,cZ 4 33,aq 5],[a5 1 8,a5 2 2,cp 33 1],[]⟩),(13,⟨[sp 1,sp 2,aq 6,aq 7,aq 8],[a5 1 8,a5 2 2],[]⟩)] [(68018017,⟨[sp 1,sp 2,aq 6,aq 7,aq 8],[a5 1 8,a5 2 2],[]⟩),(75020019,⟨[sp 1,sp 2,aq 6,aq 7,aq 8],[a5 1 8,a5 2 2],[]⟩),(84022021,⟨[sp 1,sp 2,aq 6,aq 7,aq 8],[a5 1 8,a5 2 2],[]⟩),(93024023,⟨[sp 1,sp 2,aq 6,aq 7,aq 8],[a5 1 8,a5 2 2],[]⟩),(100026025,⟨[sp 1,sp 2,aq 6,aq 7,aq 8],[a5 1 8,a5 2 2],[]⟩),(109028027,⟨[sp 1,sp 2,aq 6,aq 7,aq 8],[a5 1 8,a5 2 2],[]⟩),(118000029,⟨[sp 1,sp 2,aq 6,aq 7,aq 8],[a5 1 8,a5 2 2],[]⟩)] [(0,⟨[sp 1,sp 2],[a5 1 8,a5 2 2],[]⟩),(2,⟨[sp 2],[a5 2 2],[]⟩),(3,⟨[sp 1,sp 2,aq 6,aq 7,aq 8],[a5 1 8,a5 2 2],[]⟩),(4,⟨[sp 1,sp 2,aq 6,aq 7,aq 8],[a5 1 8,a5 2 2],[]⟩)]) bI (a8 (avE n) (a8 (avG n) (a8 (av4 n) (a8 (av5 n) (a8 (av6 n) (a8 (awg n) aX)))))) ao bD Tryz.func50
def VR(n:Nat):bf aV aW 18 (xB n):=cK (bW n [(50,sj n)] [] [] []) bI (a8 (awh n) aX) ao bD Tryz.func18
def awi(Cv:List D->Option D)(n:Nat)(ab:D)(awj:bf aV aW 34 Cv){r:D}(h:zp Cv n ab=some r):en aV aW 34 [ab] (·=r):=eC (bW n [(34,Cv)] [(4,⟨[sp 1,aq 3],[a5 1 6],[]⟩)] [] [(0,⟨[],[],[]⟩)]) bI (a8 awj aX) ao bD Tryz.func34 (bX le_nil) h
def aeB:∀n,bf aV aW 34 (vE n)
 |0=>(λ_ _ h=>by cases h)
 |n+1=>by
  have ih:=aeB n;exact(by
   intro aM r h;unfold vE at h;split at h
   case h_2=>cases h
   exact awi (vE n) n _ ih h)
def awk(n:Nat):bf aV aW 34 (vE n):=(aeB n)
def awl(n:Nat):bf aV aW 74 (q7 n):=dV (bW n [(75,np n)] [(3,⟨[aq 0,aq 1,cZ 7 11,aq 8],[cp 11 4],[]⟩)] [] [(0,⟨[cZ 7 11],[cp 11 4],[]⟩)]) bI (a8 (PB n) aX) ao bD Tryz.func74
def awm(Cw:List D->Option D)(n:Nat)(ab:D)(ah:D)(awn:bf aV aW 71 Cw){r:D}(h:vF Cw n ab ah=some r):en aV aW 71 [ab,ah] (·=r):=eC (bW n [(75,np n),(71,Cw)] [(9,⟨[aq 1,sp 2,sp 4,cZ 8 29,aq 9],[a5 2 6,a5 4 6,cp 29 6],[]⟩)] [] [(0,⟨[sp 2,sp 4,cZ 8 29],[a5 2 6,a5 4 6,cp 29 6],[]⟩)]) bI (a8 (PB n) (a8 awn aX)) ao bD Tryz.func71 (bX (bX le_nil)) h
def aeC:∀n,bf aV aW 71 (qi n)
 |0=>(λ_ _ h=>by cases h)
 |n+1=>by
  have ih:=aeC n;exact(by
   intro aM r h;unfold qi at h;split at h
   case h_2=>cases h
   exact awm (qi n) n _ _ ih h)
def awo(n:Nat):bf aV aW 71 (qi n):=(aeC n)
def aeD(n:Nat):bf aV aW 35 (xC n):=dV (bW n [(33,q6 n),(71,qi n)] [] [] []) bI (a8 (KO n) (a8 (awo n) aX)) ao bD Tryz.func35
def aeE(n:Nat):bf aV aW 39 (zq n):=cK ⟨fV aV,aW,gj [(74,q7 n),(75,np n),(35,xC n)],n,[],cS [(11,⟨[sp 1,sp 2,sp 3,sp 5,aq 9],[a5 1 8,a5 2 8,a5 3 2,(5,.box [.b (.d),.b (.d),.b (.d),.b (.d),.b (.row 5000),.b (.d),.b (.d),.b (.d)]),cp 5000 5],[.box 5 4 5000 5]⟩),(26,⟨[sp 1,sp 2,sp 3,sp 5,aq 12],[a5 1 8,a5 2 8,a5 3 2,(5,.box [.b (.d),.b (.d),.b (.d),.b (.d),.b (.row 5000),.b (.d),.b (.d),.b (.row 5001)]),cp 5000 5,cp 5001 7],[.box 5 7 5001 7]⟩)],cS [],cS [(0,⟨[sp 1,sp 2,sp 3,sp 5],[a5 1 8,a5 2 8,a5 3 2,(5,.box [.b (.d),.b (.d),.b (.d),.b (.d),.b (.row 5000),.b (.d),.b (.d),.b (.d)]),cp 5000 5],[]⟩),(2,⟨[sp 2,sp 3,sp 5],[a5 2 8,a5 3 2,(5,.box [.b (.d),.b (.d),.b (.d),.b (.d),.b (.row 5000),.b (.d),.b (.d),.b (.row 5001)]),cp 5000 5,cp 5001 7],[]⟩)],gU [],gi [],g7 [20002],g0 []⟩ bI (a8 (awl n) (a8 (PB n) (a8 (aeD n) aX))) ao bD Tryz.func39
def VS(n:Nat):bf aV aW 52 (tY n):=cK (bW n [(39,zq n)] [] [] []) bI (a8 (aeE n) aX) ao bD Tryz.func52
def awp(n:Nat):bf aV aW 99 (Fu n):=dV (bW n [] [(4,⟨[aq 1,sp 2,aq 5],[a5 2 8],[]⟩)] [] [(0,⟨[],[],[]⟩)]) bI aX ao bD Tryz.func99
def awq(Cx:List D->Option D)(n:Nat)(ab:D)(awr:bf aV aW 105 Cx){r:D}(h:Pg Cx n ab=some r):en aV aW 105 [ab] (·=r):=eC (bW n [(105,Cx)] [(4,⟨[sp 1,aq 3],[a5 1 4],[]⟩)] [] [(0,⟨[],[],[]⟩)]) bI (a8 awr aX) ao bD Tryz.func105 (bX le_nil) h
def aeF:∀n,bf aV aW 105 (ua n)
 |0=>(λ_ _ h=>by cases h)
 |n+1=>by
  have ih:=aeF n;exact(by
   intro aM r h;unfold ua at h;split at h
   case h_2=>cases h
   exact awq (ua n) n _ ih h)
def aws(n:Nat):bf aV aW 105 (ua n):=(aeF n)
def awt(n:Nat):bf aV aW 152 (q8 n):=cK (bW n [] [] [] []) bI aX ao bD Tryz.func152
def awu(n:Nat):bf aV aW 153 (zr n):=cK (bW n [] [] [] []) bI aX ao bD Tryz.func153
def awv(n:Nat):bf aV aW 154 (Fv n):=cK (bW n [] [] [] []) bI aX ao bD Tryz.func154
def aww(Cy:List D->Option D)(n:Nat)(ab:D)(ah:D)(aT:D)(bq:D)(awx:bf aV aW 106 Cy){r:D}(h:mN Cy n ab ah aT bq=some r):en aV aW 106 [ab,ah,aT,bq] (·=r):=eC (bW n [(57,xw n),(152,q8 n),(153,zr n),(106,Cy),(154,Fv n)] [(18,⟨[aq 0,aq 2,aq 3,sp 5,cZ 12 55,aq 13,aq 14],[a5 5 4,cp 55 1],[]⟩)] [(20003000,⟨[aq 0,aq 2,aq 3,sp 5,aq 19,aq 20],[a5 5 4],[]⟩),(25006000,⟨[aq 0,aq 2,aq 3,sp 5,aq 25],[a5 5 4],[]⟩),(34011010,⟨[aq 0,aq 10,aq 11],[],[]⟩),(88000025,⟨[aq 0,aq 2,aq 3,sp 5,cZ 12 80,aq 13,aq 14],[a5 5 4,cp 80 1],[]⟩),(94030029,⟨[aq 17],[],[]⟩),(100032031,⟨[aq 17],[],[]⟩),(107034033,⟨[aq 17],[],[]⟩),(112036035,⟨[aq 17],[],[]⟩),(125037000,⟨[cZ 12 55,aq 17,aq 93,aq 125],[cp 55 1],[]⟩),(125039038,⟨[aq 17],[],[]⟩),(136041040,⟨[aq 17],[],[]⟩),(146043042,⟨[aq 17],[],[]⟩),(156045044,⟨[aq 17],[],[]⟩),(166047046,⟨[aq 17],[],[]⟩),(175049048,⟨[aq 17],[],[]⟩),(184053050,⟨[aq 17],[],[]⟩),(209055054,⟨[aq 17],[],[]⟩),(226000056,⟨[aq 17],[],[]⟩),(234000058,⟨[aq 17],[],[]⟩)] [(1,⟨[sp 5,cZ 12 55,aq 13],[a5 5 4,cp 55 1],[]⟩),(2,⟨[aq 0,aq 2,aq 3,sp 5,cZ 12 80,aq 13,aq 14],[a5 5 4,cp 80 1],[]⟩),(3,⟨[aq 17],[],[]⟩)]) bI (a8 (VP n) (a8 (awt n) (a8 (awu n) (a8 awx (a8 (awv n) aX))))) ao bD Tryz.func106 (bX (bX (bX (bX le_nil)))) h
def aeG:∀n,bf aV aW 106 (ub n)
 |0=>(λ_ _ h=>by cases h)
 |n+1=>by
  have ih:=aeG n;exact(by
   intro aM r h;unfold ub at h;split at h
   case h_2=>cases h
   exact aww (ub n) n _ _ _ _ ih h)
def awy(n:Nat):bf aV aW 106 (ub n):=(aeG n)
def VT(n:Nat):bf aV aW 56 (oG n):=u9 (bW n [(72,si n),(105,ua n),(106,ub n)] [] [] []) bI (a8 (PC n) (a8 (aws n) (a8 (awy n) aX))) ao bD Tryz.func56
def VU(n:Nat):bf aV aW 54 (vG n):=u9 (bW n [(56,oG n)] [(2,⟨[aq 0,aq 1,aq 2,aq 3,aq 9],[],[]⟩)] [] [(0,⟨[],[],[]⟩)]) bI (a8 (VT n) aX) ao bD Tryz.func54
def aeH(n:Nat):bf aV aW 51 (xD n):=dV (bW n [(99,Fu n),(54,vG n)] [] [] []) bI (a8 (awp n) (a8 (VU n) aX)) ao bD Tryz.func51
def aeI(n:Nat):bf aV aW 20 (Cz n):=dV (bW n [(52,tY n),(51,xD n)] [] [] []) bI (a8 (VS n) (a8 (aeH n) aX)) ao bD Tryz.func20
def awz(CA:List D->Option D)(n:Nat)(ab:D)(ah:D)(awA:bf aV aW 36 CA){r:D}(h:CB CA n ab ah=some r):en aV aW 36 [ab,ah] (·=r):=eC (bW n [(72,si n),(36,CA)] [(5,⟨[aq 0,sp 3,aq 7],[a5 3 6],[]⟩)] [] [(0,⟨[],[],[]⟩)]) bI (a8 (PC n) (a8 awA aX)) ao bD Tryz.func36 (bX (bX le_nil)) h
def aeJ:∀n,bf aV aW 36 (vH n)
 |0=>(λ_ _ h=>by cases h)
 |n+1=>by
  have ih:=aeJ n;exact(by
   intro aM r h;unfold vH at h;split at h
   case h_2=>cases h
   exact awz (vH n) n _ _ ih h)
def awB(n:Nat):bf aV aW 36 (vH n):=(aeJ n)
def awC(CC:List D->Option D)(n:Nat)(ab:D)(ah:D)(aT:D)(awD:bf aV aW 37 CC){r:D}(h:zt CC n ab ah aT=some r):en aV aW 37 [ab,ah,aT] (·=r):=eC (bW n [(72,si n),(56,oG n),(37,CC)] [(7,⟨[aq 0,aq 2,sp 4,cZ 12 45,aq 13],[a5 4 6,cp 45 1],[]⟩)] [] [(0,⟨[sp 4,cZ 12 45],[a5 4 6,cp 45 1],[]⟩)]) bI (a8 (PC n) (a8 (VT n) (a8 awD aX))) ao bD Tryz.func37 (bX (bX (bX le_nil))) h
def aeK:∀n,bf aV aW 37 (uc n)
 |0=>(λ_ _ h=>by cases h)
 |n+1=>by
  have ih:=aeK n;exact(by
   intro aM r h;unfold uc at h;split at h
   case h_2=>cases h
   exact awC (uc n) n _ _ _ ih h)
def awE(n:Nat):bf aV aW 37 (uc n):=(aeK n)
def awF(n:Nat):bf aV aW 11 (vI n):=iB (bW n [(18,xB n),(33,q6 n),(34,vE n),(20,Cz n),(35,xC n),(36,vH n),(37,uc n)] [] [] []) bI (a8 (VR n) (a8 (KO n) (a8 (awk n) (a8 (aeI n) (a8 (aeD n) (a8 (awB n) (a8 (awE n) aX))))))) ao bD Tryz.func11
def awG(n:Nat):bf aV aW 24 (zu n):=iB (bW n [(52,tY n),(51,xD n),(56,oG n),(57,xw n),(54,vG n)] [(5,⟨[aq 1,aq 2,sp 7,aq 8],[a5 7 8],[]⟩)] [] [(0,⟨[aq 1,aq 2,sp 7],[a5 7 8],[]⟩)]) bI (a8 (VS n) (a8 (aeH n) (a8 (VT n) (a8 (VP n) (a8 (VU n) aX))))) ao bD Tryz.func24
def awH(n:Nat):bf aV aW 40 (KA n):=dV (bW n [(52,tY n),(54,vG n)] [(4,⟨[aq 1,sp 5,cZ 6 10,aq 7],[a5 5 8,cp 10 1],[]⟩)] [] [(0,⟨[cZ 6 10],[cp 10 1],[]⟩)]) bI (a8 (VS n) (a8 (VU n) aX)) ao bD Tryz.func40
def awI(n:Nat):bf aV aW 13 (ud n):=iB (bW n [(18,xB n),(39,zq n),(24,zu n),(40,KA n)] [(5,⟨[aq 1,aq 2,sp 3,aq 7],[a5 3 8],[]⟩),(13,⟨[aq 1,aq 2,sp 3,aq 9],[a5 3 8],[]⟩),(17,⟨[aq 1,aq 2,sp 3,aq 9,aq 10,aq 11],[a5 3 8],[]⟩)] [(42000009,⟨[aq 1,aq 2,sp 3,aq 7,aq 8],[a5 3 8],[]⟩)] [(0,⟨[aq 1,aq 2,sp 3],[a5 3 8],[]⟩),(2,⟨[],[],[]⟩),(3,⟨[aq 1,aq 2,sp 3,aq 9],[a5 3 8],[]⟩),(4,⟨[aq 1,aq 2,sp 3,aq 9,aq 10],[a5 3 8],[]⟩)]) bI (a8 (VR n) (a8 (aeE n) (a8 (awG n) (a8 (awH n) aX)))) ao bD Tryz.func13
def awJ(CE:List D->Option D)(n:Nat)(ab:D)(ah:D)(awK:bf aV aW 41 CE){r:D}(h:Pl CE n ab ah=some r):en aV aW 41 [ab,ah] (·=r):=eC (bW n [(41,CE)] [(3,⟨[aq 1,sp 2,aq 5,aq 6],[a5 2 12],[]⟩)] [] [(0,⟨[aq 5],[],[]⟩)]) bI (a8 awK aX) ao bD Tryz.func41 (bX (bX le_nil)) h
def aeL:∀n,bf aV aW 41 (vJ n)
 |0=>(λ_ _ h=>by cases h)
 |n+1=>by
  have ih:=aeL n;exact(by
   intro aM r h;unfold vJ at h;split at h
   case h_2=>cases h
   exact awJ (vJ n) n _ _ ih h)
def awL(n:Nat):bf aV aW 41 (vJ n):=(aeL n)
def awM(xE:List D->Option D)(n:Nat)(ab:D)(ah:D)(awN:bf aV aW 14 xE){r:D}(h:vK xE n ab ah=some r):en aV aW 14 [ab,ah] (·=r):=eC (bW n [(41,vJ n),(8,Bm n),(14,xE)] [(4,⟨[aq 1,sp 2,aq 33,aq 34,aq 35],[a5 2 12],[]⟩),(10,⟨[aq 1,aq 44,aq 45,aq 46],[],[]⟩)] [] [(0,⟨[aq 1,sp 2],[a5 2 12],[]⟩),(2,⟨[],[],[]⟩)]) bI (a8 (awL n) (a8 (adI n) (a8 awN aX))) ao bD Tryz.func14 (bX (bX le_nil)) h
def aeM:∀n,bf aV aW 14 (ue n)
 |0=>(λ_ _ h=>by cases h)
 |n+1=>by
  have ih:=aeM n;exact(by
   intro aM r h;unfold ue at h;split at h
   case h_2=>cases h
   exact awM (ue n) n _ _ ih h)
def awO(n:Nat):bf aV aW 14 (ue n):=(aeM n)
def awP(n:Nat):bf aV aW 134 (zw n):=dV (bW n [] [] [] []) bI aX ao bD Tryz.func134
def awQ(n:Nat):bf aV aW 135 (KE n):=cK (bW n [] [] [] []) bI aX ao bD Tryz.func135
def awR(qj:List D->Option D)(n:Nat)(ab:D)(ah:D)(awS:bf aV aW 90 qj){r:D}(h:uf qj n ab ah=some r):en aV aW 90 [ab,ah] (·=r):=eC ⟨(fV Tryz.prog).rQ [42,54,71],aW,gj [(90,qj),(134,zw n),(135,KE n)],n,[],cS [(23,⟨[aq 1,sp 2,sp 4,aq 6,cZ 7 83,aq 8],[a5 2 6,a5 4 6,cp 83 6],[]⟩)],cS [(56013000,⟨[aq 1,sp 2,sp 4,aq 56],[a5 2 6,a5 4 6],[]⟩),(80000020,⟨[aq 1,sp 2,sp 4,aq 6],[a5 2 6,a5 4 6],[]⟩)],cS [(1,⟨[sp 4,aq 6,cZ 7 83],[a5 4 6,cp 83 6],[]⟩)],gU [],gi [],g7 [76],g0 []⟩ ((tok _).rQ _) (a8 awS (a8 (awP n) (a8 (awQ n) aX))) ao bD Tryz.func90 (bX (bX le_nil)) h
def aeN:∀n,bf aV aW 90 (ug n)
 |0=>(λ_ _ h=>by cases h)
 |n+1=>by
  have ih:=aeN n;exact(by
   intro aM r h;unfold ug at h;split at h
   case h_2=>cases h
   exact awR (ug n) n _ _ ih h)
def awT(n:Nat):bf aV aW 90 (ug n):=(aeN n)
def aeO(n:Nat):bf aV aW 47 (uh n):=dV (bW n [(33,q6 n),(90,ug n)] [] [] []) bI (a8 (KO n) (a8 (awT n) aX)) ao bD Tryz.func47
def awU(n:Nat):bf aV aW 88 (Pn n):=cK (bW n [] [] [] []) bI aX ao bD Tryz.func88
def awV(n:Nat):bf aV aW 91 (FB n):=dV (bW n [] [(4,⟨[aq 0,aq 1,aq 5],[],[]⟩)] [] [(0,⟨[],[],[]⟩)]) bI aX ao bD Tryz.func91
def VV(n:Nat):bf aV aW 48 (ra n):=dV (bW n [(91,FB n)] [] [] []) bI (a8 (awV n) aX) ao bD Tryz.func48
def awW(CF:List D->Option D)(n:Nat)(ab:D)(ah:D)(awX:bf aV aW 92 CF){r:D}(h:KH CF n ab ah=some r):en aV aW 92 [ab,ah] (·=r):=eC (bW n [(92,CF)] [(4,⟨[sp 2,sp 3,aq 5],[a5 2 4,a5 3 4],[]⟩)] [] [(0,⟨[],[],[]⟩)]) bI (a8 awX aX) ao bD Tryz.func92 (bX (bX le_nil)) h
def aeP:∀n,bf aV aW 92 (vL n)
 |0=>(λ_ _ h=>by cases h)
 |n+1=>by
  have ih:=aeP n;exact(by
   intro aM r h;unfold vL at h;split at h
   case h_2=>cases h
   exact awW (vL n) n _ _ ih h)
def awY(n:Nat):bf aV aW 92 (vL n):=(aeP n)
def awZ(CG:List D->Option D)(n:Nat)(ab:D)(ah:D)(aw0:bf aV aW 49 CG){r:D}(h:FC CG n ab ah=some r):en aV aW 49 [ab,ah] (·=r):=eC (bW n [(92,vL n),(49,CG)] [(4,⟨[sp 2,sp 3,aq 5],[a5 2 6,a5 3 6],[]⟩)] [] [(0,⟨[],[],[]⟩)]) bI (a8 (awY n) (a8 aw0 aX)) ao bD Tryz.func49 (bX (bX le_nil)) h
def aeQ:∀n,bf aV aW 49 (n3 n)
 |0=>(λ_ _ h=>by cases h)
 |n+1=>by
  have ih:=aeQ n;exact(by
   intro aM r h;unfold n3 at h;split at h
   case h_2=>cases h
   exact awZ (n3 n) n _ _ ih h)
def VW(n:Nat):bf aV aW 49 (n3 n):=(aeQ n)
def aw1(n:Nat):bf aV aW 133 (pj n):=dV (bW n [(47,uh n)] [(13,⟨[sp 2,sp 3,cZ 7 5000,aq 8],[a5 2 6,a5 3 12,cp 5000 7],[.slot 7 5000 7]⟩),(19,⟨[sp 2,sp 3,aq 6,cZ 7 5001,aq 9],[a5 2 6,a5 3 12,cp 5001 7],[.slot 7 5001 7]⟩),(29,⟨[sp 3,cZ 7 5002,sp 10,sp 11,aq 12],[a5 3 12,cp 5002 7,a5 10 6,a5 11 6],[.slot 7 5002 7]⟩)] [(184000033,⟨[cZ 7 195],[cp 195 7],[]⟩)] [(0,⟨[sp 3,cZ 7 5000],[a5 3 12,cp 5000 7],[]⟩),(2,⟨[sp 2,sp 3,aq 6,cZ 7 5001],[a5 2 6,a5 3 12,cp 5001 7],[]⟩),(4,⟨[sp 3,cZ 7 5002,sp 10],[a5 3 12,cp 5002 7,a5 10 6],[]⟩)]) bI (a8 (aeO n) aX) ao bD Tryz.func133
def aw2(n:Nat):bf aV aW 89 (sl n):=iB (bW n [(11,vI n),(133,pj n)] [] [] []) bI (a8 (awF n) (a8 (aw1 n) aX)) ao bD Tryz.func89
def aw3(CI:List D->Option D)(n:Nat)(ab:D)(ah:D)(aT:D)(bq:D)(aw4:bf aV aW 46 CI){r:D}(h:lC CI n ab ah aT bq=some r):en aV aW 46 [ab,ah,aT,bq] (·=r):=eC (bW n [(88,Pn n),(48,ra n),(49,n3 n),(13,ud n),(89,sl n),(46,CI)] [(12,⟨[sp 4,sp 7,aq 10,cZ 12 94,aq 13],[a5 4 8,a5 7 12,cp 94 7],[]⟩)] [(86000010,⟨[sp 4,sp 7,aq 10,cZ 12 94],[a5 4 8,a5 7 12,cp 94 7],[.slot 12 5000 7]⟩)] [(0,⟨[cZ 12 94],[cp 94 7],[]⟩)]) bI (a8 (awU n) (a8 (VV n) (a8 (VW n) (a8 (awI n) (a8 (aw2 n) (a8 aw4 aX)))))) ao bD Tryz.func46 (bX (bX (bX (bX le_nil)))) h
def aeR:∀n,bf aV aW 46 (mO n)
 |0=>(λ_ _ h=>by cases h)
 |n+1=>by
  have ih:=aeR n;exact(by
   intro aM r h;unfold mO at h;split at h
   case h_2=>cases h
   exact aw3 (mO n) n _ _ _ _ ih h)
def aw5(n:Nat):bf aV aW 46 (mO n):=(aeR n)
def aw6(n:Nat):bf aV aW 16 (xG n):=u9 (bW n [(18,xB n),(33,q6 n),(20,Cz n),(47,uh n),(46,mO n),(48,ra n),(49,n3 n)] [(11,⟨[aq 11,aq 12,cZ 13 5001,aq 14],[cp 5001 7],[.slot 13 5001 7]⟩),(15,⟨[aq 11,aq 12,cZ 13 5001,aq 14,aq 15,aq 16],[cp 5001 7],[]⟩)] [(78000019,⟨[aq 11,aq 12,cZ 13 85,aq 14],[cp 85 7],[.slot 13 5000 7]⟩)] [(0,⟨[aq 12,cZ 13 5001],[cp 5001 7],[]⟩),(1,⟨[aq 11,aq 12,cZ 13 85,aq 14],[cp 85 7],[]⟩),(2,⟨[aq 11,aq 12,cZ 13 5001,aq 14,aq 15],[cp 5001 7],[]⟩)]) bI (a8 (VR n) (a8 (KO n) (a8 (aeI n) (a8 (aeO n) (a8 (aw5 n) (a8 (VV n) (a8 (VW n) aX))))))) ao bD Tryz.func16
def aw7(n:Nat):bf aV aW 17 (KK n):=dV (bW n [(48,ra n),(49,n3 n)] [(4,⟨[aq 0,aq 1,aq 5],[],[]⟩)] [] [(0,⟨[],[],[]⟩)]) bI (a8 (VV n) (a8 (VW n) aX)) ao bD Tryz.func17
def aw8(n:Nat):bf aV aW 5 (FG n):=u9 (bW n [(7,Bj n),(8,Bm n),(14,ue n),(9,E6 n),(15,tT n),(16,xG n),(17,KK n)] [] [] []) bI (a8 (asF n) (a8 (adI n) (a8 (awO n) (a8 (avy n) (a8 (aej n) (a8 (aw6 n) (a8 (aw7 n) aX))))))) ao bD Tryz.func5
end Go.Am
