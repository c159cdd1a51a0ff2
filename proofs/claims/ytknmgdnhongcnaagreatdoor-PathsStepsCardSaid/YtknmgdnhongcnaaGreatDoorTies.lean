/- That the functions of the program compute this. No condition. -/
import Derived.Test.YtknmgdnhongcnaaGreatDoorCode
import Derived.Test.YtknmgdnhongcnaaGreatDoorProg
import Derived.KernelRfl
set_option linter.all false
set_option linter.unnecessarySimpa false
namespace Go.Am
open Go.Proofs
set_option maxRecDepth 100000
set_option linter.unusedVariables false
noncomputable abbrev aO:Program:=Tryz.prog
theorem mixed:aO.follows .mixedOrders=true:=by kernel_rfl
def aP:cT:=fun g=>if g=0 then some BF else none
noncomputable abbrev bu(n:Nat):=adG aO aP n
theorem aL:fO aO aP (tabC []):=adD
theorem aq:iL aO aP (tabH []):=adB
theorem a0{f:FuncId}{F:List D→Option D}{l:List (FuncId×(List D→Option D))}(h:a8 aO aP f F)(bj:fO aO aP (tabC l)):fO aO aP (tabC ((f,F)::l)):=adE h bj
theorem bw{t:Tmp}{e:yt}{l:List (Tmp×yt)}(h:eS aO aP e.s e.F)(bj:iL aO aP (tabH l)):iL aO aP (tabH ((t,e)::l)):=adC h bj
def Uu:gl:=⟨177,[.b (.d),.b (.d),.b (.ptr 10000 0),.b (.ptr 10001 0)],[aY 10000 1,aY 10001 1],.b (.d),[aY 10000 1,aY 10001 1]⟩
def Na:gl:=⟨180,[.b (.row 9000),.b (.d)],[b6 9000 1],.b (.row 9000),[b6 9000 1]⟩
def Uv:gl:=⟨179,[.b (.d),.b (.d),.b (.ptr 10000 0),.b (.ptr 10001 0)],[(10000,.box [.b (.row 9000)]),(10001,.box [.b (.row 9001)]),b6 9000 1,b6 9001 1],.b (.d),[(10000,.box [.b (.row 9000)]),(10001,.box [.b (.row 9001)]),b6 9000 1,b6 9001 1]⟩
def xh:gl:=⟨176,[.b (.d),.b (.d),.fn (.func SR) [] [.ptr 10000 0,.ptr 10001 0]],[aY 10000 1,aY 10001 1],.b (.d),[aY 10000 1,aY 10001 1]⟩
def xi:gl:=⟨176,[.b (.d),.b (.d),.fn (.func SS) [] [.ptr 10000 0,.ptr 10001 0]],[(10000,.box [.b (.row 9000)]),(10001,.box [.b (.row 9001)]),b6 9000 1,b6 9001 1],.b (.d),[(10000,.box [.b (.row 9000)]),(10001,.box [.b (.row 9001)]),b6 9000 1,b6 9001 1]⟩
def Uw:gl:=⟨77,[.b (.d),.b (.d),.b (.ptr 10000 0),.b (.ptr 10001 0)],[aY 10000 1,aY 10001 1],.b (.d),[aY 10000 1,aY 10001 1]⟩
def xj:gl:=⟨76,[.b (.d),.b (.d),.fn (.func SQ) [] [.ptr 10000 0,.ptr 10001 0]],[aY 10000 1,aY 10001 1],.b (.d),[aY 10000 1,aY 10001 1]⟩
def tV:gl:=⟨192,[.b (.d),.b (.ptr 10000 0),.b (.ptr 10001 0),.b (.ptr 10002 0)],[aY 10000 1,(10001,.box [.b (.map 9000)]),(10002,.box [.fn (.func tw) [] [.ptr 10000 0,.ptr 10001 0,.ptr 10002 0]]),(9000,.map)],.b (.d),[aY 10000 1,(10001,.box [.b (.map 9000)]),(10002,.box [.fn (.func tw) [] [.ptr 10000 0,.ptr 10001 0,.ptr 10002 0]]),(9000,.map)]⟩
def Ux:gl:=⟨162,[.b (.d),.b (.d)],[],.b (.map 9000),[(9000,.map)]⟩
def xk:gl:=⟨193,[.b (.d),.b (.d),.b (.ptr 10000 0),.b (.ptr 10001 0),.b (.ptr 10002 0),.b (.ptr 10003 0)],[aY 10000 1,aY 10001 1,aY 10002 1,(10003,.box [.fn (.func tx) [] [.ptr 10000 0,.ptr 10001 0,.ptr 10002 0,.ptr 10003 0]])],.b (.d),[aY 10000 1,aY 10001 1,aY 10002 1,(10003,.box [.fn (.func tx) [] [.ptr 10000 0,.ptr 10001 0,.ptr 10002 0,.ptr 10003 0]])]⟩
def xl:gl:=⟨113,[.b (.d),.b (.ptr 10000 0),.b (.ptr 10001 0)],[aY 10000 1,(10001,.box [.fn (.func Gy) [] [.ptr 10000 0,.ptr 10001 0]])],.b (.d),[aY 10000 1,(10001,.box [.fn (.func Gy) [] [.ptr 10000 0,.ptr 10001 0]])]⟩
def xm:gl:=⟨148,[.b (.d),.b (.ptr 10000 0),.b (.ptr 10001 0),.b (.ptr 10002 0),.b (.ptr 10003 0),.b (.ptr 10004 0)],[(10000,.box [.fn (.func vr) [] [.ptr 10000 0,.ptr 10001 0,.ptr 10002 0,.ptr 10003 0,.ptr 10004 0]]),aY 10001 1,aY 10002 1,aY 10003 1,aY 10004 1],.b (.d),[(10000,.box [.fn (.func vr) [] [.ptr 10000 0,.ptr 10001 0,.ptr 10002 0,.ptr 10003 0,.ptr 10004 0]]),aY 10001 1,aY 10002 1,aY 10003 1,aY 10004 1]⟩
def DY:gl:=⟨181,[.b (.d),.b (.d),.b (.ptr 10000 0),.b (.ptr 10001 0)],[aY 10000 12,(10001,.box [.b (.row 9000)]),b6 9000 7],.b (.d),[aY 10000 12,(10001,.box [.b (.row 9000)]),b6 9000 7]⟩
def xn:gl:=⟨44,[.b (.d),.b (.d),.b (.d),.b (.ptr 10000 0)],[(10000,.box [.b (.row 9000)]),b6 9000 7],.b (.d),[(10000,.box [.b (.row 9000)]),b6 9000 7]⟩
theorem aif(vt:List D→Option D)(n:Nat)(ab:D)(ah:D)(aih:a8 aO aP 59 vt){r:D}(h:Gz vt n ab ah=some r):dx aO aP 59 [ab,ah] (·=r):=
 dJ (bu n [(59,vt)] [(3,⟨[ao 1,sp 2,ao 5,ao 6],[aY 2 4],[]⟩)] [] [(0,⟨[ao 5],[],[]⟩)]) (tok _) (a0 aih aL) aq mixed rfl Tryz.func59 (by kernel_rfl) (bB (bB le_nil)) (by kernel_rfl) (by kernel_rfl) h
theorem Uy:∀n,a8 aO aP 59 (ob n)
 |0=>(fun _ _ h=>by cases h)
 |n+1=>by
  have ih:=Uy n
  exact (by
   intro aF r h
   unfold ob at h
   split at h
   case h_2=>cases h
   exact aif (ob n) n _ _ ih h)
theorem Uz(n:Nat):a8 aO aP 59 (ob n):=(Uy n)
theorem aii(vu:List D→Option D)(n:Nat)(ab:D)(ah:D)(aij:a8 aO aP 60 vu){r:D}(h:GA vu n ab ah=some r):dx aO aP 60 [ab,ah] (·=r):=
 dJ (bu n [(59,ob n),(60,vu)] [(3,⟨[ao 1,sp 2,ao 5,ao 6],[aY 2 6],[]⟩)] [] [(0,⟨[ao 5],[],[]⟩)]) (tok _) (a0 (Uz n) (a0 aij aL)) aq mixed rfl Tryz.func60 (by kernel_rfl) (bB (bB le_nil)) (by kernel_rfl) (by kernel_rfl) h
theorem UA:∀n,a8 aO aP 60 (qx n)
 |0=>(fun _ _ h=>by cases h)
 |n+1=>by
  have ih:=UA n
  exact (by
   intro aF r h
   unfold qx at h
   split at h
   case h_2=>cases h
   exact aii (qx n) n _ _ ih h)
theorem aik(n:Nat):a8 aO aP 60 (qx n):=(UA n)
theorem ail(n:Nat):a8 aO aP 28 (yP n):=
 c6 ⟨eM aO,aP,tabC [(59,ob n),(60,qx n)],n,[],cm [(6,⟨[ao 1,sp 2,ao 5,cH 6 5000,ao 7],[aY 2 8,b6 5000 4],[.slot 6 5000 4]⟩),(10,⟨[ao 1,sp 2,ao 5,cH 6 5000,ao 8],[aY 2 8,b6 5000 4],[]⟩),(15,⟨[ao 1,sp 2,ao 5,cH 6 89,ao 9],[aY 2 8,b6 89 4],[]⟩),(19,⟨[ao 1,sp 2,ao 5,ao 10],[aY 2 8],[]⟩)],cm [],cm [(0,⟨[ao 1,sp 2,ao 5,cH 6 5000],[aY 2 8,b6 5000 4],[]⟩),(2,⟨[ao 1,sp 2,ao 5,cH 6 5000],[aY 2 8,b6 5000 4],[]⟩),(4,⟨[ao 1,sp 2,ao 5],[aY 2 8],[]⟩),(6,⟨[ao 1,ao 5],[],[]⟩)],fv [(13,[1,2,4,5,7,8,10,11,0,3,6,9,12,13])],tabH [],fG [],fx []⟩ (tok _) (a0 (Uz n) (a0 (aik n) aL)) aq mixed rfl Tryz.func28 (by kernel_rfl) (by kernel_rfl) (fun _ _=>by kernel_rfl)
theorem aim(n:Nat):a8 aO aP 7 (tz n):=
 c6 (bu n [(28,yP n)] [(2,⟨[ao 1,sp 2,ao 7,ao 8,ao 9],[aY 2 8],[]⟩)] [] [(0,⟨[ao 1,sp 2],[aY 2 8],[]⟩)]) (tok _) (a0 (ail n) aL) aq mixed rfl Tryz.func7 (by kernel_rfl) (by kernel_rfl) (fun _ _=>by kernel_rfl)
theorem ain(n:Nat):a8 aO aP 62 (vC n):=
 cc (bu n [] [] [] []) (tok _) aL aq mixed rfl Tryz.func62 (by kernel_rfl) (by kernel_rfl) (fun _=>by kernel_rfl)
theorem aio(n:Nat):a8 aO aP 63 (vD n):=
 c6 (bu n [] [] [] []) (tok _) aL aq mixed rfl Tryz.func63 (by kernel_rfl) (by kernel_rfl) (fun _ _=>by kernel_rfl)
theorem aip(n:Nat):a8 aO aP 30 (LF n):=
 yn ⟨(eM Tryz.prog).ql [11,19,21,29,39],aP,tabC [(62,vC n),(63,vD n)],n,[],cm [],cm [],cm [],fv [(4,[2,10,0,1,3,4,5,6,7,8,9,11,12,13,14,15,16,17,18]),(5,[3,9,13,0,2,4,10,12,14,5,6,7,15,16,17,1,8,11,18,19,20])],tabH [],fG [],fx []⟩ ((tok _).ql _) (a0 (ain n) (a0 (aio n) aL)) aq mixed rfl Tryz.func30 (by kernel_rfl) (by kernel_rfl) (by kernel_rfl)
theorem UB(n:Nat):a8 aO aP 188 (vE n):=
 cc (bu n [] [] [] []) (tok _) aL aq mixed rfl Tryz.func188 (by kernel_rfl) (by kernel_rfl) (fun _=>by kernel_rfl)
theorem aiq(n:Nat):a8 aO aP 203 (BP n):=
 cc (bu n [] [] [] []) (tok _) aL aq mixed rfl Tryz.func203 (by kernel_rfl) (by kernel_rfl) (fun _=>by kernel_rfl)
theorem air(n:Nat):a8 aO aP 190 (BQ n):=
 cc (bu n [(188,vE n),(203,BP n)] [] [] []) (tok _) (a0 (UB n) (a0 (aiq n) aL)) aq mixed rfl Tryz.func190 (by kernel_rfl) (by kernel_rfl) (fun _=>by kernel_rfl)
theorem ais(n:Nat)(ab:D){r:D}(h:LG n ab=some r):dx aO aP 189 [ab,(D.val (.func (.func BH) #[] #[]))] (·=r):=
 dJ (bu n [(190,BQ n)] [(2,⟨[ao 0,(1,.b (.A6 BH)),ao 5],[],[]⟩)] [] [(0,⟨[ao 5],[],[]⟩)]) (tok _) (a0 (air n) aL) aq mixed rfl Tryz.func189 (by kernel_rfl) (bB (bB le_nil)) (by kernel_rfl) (by kernel_rfl) h
theorem ait(n:Nat):a8 aO aP 189 (yQ n):=by
 intro aF r h
 unfold yQ at h
 split at h
 case h_2=>cases h
 obtain ⟨aj,h⟩:=kn h
 obtain rfl:=La aj
 exact ais n _ h
theorem aiu(n:Nat):a8 aO aP 204 (yS n):=
 c6 (bu n [] [(2,⟨[ao 0,ao 1,ao 7,ao 8],[],[]⟩)] [] [(0,⟨[],[],[]⟩)]) (tok _) aL aq mixed rfl Tryz.func204 (by kernel_rfl) (by kernel_rfl) (fun _ _=>by kernel_rfl)
theorem aiv(n:Nat):a8 aO aP 191 (BS n):=
 c6 (bu n [(204,yS n)] [] [] []) (tok _) (a0 (aiu n) aL) aq mixed rfl Tryz.func191 (by kernel_rfl) (by kernel_rfl) (fun _ _=>by kernel_rfl)
theorem Nb(n:Nat):a8 aO aP 156 (qB n):=
 cc (bu n [(188,vE n),(189,yQ n),(191,BS n)] [] [] []) (tok _) (a0 (UB n) (a0 (ait n) (a0 (aiv n) aL))) aq mixed rfl Tryz.func156 (by kernel_rfl) (by kernel_rfl) (fun _=>by kernel_rfl)
theorem aiw(n:Nat)(ab:D)(x1:List D){r:D}(h:LJ n ab x1=some r):dx aO aP 155 [ab,.ref x1 0] (·=r):=
 dJ (bu n [] [] [] []) (tok _) aL aq mixed rfl Tryz.func155 (by kernel_rfl) (bB (lV mL le_nil)) (by kernel_rfl) (by kernel_rfl) h
theorem aix(n:Nat):a8 aO aP 155 (yT n):=by
 intro aF r h
 unfold yT at h
 split at h
 case h_2=>cases h
 split at h
 case h_2=>cases h
 exact aiw n _ _ h
theorem aiy(n:Nat)(ab:D)(b4:D){r:D}(h:LK n ab b4=some r):dx aO aP 103 [ab,(D.fn (.func qw) [] [b4])] (·=r):=
 dJ (bu n [(155,yT n)] [(2,⟨[ao 0,(1,.b (.fd qw 1)),ao 7,ao 8],[],[]⟩)] [] [(0,⟨[],[],[]⟩)]) (tok _) (a0 (aix n) aL) aq mixed rfl Tryz.func103 (by kernel_rfl) (bB (bB le_nil)) (by kernel_rfl) (by kernel_rfl) h
theorem aiz(n:Nat):a8 aO aP 103 (vG n):=by
 intro aF r h
 unfold vG at h
 split at h
 case h_2=>cases h
 split at h
 case h_2=>cases h
 rename_i aj
 obtain rfl:=jW aj
 exact aiy n _ _ h
theorem aiA(n:Nat)(ab:D)(b4:D){r:D}(h:LL n ab b4=some r):dx aO aP 157 [ab,(D.fn (.func qw) [] [b4])] (·=r):=
 dJ (bu n [(103,vG n)] [] [] []) (tok _) (a0 (aiz n) aL) aq mixed rfl Tryz.func157 (by kernel_rfl) (bB (bB le_nil)) (by kernel_rfl) (by kernel_rfl) h
theorem aiB(n:Nat):a8 aO aP 157 (yU n):=by
 intro aF r h
 unfold yU at h
 split at h
 case h_2=>cases h
 split at h
 case h_2=>cases h
 rename_i aj
 obtain rfl:=jW aj
 exact aiA n _ _ h
theorem aiC(n:Nat):a8 aO aP 107 (yV n):=
 cc (bu n [(156,qB n),(157,yU n)] [(2,⟨[ao 0,ao 8,ao 9,ao 10],[],[]⟩)] [] [(0,⟨[],[],[]⟩)]) (tok _) (a0 (Nb n) (a0 (aiB n) aL)) aq mixed rfl Tryz.func107 (by kernel_rfl) (by kernel_rfl) (fun _=>by kernel_rfl)
theorem aiD(n:Nat):a8 aO aP 159 (BU n):=
 cc (bu n [] [] [] []) (tok _) aL aq mixed rfl Tryz.func159 (by kernel_rfl) (by kernel_rfl) (fun _=>by kernel_rfl)
theorem aiE(n:Nat):a8 aO aP 158 (BV n):=
 cc (bu n [] [(2,⟨[ao 0,ao 4],[],[]⟩)] [] [(0,⟨[],[],[]⟩)]) (tok _) aL aq mixed rfl Tryz.func158 (by kernel_rfl) (by kernel_rfl) (fun _=>by kernel_rfl)
theorem aiF(n:Nat):a8 aO aP 108 (BW n):=
 cc (bu n [(159,BU n),(158,BV n)] [(3,⟨[ao 3,ao 7,ao 8,ao 9],[],[]⟩)] [] [(0,⟨[ao 3],[],[]⟩)]) (tok _) (a0 (aiD n) (a0 (aiE n) aL)) aq mixed rfl Tryz.func108 (by kernel_rfl) (by kernel_rfl) (fun _=>by kernel_rfl)
theorem aiG(n:Nat):a8 aO aP 253 (BX n):=
 cc (bu n [] [] [] []) (tok _) aL aq mixed rfl Tryz.func253 (by kernel_rfl) (by kernel_rfl) (fun _=>by kernel_rfl)
theorem aiH(n:Nat):a8 aO aP 246 (BY n):=
 cc (bu n [] [] [] []) (tok _) aL aq mixed rfl Tryz.func246 (by kernel_rfl) (by kernel_rfl) (fun _=>by kernel_rfl)
theorem aiI(n:Nat):a8 aO aP 242 (ph n):=
 cc (bu n [] [] [] []) (tok _) aL aq mixed rfl Tryz.func242 (by kernel_rfl) (by kernel_rfl) (fun _=>by kernel_rfl)
theorem aiJ(n:Nat):a8 aO aP 238 (B0 n):=
 cc (bu n [] [] [] []) (tok _) aL aq mixed rfl Tryz.func238 (by kernel_rfl) (by kernel_rfl) (fun _=>by kernel_rfl)
theorem aiK(n:Nat):a8 aO aP 233 (B1 n):=
 cc (bu n [] [] [] []) (tok _) aL aq mixed rfl Tryz.func233 (by kernel_rfl) (by kernel_rfl) (fun _=>by kernel_rfl)
theorem aiL(n:Nat):a8 aO aP 226 (B2 n):=
 cc (bu n [] [] [] []) (tok _) aL aq mixed rfl Tryz.func226 (by kernel_rfl) (by kernel_rfl) (fun _=>by kernel_rfl)
theorem aiM(n:Nat)(ab:D)(x1:List D){r:D}(h:GG n ab x1=some r):dx aO aP 256 [ab,.ref x1 0] (·=r):=
 dJ (bu n [] [] [] []) (tok _) aL aq mixed rfl Tryz.func256 (by kernel_rfl) (bB (lV mL le_nil)) (by kernel_rfl) (by kernel_rfl) h
theorem aiN(n:Nat):a8 aO aP 256 (B3 n):=by
 intro aF r h
 unfold B3 at h
 split at h
 case h_2=>cases h
 split at h
 case h_2=>cases h
 exact aiM n _ _ h
theorem aiO(n:Nat)(ab:D)(b4:D){r:D}(h:B5 n ab b4=some r):dx aO aP 258 [ab,(D.fn (.func pf) [] [b4])] (·=r):=
 dJ (bu n [(256,B3 n)] [(2,⟨[ao 0,(1,.b (.fd pf 1)),ao 7,ao 8],[],[]⟩)] [] [(0,⟨[],[],[]⟩)]) (tok _) (a0 (aiN n) aL) aq mixed rfl Tryz.func258 (by kernel_rfl) (bB (bB le_nil)) (by kernel_rfl) (by kernel_rfl) h
theorem aiP(n:Nat):a8 aO aP 258 (vI n):=by
 intro aF r h
 unfold vI at h
 split at h
 case h_2=>cases h
 split at h
 case h_2=>cases h
 rename_i aj
 obtain rfl:=jW aj
 exact aiO n _ _ h
theorem aiQ(n:Nat)(ab:D)(b4:D){r:D}(h:GH n ab b4=some r):dx aO aP 255 [ab,(D.fn (.func pf) [] [b4])] (·=r):=
 dJ (bu n [(258,vI n)] [] [] []) (tok _) (a0 (aiP n) aL) aq mixed rfl Tryz.func255 (by kernel_rfl) (bB (bB le_nil)) (by kernel_rfl) (by kernel_rfl) h
theorem aiR(n:Nat):a8 aO aP 255 (vJ n):=by
 intro aF r h
 unfold vJ at h
 split at h
 case h_2=>cases h
 split at h
 case h_2=>cases h
 rename_i aj
 obtain rfl:=jW aj
 exact aiQ n _ _ h
theorem aiS(n:Nat):a8 aO aP 199 (B6 n):=
 cc (bu n [] [] [(5004000,⟨[ao 4,ao 5],[],[]⟩),(5005000,⟨[ao 4,ao 5],[],[]⟩),(5006000,⟨[ao 4,ao 5],[],[]⟩),(12011000,⟨[ao 4,ao 12],[],[]⟩),(15014000,⟨[ao 4,ao 15],[],[]⟩),(15015000,⟨[ao 4,ao 15],[],[]⟩),(15016000,⟨[ao 4,ao 15],[],[]⟩),(15017000,⟨[ao 4,ao 15],[],[]⟩),(15018000,⟨[ao 4,ao 15],[],[]⟩),(15019000,⟨[ao 4,ao 15],[],[]⟩),(15020000,⟨[ao 4,ao 15],[],[]⟩),(15021000,⟨[ao 4,ao 15],[],[]⟩),(15022000,⟨[ao 4,ao 15],[],[]⟩)] []) (tok _) aL aq mixed rfl Tryz.func199 (by kernel_rfl) (by kernel_rfl) (fun _=>by kernel_rfl)
theorem aiT(n:Nat):a8 aO aP 178 (B7 n):=
 cc (bu n [(199,B6 n)] [] [(18008007,⟨[sp 1,ao 3,ao 4,ao 5,ao 6],[aY 1 4],[]⟩),(20000009,⟨[sp 1,ao 3,ao 4,ao 5,ao 6],[aY 1 4],[]⟩)] [(0,⟨[sp 1,ao 3,ao 4,ao 5,ao 6],[aY 1 4],[]⟩)]) (tok _) (a0 (aiS n) aL) aq mixed rfl Tryz.func178 (by kernel_rfl) (by kernel_rfl) (fun _=>by kernel_rfl)
theorem aiU(n:Nat):eS aO aP Uu (B8 n):=
 mM ⟨eM aO,aP,tabC [(178,B7 n)],n,[10000,10001],cm [],cm [(10004003,⟨[(3,.b (.ptr 10001 0))],[aY 10001 1,aY 10000 1],[]⟩),(18000006,⟨[(3,.b (.ptr 10001 0))],[aY 10001 1,aY 10000 1],[]⟩)],cm [],fv [],tabH [],fG [],fx []⟩ (tok _) (a0 (aiT n) aL) aq mixed Tryz.func177 (by kernel_rfl) (by kernel_rfl) (by kernel_rfl) [] fun _=>by kernel_rfl
theorem UC(n:Nat):eS aO aP Na (tA n):=
 mM ⟨eM aO,aP,tabC [],n,[],cm [(2,⟨[cH 0 9000,ao 1,ao 5],[b6 9000 1],[]⟩)],cm [],cm [(0,⟨[cH 0 9000,ao 1,ao 5],[b6 9000 1],[]⟩)],fv [],tabH [],fG [],fx []⟩ (tok _) aL aq mixed Tryz.func180 (by kernel_rfl) (by kernel_rfl) (by kernel_rfl) [] fun _=>by kernel_rfl
theorem aiV(n:Nat):eS aO aP Uv (vK n):=
 mM ⟨eM aO,aP,tabC [],n,[10000,10001],cm [],cm [(9004003,⟨[],[(10000,.box [.b (.row 6010)]),(10001,.box [.b (.row 9001)]),b6 6010 1,b6 9001 1],[]⟩),(15000005,⟨[],[(10000,.box [.b (.row 9000)]),(10001,.box [.b (.row 6020)]),b6 9000 1,b6 6020 1],[]⟩)],cm [(0,⟨[],[(10000,.box [.b (.row 6010)]),(10001,.box [.b (.row 9001)]),b6 6010 1,b6 9001 1],[]⟩)],fv [],tabH [(14,⟨Na,tA n,6010,[]⟩),(20,⟨Na,tA n,6020,[]⟩)],fG [],fx []⟩ (tok _) aL (bw (UC n) (bw (UC n) aq)) mixed Tryz.func179 (by kernel_rfl) (by kernel_rfl) (by kernel_rfl) [] fun _=>by kernel_rfl
theorem aiW(vL:List D→Option (List D))(n:Nat)(aiX:eS aO aP xh vL):eS aO aP xh (LN vL n):=
 mM ⟨eM aO,aP,tabC [],n,[10000,10001],cm [(4,⟨[ao 1,(2,.fn (.func SR) [] [.ptr 10000 0,.ptr 10001 0]),ao 15,ao 16,ao 17],[aY 10000 1,aY 10001 1],[]⟩)],cm [],cm [(0,⟨[],[aY 10000 1,aY 10001 1],[]⟩)],fv [],tabH [(12,⟨Uu,B8 n,6010,[]⟩),(25,⟨xh,vL,6020,[]⟩)],fG [],fx []⟩ (tok _) aL (bw (aiU n) (bw aiX aq)) mixed Tryz.func176 (by kernel_rfl) (by kernel_rfl) (by kernel_rfl) [] fun _=>by kernel_rfl
theorem UD:∀n,eS aO aP xh (rQ n)
 |0=>tk (s:=xh) (tj (T:=eM aO) (os:=fun _=>none) Tryz.func176 (by kernel_rfl)) (fun _=>rfl)
 |n+1=>by
  have ih:=UD n
  exact aiW (rQ n) n ih
theorem aiY(n:Nat):eS aO aP xh (rQ n):=(UD n)
theorem Nc(n:Nat):a8 aO aP 124 (qC n):=
 cc ⟨eM aO,aP,tabC [],n,[],cm [],cm [],cm [],fv [],tabH [(7,⟨xh,rQ n,6010,[]⟩)],fG [],fx []⟩ (tok _) aL (bw (aiY n) aq) mixed rfl Tryz.func124 (by kernel_rfl) (by kernel_rfl) (fun _=>by kernel_rfl)
theorem aiZ(vM:List D→Option (List D))(n:Nat)(ai0:eS aO aP xi vM):eS aO aP xi (LO vM n):=
 mM ⟨eM aO,aP,tabC [],n,[10000,10001],cm [(4,⟨[ao 1,(2,.fn (.func SS) [] [.ptr 10000 0,.ptr 10001 0]),ao 15,ao 16,ao 17],[(10000,.box [.b (.row 6010)]),(10001,.box [.b (.row 6011)]),b6 6010 1,b6 6011 1],[]⟩)],cm [],cm [(0,⟨[],[(10000,.box [.b (.row 6010)]),(10001,.box [.b (.row 6011)]),b6 6010 1,b6 6011 1],[]⟩)],fv [],tabH [(12,⟨Uv,vK n,6010,[]⟩),(25,⟨xi,vM,6020,[]⟩)],fG [],fx []⟩ (tok _) aL (bw (aiV n) (bw ai0 aq)) mixed Tryz.func176 (by kernel_rfl) (by kernel_rfl) (by kernel_rfl) [] fun _=>by kernel_rfl
theorem UE:∀n,eS aO aP xi (rR n)
 |0=>tk (s:=xi) (tj (T:=eM aO) (os:=fun _=>none) Tryz.func176 (by kernel_rfl)) (fun _=>rfl)
 |n+1=>by
  have ih:=UE n
  exact aiZ (rR n) n ih
theorem ai1(n:Nat):eS aO aP xi (rR n):=(UE n)
theorem HM(n:Nat):a8 aO aP 125 (pk n):=
 cc ⟨eM aO,aP,tabC [],n,[],cm [],cm [],cm [],fv [(2,[0,1,2,3])],tabH [(6,⟨xi,rR n,6010,[.box 3 0 5900 1,.box 2 0 5901 1]⟩)],fG [],fx []⟩ (tok _) aL (bw (ai1 n) aq) mixed rfl Tryz.func125 (by kernel_rfl) (by kernel_rfl) (fun _=>by kernel_rfl)
theorem ai2(n:Nat):a8 aO aP 78 (vN n):=
 cc (bu n [(124,qC n),(125,pk n)] [] [] []) (tok _) (a0 (Nc n) (a0 (HM n) aL)) aq mixed rfl Tryz.func78 (by kernel_rfl) (by kernel_rfl) (fun _=>by kernel_rfl)
theorem ai3(n:Nat):a8 aO aP 79 (Cc n):=
 cc (bu n [] [] [(6005000,⟨[ao 3,ao 6],[],[]⟩),(6006000,⟨[ao 3,ao 6],[],[]⟩),(6007000,⟨[ao 3,ao 6],[],[]⟩),(6008000,⟨[ao 3,ao 6],[],[]⟩),(12011000,⟨[ao 12],[],[]⟩),(12012000,⟨[ao 12],[],[]⟩),(12013000,⟨[ao 12],[],[]⟩),(12014000,⟨[ao 12],[],[]⟩),(12015000,⟨[ao 12],[],[]⟩),(12016000,⟨[ao 12],[],[]⟩)] [(0,⟨[],[],[]⟩)]) (tok _) aL aq mixed rfl Tryz.func79 (by kernel_rfl) (by kernel_rfl) (fun _=>by kernel_rfl)
theorem ai4(n:Nat):eS aO aP Uw (Cd n):=
 mM ⟨eM aO,aP,tabC [(78,vN n),(79,Cc n)],n,[10000,10001],cm [],cm [(40007006,⟨[(3,.b (.ptr 10001 0))],[aY 10001 1,aY 10000 1],[]⟩),(43009008,⟨[(3,.b (.ptr 10001 0))],[aY 10001 1,aY 10000 1],[]⟩),(46011010,⟨[(3,.b (.ptr 10001 0))],[aY 10001 1,aY 10000 1],[]⟩),(50013012,⟨[(3,.b (.ptr 10001 0))],[aY 10001 1,aY 10000 1],[]⟩),(65000014,⟨[(3,.b (.ptr 10001 0))],[aY 10001 1,aY 10000 1],[]⟩)],cm [(0,⟨[(3,.b (.ptr 10001 0))],[aY 10001 1,aY 10000 1],[]⟩)],fv [],tabH [],fG [],fx []⟩ (tok _) (a0 (ai2 n) (a0 (ai3 n) aL)) aq mixed Tryz.func77 (by kernel_rfl) (by kernel_rfl) (by kernel_rfl) [] fun _=>by kernel_rfl
theorem ai5(vO:List D→Option (List D))(n:Nat)(ai6:eS aO aP xj vO):eS aO aP xj (LP vO n):=
 mM ⟨eM aO,aP,tabC [],n,[10000,10001],cm [(4,⟨[ao 1,(2,.fn (.func SQ) [] [.ptr 10000 0,.ptr 10001 0]),ao 15,ao 16,ao 17],[aY 10000 1,aY 10001 1],[]⟩)],cm [],cm [(0,⟨[],[aY 10000 1,aY 10001 1],[]⟩)],fv [],tabH [(12,⟨Uw,Cd n,6010,[]⟩),(25,⟨xj,vO,6020,[]⟩)],fG [],fx []⟩ (tok _) aL (bw (ai4 n) (bw ai6 aq)) mixed Tryz.func76 (by kernel_rfl) (by kernel_rfl) (by kernel_rfl) [] fun _=>by kernel_rfl
theorem UF:∀n,eS aO aP xj (rS n)
 |0=>tk (s:=xj) (tj (T:=eM aO) (os:=fun _=>none) Tryz.func76 (by kernel_rfl)) (fun _=>rfl)
 |n+1=>by
  have ih:=UF n
  exact ai5 (rS n) n ih
theorem ai7(n:Nat):eS aO aP xj (rS n):=(UF n)
theorem DZ(n:Nat):a8 aO aP 42 (ny n):=
 cc ⟨eM aO,aP,tabC [],n,[],cm [],cm [],cm [],fv [],tabH [(7,⟨xj,rS n,6010,[]⟩)],fG [],fx []⟩ (tok _) aL (bw (ai7 n) aq) mixed rfl Tryz.func42 (by kernel_rfl) (by kernel_rfl) (fun _=>by kernel_rfl)
theorem Nd(n:Nat):a8 aO aP 160 (rT n):=
 cc (bu n [] [(3,⟨[(3,.b (.map 8)),ao 9,ao 10,ao 11],[(8,.map)],[]⟩)] [(24000007,⟨[(3,.b (.map 8)),ao 9,ao 10,ao 11],[(8,.map)],[]⟩)] [(0,⟨[(3,.b (.map 8))],[(8,.map)],[]⟩),(1,⟨[(3,.b (.map 8)),ao 9,ao 10,ao 11],[(8,.map)],[]⟩)]) (tok _) aL aq mixed rfl Tryz.func160 (by kernel_rfl) (by kernel_rfl) (fun _=>by kernel_rfl)
theorem ai8(n:Nat):a8 aO aP 161 (Cg n):=
 cc ⟨eM aO,aP,tabC [(160,rT n),(125,pk n)],n,[],cm [(4,⟨[ao 3,cH 4 5002,ao 16,ao 17,ao 18],[b6 5002 1],[.slot 4 5002 1]⟩),(9,⟨[ao 3,cH 4 5002,cH 7 5001,ao 16,ao 17,ao 18,ao 28,ao 29,ao 30],[b6 5002 1,b6 5001 1],[.slot 7 5001 1]⟩)],cm [(40000013,⟨[ao 3,cH 4 5002,cH 7 44,ao 16,ao 17,ao 18,ao 28,ao 29,ao 30],[b6 5002 1,b6 44 1],[.slot 7 5000 1]⟩)],cm [(0,⟨[cH 4 5002],[b6 5002 1],[]⟩),(1,⟨[ao 3,cH 4 49,ao 16,ao 17,ao 18],[b6 49 1],[]⟩),(2,⟨[ao 3,cH 4 5002,cH 7 5001,ao 16,ao 17,ao 18],[b6 5002 1,b6 5001 1],[]⟩),(3,⟨[ao 3,cH 4 5002,cH 7 44,ao 16,ao 17,ao 18,ao 28,ao 29,ao 30],[b6 5002 1,b6 44 1],[]⟩)],fv [],tabH [],fG [48],fx []⟩ (tok _) (a0 (Nd n) (a0 (HM n) aL)) aq mixed rfl Tryz.func161 (by kernel_rfl) (by kernel_rfl) (fun _=>by kernel_rfl)
theorem ai9(vP:List D→Option (List D))(n:Nat)(aja:eS aO aP tV vP):eS aO aP tV (GN vP n):=
 mM ⟨eM aO,aP,tabC [],n,[10000,10001,10002],cm [(1,⟨[(2,.b (.ptr 10001 0)),(3,.b (.ptr 10002 0)),ao 10,ao 11,ao 12],[(10001,.box [.b (.map 9000)]),(10002,.box [.fn (.func tw) [] [.ptr 10000 0,.ptr 10001 0,.ptr 10002 0]]),aY 10000 1,(9000,.map)],[]⟩)],cm [(19000004,⟨[(2,.b (.ptr 10001 0)),(3,.b (.ptr 10002 0)),ao 10,ao 11,ao 12],[(10001,.box [.b (.map 6010)]),(10002,.box [.fn (.func tw) [] [.ptr 10000 0,.ptr 10001 0,.ptr 10002 0]]),aY 10000 1,(6010,.map)],[]⟩)],cm [(0,⟨[],[aY 10000 1,(10001,.box [.b (.map 9000)]),(10002,.box [.fn (.func tw) [] [.ptr 10000 0,.ptr 10001 0,.ptr 10002 0]]),(9000,.map)],[]⟩),(1,⟨[(2,.b (.ptr 10001 0)),(3,.b (.ptr 10002 0)),ao 10,ao 11,ao 12],[(10001,.box [.b (.map 6010)]),(10002,.box [.fn (.func tw) [] [.ptr 10000 0,.ptr 10001 0,.ptr 10002 0]]),aY 10000 1,(6010,.map)],[]⟩)],fv [],tabH [(24,⟨tV,vP,6010,[]⟩)],fG [],fx []⟩ (tok _) aL (bw aja aq) mixed Tryz.func192 (by kernel_rfl) (by kernel_rfl) (by kernel_rfl) [] fun _=>by kernel_rfl
theorem UG:∀n,eS aO aP tV (pn n)
 |0=>tk (s:=tV) (tj (T:=eM aO) (os:=fun _=>none) Tryz.func192 (by kernel_rfl)) (fun _=>rfl)
 |n+1=>by
  have ih:=UG n
  exact ai9 (pn n) n ih
theorem UH(n:Nat):eS aO aP tV (pn n):=(UG n)
theorem ajb(n:Nat):eS aO aP Ux (Cj n):=
 mM ⟨eM aO,aP,tabC [],n,[],cm [(5,⟨[sp 5,sp 6,ao 11,ao 12,ao 13],[(5,.box [.b (.map 9)]),(6,.box [.fn (.func tw) [] [.ptr 2 0,.ptr 5 0,.ptr 6 0]]),(9,.map),aY 2 1],[]⟩)],cm [],cm [(0,⟨[sp 5],[(5,.box [.b (.map 9)]),(9,.map)],[]⟩)],fv [],tabH [(19,⟨tV,pn n,6010,[]⟩)],fG [],fx []⟩ (tok _) aL (bw (UH n) aq) mixed Tryz.func162 (by kernel_rfl) (by kernel_rfl) (by kernel_rfl) [] fun _=>by kernel_rfl
theorem ajc(n:Nat):a8 aO aP 162 (yW n):=
 c6 ⟨eM aO,aP,tabC [],n,[],cm [(5,⟨[sp 5,sp 6,ao 11,ao 12,ao 13],[(5,.box [.b (.map 9)]),(6,.box [.fn (.func tw) [] [.ptr 2 0,.ptr 5 0,.ptr 6 0]]),(9,.map),aY 2 1],[]⟩)],cm [],cm [(0,⟨[sp 5],[(5,.box [.b (.map 9)]),(9,.map)],[]⟩)],fv [],tabH [(19,⟨tV,pn n,6010,[]⟩)],fG [],fx []⟩ (tok _) aL (bw (UH n) aq) mixed rfl Tryz.func162 (by kernel_rfl) (by kernel_rfl) (fun _ _=>by kernel_rfl)
theorem ajd(rV:List D→Option (List D))(n:Nat)(aje:eS aO aP xk rV):eS aO aP xk (Cl rV n):=
 mM ⟨eM aO,aP,tabC [],n,[10000,10001,10002,10003],cm [(1,⟨[ao 1,(2,.b (.ptr 10000 0)),(3,.b (.ptr 10001 0)),(4,.b (.ptr 10002 0)),(5,.b (.ptr 10003 0)),sp 6,sp 8],[aY 10000 1,aY 10001 1,aY 10002 1,(10003,.box [.fn (.func tx) [] [.ptr 10000 0,.ptr 10001 0,.ptr 10002 0,.ptr 10003 0]]),aY 6 4,aY 8 4],[]⟩),(10,⟨[ao 1,(4,.b (.ptr 10002 0)),(5,.b (.ptr 10003 0)),sp 6,sp 8,cH 11 41,ao 43,ao 44,ao 45],[aY 10002 1,(10003,.box [.fn (.func tx) [] [.ptr 10000 0,.ptr 10001 0,.ptr 10002 0,.ptr 10003 0]]),aY 6 4,aY 8 4,b6 41 4,aY 10000 1,aY 10001 1],[]⟩)],cm [(55000013,⟨[ao 1,(4,.b (.ptr 10002 0)),(5,.b (.ptr 10003 0)),sp 6,sp 8,cH 11 41,ao 43,ao 44,ao 45],[aY 10002 1,(10003,.box [.fn (.func tx) [] [.ptr 10000 0,.ptr 10001 0,.ptr 10002 0,.ptr 10003 0]]),aY 6 4,aY 8 4,b6 41 4,aY 10000 1,aY 10001 1],[]⟩)],cm [(0,⟨[ao 1,(4,.b (.ptr 10002 0)),(5,.b (.ptr 10003 0)),sp 6,sp 8],[aY 10002 1,(10003,.box [.fn (.func tx) [] [.ptr 10000 0,.ptr 10001 0,.ptr 10002 0,.ptr 10003 0]]),aY 6 4,aY 8 4,aY 10000 1,aY 10001 1],[]⟩),(2,⟨[sp 6,sp 8,cH 11 41],[aY 6 4,aY 8 4,b6 41 4,aY 10000 1,aY 10001 1,aY 10002 1,(10003,.box [.fn (.func tx) [] [.ptr 10000 0,.ptr 10001 0,.ptr 10002 0,.ptr 10003 0]])],[]⟩),(3,⟨[ao 1,(4,.b (.ptr 10002 0)),(5,.b (.ptr 10003 0)),sp 6,sp 8,cH 11 41,ao 43,ao 44,ao 45],[aY 10002 1,(10003,.box [.fn (.func tx) [] [.ptr 10000 0,.ptr 10001 0,.ptr 10002 0,.ptr 10003 0]]),aY 6 4,aY 8 4,b6 41 4,aY 10000 1,aY 10001 1],[]⟩)],fv [],tabH [(62,⟨xk,rV,6010,[]⟩)],fG [20066],fx []⟩ (tok _) aL (bw aje aq) mixed Tryz.func193 (by kernel_rfl) (by kernel_rfl) (by kernel_rfl) [] fun _=>by kernel_rfl
theorem UI:∀n,eS aO aP xk (qD n)
 |0=>tk (s:=xk) (tj (T:=eM aO) (os:=fun _=>none) Tryz.func193 (by kernel_rfl)) (fun _=>rfl)
 |n+1=>by
  have ih:=UI n
  exact ajd (qD n) n ih
theorem ajf(n:Nat):eS aO aP xk (qD n):=(UI n)
theorem ajg(n:Nat):a8 aO aP 163 (Cm n):=
 c6 ⟨eM aO,aP,tabC [(160,rT n)],n,[],cm [],cm [],cm [],fv [],tabH [(13,⟨xk,qD n,6010,[]⟩)],fG [],fx []⟩ (tok _) (a0 (Nd n) aL) (bw (ajf n) aq) mixed rfl Tryz.func163 (by kernel_rfl) (by kernel_rfl) (fun _ _=>by kernel_rfl)
theorem HN(n:Nat):a8 aO aP 114 (kv n):=
 c6 ⟨(eM Tryz.prog).ql [77],aP,tabC [(124,qC n),(160,rT n),(161,Cg n),(125,pk n),(162,yW n),(163,Cm n)],n,[],cm [(8,⟨[ao 1,sp 2,sp 4,ao 7,ao 8,cH 9 5001,ao 36,ao 37,ao 38],[aY 2 4,aY 4 4,b6 5001 1],[.slot 9 5001 1]⟩),(16,⟨[ao 1,sp 2,sp 4,ao 8,(16,.b (.map 6010)),ao 57,ao 58,ao 59],[aY 2 4,aY 4 4,(6010,.map)],[]⟩),(21,⟨[ao 1,sp 2,sp 4,ao 8,(16,.b (.map 6010)),ao 67,ao 68],[aY 2 4,aY 4 4,(6010,.map)],[]⟩)],cm [(48000012,⟨[ao 1,sp 2,sp 4,ao 7,ao 8,cH 9 52,ao 36,ao 37,ao 38],[aY 2 4,aY 4 4,b6 52 1],[.slot 9 5000 1]⟩)],cm [(0,⟨[ao 1,sp 2,sp 4,ao 8,cH 9 5001],[aY 2 4,aY 4 4,b6 5001 1],[]⟩),(1,⟨[ao 1,sp 2,sp 4,ao 7,ao 8,cH 9 52,ao 36,ao 37,ao 38],[aY 2 4,aY 4 4,b6 52 1],[]⟩),(2,⟨[ao 1,sp 2,sp 4,ao 8,(16,.b (.map 6010))],[aY 2 4,aY 4 4,(6010,.map)],[]⟩),(4,⟨[ao 1,sp 2,sp 4],[aY 2 4,aY 4 4],[]⟩)],fv [],tabH [(56,⟨Ux,Cj n,6010,[]⟩)],fG [],fx [(14,[[5001],[],[]])]⟩ ((tok _).ql _) (a0 (Nc n) (a0 (Nd n) (a0 (ai8 n) (a0 (HM n) (a0 (ajc n) (a0 (ajg n) aL)))))) (bw (ajb n) aq) mixed rfl Tryz.func114 (by kernel_rfl) (by kernel_rfl) (fun _ _=>by kernel_rfl)
theorem UJ(n:Nat):a8 aO aP 147 (vR n):=
 cc (bu n [] [(3,⟨[(3,.b (.map 8)),ao 9,ao 10,ao 11],[(8,.map)],[]⟩)] [(24000007,⟨[(3,.b (.map 8)),ao 9,ao 10,ao 11],[(8,.map)],[]⟩)] [(0,⟨[(3,.b (.map 8))],[(8,.map)],[]⟩),(1,⟨[(3,.b (.map 8)),ao 9,ao 10,ao 11],[(8,.map)],[]⟩)]) (tok _) aL aq mixed rfl Tryz.func147 (by kernel_rfl) (by kernel_rfl) (fun _=>by kernel_rfl)
theorem UK(n:Nat):a8 aO aP 205 (po n):=
 c6 (bu n [] [] [] []) (tok _) aL aq mixed rfl Tryz.func205 (by kernel_rfl) (by kernel_rfl) (fun _ _=>by kernel_rfl)
theorem ajh(n:Nat):a8 aO aP 206 (Cr n):=
 cc (bu n [] [(2,⟨[sp 2,ao 6,ao 7,ao 8],[aY 2 3],[]⟩)] [] [(0,⟨[sp 2],[aY 2 3],[]⟩)]) (tok _) aL aq mixed rfl Tryz.func206 (by kernel_rfl) (by kernel_rfl) (fun _=>by kernel_rfl)
theorem aji(n:Nat):a8 aO aP 207 (vS n):=
 gi (bu n [(205,po n)] [] [(13000002,⟨[ao 0,sp 4,sp 5,sp 6],[aY 4 3,aY 5 3,aY 6 3],[]⟩)] []) (tok _) (a0 (UK n) aL) aq mixed rfl Tryz.func207 (by kernel_rfl) (by kernel_rfl) (fun _ _ _=>by kernel_rfl)
theorem ajj(n:Nat):a8 aO aP 194 (mV n):=
 tn (bu n [(205,po n),(206,Cr n),(207,vS n)] [] [(29007000,⟨[ao 0,ao 1,ao 3,ao 4,sp 7,sp 10,ao 16,ao 29],[aY 7 4,aY 10 3],[]⟩),(69017000,⟨[ao 4,sp 7,sp 10,ao 16,ao 69],[aY 7 4,aY 10 3],[]⟩),(69018000,⟨[ao 4,sp 7,sp 10,ao 16,ao 69],[aY 7 4,aY 10 3],[]⟩),(69019000,⟨[ao 4,sp 7,sp 10,ao 16,ao 69],[aY 7 4,aY 10 3],[]⟩),(69020000,⟨[ao 4,sp 7,sp 10,ao 16,ao 69],[aY 7 4,aY 10 3],[]⟩),(126029000,⟨[ao 4,sp 7,sp 10,ao 126],[aY 7 4,aY 10 3],[]⟩),(164038000,⟨[ao 4,sp 7,sp 10,ao 152,ao 164],[aY 7 4,aY 10 3],[]⟩)] [(0,⟨[ao 4,sp 7,sp 10],[aY 7 4,aY 10 3],[]⟩)]) (tok _) (a0 (UK n) (a0 (ajh n) (a0 (aji n) aL))) aq mixed rfl Tryz.func194 (by kernel_rfl) (by kernel_rfl) (fun _ _ _ _ _=>by kernel_rfl)
theorem ajk(vX:List D→Option D)(n:Nat)(ab:D)(ah:D)(aT:D)(bP:D)(ajl:a8 aO aP 164 vX){r:D}(h:L3 vX n ab ah aT bP=some r):dx aO aP 164 [ab,ah,aT,bP] (·=r):=
 dJ (bu n [(164,vX),(194,mV n)] [(3,⟨[ao 0,ao 1,ao 3,sp 6,sp 8,cH 10 5000,ao 16,ao 17,ao 18],[aY 6 4,aY 8 3,b6 5000 3],[.slot 10 5000 3]⟩)] [] [(0,⟨[ao 0,ao 1,ao 3,sp 6,sp 8,cH 10 5000],[aY 6 4,aY 8 3,b6 5000 3],[]⟩)]) (tok _) (a0 ajl (a0 (ajj n) aL)) aq mixed rfl Tryz.func164 (by kernel_rfl) (bB (bB (bB (bB le_nil)))) (by kernel_rfl) (by kernel_rfl) h
theorem UL:∀n,a8 aO aP 164 (ps n)
 |0=>(fun _ _ h=>by cases h)
 |n+1=>by
  have ih:=UL n
  exact (by
   intro aF r h
   unfold ps at h
   split at h
   case h_2=>cases h
   exact ajk (ps n) n _ _ _ _ ih h)
theorem ajm(n:Nat):a8 aO aP 164 (ps n):=(UL n)
theorem Nf(n:Nat):a8 aO aP 115 (qI n):=
 gi (bu n [(124,qC n),(147,vR n),(164,ps n)] [] [] []) (tok _) (a0 (Nc n) (a0 (UJ n) (a0 (ajm n) aL))) aq mixed rfl Tryz.func115 (by kernel_rfl) (by kernel_rfl) (fun _ _ _=>by kernel_rfl)
theorem Ng(n:Nat):a8 aO aP 240 (qJ n):=
 gi (bu n [(114,kv n),(115,qI n)] [] [] []) (tok _) (a0 (HN n) (a0 (Nf n) aL)) aq mixed rfl Tryz.func240 (by kernel_rfl) (by kernel_rfl) (fun _ _ _=>by kernel_rfl)
theorem UM(n:Nat):a8 aO aP 244 (tB n):=
 gi (bu n [(240,qJ n)] [] [] []) (tok _) (a0 (Ng n) aL) aq mixed rfl Tryz.func244 (by kernel_rfl) (by kernel_rfl) (fun _ _ _=>by kernel_rfl)
theorem ajn(vY:List D→Option D)(n:Nat)(ab:D)(ah:D)(ajo:a8 aO aP 257 vY){r:D}(h:CD vY n ab ah=some r):dx aO aP 257 [ab,ah] (·=r):=
 dJ (bu n [(244,tB n),(257,vY)] [(4,⟨[sp 2,ao 16,ao 17,ao 18],[aY 2 8],[]⟩)] [] [(0,⟨[],[],[]⟩)]) (tok _) (a0 (UM n) (a0 ajo aL)) aq mixed rfl Tryz.func257 (by kernel_rfl) (bB (bB le_nil)) (by kernel_rfl) (by kernel_rfl) h
theorem UN:∀n,a8 aO aP 257 (qK n)
 |0=>(fun _ _ h=>by cases h)
 |n+1=>by
  have ih:=UN n
  exact (by
   intro aF r h
   unfold qK at h
   split at h
   case h_2=>cases h
   exact ajn (qK n) n _ _ ih h)
theorem ajp(n:Nat):a8 aO aP 257 (qK n):=(UN n)
theorem ajq(n:Nat):a8 aO aP 254 (rY n):=
 gi (bu n [(156,qB n),(255,vJ n),(42,ny n),(257,qK n)] [] [] []) (tok _) (a0 (Nb n) (a0 (aiR n) (a0 (DZ n) (a0 (ajp n) aL)))) aq mixed rfl Tryz.func254 (by kernel_rfl) (by kernel_rfl) (fun _ _ _=>by kernel_rfl)
theorem ajr(n:Nat)(ab:D)(x1:List D){r:D}(h:GV n ab x1=some r):dx aO aP 248 [ab,.ref x1 0] (·=r):=
 dJ (bu n [] [] [] []) (tok _) aL aq mixed rfl Tryz.func248 (by kernel_rfl) (bB (lV mL le_nil)) (by kernel_rfl) (by kernel_rfl) h
theorem ajs(n:Nat):a8 aO aP 248 (CF n):=by
 intro aF r h
 unfold CF at h
 split at h
 case h_2=>cases h
 split at h
 case h_2=>cases h
 exact ajr n _ _ h
theorem ajt(n:Nat)(ab:D)(b4:D){r:D}(h:CH n ab b4=some r):dx aO aP 103 [ab,(D.fn (.func yK) [] [b4])] (·=r):=
 dJ (bu n [(248,CF n)] [(2,⟨[ao 0,(1,.b (.fd yK 1)),ao 7,ao 8],[],[]⟩)] [] [(0,⟨[],[],[]⟩)]) (tok _) (a0 (ajs n) aL) aq mixed rfl Tryz.func103 (by kernel_rfl) (bB (bB le_nil)) (by kernel_rfl) (by kernel_rfl) h
theorem aju(n:Nat):a8 aO aP 103 (v3 n):=by
 intro aF r h
 unfold v3 at h
 split at h
 case h_2=>cases h
 split at h
 case h_2=>cases h
 rename_i aj
 obtain rfl:=jW aj
 exact ajt n _ _ h
theorem ajv(n:Nat)(ab:D)(x1:List D){r:D}(h:GW n ab x1=some r):dx aO aP 250 [ab,.ref x1 0] (·=r):=
 dJ (bu n [] [] [] []) (tok _) aL aq mixed rfl Tryz.func250 (by kernel_rfl) (bB (lV mL le_nil)) (by kernel_rfl) (by kernel_rfl) h
theorem ajw(n:Nat):a8 aO aP 250 (CI n):=by
 intro aF r h
 unfold CI at h
 split at h
 case h_2=>cases h
 split at h
 case h_2=>cases h
 exact ajv n _ _ h
theorem ajx(n:Nat)(ab:D)(b4:D){r:D}(h:CK n ab b4=some r):dx aO aP 251 [ab,(D.fn (.func pe) [] [b4])] (·=r):=
 dJ (bu n [(250,CI n)] [(2,⟨[ao 0,(1,.b (.fd pe 1)),ao 7,ao 8],[],[]⟩)] [] [(0,⟨[],[],[]⟩)]) (tok _) (a0 (ajw n) aL) aq mixed rfl Tryz.func251 (by kernel_rfl) (bB (bB le_nil)) (by kernel_rfl) (by kernel_rfl) h
theorem ajy(n:Nat):a8 aO aP 251 (v5 n):=by
 intro aF r h
 unfold v5 at h
 split at h
 case h_2=>cases h
 split at h
 case h_2=>cases h
 rename_i aj
 obtain rfl:=jW aj
 exact ajx n _ _ h
theorem ajz(n:Nat)(ab:D)(b4:D){r:D}(h:GX n ab b4=some r):dx aO aP 249 [ab,(D.fn (.func pe) [] [b4])] (·=r):=
 dJ (bu n [(251,v5 n)] [] [] []) (tok _) (a0 (ajy n) aL) aq mixed rfl Tryz.func249 (by kernel_rfl) (bB (bB le_nil)) (by kernel_rfl) (by kernel_rfl) h
theorem ajA(n:Nat):a8 aO aP 249 (v7 n):=by
 intro aF r h
 unfold v7 at h
 split at h
 case h_2=>cases h
 split at h
 case h_2=>cases h
 rename_i aj
 obtain rfl:=jW aj
 exact ajz n _ _ h
theorem ajB(n:Nat):a8 aO aP 247 (tC n):=
 gi (bu n [(103,v3 n),(249,v7 n),(240,qJ n)] [] [] []) (tok _) (a0 (aju n) (a0 (ajA n) (a0 (Ng n) aL))) aq mixed rfl Tryz.func247 (by kernel_rfl) (by kernel_rfl) (fun _ _ _=>by kernel_rfl)
theorem ajC(n:Nat):a8 aO aP 243 (y4 n):=
 gi (bu n [(244,tB n)] [] [] []) (tok _) (a0 (UM n) aL) aq mixed rfl Tryz.func243 (by kernel_rfl) (by kernel_rfl) (fun _ _ _=>by kernel_rfl)
theorem ajD(n:Nat):a8 aO aP 239 (y5 n):=
 gi (bu n [(240,qJ n)] [] [] []) (tok _) (a0 (Ng n) aL) aq mixed rfl Tryz.func239 (by kernel_rfl) (by kernel_rfl) (fun _ _ _=>by kernel_rfl)
theorem ajE(n:Nat)(ab:D)(x1:List D){r:D}(h:GZ n ab x1=some r):dx aO aP 236 [ab,.ref x1 0] (·=r):=
 dJ (bu n [] [] [] []) (tok _) aL aq mixed rfl Tryz.func236 (by kernel_rfl) (bB (lV mL le_nil)) (by kernel_rfl) (by kernel_rfl) h
theorem ajF(n:Nat):a8 aO aP 236 (CL n):=by
 intro aF r h
 unfold CL at h
 split at h
 case h_2=>cases h
 split at h
 case h_2=>cases h
 exact ajE n _ _ h
theorem ajG(n:Nat)(ab:D)(b4:D){r:D}(h:CN n ab b4=some r):dx aO aP 235 [ab,(D.fn (.func yJ) [] [b4])] (·=r):=
 dJ (bu n [(236,CL n)] [(2,⟨[ao 0,(1,.b (.fd yJ 1)),ao 7,ao 8],[],[]⟩)] [] [(0,⟨[],[],[]⟩)]) (tok _) (a0 (ajF n) aL) aq mixed rfl Tryz.func235 (by kernel_rfl) (bB (bB le_nil)) (by kernel_rfl) (by kernel_rfl) h
theorem ajH(n:Nat):a8 aO aP 235 (v9 n):=by
 intro aF r h
 unfold v9 at h
 split at h
 case h_2=>cases h
 split at h
 case h_2=>cases h
 rename_i aj
 obtain rfl:=jW aj
 exact ajG n _ _ h
theorem ajI(n:Nat):a8 aO aP 234 (y6 n):=
 gi ⟨eM aO,aP,tabC [(125,pk n),(235,v9 n)],n,[],cm [(3,⟨[ao 0,ao 2,cH 7 16,cH 8 18],[b6 16 1,b6 18 1],[]⟩),(7,⟨[ao 0,ao 2,cH 7 16,cH 8 18,ao 35,ao 36,ao 37],[b6 16 1,b6 18 1],[]⟩)],cm [(52000011,⟨[ao 0,ao 2,cH 7 16,cH 8 59,ao 35,ao 36,ao 37],[b6 16 1,b6 59 1],[]⟩)],cm [(0,⟨[ao 2,cH 7 16],[b6 16 1],[]⟩),(1,⟨[ao 0,ao 2,cH 7 16,cH 8 18],[b6 16 1,b6 18 1],[]⟩),(2,⟨[ao 0,ao 2,cH 7 16,cH 8 18],[b6 16 1,b6 18 1],[]⟩),(3,⟨[ao 0,ao 2,cH 7 16,cH 8 59,ao 35,ao 36,ao 37],[b6 16 1,b6 59 1],[]⟩)],fv [],tabH [],fG [23],fx []⟩ (tok _) (a0 (HM n) (a0 (ajH n) aL)) aq mixed rfl Tryz.func234 (by kernel_rfl) (by kernel_rfl) (fun _ _ _=>by kernel_rfl)
theorem ajJ(n:Nat)(ab:D)(x1:List D){r:D}(h:G2 n ab x1=some r):dx aO aP 228 [ab,.ref x1 0] (·=r):=
 dJ (bu n [] [] [] []) (tok _) aL aq mixed rfl Tryz.func228 (by kernel_rfl) (bB (lV mL le_nil)) (by kernel_rfl) (by kernel_rfl) h
theorem ajK(n:Nat):a8 aO aP 228 (CO n):=by
 intro aF r h
 unfold CO at h
 split at h
 case h_2=>cases h
 split at h
 case h_2=>cases h
 exact ajJ n _ _ h
theorem ajL(n:Nat)(ab:D)(b4:D){r:D}(h:CQ n ab b4=some r):dx aO aP 103 [ab,(D.fn (.func pc) [] [b4])] (·=r):=
 dJ (bu n [(228,CO n)] [(2,⟨[ao 0,(1,.b (.fd pc 1)),ao 7,ao 8],[],[]⟩)] [] [(0,⟨[],[],[]⟩)]) (tok _) (a0 (ajK n) aL) aq mixed rfl Tryz.func103 (by kernel_rfl) (bB (bB le_nil)) (by kernel_rfl) (by kernel_rfl) h
theorem ajM(n:Nat):a8 aO aP 103 (wb n):=by
 intro aF r h
 unfold wb at h
 split at h
 case h_2=>cases h
 split at h
 case h_2=>cases h
 rename_i aj
 obtain rfl:=jW aj
 exact ajL n _ _ h
theorem ajN(n:Nat)(ab:D)(b4:D){r:D}(h:G3 n ab b4=some r):dx aO aP 157 [ab,(D.fn (.func pc) [] [b4])] (·=r):=
 dJ (bu n [(103,wb n)] [] [] []) (tok _) (a0 (ajM n) aL) aq mixed rfl Tryz.func157 (by kernel_rfl) (bB (bB le_nil)) (by kernel_rfl) (by kernel_rfl) h
theorem ajO(n:Nat):a8 aO aP 157 (wc n):=by
 intro aF r h
 unfold wc at h
 split at h
 case h_2=>cases h
 split at h
 case h_2=>cases h
 rename_i aj
 obtain rfl:=jW aj
 exact ajN n _ _ h
theorem ajP(n:Nat)(ab:D)(x1:List D){r:D}(h:G4 n ab x1=some r):dx aO aP 230 [ab,.ref x1 0] (·=r):=
 dJ (bu n [] [] [] []) (tok _) aL aq mixed rfl Tryz.func230 (by kernel_rfl) (bB (lV mL le_nil)) (by kernel_rfl) (by kernel_rfl) h
theorem ajQ(n:Nat):a8 aO aP 230 (CR n):=by
 intro aF r h
 unfold CR at h
 split at h
 case h_2=>cases h
 split at h
 case h_2=>cases h
 exact ajP n _ _ h
theorem ajR(n:Nat)(ab:D)(b4:D){r:D}(h:CT n ab b4=some r):dx aO aP 231 [ab,(D.fn (.func pd) [] [b4])] (·=r):=
 dJ (bu n [(230,CR n)] [(2,⟨[ao 0,(1,.b (.fd pd 1)),ao 7,ao 8],[],[]⟩)] [] [(0,⟨[],[],[]⟩)]) (tok _) (a0 (ajQ n) aL) aq mixed rfl Tryz.func231 (by kernel_rfl) (bB (bB le_nil)) (by kernel_rfl) (by kernel_rfl) h
theorem ajS(n:Nat):a8 aO aP 231 (we n):=by
 intro aF r h
 unfold we at h
 split at h
 case h_2=>cases h
 split at h
 case h_2=>cases h
 rename_i aj
 obtain rfl:=jW aj
 exact ajR n _ _ h
theorem ajT(n:Nat)(ab:D)(b4:D){r:D}(h:G5 n ab b4=some r):dx aO aP 229 [ab,(D.fn (.func pd) [] [b4])] (·=r):=
 dJ (bu n [(231,we n)] [] [] []) (tok _) (a0 (ajS n) aL) aq mixed rfl Tryz.func229 (by kernel_rfl) (bB (bB le_nil)) (by kernel_rfl) (by kernel_rfl) h
theorem ajU(n:Nat):a8 aO aP 229 (wg n):=by
 intro aF r h
 unfold wg at h
 split at h
 case h_2=>cases h
 split at h
 case h_2=>cases h
 rename_i aj
 obtain rfl:=jW aj
 exact ajT n _ _ h
theorem ajV(n:Nat):a8 aO aP 227 (r0 n):=
 gi (bu n [(156,qB n),(157,wc n),(229,wg n)] [] [(17005000,⟨[ao 17],[],[]⟩)] []) (tok _) (a0 (Nb n) (a0 (ajO n) (a0 (ajU n) aL))) aq mixed rfl Tryz.func227 (by kernel_rfl) (by kernel_rfl) (fun _ _ _=>by kernel_rfl)
theorem ajW(n:Nat):a8 aO aP 252 (G6 n):=
 cc (bu n [] [] [] []) (tok _) aL aq mixed rfl Tryz.func252 (by kernel_rfl) (by kernel_rfl) (fun _=>by kernel_rfl)
theorem ajX(n:Nat):a8 aO aP 245 (G7 n):=
 cc (bu n [] [] [] []) (tok _) aL aq mixed rfl Tryz.func245 (by kernel_rfl) (by kernel_rfl) (fun _=>by kernel_rfl)
theorem ajY(n:Nat):a8 aO aP 241 (G8 n):=
 cc (bu n [] [] [] []) (tok _) aL aq mixed rfl Tryz.func241 (by kernel_rfl) (by kernel_rfl) (fun _=>by kernel_rfl)
theorem ajZ(n:Nat):a8 aO aP 237 (G9 n):=
 cc (bu n [] [] [] []) (tok _) aL aq mixed rfl Tryz.func237 (by kernel_rfl) (by kernel_rfl) (fun _=>by kernel_rfl)
theorem aj0(n:Nat):a8 aO aP 232 (Ha n):=
 cc (bu n [] [] [] []) (tok _) aL aq mixed rfl Tryz.func232 (by kernel_rfl) (by kernel_rfl) (fun _=>by kernel_rfl)
theorem aj1(n:Nat):a8 aO aP 225 (Hb n):=
 cc (bu n [] [] [] []) (tok _) aL aq mixed rfl Tryz.func225 (by kernel_rfl) (by kernel_rfl) (fun _=>by kernel_rfl)
theorem aj2(n:Nat):a8 aO aP 64 (oi n):=
 cc ⟨((eM Tryz.prog).FM [151,152,153,155,156,157]),aP,tabC [(107,yV n),(108,BW n),(253,BX n),(246,BY n),(242,ph n),(238,B0 n),(233,B1 n),(226,B2 n),(254,rY n),(247,tC n),(243,y4 n),(239,y5 n),(234,y6 n),(227,r0 n),(252,G6 n),(245,G7 n),(241,G8 n),(237,G9 n),(232,Ha n),(225,Hb n)],n,[],cm [(2,⟨[sp 1,sp 2,ao 36,ao 37],[aY 1 8,aY 2 2],[]⟩),(13,⟨[sp 1,sp 2,ao 93,ao 94],[aY 1 8,aY 2 2],[]⟩),(16,⟨[sp 1,sp 2,ao 9,ao 93,ao 94,ao 98,ao 99],[aY 1 8,aY 2 2],[]⟩)],cm [],cm [(0,⟨[sp 1,sp 2],[aY 1 8,aY 2 2],[]⟩),(2,⟨[sp 2],[aY 2 2],[]⟩),(3,⟨[sp 1,sp 2,ao 93,ao 94],[aY 1 8,aY 2 2],[]⟩),(4,⟨[sp 1,sp 2,ao 93,ao 94],[aY 1 8,aY 2 2],[]⟩)],fv [],tabH [],fG [],fx []⟩ ((tok _).FM _) (a0 (aiC n) (a0 (aiF n) (a0 (aiG n) (a0 (aiH n) (a0 (aiI n) (a0 (aiJ n) (a0 (aiK n) (a0 (aiL n) (a0 (ajq n) (a0 (ajB n) (a0 (ajC n) (a0 (ajD n) (a0 (ajI n) (a0 (ajV n) (a0 (ajW n) (a0 (ajX n) (a0 (ajY n) (a0 (ajZ n) (a0 (aj0 n) (a0 (aj1 n) aL)))))))))))))))))))) aq mixed rfl Tryz.func64 (by kernel_rfl) (by kernel_rfl) (fun _=>by kernel_rfl)
theorem aj3(n:Nat):a8 aO aP 109 (nA n):=
 c6 (bu n [(114,kv n)] [(2,⟨[ao 1,cH 4 5000,ao 11,ao 12,ao 13],[b6 5000 4],[.slot 4 5000 4]⟩)] [] [(0,⟨[cH 4 5000],[b6 5000 4],[]⟩)]) (tok _) (a0 (HN n) aL) aq mixed rfl Tryz.func109 (by kernel_rfl) (by kernel_rfl) (fun _ _=>by kernel_rfl)
theorem aj4(n:Nat):a8 aO aP 110 (wj n):=
 c6 (bu n [(114,kv n)] [(2,⟨[ao 1,cH 4 5000,ao 11,ao 12,ao 13],[b6 5000 5],[.slot 4 5000 5]⟩)] [] [(0,⟨[cH 4 5000],[b6 5000 5],[]⟩)]) (tok _) (a0 (HN n) aL) aq mixed rfl Tryz.func110 (by kernel_rfl) (by kernel_rfl) (fun _ _=>by kernel_rfl)
theorem aj5(wk:List D→Option (List D))(n:Nat)(aj6:eS aO aP xl wk):eS aO aP xl (qL wk n):=
 mM ⟨eM aO,aP,tabC [(114,kv n)],n,[10000,10001],cm [(8,⟨[(2,.b (.ptr 10001 0)),sp 3,sp 4,cH 8 5000,ao 32,ao 33,ao 34],[(10001,.box [.fn (.func Gy) [] [.ptr 10000 0,.ptr 10001 0]]),aY 3 6,aY 4 6,b6 5000 6,aY 10000 1],[.slot 8 5000 6]⟩)],cm [],cm [(0,⟨[sp 3,sp 4,cH 8 5000],[aY 3 6,aY 4 6,b6 5000 6,aY 10000 1,(10001,.box [.fn (.func Gy) [] [.ptr 10000 0,.ptr 10001 0]])],[]⟩)],fv [],tabH [(41,⟨xl,wk,6020,[]⟩)],fG [20004],fx []⟩ (tok _) (a0 (HN n) aL) (bw aj6 aq) mixed Tryz.func113 (by kernel_rfl) (by kernel_rfl) (by kernel_rfl) [] fun _=>by kernel_rfl
theorem UO:∀n,eS aO aP xl (nB n)
 |0=>tk (s:=xl) (tj (T:=eM aO) (os:=fun _=>none) Tryz.func113 (by kernel_rfl)) (fun _=>rfl)
 |n+1=>by
  have ih:=UO n
  exact aj5 (nB n) n ih
theorem aj7(n:Nat):eS aO aP xl (nB n):=(UO n)
theorem UP(n:Nat):a8 aO aP 67 (r1 n):=
 c6 ⟨eM aO,aP,tabC [(42,ny n)],n,[],cm [],cm [],cm [],fv [],tabH [(17,⟨xl,nB n,6010,[]⟩)],fG [],fx []⟩ (tok _) (a0 (DZ n) aL) (bw (aj7 n) aq) mixed rfl Tryz.func67 (by kernel_rfl) (by kernel_rfl) (fun _ _=>by kernel_rfl)
theorem aj8(n:Nat):a8 aO aP 111 (wm n):=
 c6 (bu n [(67,r1 n)] [(2,⟨[ao 1,cH 4 5000,ao 11,ao 12,ao 13],[b6 5000 7],[.slot 4 5000 7]⟩)] [] [(0,⟨[cH 4 5000],[b6 5000 7],[]⟩)]) (tok _) (a0 (UP n) aL) aq mixed rfl Tryz.func111 (by kernel_rfl) (by kernel_rfl) (fun _ _=>by kernel_rfl)
theorem aj9(n:Nat):a8 aO aP 65 (CV n):=
 cc ⟨eM aO,aP,tabC [(109,nA n),(110,wj n),(111,wm n)],n,[],cm [],cm [],cm [],fv [(4,[1,2,0,3,4,5,6,7]),(7,[1,2,0,3,4,5,6,7]),(10,[1,2,0,3,4,5,6,7]),(13,[1,2,0,3,4,5,6,7]),(16,[1,2,0,3,4,5,6,7]),(19,[1,2,0,3,4,5,6,7])],tabH [],fG [],fx []⟩ (tok _) (a0 (aj3 n) (a0 (aj4 n) (a0 (aj8 n) aL))) aq mixed rfl Tryz.func65 (by kernel_rfl) (by kernel_rfl) (fun _=>by kernel_rfl)
theorem xo(n:Nat):a8 aO aP 31 (j1 n):=
 cc (bu n [(64,oi n),(65,CV n)] [] [] []) (tok _) (a0 (aj2 n) (a0 (aj9 n) aL)) aq mixed rfl Tryz.func31 (by kernel_rfl) (by kernel_rfl) (fun _=>by kernel_rfl)
theorem aka(n:Nat):a8 aO aP 80 (y9 n):=
 c6 (bu n [] [(4,⟨[ao 1,ao 16,ao 17,ao 18],[],[]⟩)] [(28000008,⟨[ao 1,ao 5,ao 7,ao 8,ao 16,ao 17,ao 18],[],[]⟩)] [(0,⟨[],[],[]⟩)]) (tok _) aL aq mixed rfl Tryz.func80 (by kernel_rfl) (by kernel_rfl) (fun _ _=>by kernel_rfl)
theorem UQ(n:Nat):a8 aO aP 149 (nC n):=
 cc (bu n [] [] [] []) (tok _) aL aq mixed rfl Tryz.func149 (by kernel_rfl) (by kernel_rfl) (fun _=>by kernel_rfl)
theorem akb(n:Nat):a8 aO aP 186 (CX n):=
 c6 (bu n [] [] [] []) (tok _) aL aq mixed rfl Tryz.func186 (by kernel_rfl) (by kernel_rfl) (fun _ _=>by kernel_rfl)
theorem UR(n:Nat):a8 aO aP 150 (qM n):=
 c6 (bu n [(186,CX n)] [] [] []) (tok _) (a0 (akb n) aL) aq mixed rfl Tryz.func150 (by kernel_rfl) (by kernel_rfl) (fun _ _=>by kernel_rfl)
theorem akc(n:Nat):a8 aO aP 202 (wq n):=
 cc (bu n [] [] [] []) (tok _) aL aq mixed rfl Tryz.func202 (by kernel_rfl) (by kernel_rfl) (fun _=>by kernel_rfl)
theorem akd(n:Nat):a8 aO aP 201 (Hg n):=
 c6 (bu n [] [] [] []) (tok _) aL aq mixed rfl Tryz.func201 (by kernel_rfl) (by kernel_rfl) (fun _ _=>by kernel_rfl)
theorem ake(n:Nat):a8 aO aP 187 (tE n):=
 c6 (bu n [(202,wq n),(201,Hg n)] [] [] []) (tok _) (a0 (akc n) (a0 (akd n) aL)) aq mixed rfl Tryz.func187 (by kernel_rfl) (by kernel_rfl) (fun _ _=>by kernel_rfl)
theorem akf(n:Nat):a8 aO aP 151 (iv n):=
 c6 (bu n [(149,nC n),(150,qM n),(187,tE n)] [(29,⟨[ao 1,sp 2,ao 6,ao 147,ao 148,ao 149],[aY 2 4],[]⟩)] [(35007000,⟨[ao 1,sp 2,ao 10,ao 35],[aY 2 4],[]⟩)] [(1,⟨[ao 1,sp 2,ao 6],[aY 2 4],[]⟩)]) (tok _) (a0 (UQ n) (a0 (UR n) (a0 (ake n) aL))) aq mixed rfl Tryz.func151 (by kernel_rfl) (by kernel_rfl) (fun _ _=>by kernel_rfl)
theorem akg(wA:List D→Option (List D))(n:Nat)(akh:eS aO aP xm wA):eS aO aP xm (r5 wA n):=
 mM ⟨eM aO,aP,tabC [(149,nC n),(150,qM n),(151,iv n)],n,[10000,10001,10002,10003,10004],cm [(3,⟨[(1,.b (.ptr 10000 0)),(2,.b (.ptr 10001 0)),(3,.b (.ptr 10002 0)),(4,.b (.ptr 10003 0)),(5,.b (.ptr 10004 0)),sp 6,cH 9 5000,ao 17,ao 18,ao 19],[(10000,.box [.fn (.func vr) [] [.ptr 10000 0,.ptr 10001 0,.ptr 10002 0,.ptr 10003 0,.ptr 10004 0]]),aY 10001 1,aY 10002 1,aY 10003 1,aY 10004 1,aY 6 4,b6 5000 1],[.slot 9 5000 1]⟩)],cm [(43013000,⟨[(2,.b (.ptr 10001 0)),(3,.b (.ptr 10002 0)),(4,.b (.ptr 10003 0)),(5,.b (.ptr 10004 0)),sp 6,cH 9 5000,ao 37,ao 43],[aY 10001 1,aY 10002 1,aY 10003 1,aY 10004 1,aY 6 4,b6 5000 1,(10000,.box [.fn (.func vr) [] [.ptr 10000 0,.ptr 10001 0,.ptr 10002 0,.ptr 10003 0,.ptr 10004 0]])],[]⟩),(48016000,⟨[(2,.b (.ptr 10001 0)),(3,.b (.ptr 10002 0)),(4,.b (.ptr 10003 0)),(5,.b (.ptr 10004 0)),sp 6,cH 9 5000,ao 48],[aY 10001 1,aY 10002 1,aY 10003 1,aY 10004 1,aY 6 4,b6 5000 1,(10000,.box [.fn (.func vr) [] [.ptr 10000 0,.ptr 10001 0,.ptr 10002 0,.ptr 10003 0,.ptr 10004 0]])],[]⟩),(58000019,⟨[(5,.b (.ptr 10004 0)),ao 14,ao 15],[aY 10004 1,(10000,.box [.fn (.func vr) [] [.ptr 10000 0,.ptr 10001 0,.ptr 10002 0,.ptr 10003 0,.ptr 10004 0]]),aY 10001 1,aY 10002 1,aY 10003 1],[]⟩)],cm [(0,⟨[(2,.b (.ptr 10001 0)),(3,.b (.ptr 10002 0)),(4,.b (.ptr 10003 0)),(5,.b (.ptr 10004 0)),sp 6,cH 9 5000],[aY 10001 1,aY 10002 1,aY 10003 1,aY 10004 1,aY 6 4,b6 5000 1,(10000,.box [.fn (.func vr) [] [.ptr 10000 0,.ptr 10001 0,.ptr 10002 0,.ptr 10003 0,.ptr 10004 0]])],[]⟩)],fv [],tabH [(26,⟨xm,wA,6020,[]⟩)],fG [],fx []⟩ (tok _) (a0 (UQ n) (a0 (UR n) (a0 (akf n) aL))) (bw akh aq) mixed Tryz.func148 (by kernel_rfl) (by kernel_rfl) (by kernel_rfl) [] fun _=>by kernel_rfl
theorem US:∀n,eS aO aP xm (r6 n)
 |0=>tk (s:=xm) (tj (T:=eM aO) (os:=fun _=>none) Tryz.func148 (by kernel_rfl)) (fun _=>rfl)
 |n+1=>by
  have ih:=US n
  exact akg (r6 n) n ih
theorem aki(n:Nat):eS aO aP xm (r6 n):=(US n)
theorem UT(n:Nat):a8 aO aP 102 (pz n):=
 nt ⟨eM aO,aP,tabC [(115,qI n),(147,vR n)],n,[],cm [],cm [],cm [],fv [],tabH [(34,⟨xm,r6 n,6010,[]⟩)],fG [],fx []⟩ (tok _) (a0 (Nf n) (a0 (UJ n) aL)) (bw (aki n) aq) mixed rfl Tryz.func102 (by kernel_rfl) (by kernel_rfl) (fun _ _ _ _=>by kernel_rfl)
theorem HO(n:Nat):a8 aO aP 73 (pA n):=
 nt (bu n [(102,pz n)] [] [] []) (tok _) (a0 (UT n) aL) aq mixed rfl Tryz.func73 (by kernel_rfl) (by kernel_rfl) (fun _ _ _ _=>by kernel_rfl)
theorem akj(n:Nat)(ab:D)(x1:List D)(h6:List D)(tH:List D){r:D}(h:Hi n ab x1 h6 tH=some r):dx aO aP 101 [ab,.ref x1 0,.ref h6 0,.ref tH 0] (·=r):=
 dJ (bu n [(73,pA n)] [] [] []) (tok _) (a0 (HO n) aL) aq mixed rfl Tryz.func101 (by kernel_rfl) (bB (lV mL (lV mL (lV mL le_nil)))) (by kernel_rfl) (by kernel_rfl) h
theorem akk(n:Nat):a8 aO aP 101 (C6 n):=by
 intro aF r h
 unfold C6 at h
 split at h
 case h_2=>cases h
 split at h
 case h_2=>cases h
 split at h
 case h_2=>cases h
 split at h
 case h_2=>cases h
 exact akj n _ _ _ _ h
theorem akl(n:Nat)(ab:D)(b4:D)(nE:D)(nF:D){r:D}(h:C8 n ab b4 nE nF=some r):dx aO aP 146 [ab,(D.fn (.func pb) [] [b4,nE,nF])] (·=r):=
 dJ (bu n [(101,C6 n)] [(2,⟨[ao 0,(1,.b (.fd pb 3)),ao 7,ao 8],[],[]⟩)] [] [(0,⟨[],[],[]⟩)]) (tok _) (a0 (akk n) aL) aq mixed rfl Tryz.func146 (by kernel_rfl) (bB (bB le_nil)) (by kernel_rfl) (by kernel_rfl) h
theorem akm(n:Nat):a8 aO aP 146 (wB n):=by
 intro aF r h
 unfold wB at h
 split at h
 case h_2=>cases h
 split at h
 case h_2=>cases h
 rename_i aj
 obtain rfl:=jW aj
 exact akl n _ _ _ _ h
theorem akn(n:Nat)(ab:D)(b4:D)(nE:D)(nF:D){r:D}(h:Hj n ab b4 nE nF=some r):dx aO aP 100 [ab,(D.fn (.func pb) [] [b4,nE,nF])] (·=r):=
 dJ (bu n [(146,wB n)] [] [] []) (tok _) (a0 (akm n) aL) aq mixed rfl Tryz.func100 (by kernel_rfl) (bB (bB le_nil)) (by kernel_rfl) (by kernel_rfl) h
theorem ako(n:Nat):a8 aO aP 100 (wC n):=by
 intro aF r h
 unfold wC at h
 split at h
 case h_2=>cases h
 split at h
 case h_2=>cases h
 rename_i aj
 obtain rfl:=jW aj
 exact akn n _ _ _ _ h
theorem Nh(n:Nat):a8 aO aP 53 (r7 n):=
 nt (bu n [(100,wC n)] [] [] []) (tok _) (a0 (ako n) aL) aq mixed rfl Tryz.func53 (by kernel_rfl) (by kernel_rfl) (fun _ _ _ _=>by kernel_rfl)
theorem xp(n:Nat):a8 aO aP 43 (j2 n):=
 c6 (bu n [(80,y9 n),(53,r7 n)] [] [] []) (tok _) (a0 (aka n) (a0 (Nh n) aL)) aq mixed rfl Tryz.func43 (by kernel_rfl) (by kernel_rfl) (fun _ _=>by kernel_rfl)
theorem akp(n:Nat):a8 aO aP 132 (Mq n):=
 cc (bu n [] [(3,⟨[ao 0,ao 11,ao 12],[],[]⟩)] [] [(0,⟨[ao 0],[],[]⟩)]) (tok _) aL aq mixed rfl Tryz.func132 (by kernel_rfl) (by kernel_rfl) (fun _=>by kernel_rfl)
theorem akq(l0:List D→Option D)(nG:List D→Option D)(n:Nat)(ab:D)(ah:D)(h6:List D)(UU:a8 aO aP 131 l0)(Ni:a8 aO aP 87 nG){r:D}(h:TF l0 nG n ab ah h6=some r):dx aO aP 131 [ab,ah,.ref h6 0] (·=r):=
 dJ ⟨eM aO,aP,tabC [(87,nG)],n,[],cm [(3,⟨[ao 1,sp 5,sp 6,ao 12,ao 13,ao 14],[aY 5 6,(6,.box [.b (.d),.b (.d),.b (.d),.b (.d),.b (.d),.b (.row 5000)]),b6 5000 6],[.box 6 5 5000 6]⟩)],cm [],cm [(0,⟨[sp 5,sp 6],[aY 5 6,(6,.box [.b (.d),.b (.d),.b (.d),.b (.d),.b (.d),.b (.row 5000)]),b6 5000 6],[]⟩)],fv [],tabH [],fG [20005],fx []⟩ (tok _) (a0 Ni aL) aq mixed rfl Tryz.func131 (by kernel_rfl) (bB (bB (lV mL le_nil))) (by kernel_rfl) (by kernel_rfl) h
theorem akr(l0:List D→Option D)(nG:List D→Option D)(n:Nat)(ab:D)(ah:D)(UU:a8 aO aP 131 l0)(Ni:a8 aO aP 87 nG){r:D}(h:TG l0 nG n ab ah=some r):dx aO aP 87 [ab,ah] (·=r):=
 dJ ⟨eM aO,aP,tabC [(87,nG),(131,l0),(132,Mq n)],n,[],cm [],cm [(67000015,⟨[sp 4,sp 6],[aY 4 6,aY 6 6],[]⟩)],cm [],fv [],tabH [],fG [20004,45,52,66,20006,79,84],fx []⟩ (tok _) (a0 Ni (a0 UU (a0 (akp n) aL))) aq mixed rfl Tryz.func87 (by kernel_rfl) (bB (bB le_nil)) (by kernel_rfl) (by kernel_rfl) h
theorem UW:∀n,a8 aO aP 131 (zd n)∧a8 aO aP 87 (r8 n)
 |0=>⟨(fun _ _ h=>by cases h),(fun _ _ h=>by cases h)⟩
 |n+1=>by
  have ih:=UW n
  exact ⟨(by
   intro aF r h
   unfold zd at h
   split at h
   case h_2=>cases h
   split at h
   case h_2=>cases h
   exact akq (zd n) (r8 n) n _ _ _ ih.1 ih.2 h),(by
   intro aF r h
   unfold r8 at h
   split at h
   case h_2=>cases h
   exact akr (zd n) (r8 n) n _ _ ih.1 ih.2 h)⟩
theorem aks(n:Nat):a8 aO aP 87 (r8 n):=(UW n).2
theorem UX(n:Nat):a8 aO aP 45 (ze n):=
 c6 (bu n [(42,ny n),(87,r8 n)] [] [] []) (tok _) (a0 (DZ n) (a0 (aks n) aL)) aq mixed rfl Tryz.func45 (by kernel_rfl) (by kernel_rfl) (fun _ _=>by kernel_rfl)
theorem akt(n:Nat):a8 aO aP 81 (Mr n):=
 cc (bu n [] [] [(11009000,⟨[sp 1,ao 4,ao 11],[aY 1 6],[]⟩),(11010000,⟨[sp 1,ao 4,ao 11],[aY 1 6],[]⟩),(11011000,⟨[sp 1,ao 4,ao 11],[aY 1 6],[]⟩),(16014000,⟨[sp 1,ao 4,ao 16],[aY 1 6],[]⟩),(16015000,⟨[sp 1,ao 4,ao 16],[aY 1 6],[]⟩),(16016000,⟨[sp 1,ao 4,ao 16],[aY 1 6],[]⟩),(21000019,⟨[],[],[]⟩),(23020000,⟨[],[],[]⟩)] [(0,⟨[],[],[]⟩),(1,⟨[],[],[]⟩)]) (tok _) aL aq mixed rfl Tryz.func81 (by kernel_rfl) (by kernel_rfl) (fun _=>by kernel_rfl)
theorem UY(n:Nat):a8 aO aP 82 (zf n):=
 c6 (bu n [] [(4,⟨[ao 0,ao 1,ao 12,ao 13],[],[]⟩)] [] [(0,⟨[],[],[]⟩)]) (tok _) aL aq mixed rfl Tryz.func82 (by kernel_rfl) (by kernel_rfl) (fun _ _=>by kernel_rfl)
theorem aku(wE:List D→Option D)(n:Nat)(ab:D)(ah:D)(akv:a8 aO aP 126 wE){r:D}(h:TH wE n ab ah=some r):dx aO aP 126 [ab,ah] (·=r):=
 dJ (bu n [(126,wE)] [(4,⟨[sp 3,ao 36,ao 37,ao 38],[aY 3 4],[]⟩)] [] [(0,⟨[],[],[]⟩)]) (tok _) (a0 akv aL) aq mixed rfl Tryz.func126 (by kernel_rfl) (bB (bB le_nil)) (by kernel_rfl) (by kernel_rfl) h
theorem UZ:∀n,a8 aO aP 126 (wG n)
 |0=>(fun _ _ h=>by cases h)
 |n+1=>by
  have ih:=UZ n
  exact (by
   intro aF r h
   unfold wG at h
   split at h
   case h_2=>cases h
   exact aku (wG n) n _ _ ih h)
theorem akw(n:Nat):a8 aO aP 126 (wG n):=(UZ n)
theorem akx(pB:List D→Option D)(pC:List D→Option D)(n:Nat)(ab:D)(ah:D)(U0:a8 aO aP 127 pB)(U1:a8 aO aP 83 pC){r:D}(h:TI pB pC n ab ah=some r):dx aO aP 127 [ab,ah,(D.val (.func (.func Gx) #[] #[]))] (·=r):=
 dJ (bu n [(83,pC)] [(4,⟨[ao 1,(2,.b (.A6 Gx)),ao 15,ao 16,ao 17],[],[]⟩)] [] [(0,⟨[],[],[]⟩)]) (tok _) (a0 U1 aL) aq mixed rfl Tryz.func127 (by kernel_rfl) (bB (bB (bB le_nil))) (by kernel_rfl) (by kernel_rfl) h
theorem aky(pB:List D→Option D)(pC:List D→Option D)(n:Nat)(ab:D)(ah:D)(U0:a8 aO aP 127 pB)(U1:a8 aO aP 83 pC){r:D}(h:TJ pB pC n ab ah=some r):dx aO aP 83 [ab,ah] (·=r):=
 dJ (bu n [(126,wG n),(127,pB)] [] [] []) (tok _) (a0 (akw n) (a0 U0 aL)) aq mixed rfl Tryz.func83 (by kernel_rfl) (bB (bB le_nil)) (by kernel_rfl) (by kernel_rfl) h
theorem U2:∀n,a8 aO aP 127 (zg n)∧a8 aO aP 83 (pD n)
 |0=>⟨(fun _ _ h=>by cases h),(fun _ _ h=>by cases h)⟩
 |n+1=>by
  have ih:=U2 n
  exact ⟨(by
   intro aF r h
   unfold zg at h
   split at h
   case h_2=>cases h
   obtain ⟨aj,h⟩:=kn h
   obtain rfl:=La aj
   exact akx (zg n) (pD n) n _ _ ih.1 ih.2 h),(by
   intro aF r h
   unfold pD at h
   split at h
   case h_2=>cases h
   exact aky (zg n) (pD n) n _ _ ih.1 ih.2 h)⟩
theorem U3(n:Nat):a8 aO aP 83 (pD n):=(U2 n).2
theorem akz(n:Nat)(ab:D)(x1:List D){r:D}(h:Hk n ab x1=some r):dx aO aP 104 [ab,.ref x1 0] (·=r):=
 dJ (bu n [] [] [] []) (tok _) aL aq mixed rfl Tryz.func104 (by kernel_rfl) (bB (lV mL le_nil)) (by kernel_rfl) (by kernel_rfl) h
theorem akA(n:Nat):a8 aO aP 104 (Db n):=by
 intro aF r h
 unfold Db at h
 split at h
 case h_2=>cases h
 split at h
 case h_2=>cases h
 exact akz n _ _ h
theorem akB(n:Nat)(ab:D)(b4:D){r:D}(h:Dd n ab b4=some r):dx aO aP 103 [ab,(D.fn (.func yI) [] [b4])] (·=r):=
 dJ (bu n [(104,Db n)] [(2,⟨[ao 0,(1,.b (.fd yI 1)),ao 7,ao 8],[],[]⟩)] [] [(0,⟨[],[],[]⟩)]) (tok _) (a0 (akA n) aL) aq mixed rfl Tryz.func103 (by kernel_rfl) (bB (bB le_nil)) (by kernel_rfl) (by kernel_rfl) h
theorem akC(n:Nat):a8 aO aP 103 (wH n):=by
 intro aF r h
 unfold wH at h
 split at h
 case h_2=>cases h
 split at h
 case h_2=>cases h
 rename_i aj
 obtain rfl:=jW aj
 exact akB n _ _ h
theorem U4(n:Nat):a8 aO aP 55 (pE n):=
 gi (bu n [(43,j2 n),(102,pz n),(103,wH n),(53,r7 n)] [(4,⟨[ao 1,ao 2,sp 3,ao 24,ao 25,ao 26],[aY 3 9],[]⟩)] [] [(0,⟨[ao 1,ao 2,sp 3],[aY 3 9],[]⟩)]) (tok _) (a0 (xp n) (a0 (UT n) (a0 (akC n) (a0 (Nh n) aL)))) aq mixed rfl Tryz.func55 (by kernel_rfl) (by kernel_rfl) (fun _ _ _=>by kernel_rfl)
theorem U5(n:Nat):a8 aO aP 38 (Dg n):=
 gi (bu n [(43,j2 n),(55,pE n),(73,pA n)] [(4,⟨[ao 1,ao 2,sp 3,ao 7],[aY 3 9],[]⟩),(11,⟨[ao 1,ao 2,sp 3,ao 61,ao 62,ao 63],[aY 3 9],[]⟩),(14,⟨[ao 1,ao 2,sp 3,sp 9,ao 61,ao 62,ao 63,ao 69,ao 70,ao 71],[aY 3 9,aY 9 4],[]⟩)] [] [(0,⟨[ao 1,ao 2,sp 3],[aY 3 9],[]⟩),(2,⟨[],[],[]⟩),(3,⟨[ao 1,ao 2,sp 3,ao 61,ao 62,ao 63],[aY 3 9],[]⟩),(4,⟨[],[],[]⟩)]) (tok _) (a0 (xp n) (a0 (U4 n) (a0 (HO n) aL))) aq mixed rfl Tryz.func38 (by kernel_rfl) (by kernel_rfl) (fun _ _ _=>by kernel_rfl)
theorem akD(n:Nat):a8 aO aP 112 (Mt n):=
 c6 (bu n [] [] [] []) (tok _) aL aq mixed rfl Tryz.func112 (by kernel_rfl) (by kernel_rfl) (fun _ _=>by kernel_rfl)
theorem akE(wK:List D→Option D)(n:Nat)(ab:D)(ah:D)(akF:a8 aO aP 76 wK){r:D}(h:TK wK n ab ah=some r):dx aO aP 76 [ab,ah,(D.val (.func (.func BG) #[] #[]))] (·=r):=
 dJ (bu n [(112,Mt n),(76,wK)] [(4,⟨[ao 1,(2,.b (.A6 BG)),ao 15,ao 16,ao 17],[],[]⟩)] [] [(0,⟨[],[],[]⟩)]) (tok _) (a0 (akD n) (a0 akF aL)) aq mixed rfl Tryz.func76 (by kernel_rfl) (bB (bB (bB le_nil))) (by kernel_rfl) (by kernel_rfl) h
theorem U6:∀n,a8 aO aP 76 (wL n)
 |0=>(fun _ _ h=>by cases h)
 |n+1=>by
  have ih:=U6 n
  exact (by
   intro aF r h
   unfold wL at h
   split at h
   case h_2=>cases h
   obtain ⟨aj,h⟩:=kn h
   obtain rfl:=La aj
   exact akE (wL n) n _ _ ih h)
theorem akG(n:Nat):a8 aO aP 76 (wL n):=(U6 n)
theorem akH(n:Nat):a8 aO aP 66 (Mu n):=
 cc (bu n [(76,wL n)] [] [] []) (tok _) (a0 (akG n) aL) aq mixed rfl Tryz.func66 (by kernel_rfl) (by kernel_rfl) (fun _=>by kernel_rfl)
theorem akI(j3:List D→Option D)(j4:List D→Option D)(j5:List D→Option D)(j6:List D→Option D)(n:Nat)(ab:D)(x1:List D)(HP:a8 aO aP 117 j3)(HQ:a8 aO aP 165 j4)(HR:a8 aO aP 116 j5)(HS:a8 aO aP 68 j6){r:D}(h:TL j3 j4 j5 j6 n ab x1=some r):dx aO aP 117 [ab,.ref x1 0] (·=r):=
 dJ (bu n [(68,j6)] [] [] []) (tok _) (a0 HS aL) aq mixed rfl Tryz.func117 (by kernel_rfl) (bB (lV mL le_nil)) (by kernel_rfl) (by kernel_rfl) h
theorem akJ(j3:List D→Option D)(j4:List D→Option D)(j5:List D→Option D)(j6:List D→Option D)(n:Nat)(ab:D)(b4:D)(HP:a8 aO aP 117 j3)(HQ:a8 aO aP 165 j4)(HR:a8 aO aP 116 j5)(HS:a8 aO aP 68 j6){r:D}(h:TM j3 j4 j5 j6 n ab b4=some r):dx aO aP 165 [ab,(D.fn (.func vq) [] [b4])] (·=r):=
 dJ (bu n [(117,j3)] [(2,⟨[ao 0,(1,.b (.fd vq 1)),ao 7,ao 8],[],[]⟩)] [] [(0,⟨[],[],[]⟩)]) (tok _) (a0 HP aL) aq mixed rfl Tryz.func165 (by kernel_rfl) (bB (bB le_nil)) (by kernel_rfl) (by kernel_rfl) h
theorem akK(j3:List D→Option D)(j4:List D→Option D)(j5:List D→Option D)(j6:List D→Option D)(n:Nat)(ab:D)(b4:D)(HP:a8 aO aP 117 j3)(HQ:a8 aO aP 165 j4)(HR:a8 aO aP 116 j5)(HS:a8 aO aP 68 j6){r:D}(h:TN j3 j4 j5 j6 n ab b4=some r):dx aO aP 116 [ab,(D.fn (.func vq) [] [b4])] (·=r):=
 dJ (bu n [(165,j4)] [] [] []) (tok _) (a0 HQ aL) aq mixed rfl Tryz.func116 (by kernel_rfl) (bB (bB le_nil)) (by kernel_rfl) (by kernel_rfl) h
theorem akL(j3:List D→Option D)(j4:List D→Option D)(j5:List D→Option D)(j6:List D→Option D)(n:Nat)(ab:D)(ah:D)(HP:a8 aO aP 117 j3)(HQ:a8 aO aP 165 j4)(HR:a8 aO aP 116 j5)(HS:a8 aO aP 68 j6){r:D}(h:TO j3 j4 j5 j6 n ab ah=some r):dx aO aP 68 [ab,ah] (·=r):=
 dJ (bu n [(115,qI n),(116,j5)] [] [] []) (tok _) (a0 (Nf n) (a0 HR aL)) aq mixed rfl Tryz.func68 (by kernel_rfl) (bB (bB le_nil)) (by kernel_rfl) (by kernel_rfl) h
theorem U7:∀n,a8 aO aP 117 (qN n)∧a8 aO aP 165 (qO n)∧a8 aO aP 116 (qP n)∧a8 aO aP 68 (nH n)
 |0=>⟨(fun _ _ h=>by cases h),(fun _ _ h=>by cases h),(fun _ _ h=>by cases h),(fun _ _ h=>by cases h)⟩
 |n+1=>by
  have ih:=U7 n
  exact ⟨(by
   intro aF r h
   unfold qN at h
   split at h
   case h_2=>cases h
   split at h
   case h_2=>cases h
   exact akI (qN n) (qO n) (qP n) (nH n) n _ _ ih.1 ih.2.1 ih.2.2.1 ih.2.2.2 h),(by
   intro aF r h
   unfold qO at h
   split at h
   case h_2=>cases h
   split at h
   case h_2=>cases h
   rename_i aj
   obtain rfl:=jW aj
   exact akJ (qN n) (qO n) (qP n) (nH n) n _ _ ih.1 ih.2.1 ih.2.2.1 ih.2.2.2 h),(by
   intro aF r h
   unfold qP at h
   split at h
   case h_2=>cases h
   split at h
   case h_2=>cases h
   rename_i aj
   obtain rfl:=jW aj
   exact akK (qN n) (qO n) (qP n) (nH n) n _ _ ih.1 ih.2.1 ih.2.2.1 ih.2.2.2 h),(by
   intro aF r h
   unfold nH at h
   split at h
   case h_2=>cases h
   exact akL (qN n) (qO n) (qP n) (nH n) n _ _ ih.1 ih.2.1 ih.2.2.1 ih.2.2.2 h)⟩
theorem akM(n:Nat):a8 aO aP 68 (nH n):=(U7 n).2.2.2
theorem akN(pF:List D→Option D)(n:Nat)(ab:D)(ah:D)(aT:D)(akO:a8 aO aP 69 pF){r:D}(h:TP pF n ab ah aT=some r):dx aO aP 69 [ab,ah,aT] (·=r):=
 dJ (bu n [(73,pA n),(69,pF)] [] [] []) (tok _) (a0 (HO n) (a0 akO aL)) aq mixed rfl Tryz.func69 (by kernel_rfl) (bB (bB (bB le_nil))) (by kernel_rfl) (by kernel_rfl) h
theorem U8:∀n,a8 aO aP 69 (wM n)
 |0=>(fun _ _ h=>by cases h)
 |n+1=>by
  have ih:=U8 n
  exact (by
   intro aF r h
   unfold wM at h
   split at h
   case h_2=>cases h
   exact akN (wM n) n _ _ _ ih h)
theorem akP(n:Nat):a8 aO aP 69 (wM n):=(U8 n)
theorem U9(n:Nat):a8 aO aP 32 (zi n):=
 gi (bu n [(42,ny n),(66,Mu n),(43,j2 n),(67,r1 n),(68,nH n),(69,wM n)] [] [] []) (tok _) (a0 (DZ n) (a0 (akH n) (a0 (xp n) (a0 (UP n) (a0 (akM n) (a0 (akP n) aL)))))) aq mixed rfl Tryz.func32 (by kernel_rfl) (by kernel_rfl) (fun _ _ _=>by kernel_rfl)
theorem akQ(n:Nat):a8 aO aP 128 (Mx n):=
 gi (bu n [(32,zi n)] [] [] []) (tok _) (a0 (U9 n) aL) aq mixed rfl Tryz.func128 (by kernel_rfl) (by kernel_rfl) (fun _ _ _=>by kernel_rfl)
theorem HT(n:Nat):eS aO aP DY (sa n):=
 mM ⟨eM aO,aP,tabC [],n,[10000,10001],cm [(2,⟨[(3,.b (.ptr 10001 0)),sp 4,ao 11,ao 12,ao 13],[(10001,.box [.b (.row 9000)]),aY 4 6,aY 10000 12,b6 9000 7],[]⟩)],cm [],cm [(0,⟨[],[aY 10000 12,(10001,.box [.b (.row 9000)]),b6 9000 7],[]⟩)],fv [],tabH [],fG [],fx []⟩ (tok _) aL aq mixed Tryz.func181 (by kernel_rfl) (by kernel_rfl) (by kernel_rfl) [] fun _=>by kernel_rfl
theorem akR(n:Nat):a8 aO aP 129 (Mz n):=
 c6 ⟨eM aO,aP,tabC [(45,ze n)],n,[],cm [],cm [],cm [],fv [(13,[1,2,3,4,5,6,0,7]),(14,[0,1,2,3,4,5]),(18,[1,2,3,4,5,6,0])],tabH [(69,⟨DY,sa n,6010,[.box 4 0 5900 7]⟩),(85,⟨DY,sa n,6020,[.box 4 0 5901 7]⟩),(117,⟨DY,sa n,6030,[.box 4 0 5902 7]⟩),(126,⟨DY,sa n,6040,[.box 4 0 5903 7]⟩)],fG [],fx []⟩ (tok _) (a0 (UX n) aL) (bw (HT n) (bw (HT n) (bw (HT n) (bw (HT n) aq)))) mixed rfl Tryz.func129 (by kernel_rfl) (by kernel_rfl) (fun _ _=>by kernel_rfl)
theorem akS(n:Nat):a8 aO aP 84 (MA n):=
 gi ⟨(eM Tryz.prog).ql [62],aP,tabC [(128,Mx n),(129,Mz n)],n,[],cm [],cm [],cm [],fv [],tabH [],fG [],fx []⟩ ((tok _).ql _) (a0 (akQ n) (a0 (akR n) aL)) aq mixed rfl Tryz.func84 (by kernel_rfl) (by kernel_rfl) (fun _ _ _=>by kernel_rfl)
theorem akT(n:Nat)(ab:D)(x1:List D){r:D}(h:TQ n ab x1=some r):dx aO aP 86 [ab,.ref x1 0] (·=r):=
 dJ (bu n [(82,zf n),(83,pD n)] [] [] []) (tok _) (a0 (UY n) (a0 (U3 n) aL)) aq mixed rfl Tryz.func86 (by kernel_rfl) (bB (lV mL le_nil)) (by kernel_rfl) (by kernel_rfl) h
theorem akU(n:Nat):a8 aO aP 86 (Hm n):=by
 intro aF r h
 unfold Hm at h
 split at h
 case h_2=>cases h
 split at h
 case h_2=>cases h
 exact akT n _ _ h
theorem akV(n:Nat)(ab:D)(b4:D){r:D}(h:TR n ab b4=some r):dx aO aP 130 [ab,(D.fn (.func vp) [] [b4])] (·=r):=
 dJ (bu n [(86,Hm n)] [(2,⟨[ao 0,(1,.b (.fd vp 1)),ao 7,ao 8],[],[]⟩)] [] [(0,⟨[],[],[]⟩)]) (tok _) (a0 (akU n) aL) aq mixed rfl Tryz.func130 (by kernel_rfl) (bB (bB le_nil)) (by kernel_rfl) (by kernel_rfl) h
theorem akW(n:Nat):a8 aO aP 130 (Hn n):=by
 intro aF r h
 unfold Hn at h
 split at h
 case h_2=>cases h
 split at h
 case h_2=>cases h
 rename_i aj
 obtain rfl:=jW aj
 exact akV n _ _ h
theorem akX(n:Nat)(ab:D)(b4:D){r:D}(h:TS n ab b4=some r):dx aO aP 85 [ab,(D.fn (.func vp) [] [b4])] (·=r):=
 dJ (bu n [(130,Hn n)] [] [] []) (tok _) (a0 (akW n) aL) aq mixed rfl Tryz.func85 (by kernel_rfl) (bB (bB le_nil)) (by kernel_rfl) (by kernel_rfl) h
theorem akY(n:Nat):a8 aO aP 85 (Ho n):=by
 intro aF r h
 unfold Ho at h
 split at h
 case h_2=>cases h
 split at h
 case h_2=>cases h
 rename_i aj
 obtain rfl:=jW aj
 exact akX n _ _ h
theorem akZ(wO:List D→Option (List D))(n:Nat)(ak0:eS aO aP xn wO):eS aO aP xn (TT wO n):=
 mM ⟨eM aO,aP,tabC [(81,Mr n),(82,zf n),(83,pD n),(38,Dg n),(84,MA n),(85,Ho n)],n,[10000],cm [(11,⟨[(3,.b (.ptr 10000 0)),sp 4,sp 6,ao 108,ao 109,ao 110],[(10000,.box [.b (.row 106)]),aY 4 9,aY 6 12,b6 106 7],[]⟩)],cm [(95000009,⟨[(3,.b (.ptr 10000 0)),sp 4,sp 6,ao 9],[(10000,.box [.b (.row 106)]),aY 4 9,aY 6 12,b6 106 7],[]⟩)],cm [(0,⟨[],[(10000,.box [.b (.row 106)]),b6 106 7],[]⟩)],fv [(13,[0,1,2,3,4,5,6,7])],tabH [(123,⟨xn,wO,6010,[]⟩)],fG [],fx []⟩ (tok _) (a0 (akt n) (a0 (UY n) (a0 (U3 n) (a0 (U5 n) (a0 (akS n) (a0 (akY n) aL)))))) (bw ak0 aq) mixed Tryz.func44 (by kernel_rfl) (by kernel_rfl) (by kernel_rfl) [] fun _=>by kernel_rfl
theorem Va:∀n,eS aO aP xn (zj n)
 |0=>tk (s:=xn) (tj (T:=eM aO) (os:=fv [(13,[0,1,2,3,4,5,6,7])]) Tryz.func44 (by kernel_rfl)) (fun _=>rfl)
 |n+1=>by
  have ih:=Va n
  exact akZ (zj n) n ih
theorem ak1(n:Nat):eS aO aP xn (zj n):=(Va n)
theorem ak2(n:Nat):a8 aO aP 15 (MB n):=
 nt ⟨eM aO,aP,tabC [(31,j1 n),(42,ny n),(43,j2 n),(45,ze n)],n,[],cm [],cm [],cm [],fv [(9,[0,1,5,2,3,4])],tabH [(36,⟨xn,zj n,6010,[.box 8 0 5900 7]⟩)],fG [],fx []⟩ (tok _) (a0 (xo n) (a0 (DZ n) (a0 (xp n) (a0 (UX n) aL)))) (bw (ak1 n) aq) mixed rfl Tryz.func15 (by kernel_rfl) (by kernel_rfl) (fun _ _ _ _=>by kernel_rfl)
theorem ak3(n:Nat):a8 aO aP 10 (MC n):=
 gi (bu n [(31,j1 n),(32,zi n)] [] [] []) (tok _) (a0 (xo n) (a0 (U9 n) aL)) aq mixed rfl Tryz.func10 (by kernel_rfl) (by kernel_rfl) (fun _ _ _=>by kernel_rfl)
theorem Vb(n:Nat):a8 aO aP 23 (tI n):=
 gi (bu n [(31,j1 n),(55,pE n)] [] [] []) (tok _) (a0 (xo n) (a0 (U4 n) aL)) aq mixed rfl Tryz.func23 (by kernel_rfl) (by kernel_rfl) (fun _ _ _=>by kernel_rfl)
theorem ak4(n:Nat):a8 aO aP 12 (ME n):=
 gi (bu n [(31,j1 n),(38,Dg n)] [] [] []) (tok _) (a0 (xo n) (a0 (U5 n) aL)) aq mixed rfl Tryz.func12 (by kernel_rfl) (by kernel_rfl) (fun _ _ _=>by kernel_rfl)
theorem ak5(n:Nat):a8 aO aP 9 (zk n):=
 yn ⟨eM aO,aP,tabC [(30,LF n),(15,MB n),(10,MC n),(23,tI n),(12,ME n)],n,[],cm [],cm [],cm [],fv [],tabH [],fG [16,23,27,34],fx []⟩ (tok _) (a0 (aip n) (a0 (ak2 n) (a0 (ak3 n) (a0 (Vb n) (a0 (ak4 n) aL))))) aq mixed rfl Tryz.func9 (by kernel_rfl) (by kernel_rfl) (by kernel_rfl)
theorem Vc(n:Nat):a8 aO aP 182 (wP n):=
 cc (bu n [] [] [] []) (tok _) aL aq mixed rfl Tryz.func182 (by kernel_rfl) (by kernel_rfl) (fun _=>by kernel_rfl)
theorem ak6(n:Nat):a8 aO aP 200 (Dh n):=
 cc (bu n [] [] [] []) (tok _) aL aq mixed rfl Tryz.func200 (by kernel_rfl) (by kernel_rfl) (fun _=>by kernel_rfl)
theorem ak7(n:Nat):a8 aO aP 183 (Dj n):=
 gi (bu n [(200,Dh n),(182,wP n)] [(1,⟨[ao 0,ao 1,ao 2],[],[]⟩)] [] [(0,⟨[ao 1],[],[]⟩)]) (tok _) (a0 (ak6 n) (a0 (Vc n) aL)) aq mixed rfl Tryz.func183 (by kernel_rfl) (by kernel_rfl) (fun _ _ _=>by kernel_rfl)
theorem ak8(n:Nat):a8 aO aP 185 (Hp n):=
 yn (bu n [] [] [] []) (tok _) aL aq mixed rfl Tryz.func185 (by kernel_rfl) (by kernel_rfl) (by kernel_rfl)
theorem ak9(n:Nat):a8 aO aP 184 (zm n):=
 c6 (bu n [] [(2,⟨[ao 0,ao 1,ao 5],[],[]⟩)] [] [(0,⟨[],[],[]⟩)]) (tok _) aL aq mixed rfl Tryz.func184 (by kernel_rfl) (by kernel_rfl) (fun _ _=>by kernel_rfl)
theorem Nj(n:Nat):a8 aO aP 136 (qQ n):=
 cc (bu n [(182,wP n),(183,Dj n),(185,Hp n),(184,zm n)] [] [] []) (tok _) (a0 (Vc n) (a0 (ak7 n) (a0 (ak8 n) (a0 (ak9 n) aL)))) aq mixed rfl Tryz.func136 (by kernel_rfl) (by kernel_rfl) (fun _=>by kernel_rfl)
theorem ala(n:Nat):a8 aO aP 137 (zn n):=
 cc (bu n [] [] [] []) (tok _) aL aq mixed rfl Tryz.func137 (by kernel_rfl) (by kernel_rfl) (fun _=>by kernel_rfl)
theorem Vd(n:Nat):a8 aO aP 138 (wQ n):=
 cc (bu n [] [] [(19000007,⟨[ao 3],[],[]⟩)] []) (tok _) aL aq mixed rfl Tryz.func138 (by kernel_rfl) (by kernel_rfl) (fun _=>by kernel_rfl)
theorem alb(n:Nat):a8 aO aP 93 (Dm n):=
 cc (bu n [(136,qQ n),(137,zn n),(138,wQ n)] [(2,⟨[ao 0,ao 4],[],[]⟩),(7,⟨[ao 0,ao 4,ao 5],[],[]⟩)] [] [(0,⟨[],[],[]⟩),(1,⟨[ao 0,ao 4],[],[]⟩),(2,⟨[ao 0,ao 4],[],[]⟩)]) (tok _) (a0 (Nj n) (a0 (ala n) (a0 (Vd n) aL))) aq mixed rfl Tryz.func93 (by kernel_rfl) (by kernel_rfl) (fun _=>by kernel_rfl)
theorem alc(n:Nat):a8 aO aP 139 (Dn n):=
 cc (bu n [] [(2,⟨[ao 0,ao 3],[],[]⟩)] [] [(0,⟨[ao 3],[],[]⟩)]) (tok _) aL aq mixed rfl Tryz.func139 (by kernel_rfl) (by kernel_rfl) (fun _=>by kernel_rfl)
theorem ald(n:Nat):a8 aO aP 94 (Dp n):=
 cc (bu n [(138,wQ n),(139,Dn n)] [(3,⟨[sp 1,ao 3,ao 4],[aY 1 8],[]⟩)] [] [(0,⟨[ao 3],[],[]⟩)]) (tok _) (a0 (Vd n) (a0 (alc n) aL)) aq mixed rfl Tryz.func94 (by kernel_rfl) (by kernel_rfl) (fun _=>by kernel_rfl)
theorem Ve(n:Nat):a8 aO aP 140 (wS n):=
 c6 (bu n [] [(2,⟨[ao 1,sp 2,ao 5],[aY 2 8],[]⟩)] [] [(0,⟨[],[],[]⟩)]) (tok _) aL aq mixed rfl Tryz.func140 (by kernel_rfl) (by kernel_rfl) (fun _ _=>by kernel_rfl)
theorem Vf(n:Nat):a8 aO aP 141 (wT n):=
 c6 (bu n [] [(2,⟨[ao 1,sp 2,ao 5],[aY 2 8],[]⟩)] [] [(0,⟨[],[],[]⟩)]) (tok _) aL aq mixed rfl Tryz.func141 (by kernel_rfl) (by kernel_rfl) (fun _ _=>by kernel_rfl)
theorem ale(n:Nat):a8 aO aP 209 (Dt n):=
 c6 (bu n [] [(2,⟨[ao 0,ao 1,ao 5],[],[]⟩)] [] [(0,⟨[],[],[]⟩)]) (tok _) aL aq mixed rfl Tryz.func209 (by kernel_rfl) (by kernel_rfl) (fun _ _=>by kernel_rfl)
theorem alf(n:Nat):a8 aO aP 208 (wU n):=
 c6 (bu n [(209,Dt n)] [(6,⟨[ao 0,ao 1,cH 5 12,ao 6,ao 7],[b6 12 1],[]⟩)] [(28000009,⟨[ao 0,ao 1,cH 5 32,ao 6,ao 7],[b6 32 1],[]⟩),(41000013,⟨[cH 5 45],[b6 45 1],[]⟩)] [(0,⟨[ao 1,cH 5 12,ao 6],[b6 12 1],[]⟩)]) (tok _) (a0 (ale n) aL) aq mixed rfl Tryz.func208 (by kernel_rfl) (by kernel_rfl) (fun _ _=>by kernel_rfl)
theorem alg(wV:List D→Option D)(n:Nat)(ab:D)(ah:D)(aT:D)(alh:a8 aO aP 195 wV){r:D}(h:Du wV n ab ah aT=some r):dx aO aP 195 [ab,ah,aT] (·=r):=
 dJ (bu n [(208,wU n),(195,wV)] [(4,⟨[ao 1,ao 2,sp 3,ao 7],[aY 3 4],[]⟩)] [(11000002,⟨[ao 1,ao 2,sp 3],[aY 3 4],[]⟩)] [(0,⟨[ao 2],[],[]⟩)]) (tok _) (a0 (alf n) (a0 alh aL)) aq mixed rfl Tryz.func195 (by kernel_rfl) (bB (bB (bB le_nil))) (by kernel_rfl) (by kernel_rfl) h
theorem Vg:∀n,a8 aO aP 195 (pG n)
 |0=>(fun _ _ h=>by cases h)
 |n+1=>by
  have ih:=Vg n
  exact (by
   intro aF r h
   unfold pG at h
   split at h
   case h_2=>cases h
   exact alg (pG n) n _ _ _ ih h)
theorem ali(n:Nat):a8 aO aP 195 (pG n):=(Vg n)
theorem Nk(n:Nat):a8 aO aP 167 (sb n):=
 cc (bu n [(195,pG n)] [] [] []) (tok _) (a0 (ali n) aL) aq mixed rfl Tryz.func167 (by kernel_rfl) (by kernel_rfl) (fun _=>by kernel_rfl)
theorem alj(n:Nat):a8 aO aP 142 (Dv n):=
 c6 (bu n [(167,sb n),(141,wT n)] [(4,⟨[sp 2,cH 5 15,cH 6 17,ao 7],[aY 2 8,b6 15 1,b6 17 1],[]⟩),(8,⟨[sp 2,cH 5 15,cH 6 17,ao 7,ao 8,ao 10],[aY 2 8,b6 15 1,b6 17 1],[]⟩)] [(57000012,⟨[sp 2,cH 5 15,cH 6 64,ao 7,ao 8,ao 10],[aY 2 8,b6 15 1,b6 64 1],[]⟩)] [(0,⟨[cH 5 15],[b6 15 1],[]⟩),(1,⟨[sp 2,cH 5 15,cH 6 17,ao 7],[aY 2 8,b6 15 1,b6 17 1],[]⟩),(2,⟨[sp 2,cH 5 15,cH 6 17,ao 7],[aY 2 8,b6 15 1,b6 17 1],[]⟩),(3,⟨[sp 2,cH 5 15,cH 6 64,ao 7,ao 8,ao 10],[aY 2 8,b6 15 1,b6 64 1],[]⟩)]) (tok _) (a0 (Nk n) (a0 (Vf n) aL)) aq mixed rfl Tryz.func142 (by kernel_rfl) (by kernel_rfl) (fun _ _=>by kernel_rfl)
theorem alk(n:Nat):a8 aO aP 198 (zp n):=
 cc (bu n [] [] [(5003000,⟨[ao 0,ao 4,ao 5],[],[]⟩),(5004000,⟨[ao 0,ao 4,ao 5],[],[]⟩),(5005000,⟨[ao 0,ao 4,ao 5],[],[]⟩),(12010000,⟨[ao 0,ao 4,ao 12],[],[]⟩)] [(0,⟨[ao 0],[],[]⟩)]) (tok _) aL aq mixed rfl Tryz.func198 (by kernel_rfl) (by kernel_rfl) (fun _=>by kernel_rfl)
theorem Vh(n:Nat):a8 aO aP 175 (wX n):=
 c6 (bu n [(198,zp n)] [] [(22000008,⟨[sp 2,ao 5,ao 6,ao 7,ao 8],[aY 2 4],[]⟩),(25000010,⟨[sp 2,ao 5,ao 6,ao 7,ao 8],[aY 2 4],[]⟩)] []) (tok _) (a0 (alk n) aL) aq mixed rfl Tryz.func175 (by kernel_rfl) (by kernel_rfl) (fun _ _=>by kernel_rfl)
theorem alm(wY:List D→Option D)(n:Nat)(ab:D)(ah:D)(aT:D)(aln:a8 aO aP 169 wY){r:D}(h:MJ wY n ab ah aT=some r):dx aO aP 169 [ab,ah,aT] (·=r):=
 dJ (bu n [(175,wX n),(169,wY)] [(8,⟨[ao 1,ao 2,sp 3,ao 9],[aY 3 4],[]⟩)] [] [(0,⟨[ao 2],[],[]⟩)]) (tok _) (a0 (Vh n) (a0 aln aL)) aq mixed rfl Tryz.func169 (by kernel_rfl) (bB (bB (bB le_nil))) (by kernel_rfl) (by kernel_rfl) h
theorem Vi:∀n,a8 aO aP 169 (qR n)
 |0=>(fun _ _ h=>by cases h)
 |n+1=>by
  have ih:=Vi n
  exact (by
   intro aF r h
   unfold qR at h
   split at h
   case h_2=>cases h
   exact alm (qR n) n _ _ _ ih h)
theorem alo(n:Nat):a8 aO aP 169 (qR n):=(Vi n)
theorem Nl(n:Nat):a8 aO aP 119 (sc n):=
 cc (bu n [(169,qR n)] [] [] []) (tok _) (a0 (alo n) aL) aq mixed rfl Tryz.func119 (by kernel_rfl) (by kernel_rfl) (fun _=>by kernel_rfl)
theorem Vj(n:Nat):a8 aO aP 174 (tJ n):=
 c6 (bu n [] [(2,⟨[ao 0,ao 1,ao 5],[],[]⟩)] [] [(0,⟨[],[],[]⟩)]) (tok _) aL aq mixed rfl Tryz.func174 (by kernel_rfl) (by kernel_rfl) (fun _ _=>by kernel_rfl)
theorem alp(n:Nat):a8 aO aP 172 (Dy n):=
 c6 (bu n [(167,sb n),(174,tJ n)] [(4,⟨[ao 1,cH 5 10,ao 6,ao 8],[b6 10 1],[]⟩)] [(29000008,⟨[ao 1,cH 5 33,ao 6,ao 8],[b6 33 1],[]⟩)] [(0,⟨[cH 5 10],[b6 10 1],[]⟩),(1,⟨[ao 1,cH 5 33,ao 6,ao 8],[b6 33 1],[]⟩)]) (tok _) (a0 (Nk n) (a0 (Vj n) aL)) aq mixed rfl Tryz.func172 (by kernel_rfl) (by kernel_rfl) (fun _ _=>by kernel_rfl)
theorem Vk(n:Nat):a8 aO aP 173 (tK n):=
 c6 (bu n [] [(2,⟨[ao 0,ao 1,ao 5],[],[]⟩)] [] [(0,⟨[],[],[]⟩)]) (tok _) aL aq mixed rfl Tryz.func173 (by kernel_rfl) (by kernel_rfl) (fun _ _=>by kernel_rfl)
theorem alq(wZ:List D→Option D)(n:Nat)(ab:D)(ah:D)(aT:D)(alr:a8 aO aP 121 wZ){r:D}(h:Hw wZ n ab ah aT=some r):dx aO aP 121 [ab,ah,aT] (·=r):=
 dJ ⟨(eM Tryz.prog).ql [42],aP,tabC [(172,Dy n),(173,tK n),(121,wZ)],n,[],cm [(3,⟨[ao 1,ao 2,ao 7,ao 8],[],[]⟩)],cm [(24000006,⟨[ao 1,ao 2,ao 7,ao 8],[],[]⟩)],cm [(0,⟨[ao 2],[],[]⟩),(1,⟨[ao 1,ao 2,ao 7,ao 8],[],[]⟩)],fv [(6,[0,1,2,3,4,5,6,7,12,13,14,15,8,9,10,11,16,17,18,19])],tabH [],fG [],fx []⟩ ((tok _).ql _) (a0 (alp n) (a0 (Vk n) (a0 alr aL))) aq mixed rfl Tryz.func121 (by kernel_rfl) (bB (bB (bB le_nil))) (by kernel_rfl) (by kernel_rfl) h
theorem Vl:∀n,a8 aO aP 121 (oj n)
 |0=>(fun _ _ h=>by cases h)
 |n+1=>by
  have ih:=Vl n
  exact (by
   intro aF r h
   unfold oj at h
   split at h
   case h_2=>cases h
   exact alq (oj n) n _ _ _ ih h)
theorem Vm(n:Nat):a8 aO aP 121 (oj n):=(Vl n)
theorem als(n:Nat):a8 aO aP 122 (DB n):=
 c6 (bu n [(121,oj n),(173,tK n)] [] [] []) (tok _) (a0 (Vm n) (a0 (Vk n) aL)) aq mixed rfl Tryz.func122 (by kernel_rfl) (by kernel_rfl) (fun _ _=>by kernel_rfl)
theorem alu(tL:List D→Option D)(n:Nat)(ab:D)(ah:D)(aT:D)(bP:D)(alv:a8 aO aP 123 tL){r:D}(h:pH tL n ab ah aT bP=some r):dx aO aP 123 [ab,ah,aT,bP] (·=r):=
 dJ (bu n [(174,tJ n),(123,tL),(175,wX n)] [(13,⟨[ao 1,ao 2,ao 3,sp 4,sp 8,cH 13 53,ao 14],[aY 4 4,aY 8 4,b6 53 4],[]⟩)] [(20000002,⟨[ao 1,ao 2,ao 3,sp 4,sp 8],[aY 4 4,aY 8 4],[]⟩)] [(0,⟨[ao 3,sp 4,sp 8,cH 13 53],[aY 4 4,aY 8 4,b6 53 4],[]⟩)]) (tok _) (a0 (Vj n) (a0 alv (a0 (Vh n) aL))) aq mixed rfl Tryz.func123 (by kernel_rfl) (bB (bB (bB (bB le_nil)))) (by kernel_rfl) (by kernel_rfl) h
theorem Vn:∀n,a8 aO aP 123 (pI n)
 |0=>(fun _ _ h=>by cases h)
 |n+1=>by
  have ih:=Vn n
  exact (by
   intro aF r h
   unfold pI at h
   split at h
   case h_2=>cases h
   exact alu (pI n) n _ _ _ _ ih h)
theorem alw(n:Nat):a8 aO aP 123 (pI n):=(Vn n)
theorem HU(n:Nat):a8 aO aP 75 (ky n):=
 c6 (bu n [(119,sc n),(121,oj n),(122,DB n),(123,pI n)] [(6,⟨[ao 1,sp 2,sp 4,ao 7,ao 8],[aY 2 4,aY 4 4],[]⟩)] [] [(0,⟨[ao 1,sp 2,sp 4],[aY 2 4,aY 4 4],[]⟩)]) (tok _) (a0 (Nl n) (a0 (Vm n) (a0 (als n) (a0 (alw n) aL)))) aq mixed rfl Tryz.func75 (by kernel_rfl) (by kernel_rfl) (fun _ _=>by kernel_rfl)
theorem Vo(n:Nat):a8 aO aP 170 (om n):=
 c6 (bu n [] [] [] []) (tok _) aL aq mixed rfl Tryz.func170 (by kernel_rfl) (by kernel_rfl) (fun _ _=>by kernel_rfl)
theorem Nm(n:Nat):a8 aO aP 57 (sd n):=
 c6 (bu n [] [(2,⟨[ao 0,ao 1,ao 5],[],[]⟩)] [] [(0,⟨[],[],[]⟩)]) (tok _) aL aq mixed rfl Tryz.func57 (by kernel_rfl) (by kernel_rfl) (fun _ _=>by kernel_rfl)
theorem alx(n:Nat):a8 aO aP 196 (DH n):=
 cc (bu n [] [(2,⟨[ao 0,ao 3],[],[]⟩)] [] [(0,⟨[],[],[]⟩)]) (tok _) aL aq mixed rfl Tryz.func196 (by kernel_rfl) (by kernel_rfl) (fun _=>by kernel_rfl)
theorem aly(n:Nat):a8 aO aP 197 (DI n):=
 c6 (bu n [] [(4,⟨[cH 6 30,ao 7,ao 8,ao 9],[b6 30 1],[]⟩)] [] [(0,⟨[ao 7,ao 8],[],[]⟩)]) (tok _) aL aq mixed rfl Tryz.func197 (by kernel_rfl) (by kernel_rfl) (fun _ _=>by kernel_rfl)
theorem alz(n:Nat):a8 aO aP 171 (w1 n):=
 c6 (bu n [(196,DH n),(170,om n),(197,DI n)] [] [(13005000,⟨[ao 1,sp 2,sp 4,sp 6,ao 7,ao 12,ao 13],[aY 2 4,aY 4 3,aY 6 3],[]⟩),(13006000,⟨[ao 1,sp 2,sp 4,sp 6,ao 7,ao 12,ao 13],[aY 2 4,aY 4 3,aY 6 3],[]⟩),(13007000,⟨[ao 1,sp 2,sp 4,sp 6,ao 7,ao 12,ao 13],[aY 2 4,aY 4 3,aY 6 3],[]⟩),(13008000,⟨[ao 1,sp 2,sp 4,sp 6,ao 7,ao 12,ao 13],[aY 2 4,aY 4 3,aY 6 3],[]⟩),(25013000,⟨[ao 1,sp 2,sp 4,sp 6,ao 7,ao 12,ao 25],[aY 2 4,aY 4 3,aY 6 3],[]⟩)] [(0,⟨[ao 1,sp 2,sp 4,sp 6,ao 7],[aY 2 4,aY 4 3,aY 6 3],[]⟩)]) (tok _) (a0 (alx n) (a0 (Vo n) (a0 (aly n) aL))) aq mixed rfl Tryz.func171 (by kernel_rfl) (by kernel_rfl) (fun _ _=>by kernel_rfl)
theorem alA(w2:List D→Option D)(n:Nat)(ab:D)(ah:D)(aT:D)(alB:a8 aO aP 120 w2){r:D}(h:se w2 n ab ah aT=some r):dx aO aP 120 [ab,ah,aT] (·=r):=
 dJ (bu n [(170,om n),(57,sd n),(120,w2),(171,w1 n)] [(18,⟨[ao 0,ao 2,sp 4,sp 6,cH 9 64,ao 10],[aY 4 4,aY 6 3,b6 64 3],[]⟩)] [(27007000,⟨[ao 0,ao 2,sp 4,sp 6,ao 27],[aY 4 4,aY 6 3],[]⟩)] [(1,⟨[sp 4,sp 6,cH 9 64],[aY 4 4,aY 6 3,b6 64 3],[]⟩)]) (tok _) (a0 (Vo n) (a0 (Nm n) (a0 alB (a0 (alz n) aL)))) aq mixed rfl Tryz.func120 (by kernel_rfl) (bB (bB (bB le_nil))) (by kernel_rfl) (by kernel_rfl) h
theorem Vp:∀n,a8 aO aP 120 (kX n)
 |0=>(fun _ _ h=>by cases h)
 |n+1=>by
  have ih:=Vp n
  exact (by
   intro aF r h
   unfold kX at h
   split at h
   case h_2=>cases h
   exact alA (kX n) n _ _ _ ih h)
theorem alC(n:Nat):a8 aO aP 120 (kX n):=(Vp n)
theorem Vq(n:Nat):a8 aO aP 72 (tN n):=
 gi (bu n [(119,sc n),(120,kX n)] [] [] []) (tok _) (a0 (Nl n) (a0 (alC n) aL)) aq mixed rfl Tryz.func72 (by kernel_rfl) (by kernel_rfl) (fun _ _ _=>by kernel_rfl)
theorem Nn(n:Nat):a8 aO aP 143 (qS n):=
 gi (bu n [(75,ky n),(72,tN n)] [] [] []) (tok _) (a0 (HU n) (a0 (Vq n) aL)) aq mixed rfl Tryz.func143 (by kernel_rfl) (by kernel_rfl) (fun _ _ _=>by kernel_rfl)
theorem alD(n:Nat):a8 aO aP 95 (tO n):=
 cc (bu n [(136,qQ n),(140,wS n),(141,wT n),(142,Dv n),(143,qS n)] [(2,⟨[sp 1,ao 4],[aY 1 8],[]⟩),(9,⟨[sp 1,ao 5],[aY 1 8],[]⟩),(14,⟨[sp 1,ao 6],[aY 1 8],[]⟩)] [] [(0,⟨[sp 1],[aY 1 8],[]⟩),(2,⟨[sp 1],[aY 1 8],[]⟩),(4,⟨[],[],[]⟩)]) (tok _) (a0 (Nj n) (a0 (Ve n) (a0 (Vf n) (a0 (alj n) (a0 (Nn n) aL))))) aq mixed rfl Tryz.func95 (by kernel_rfl) (by kernel_rfl) (fun _=>by kernel_rfl)
theorem Vr(n:Nat):a8 aO aP 144 (tP n):=
 gi (bu n [(143,qS n)] [] [] []) (tok _) (a0 (Nn n) aL) aq mixed rfl Tryz.func144 (by kernel_rfl) (by kernel_rfl) (fun _ _ _=>by kernel_rfl)
theorem alE(n:Nat):a8 aO aP 96 (sf n):=
 gi (bu n [(144,tP n)] [(2,⟨[ao 1,ao 2,sp 3,ao 8],[aY 3 8],[]⟩)] [] [(0,⟨[],[],[]⟩)]) (tok _) (a0 (Vr n) aL) aq mixed rfl Tryz.func96 (by kernel_rfl) (by kernel_rfl) (fun _ _ _=>by kernel_rfl)
theorem alF(n:Nat):a8 aO aP 97 (zt n):=
 cc (bu n [(140,wS n),(143,qS n)] [(2,⟨[sp 1,ao 4],[aY 1 8],[]⟩),(8,⟨[sp 1,ao 4,ao 5,ao 6],[aY 1 8],[]⟩)] [(69000014,⟨[sp 1,ao 4,ao 8],[aY 1 8],[]⟩)] [(0,⟨[],[],[]⟩),(1,⟨[sp 1,ao 4],[aY 1 8],[]⟩),(2,⟨[sp 1,ao 4,ao 5],[aY 1 8],[]⟩)]) (tok _) (a0 (Ve n) (a0 (Nn n) aL)) aq mixed rfl Tryz.func97 (by kernel_rfl) (by kernel_rfl) (fun _=>by kernel_rfl)
theorem alG(n:Nat):a8 aO aP 166 (zu n):=
 cc (bu n [] [] [(6005000,⟨[ao 3,ao 6],[],[]⟩),(6006000,⟨[ao 3,ao 6],[],[]⟩),(6007000,⟨[ao 3,ao 6],[],[]⟩),(6008000,⟨[ao 3,ao 6],[],[]⟩),(6009000,⟨[ao 3,ao 6],[],[]⟩),(6010000,⟨[ao 3,ao 6],[],[]⟩),(14013000,⟨[ao 14],[],[]⟩),(14014000,⟨[ao 14],[],[]⟩),(14015000,⟨[ao 14],[],[]⟩),(14016000,⟨[ao 14],[],[]⟩)] [(0,⟨[],[],[]⟩)]) (tok _) aL aq mixed rfl Tryz.func166 (by kernel_rfl) (by kernel_rfl) (fun _=>by kernel_rfl)
theorem alH(n:Nat):a8 aO aP 168 (DN n):=
 cc (bu n [] [] [] []) (tok _) aL aq mixed rfl Tryz.func168 (by kernel_rfl) (by kernel_rfl) (fun _=>by kernel_rfl)
theorem alI(n:Nat):a8 aO aP 118 (sg n):=
 cc (bu n [(166,zu n),(119,sc n),(167,sb n),(168,DN n)] [] [(12000004,⟨[sp 1],[aY 1 6],[]⟩)] []) (tok _) (a0 (alG n) (a0 (Nl n) (a0 (Nk n) (a0 (alH n) aL)))) aq mixed rfl Tryz.func118 (by kernel_rfl) (by kernel_rfl) (fun _=>by kernel_rfl)
theorem alJ(w4:List D→Option D)(n:Nat)(ab:D)(ah:D)(aT:D)(alK:a8 aO aP 70 w4){r:D}(h:MZ w4 n ab ah aT=some r):dx aO aP 70 [ab,ah,aT] (·=r):=
 dJ (bu n [(118,sg n),(70,w4)] [(10,⟨[ao 1,ao 2,sp 3,ao 9],[aY 3 6],[]⟩)] [] [(0,⟨[ao 2],[],[]⟩)]) (tok _) (a0 (alI n) (a0 alK aL)) aq mixed rfl Tryz.func70 (by kernel_rfl) (bB (bB (bB le_nil))) (by kernel_rfl) (by kernel_rfl) h
theorem Vs:∀n,a8 aO aP 70 (qT n)
 |0=>(fun _ _ h=>by cases h)
 |n+1=>by
  have ih:=Vs n
  exact (by
   intro aF r h
   unfold qT at h
   split at h
   case h_2=>cases h
   exact alJ (qT n) n _ _ _ ih h)
theorem alL(n:Nat):a8 aO aP 70 (qT n):=(Vs n)
theorem Vt(n:Nat):a8 aO aP 33 (w5 n):=
 cc (bu n [(70,qT n)] [] [] []) (tok _) (a0 (alL n) aL) aq mixed rfl Tryz.func33 (by kernel_rfl) (by kernel_rfl) (fun _=>by kernel_rfl)
theorem alM(w6:List D→Option D)(n:Nat)(ab:D)(ah:D)(alN:a8 aO aP 145 w6){r:D}(h:DP w6 n ab ah=some r):dx aO aP 145 [ab,ah] (·=r):=
 dJ (bu n [(144,tP n),(145,w6)] [(4,⟨[sp 2,sp 3,ao 5],[aY 2 8,aY 3 6],[]⟩)] [] [(0,⟨[],[],[]⟩)]) (tok _) (a0 (Vr n) (a0 alN aL)) aq mixed rfl Tryz.func145 (by kernel_rfl) (bB (bB le_nil)) (by kernel_rfl) (by kernel_rfl) h
theorem Vu:∀n,a8 aO aP 145 (qU n)
 |0=>(fun _ _ h=>by cases h)
 |n+1=>by
  have ih:=Vu n
  exact (by
   intro aF r h
   unfold qU at h
   split at h
   case h_2=>cases h
   exact alM (qU n) n _ _ ih h)
theorem alO(n:Nat):a8 aO aP 145 (qU n):=(Vu n)
theorem alP(n:Nat):a8 aO aP 98 (zx n):=
 cc (bu n [(136,qQ n),(33,w5 n),(145,qU n)] [(2,⟨[sp 1,ao 4],[aY 1 8],[]⟩),(7,⟨[sp 1,ao 4,ao 5],[aY 1 8],[]⟩)] [(50000013,⟨[sp 1,ao 4,ao 6],[aY 1 8],[]⟩)] [(0,⟨[],[],[]⟩),(1,⟨[sp 1,ao 4],[aY 1 8],[]⟩),(2,⟨[sp 1,ao 4],[aY 1 8],[]⟩)]) (tok _) (a0 (Nj n) (a0 (Vt n) (a0 (alO n) aL))) aq mixed rfl Tryz.func98 (by kernel_rfl) (by kernel_rfl) (fun _=>by kernel_rfl)
theorem alQ(n:Nat):a8 aO aP 50 (oo n):=
 cc (bu n [(93,Dm n),(94,Dp n),(95,tO n),(96,sf n),(97,zt n),(98,zx n)] [(3,⟨[sp 1,sp 2,cH 4 33,ao 5],[aY 1 8,aY 2 2,b6 33 1],[]⟩),(13,⟨[sp 1,sp 2,ao 6,ao 7,ao 8],[aY 1 8,aY 2 2],[]⟩)] [(68018017,⟨[sp 1,sp 2,ao 6,ao 7,ao 8],[aY 1 8,aY 2 2],[]⟩),(75020019,⟨[sp 1,sp 2,ao 6,ao 7,ao 8],[aY 1 8,aY 2 2],[]⟩),(84022021,⟨[sp 1,sp 2,ao 6,ao 7,ao 8],[aY 1 8,aY 2 2],[]⟩),(93024023,⟨[sp 1,sp 2,ao 6,ao 7,ao 8],[aY 1 8,aY 2 2],[]⟩),(100026025,⟨[sp 1,sp 2,ao 6,ao 7,ao 8],[aY 1 8,aY 2 2],[]⟩),(109028027,⟨[sp 1,sp 2,ao 6,ao 7,ao 8],[aY 1 8,aY 2 2],[]⟩),(118000029,⟨[sp 1,sp 2,ao 6,ao 7,ao 8],[aY 1 8,aY 2 2],[]⟩)] [(0,⟨[sp 1,sp 2],[aY 1 8,aY 2 2],[]⟩),(2,⟨[sp 2],[aY 2 2],[]⟩),(3,⟨[sp 1,sp 2,ao 6,ao 7,ao 8],[aY 1 8,aY 2 2],[]⟩),(4,⟨[sp 1,sp 2,ao 6,ao 7,ao 8],[aY 1 8,aY 2 2],[]⟩)]) (tok _) (a0 (alb n) (a0 (ald n) (a0 (alD n) (a0 (alE n) (a0 (alF n) (a0 (alP n) aL)))))) aq mixed rfl Tryz.func50 (by kernel_rfl) (by kernel_rfl) (fun _=>by kernel_rfl)
theorem Vv(n:Nat):a8 aO aP 18 (w8 n):=
 cc (bu n [(50,oo n)] [] [] []) (tok _) (a0 (alQ n) aL) aq mixed rfl Tryz.func18 (by kernel_rfl) (by kernel_rfl) (fun _=>by kernel_rfl)
theorem alR(n:Nat):a8 aO aP 74 (nI n):=
 c6 (bu n [(75,ky n)] [(3,⟨[ao 0,ao 1,cH 7 11,ao 8],[b6 11 4],[]⟩)] [] [(0,⟨[cH 7 11],[b6 11 4],[]⟩)]) (tok _) (a0 (HU n) aL) aq mixed rfl Tryz.func74 (by kernel_rfl) (by kernel_rfl) (fun _ _=>by kernel_rfl)
theorem alS(w9:List D→Option D)(n:Nat)(ab:D)(ah:D)(alT:a8 aO aP 71 w9){r:D}(h:qV w9 n ab ah=some r):dx aO aP 71 [ab,ah] (·=r):=
 dJ (bu n [(75,ky n),(71,w9)] [(9,⟨[ao 1,sp 2,sp 4,cH 8 29,ao 9],[aY 2 6,aY 4 6,b6 29 6],[]⟩)] [] [(0,⟨[sp 2,sp 4,cH 8 29],[aY 2 6,aY 4 6,b6 29 6],[]⟩)]) (tok _) (a0 (HU n) (a0 alT aL)) aq mixed rfl Tryz.func71 (by kernel_rfl) (bB (bB le_nil)) (by kernel_rfl) (by kernel_rfl) h
theorem Vw:∀n,a8 aO aP 71 (mW n)
 |0=>(fun _ _ h=>by cases h)
 |n+1=>by
  have ih:=Vw n
  exact (by
   intro aF r h
   unfold mW at h
   split at h
   case h_2=>cases h
   exact alS (mW n) n _ _ ih h)
theorem alU(n:Nat):a8 aO aP 71 (mW n):=(Vw n)
theorem alV(n:Nat):a8 aO aP 35 (xa n):=
 c6 (bu n [(33,w5 n),(71,mW n)] [] [] []) (tok _) (a0 (Vt n) (a0 (alU n) aL)) aq mixed rfl Tryz.func35 (by kernel_rfl) (by kernel_rfl) (fun _ _=>by kernel_rfl)
theorem alW(n:Nat):a8 aO aP 39 (DR n):=
 cc ⟨eM aO,aP,tabC [(74,nI n),(75,ky n),(35,xa n)],n,[],cm [(11,⟨[sp 1,sp 2,sp 3,sp 5,ao 9],[aY 1 8,aY 2 8,aY 3 2,(5,.box [.b (.d),.b (.d),.b (.d),.b (.d),.b (.row 5000),.b (.d),.b (.d),.b (.d)]),b6 5000 5],[.box 5 4 5000 5]⟩),(26,⟨[sp 1,sp 2,sp 3,sp 5,ao 12],[aY 1 8,aY 2 8,aY 3 2,(5,.box [.b (.d),.b (.d),.b (.d),.b (.d),.b (.row 5000),.b (.d),.b (.d),.b (.row 5001)]),b6 5000 5,b6 5001 7],[.box 5 7 5001 7]⟩)],cm [],cm [(0,⟨[sp 1,sp 2,sp 3,sp 5],[aY 1 8,aY 2 8,aY 3 2,(5,.box [.b (.d),.b (.d),.b (.d),.b (.d),.b (.row 5000),.b (.d),.b (.d),.b (.d)]),b6 5000 5],[]⟩),(2,⟨[sp 2,sp 3,sp 5],[aY 2 8,aY 3 2,(5,.box [.b (.d),.b (.d),.b (.d),.b (.d),.b (.row 5000),.b (.d),.b (.d),.b (.row 5001)]),b6 5000 5,b6 5001 7],[]⟩)],fv [],tabH [],fG [20002],fx []⟩ (tok _) (a0 (alR n) (a0 (HU n) (a0 (alV n) aL))) aq mixed rfl Tryz.func39 (by kernel_rfl) (by kernel_rfl) (fun _=>by kernel_rfl)
theorem HV(n:Nat):a8 aO aP 52 (nJ n):=
 cc (bu n [(39,DR n)] [] [] []) (tok _) (a0 (alW n) aL) aq mixed rfl Tryz.func52 (by kernel_rfl) (by kernel_rfl) (fun _=>by kernel_rfl)
theorem alX(n:Nat):a8 aO aP 99 (zB n):=
 c6 (bu n [] [(4,⟨[ao 1,sp 2,ao 5],[aY 2 8],[]⟩)] [] [(0,⟨[],[],[]⟩)]) (tok _) aL aq mixed rfl Tryz.func99 (by kernel_rfl) (by kernel_rfl) (fun _ _=>by kernel_rfl)
theorem alY(xb:List D→Option D)(n:Nat)(ab:D)(alZ:a8 aO aP 105 xb){r:D}(h:HD xb n ab=some r):dx aO aP 105 [ab] (·=r):=
 dJ (bu n [(105,xb)] [(4,⟨[sp 1,ao 3],[aY 1 4],[]⟩)] [] [(0,⟨[],[],[]⟩)]) (tok _) (a0 alZ aL) aq mixed rfl Tryz.func105 (by kernel_rfl) (bB le_nil) (by kernel_rfl) (by kernel_rfl) h
theorem Vx:∀n,a8 aO aP 105 (pL n)
 |0=>(fun _ _ h=>by cases h)
 |n+1=>by
  have ih:=Vx n
  exact (by
   intro aF r h
   unfold pL at h
   split at h
   case h_2=>cases h
   exact alY (pL n) n _ ih h)
theorem al0(n:Nat):a8 aO aP 105 (pL n):=(Vx n)
theorem al1(n:Nat):a8 aO aP 152 (nK n):=
 cc (bu n [] [] [] []) (tok _) aL aq mixed rfl Tryz.func152 (by kernel_rfl) (by kernel_rfl) (fun _=>by kernel_rfl)
theorem al2(n:Nat):a8 aO aP 153 (tS n):=
 cc (bu n [] [] [] []) (tok _) aL aq mixed rfl Tryz.func153 (by kernel_rfl) (by kernel_rfl) (fun _=>by kernel_rfl)
theorem al3(n:Nat):a8 aO aP 154 (zC n):=
 cc (bu n [] [] [] []) (tok _) aL aq mixed rfl Tryz.func154 (by kernel_rfl) (by kernel_rfl) (fun _=>by kernel_rfl)
theorem al4(xc:List D→Option D)(n:Nat)(ab:D)(ah:D)(aT:D)(bP:D)(al5:a8 aO aP 106 xc){r:D}(h:j7 xc n ab ah aT bP=some r):dx aO aP 106 [ab,ah,aT,bP] (·=r):=
 dJ (bu n [(57,sd n),(152,nK n),(153,tS n),(106,xc),(154,zC n)] [(18,⟨[ao 0,ao 2,ao 3,sp 5,cH 12 55,ao 13,ao 14],[aY 5 4,b6 55 1],[]⟩)] [(20003000,⟨[ao 0,ao 2,ao 3,sp 5,ao 19,ao 20],[aY 5 4],[]⟩),(25006000,⟨[ao 0,ao 2,ao 3,sp 5,ao 25],[aY 5 4],[]⟩),(34011010,⟨[ao 0,ao 10,ao 11],[],[]⟩),(88000025,⟨[ao 0,ao 2,ao 3,sp 5,cH 12 80,ao 13,ao 14],[aY 5 4,b6 80 1],[]⟩),(94030029,⟨[ao 17],[],[]⟩),(100032031,⟨[ao 17],[],[]⟩),(107034033,⟨[ao 17],[],[]⟩),(112036035,⟨[ao 17],[],[]⟩),(125037000,⟨[cH 12 55,ao 17,ao 93,ao 125],[b6 55 1],[]⟩),(125039038,⟨[ao 17],[],[]⟩),(136041040,⟨[ao 17],[],[]⟩),(146043042,⟨[ao 17],[],[]⟩),(156045044,⟨[ao 17],[],[]⟩),(166047046,⟨[ao 17],[],[]⟩),(175049048,⟨[ao 17],[],[]⟩),(184053050,⟨[ao 17],[],[]⟩),(209055054,⟨[ao 17],[],[]⟩),(226000056,⟨[ao 17],[],[]⟩),(234000058,⟨[ao 17],[],[]⟩)] [(1,⟨[sp 5,cH 12 55,ao 13],[aY 5 4,b6 55 1],[]⟩),(2,⟨[ao 0,ao 2,ao 3,sp 5,cH 12 80,ao 13,ao 14],[aY 5 4,b6 80 1],[]⟩),(3,⟨[ao 17],[],[]⟩)]) (tok _) (a0 (Nm n) (a0 (al1 n) (a0 (al2 n) (a0 al5 (a0 (al3 n) aL))))) aq mixed rfl Tryz.func106 (by kernel_rfl) (bB (bB (bB (bB le_nil)))) (by kernel_rfl) (by kernel_rfl) h
theorem Vy:∀n,a8 aO aP 106 (pM n)
 |0=>(fun _ _ h=>by cases h)
 |n+1=>by
  have ih:=Vy n
  exact (by
   intro aF r h
   unfold pM at h
   split at h
   case h_2=>cases h
   exact al4 (pM n) n _ _ _ _ ih h)
theorem al6(n:Nat):a8 aO aP 106 (pM n):=(Vy n)
theorem Vz(n:Nat):a8 aO aP 56 (nL n):=
 nt (bu n [(72,tN n),(105,pL n),(106,pM n)] [] [] []) (tok _) (a0 (Vq n) (a0 (al0 n) (a0 (al6 n) aL))) aq mixed rfl Tryz.func56 (by kernel_rfl) (by kernel_rfl) (fun _ _ _ _=>by kernel_rfl)
theorem HW(n:Nat):a8 aO aP 54 (oq n):=
 nt (bu n [(56,nL n)] [(2,⟨[ao 0,ao 1,ao 2,ao 3,ao 9],[],[]⟩)] [] [(0,⟨[],[],[]⟩)]) (tok _) (a0 (Vz n) aL) aq mixed rfl Tryz.func54 (by kernel_rfl) (by kernel_rfl) (fun _ _ _ _=>by kernel_rfl)
theorem No(n:Nat):a8 aO aP 51 (pN n):=
 c6 (bu n [(99,zB n),(54,oq n)] [] [] []) (tok _) (a0 (alX n) (a0 (HW n) aL)) aq mixed rfl Tryz.func51 (by kernel_rfl) (by kernel_rfl) (fun _ _=>by kernel_rfl)
theorem VA(n:Nat):a8 aO aP 20 (xd n):=
 c6 (bu n [(52,nJ n),(51,pN n)] [] [] []) (tok _) (a0 (HV n) (a0 (No n) aL)) aq mixed rfl Tryz.func20 (by kernel_rfl) (by kernel_rfl) (fun _ _=>by kernel_rfl)
theorem al7(n:Nat):a8 aO aP 24 (tU n):=
 gi (bu n [(52,nJ n),(51,pN n),(56,nL n),(57,sd n),(54,oq n)] [(5,⟨[ao 1,ao 2,sp 7,ao 8],[aY 7 8],[]⟩)] [] [(0,⟨[ao 1,ao 2,sp 7],[aY 7 8],[]⟩)]) (tok _) (a0 (HV n) (a0 (No n) (a0 (Vz n) (a0 (Nm n) (a0 (HW n) aL))))) aq mixed rfl Tryz.func24 (by kernel_rfl) (by kernel_rfl) (fun _ _ _=>by kernel_rfl)
theorem al8(n:Nat):a8 aO aP 40 (DV n):=
 c6 (bu n [(52,nJ n),(54,oq n)] [(4,⟨[ao 1,sp 5,cH 6 10,ao 7],[aY 5 8,b6 10 1],[]⟩)] [] [(0,⟨[cH 6 10],[b6 10 1],[]⟩)]) (tok _) (a0 (HV n) (a0 (HW n) aL)) aq mixed rfl Tryz.func40 (by kernel_rfl) (by kernel_rfl) (fun _ _=>by kernel_rfl)
theorem al9(n:Nat):a8 aO aP 19 (zF n):=
 c6 (bu n [(31,j1 n),(43,j2 n)] [] [] []) (tok _) (a0 (xo n) (a0 (xp n) aL)) aq mixed rfl Tryz.func19 (by kernel_rfl) (by kernel_rfl) (fun _ _=>by kernel_rfl)
theorem ama(n:Nat):a8 aO aP 21 (xe n):=
 c6 (bu n [(31,j1 n),(43,j2 n),(53,r7 n)] [] [] []) (tok _) (a0 (xo n) (a0 (xp n) (a0 (Nh n) aL))) aq mixed rfl Tryz.func21 (by kernel_rfl) (by kernel_rfl) (fun _ _=>by kernel_rfl)
theorem amb(n:Nat):a8 aO aP 22 (zG n):=
 c6 (bu n [(52,nJ n),(51,pN n),(54,oq n)] [] [] []) (tok _) (a0 (HV n) (a0 (No n) (a0 (HW n) aL))) aq mixed rfl Tryz.func22 (by kernel_rfl) (by kernel_rfl) (fun _ _=>by kernel_rfl)
theorem amc(n:Nat):a8 aO aP 58 (DW n):=
 c6 (bu n [(73,pA n)] [(3,⟨[ao 1,sp 2,cH 5 5000,ao 10,ao 11,ao 12],[aY 2 9,b6 5000 1],[.slot 5 5000 1]⟩)] [] [(0,⟨[cH 5 5000],[b6 5000 1],[]⟩)]) (tok _) (a0 (HO n) aL) aq mixed rfl Tryz.func58 (by kernel_rfl) (by kernel_rfl) (fun _ _=>by kernel_rfl)
theorem amd(n:Nat):a8 aO aP 26 (xf n):=
 c6 (bu n [(31,j1 n),(43,j2 n),(58,DW n)] [] [] []) (tok _) (a0 (xo n) (a0 (xp n) (a0 (amc n) aL))) aq mixed rfl Tryz.func26 (by kernel_rfl) (by kernel_rfl) (fun _ _=>by kernel_rfl)
theorem ame(n:Nat):a8 aO aP 27 (xg n):=
 c6 (bu n [(18,w8 n),(20,xd n),(40,DV n)] [] [] []) (tok _) (a0 (Vv n) (a0 (VA n) (a0 (al8 n) aL))) aq mixed rfl Tryz.func27 (by kernel_rfl) (by kernel_rfl) (fun _ _=>by kernel_rfl)
theorem amf(n:Nat):a8 aO aP 25 (zH n):=
 c6 (bu n [] [(4,⟨[ao 0,ao 1,ao 12,ao 13],[],[]⟩)] [] [(0,⟨[],[],[]⟩)]) (tok _) aL aq mixed rfl Tryz.func25 (by kernel_rfl) (by kernel_rfl) (fun _ _=>by kernel_rfl)
theorem amg(n:Nat):a8 aO aP 6 (DX n):=
 gi (bu n [(7,tz n),(9,zk n),(18,w8 n),(19,zF n),(20,xd n),(21,xe n),(22,zG n),(23,tI n),(24,tU n),(26,xf n),(27,xg n),(25,zH n)] [] [] []) (tok _) (a0 (aim n) (a0 (ak5 n) (a0 (Vv n) (a0 (al9 n) (a0 (VA n) (a0 (ama n) (a0 (amb n) (a0 (Vb n) (a0 (al7 n) (a0 (amd n) (a0 (ame n) (a0 (amf n) aL)))))))))))) aq mixed rfl Tryz.func6 (by kernel_rfl) (by kernel_rfl) (fun _ _ _=>by kernel_rfl)
end Go.Am
