/- That the functions of the program compute this. No condition. -/
import Derived.Test.YtknmgdnhongcnaaGreatDoorCode
import Derived.Test.YtknmgdnhongcnaaGreatDoorProg
import Derived.KernelRfl
set_option linter.all false
set_option linter.unnecessarySimpa false
namespace Go.Am
open Go.Proofs
set_option maxRecDepth 100000
set_option linter.unusedVariables false
noncomputable abbrev aQ:Program:=Tryz.prog
theorem mixed:aQ.follows .mixedOrders=true:=by kernel_rfl
def aR:cV:=fun g=>if g=0 then some BI else none
noncomputable abbrev bx(n:Nat):=adJ aQ aR n
theorem aK:fQ aQ aR (tabC []):=adG
theorem ar:iR aQ aR (tabH []):=adE
theorem a3{f:FuncId}{F:List D→Option D}{l:List (FuncId×(List D→Option D))}(h:a8 aQ aR f F)(bm:fQ aQ aR (tabC l)):fQ aQ aR (tabC ((f,F)::l)):=adH h bm
theorem bu{t:Tmp}{e:yt}{l:List (Tmp×yt)}(h:eT aQ aR e.s e.F)(bm:iR aQ aR (tabH l)):iR aQ aR (tabH ((t,e)::l)):=adF h bm
def Uq:gn:=⟨177,[.b (.d),.b (.d),.b (.ptr 10000 0),.b (.ptr 10001 0)],[aX 10000 1,aX 10001 1],.b (.d),[aX 10000 1,aX 10001 1]⟩
def M6:gn:=⟨180,[.b (.row 9000),.b (.d)],[b9 9000 1],.b (.row 9000),[b9 9000 1]⟩
def Ur:gn:=⟨179,[.b (.d),.b (.d),.b (.ptr 10000 0),.b (.ptr 10001 0)],[(10000,.box [.b (.row 9000)]),(10001,.box [.b (.row 9001)]),b9 9000 1,b9 9001 1],.b (.d),[(10000,.box [.b (.row 9000)]),(10001,.box [.b (.row 9001)]),b9 9000 1,b9 9001 1]⟩
def xk:gn:=⟨176,[.b (.d),.b (.d),.fn (.func SQ) [] [.ptr 10000 0,.ptr 10001 0]],[aX 10000 1,aX 10001 1],.b (.d),[aX 10000 1,aX 10001 1]⟩
def xl:gn:=⟨176,[.b (.d),.b (.d),.fn (.func SR) [] [.ptr 10000 0,.ptr 10001 0]],[(10000,.box [.b (.row 9000)]),(10001,.box [.b (.row 9001)]),b9 9000 1,b9 9001 1],.b (.d),[(10000,.box [.b (.row 9000)]),(10001,.box [.b (.row 9001)]),b9 9000 1,b9 9001 1]⟩
def Us:gn:=⟨77,[.b (.d),.b (.d),.b (.ptr 10000 0),.b (.ptr 10001 0)],[aX 10000 1,aX 10001 1],.b (.d),[aX 10000 1,aX 10001 1]⟩
def xm:gn:=⟨76,[.b (.d),.b (.d),.fn (.func SP) [] [.ptr 10000 0,.ptr 10001 0]],[aX 10000 1,aX 10001 1],.b (.d),[aX 10000 1,aX 10001 1]⟩
def uc:gn:=⟨192,[.b (.d),.b (.ptr 10000 0),.b (.ptr 10001 0),.b (.ptr 10002 0)],[aX 10000 1,(10001,.box [.b (.map 9000)]),(10002,.box [.fn (.func tD) [] [.ptr 10000 0,.ptr 10001 0,.ptr 10002 0]]),(9000,.map)],.b (.d),[aX 10000 1,(10001,.box [.b (.map 9000)]),(10002,.box [.fn (.func tD) [] [.ptr 10000 0,.ptr 10001 0,.ptr 10002 0]]),(9000,.map)]⟩
def Ut:gn:=⟨162,[.b (.d),.b (.d)],[],.b (.map 9000),[(9000,.map)]⟩
def xn:gn:=⟨193,[.b (.d),.b (.d),.b (.ptr 10000 0),.b (.ptr 10001 0),.b (.ptr 10002 0),.b (.ptr 10003 0)],[aX 10000 1,aX 10001 1,aX 10002 1,(10003,.box [.fn (.func tE) [] [.ptr 10000 0,.ptr 10001 0,.ptr 10002 0,.ptr 10003 0]])],.b (.d),[aX 10000 1,aX 10001 1,aX 10002 1,(10003,.box [.fn (.func tE) [] [.ptr 10000 0,.ptr 10001 0,.ptr 10002 0,.ptr 10003 0]])]⟩
def xo:gn:=⟨113,[.b (.d),.b (.ptr 10000 0),.b (.ptr 10001 0)],[aX 10000 1,(10001,.box [.fn (.func GD) [] [.ptr 10000 0,.ptr 10001 0]])],.b (.d),[aX 10000 1,(10001,.box [.fn (.func GD) [] [.ptr 10000 0,.ptr 10001 0]])]⟩
def xp:gn:=⟨148,[.b (.d),.b (.ptr 10000 0),.b (.ptr 10001 0),.b (.ptr 10002 0),.b (.ptr 10003 0),.b (.ptr 10004 0)],[(10000,.box [.fn (.func vx) [] [.ptr 10000 0,.ptr 10001 0,.ptr 10002 0,.ptr 10003 0,.ptr 10004 0]]),aX 10001 1,aX 10002 1,aX 10003 1,aX 10004 1],.b (.d),[(10000,.box [.fn (.func vx) [] [.ptr 10000 0,.ptr 10001 0,.ptr 10002 0,.ptr 10003 0,.ptr 10004 0]]),aX 10001 1,aX 10002 1,aX 10003 1,aX 10004 1]⟩
def D2:gn:=⟨181,[.b (.d),.b (.d),.b (.ptr 10000 0),.b (.ptr 10001 0)],[aX 10000 12,(10001,.box [.b (.row 9000)]),b9 9000 7],.b (.d),[aX 10000 12,(10001,.box [.b (.row 9000)]),b9 9000 7]⟩
def xq:gn:=⟨44,[.b (.d),.b (.d),.b (.d),.b (.ptr 10000 0)],[(10000,.box [.b (.row 9000)]),b9 9000 7],.b (.d),[(10000,.box [.b (.row 9000)]),b9 9000 7]⟩
theorem aih(vy:List D→Option D)(n:Nat)(ab:D)(ah:D)(aii:a8 aQ aR 59 vy){r:D}(h:GF vy n ab ah=some r):dz aQ aR 59 [ab,ah] (·=r):=
 dM (bx n [(59,vy)] [(3,⟨[ao 1,sp 2,ao 5,ao 6],[aX 2 4],[]⟩)] [] [(0,⟨[ao 5],[],[]⟩)]) (tok _) (a3 aii aK) ar mixed rfl Tryz.func59 (by kernel_rfl) (bA (bA le_nil)) (by kernel_rfl) (by kernel_rfl) h
theorem Uu:∀n,a8 aQ aR 59 (oj n)
 |0=>(fun _ _ h=>by cases h)
 |n+1=>by
  have ih:=Uu n
  exact (by
   intro aF r h
   unfold oj at h
   split at h
   case h_2=>cases h
   exact aih (oj n) n _ _ ih h)
theorem Uv(n:Nat):a8 aQ aR 59 (oj n):=(Uu n)
theorem aij(vz:List D→Option D)(n:Nat)(ab:D)(ah:D)(aik:a8 aQ aR 60 vz){r:D}(h:GG vz n ab ah=some r):dz aQ aR 60 [ab,ah] (·=r):=
 dM (bx n [(59,oj n),(60,vz)] [(3,⟨[ao 1,sp 2,ao 5,ao 6],[aX 2 6],[]⟩)] [] [(0,⟨[ao 5],[],[]⟩)]) (tok _) (a3 (Uv n) (a3 aik aK)) ar mixed rfl Tryz.func60 (by kernel_rfl) (bA (bA le_nil)) (by kernel_rfl) (by kernel_rfl) h
theorem Uw:∀n,a8 aQ aR 60 (qz n)
 |0=>(fun _ _ h=>by cases h)
 |n+1=>by
  have ih:=Uw n
  exact (by
   intro aF r h
   unfold qz at h
   split at h
   case h_2=>cases h
   exact aij (qz n) n _ _ ih h)
theorem ail(n:Nat):a8 aQ aR 60 (qz n):=(Uw n)
theorem aim(n:Nat):a8 aQ aR 28 (yO n):=
 dK ⟨eN aQ,aR,tabC [(59,oj n),(60,qz n)],n,[],cn [(6,⟨[ao 1,sp 2,ao 5,cO 6 5000,ao 7],[aX 2 8,b9 5000 4],[.slot 6 5000 4]⟩),(10,⟨[ao 1,sp 2,ao 5,cO 6 5000,ao 8],[aX 2 8,b9 5000 4],[]⟩),(15,⟨[ao 1,sp 2,ao 5,cO 6 89,ao 9],[aX 2 8,b9 89 4],[]⟩),(19,⟨[ao 1,sp 2,ao 5,ao 10],[aX 2 8],[]⟩)],cn [],cn [(0,⟨[ao 1,sp 2,ao 5,cO 6 5000],[aX 2 8,b9 5000 4],[]⟩),(2,⟨[ao 1,sp 2,ao 5,cO 6 5000],[aX 2 8,b9 5000 4],[]⟩),(4,⟨[ao 1,sp 2,ao 5],[aX 2 8],[]⟩),(6,⟨[ao 1,ao 5],[],[]⟩)],fv [(13,[1,2,4,5,7,8,10,11,0,3,6,9,12,13])],tabH [],fI [],fy []⟩ (tok _) (a3 (Uv n) (a3 (ail n) aK)) ar mixed rfl Tryz.func28 (by kernel_rfl) (by kernel_rfl) (fun _ _=>by kernel_rfl)
theorem ain(n:Nat):a8 aQ aR 7 (vH n):=
 dK (bx n [(28,yO n)] [(2,⟨[ao 1,sp 2,ao 7,ao 8,ao 9],[aX 2 8],[]⟩)] [] [(0,⟨[ao 1,sp 2],[aX 2 8],[]⟩)]) (tok _) (a3 (aim n) aK) ar mixed rfl Tryz.func7 (by kernel_rfl) (by kernel_rfl) (fun _ _=>by kernel_rfl)
theorem aio(n:Nat):a8 aQ aR 62 (vI n):=
 cg (bx n [] [] [] []) (tok _) aK ar mixed rfl Tryz.func62 (by kernel_rfl) (by kernel_rfl) (fun _=>by kernel_rfl)
theorem aip(n:Nat):a8 aQ aR 63 (vJ n):=
 dK (bx n [] [] [] []) (tok _) aK ar mixed rfl Tryz.func63 (by kernel_rfl) (by kernel_rfl) (fun _ _=>by kernel_rfl)
theorem aiq(n:Nat):a8 aQ aR 30 (LF n):=
 yn ⟨(eN Tryz.prog).qn [11,19,21,29,39],aR,tabC [(62,vI n),(63,vJ n)],n,[],cn [],cn [],cn [],fv [(4,[2,10,0,1,3,4,5,6,7,8,9,11,12,13,14,15,16,17,18]),(5,[3,9,13,0,2,4,10,12,14,5,6,7,15,16,17,1,8,11,18,19,20])],tabH [],fI [],fy []⟩ ((tok _).qn _) (a3 (aio n) (a3 (aip n) aK)) ar mixed rfl Tryz.func30 (by kernel_rfl) (by kernel_rfl) (by kernel_rfl)
theorem Ux(n:Nat):a8 aQ aR 188 (vK n):=
 cg (bx n [] [] [] []) (tok _) aK ar mixed rfl Tryz.func188 (by kernel_rfl) (by kernel_rfl) (fun _=>by kernel_rfl)
theorem air(n:Nat):a8 aQ aR 203 (BS n):=
 cg (bx n [] [] [] []) (tok _) aK ar mixed rfl Tryz.func203 (by kernel_rfl) (by kernel_rfl) (fun _=>by kernel_rfl)
theorem ais(n:Nat):a8 aQ aR 190 (BT n):=
 cg (bx n [(188,vK n),(203,BS n)] [] [] []) (tok _) (a3 (Ux n) (a3 (air n) aK)) ar mixed rfl Tryz.func190 (by kernel_rfl) (by kernel_rfl) (fun _=>by kernel_rfl)
theorem ait(n:Nat)(ab:D){r:D}(h:LG n ab=some r):dz aQ aR 189 [ab,(D.val (.func (.func BK) #[] #[]))] (·=r):=
 dM (bx n [(190,BT n)] [(2,⟨[ao 0,(1,.b (.A9 BK)),ao 5],[],[]⟩)] [] [(0,⟨[ao 5],[],[]⟩)]) (tok _) (a3 (ais n) aK) ar mixed rfl Tryz.func189 (by kernel_rfl) (bA (bA le_nil)) (by kernel_rfl) (by kernel_rfl) h
theorem aiu(n:Nat):a8 aQ aR 189 (yP n):=by
 intro aF r h
 unfold yP at h
 split at h
 case h_2=>cases h
 obtain ⟨aj,h⟩:=kv h
 obtain rfl:=La aj
 exact ait n _ h
theorem aiv(n:Nat):a8 aQ aR 204 (yR n):=
 dK (bx n [] [(2,⟨[ao 0,ao 1,ao 7,ao 8],[],[]⟩)] [] [(0,⟨[],[],[]⟩)]) (tok _) aK ar mixed rfl Tryz.func204 (by kernel_rfl) (by kernel_rfl) (fun _ _=>by kernel_rfl)
theorem aiw(n:Nat):a8 aQ aR 191 (BV n):=
 dK (bx n [(204,yR n)] [] [] []) (tok _) (a3 (aiv n) aK) ar mixed rfl Tryz.func191 (by kernel_rfl) (by kernel_rfl) (fun _ _=>by kernel_rfl)
theorem M7(n:Nat):a8 aQ aR 156 (qD n):=
 cg (bx n [(188,vK n),(189,yP n),(191,BV n)] [] [] []) (tok _) (a3 (Ux n) (a3 (aiu n) (a3 (aiw n) aK))) ar mixed rfl Tryz.func156 (by kernel_rfl) (by kernel_rfl) (fun _=>by kernel_rfl)
theorem aix(n:Nat)(ab:D)(x1:List D){r:D}(h:LJ n ab x1=some r):dz aQ aR 155 [ab,.ref x1 0] (·=r):=
 dM (bx n [] [] [] []) (tok _) aK ar mixed rfl Tryz.func155 (by kernel_rfl) (bA (l2 mR le_nil)) (by kernel_rfl) (by kernel_rfl) h
theorem aiy(n:Nat):a8 aQ aR 155 (yS n):=by
 intro aF r h
 unfold yS at h
 split at h
 case h_2=>cases h
 split at h
 case h_2=>cases h
 exact aix n _ _ h
theorem aiz(n:Nat)(ab:D)(b7:D){r:D}(h:LK n ab b7=some r):dz aQ aR 103 [ab,(D.fn (.func qy) [] [b7])] (·=r):=
 dM (bx n [(155,yS n)] [(2,⟨[ao 0,(1,.b (.fd qy 1)),ao 7,ao 8],[],[]⟩)] [] [(0,⟨[],[],[]⟩)]) (tok _) (a3 (aiy n) aK) ar mixed rfl Tryz.func103 (by kernel_rfl) (bA (bA le_nil)) (by kernel_rfl) (by kernel_rfl) h
theorem aiA(n:Nat):a8 aQ aR 103 (vM n):=by
 intro aF r h
 unfold vM at h
 split at h
 case h_2=>cases h
 split at h
 case h_2=>cases h
 rename_i aj
 obtain rfl:=j5 aj
 exact aiz n _ _ h
theorem aiB(n:Nat)(ab:D)(b7:D){r:D}(h:LL n ab b7=some r):dz aQ aR 157 [ab,(D.fn (.func qy) [] [b7])] (·=r):=
 dM (bx n [(103,vM n)] [] [] []) (tok _) (a3 (aiA n) aK) ar mixed rfl Tryz.func157 (by kernel_rfl) (bA (bA le_nil)) (by kernel_rfl) (by kernel_rfl) h
theorem aiC(n:Nat):a8 aQ aR 157 (yT n):=by
 intro aF r h
 unfold yT at h
 split at h
 case h_2=>cases h
 split at h
 case h_2=>cases h
 rename_i aj
 obtain rfl:=j5 aj
 exact aiB n _ _ h
theorem aiD(n:Nat):a8 aQ aR 107 (yU n):=
 cg (bx n [(156,qD n),(157,yT n)] [(2,⟨[ao 0,ao 8,ao 9,ao 10],[],[]⟩)] [] [(0,⟨[],[],[]⟩)]) (tok _) (a3 (M7 n) (a3 (aiC n) aK)) ar mixed rfl Tryz.func107 (by kernel_rfl) (by kernel_rfl) (fun _=>by kernel_rfl)
theorem aiE(n:Nat):a8 aQ aR 159 (BX n):=
 cg (bx n [] [] [] []) (tok _) aK ar mixed rfl Tryz.func159 (by kernel_rfl) (by kernel_rfl) (fun _=>by kernel_rfl)
theorem aiF(n:Nat):a8 aQ aR 158 (BY n):=
 cg (bx n [] [(2,⟨[ao 0,ao 4],[],[]⟩)] [] [(0,⟨[],[],[]⟩)]) (tok _) aK ar mixed rfl Tryz.func158 (by kernel_rfl) (by kernel_rfl) (fun _=>by kernel_rfl)
theorem aiG(n:Nat):a8 aQ aR 108 (BZ n):=
 cg (bx n [(159,BX n),(158,BY n)] [(3,⟨[ao 3,ao 7,ao 8,ao 9],[],[]⟩)] [] [(0,⟨[ao 3],[],[]⟩)]) (tok _) (a3 (aiE n) (a3 (aiF n) aK)) ar mixed rfl Tryz.func108 (by kernel_rfl) (by kernel_rfl) (fun _=>by kernel_rfl)
theorem aiH(n:Nat):a8 aQ aR 253 (B0 n):=
 cg (bx n [] [] [] []) (tok _) aK ar mixed rfl Tryz.func253 (by kernel_rfl) (by kernel_rfl) (fun _=>by kernel_rfl)
theorem aiI(n:Nat):a8 aQ aR 246 (B1 n):=
 cg (bx n [] [] [] []) (tok _) aK ar mixed rfl Tryz.func246 (by kernel_rfl) (by kernel_rfl) (fun _=>by kernel_rfl)
theorem aiJ(n:Nat):a8 aQ aR 242 (pr n):=
 cg (bx n [] [] [] []) (tok _) aK ar mixed rfl Tryz.func242 (by kernel_rfl) (by kernel_rfl) (fun _=>by kernel_rfl)
theorem aiK(n:Nat):a8 aQ aR 238 (B3 n):=
 cg (bx n [] [] [] []) (tok _) aK ar mixed rfl Tryz.func238 (by kernel_rfl) (by kernel_rfl) (fun _=>by kernel_rfl)
theorem aiL(n:Nat):a8 aQ aR 233 (B4 n):=
 cg (bx n [] [] [] []) (tok _) aK ar mixed rfl Tryz.func233 (by kernel_rfl) (by kernel_rfl) (fun _=>by kernel_rfl)
theorem aiM(n:Nat):a8 aQ aR 226 (B5 n):=
 cg (bx n [] [] [] []) (tok _) aK ar mixed rfl Tryz.func226 (by kernel_rfl) (by kernel_rfl) (fun _=>by kernel_rfl)
theorem aiN(n:Nat)(ab:D)(x1:List D){r:D}(h:GL n ab x1=some r):dz aQ aR 256 [ab,.ref x1 0] (·=r):=
 dM (bx n [] [] [] []) (tok _) aK ar mixed rfl Tryz.func256 (by kernel_rfl) (bA (l2 mR le_nil)) (by kernel_rfl) (by kernel_rfl) h
theorem aiO(n:Nat):a8 aQ aR 256 (B6 n):=by
 intro aF r h
 unfold B6 at h
 split at h
 case h_2=>cases h
 split at h
 case h_2=>cases h
 exact aiN n _ _ h
theorem aiP(n:Nat)(ab:D)(b7:D){r:D}(h:B8 n ab b7=some r):dz aQ aR 258 [ab,(D.fn (.func po) [] [b7])] (·=r):=
 dM (bx n [(256,B6 n)] [(2,⟨[ao 0,(1,.b (.fd po 1)),ao 7,ao 8],[],[]⟩)] [] [(0,⟨[],[],[]⟩)]) (tok _) (a3 (aiO n) aK) ar mixed rfl Tryz.func258 (by kernel_rfl) (bA (bA le_nil)) (by kernel_rfl) (by kernel_rfl) h
theorem aiQ(n:Nat):a8 aQ aR 258 (vO n):=by
 intro aF r h
 unfold vO at h
 split at h
 case h_2=>cases h
 split at h
 case h_2=>cases h
 rename_i aj
 obtain rfl:=j5 aj
 exact aiP n _ _ h
theorem aiR(n:Nat)(ab:D)(b7:D){r:D}(h:GM n ab b7=some r):dz aQ aR 255 [ab,(D.fn (.func po) [] [b7])] (·=r):=
 dM (bx n [(258,vO n)] [] [] []) (tok _) (a3 (aiQ n) aK) ar mixed rfl Tryz.func255 (by kernel_rfl) (bA (bA le_nil)) (by kernel_rfl) (by kernel_rfl) h
theorem aiS(n:Nat):a8 aQ aR 255 (vP n):=by
 intro aF r h
 unfold vP at h
 split at h
 case h_2=>cases h
 split at h
 case h_2=>cases h
 rename_i aj
 obtain rfl:=j5 aj
 exact aiR n _ _ h
theorem aiT(n:Nat):a8 aQ aR 199 (B9 n):=
 cg (bx n [] [] [(5004000,⟨[ao 4,ao 5],[],[]⟩),(5005000,⟨[ao 4,ao 5],[],[]⟩),(5006000,⟨[ao 4,ao 5],[],[]⟩),(12011000,⟨[ao 4,ao 12],[],[]⟩),(15014000,⟨[ao 4,ao 15],[],[]⟩),(15015000,⟨[ao 4,ao 15],[],[]⟩),(15016000,⟨[ao 4,ao 15],[],[]⟩),(15017000,⟨[ao 4,ao 15],[],[]⟩),(15018000,⟨[ao 4,ao 15],[],[]⟩),(15019000,⟨[ao 4,ao 15],[],[]⟩),(15020000,⟨[ao 4,ao 15],[],[]⟩),(15021000,⟨[ao 4,ao 15],[],[]⟩),(15022000,⟨[ao 4,ao 15],[],[]⟩)] []) (tok _) aK ar mixed rfl Tryz.func199 (by kernel_rfl) (by kernel_rfl) (fun _=>by kernel_rfl)
theorem aiU(n:Nat):a8 aQ aR 178 (Ca n):=
 cg (bx n [(199,B9 n)] [] [(18008007,⟨[sp 1,ao 3,ao 4,ao 5,ao 6],[aX 1 4],[]⟩),(20000009,⟨[sp 1,ao 3,ao 4,ao 5,ao 6],[aX 1 4],[]⟩)] [(0,⟨[sp 1,ao 3,ao 4,ao 5,ao 6],[aX 1 4],[]⟩)]) (tok _) (a3 (aiT n) aK) ar mixed rfl Tryz.func178 (by kernel_rfl) (by kernel_rfl) (fun _=>by kernel_rfl)
theorem aiV(n:Nat):eT aQ aR Uq (Cb n):=
 mS ⟨eN aQ,aR,tabC [(178,Ca n)],n,[10000,10001],cn [],cn [(10004003,⟨[(3,.b (.ptr 10001 0))],[aX 10001 1,aX 10000 1],[]⟩),(18000006,⟨[(3,.b (.ptr 10001 0))],[aX 10001 1,aX 10000 1],[]⟩)],cn [],fv [],tabH [],fI [],fy []⟩ (tok _) (a3 (aiU n) aK) ar mixed Tryz.func177 (by kernel_rfl) (by kernel_rfl) (by kernel_rfl) [] fun _=>by kernel_rfl
theorem Uy(n:Nat):eT aQ aR M6 (tF n):=
 mS ⟨eN aQ,aR,tabC [],n,[],cn [(2,⟨[cO 0 9000,ao 1,ao 5],[b9 9000 1],[]⟩)],cn [],cn [(0,⟨[cO 0 9000,ao 1,ao 5],[b9 9000 1],[]⟩)],fv [],tabH [],fI [],fy []⟩ (tok _) aK ar mixed Tryz.func180 (by kernel_rfl) (by kernel_rfl) (by kernel_rfl) [] fun _=>by kernel_rfl
theorem aiW(n:Nat):eT aQ aR Ur (vQ n):=
 mS ⟨eN aQ,aR,tabC [],n,[10000,10001],cn [],cn [(9004003,⟨[],[(10000,.box [.b (.row 6010)]),(10001,.box [.b (.row 9001)]),b9 6010 1,b9 9001 1],[]⟩),(15000005,⟨[],[(10000,.box [.b (.row 9000)]),(10001,.box [.b (.row 6020)]),b9 9000 1,b9 6020 1],[]⟩)],cn [(0,⟨[],[(10000,.box [.b (.row 6010)]),(10001,.box [.b (.row 9001)]),b9 6010 1,b9 9001 1],[]⟩)],fv [],tabH [(14,⟨M6,tF n,6010,[]⟩),(20,⟨M6,tF n,6020,[]⟩)],fI [],fy []⟩ (tok _) aK (bu (Uy n) (bu (Uy n) ar)) mixed Tryz.func179 (by kernel_rfl) (by kernel_rfl) (by kernel_rfl) [] fun _=>by kernel_rfl
theorem aiX(vR:List D→Option (List D))(n:Nat)(aiY:eT aQ aR xk vR):eT aQ aR xk (LN vR n):=
 mS ⟨eN aQ,aR,tabC [],n,[10000,10001],cn [(4,⟨[ao 1,(2,.fn (.func SQ) [] [.ptr 10000 0,.ptr 10001 0]),ao 15,ao 16,ao 17],[aX 10000 1,aX 10001 1],[]⟩)],cn [],cn [(0,⟨[],[aX 10000 1,aX 10001 1],[]⟩)],fv [],tabH [(12,⟨Uq,Cb n,6010,[]⟩),(25,⟨xk,vR,6020,[]⟩)],fI [],fy []⟩ (tok _) aK (bu (aiV n) (bu aiY ar)) mixed Tryz.func176 (by kernel_rfl) (by kernel_rfl) (by kernel_rfl) [] fun _=>by kernel_rfl
theorem Uz:∀n,eT aQ aR xk (rW n)
 |0=>tw (s:=xk) (tu (T:=eN aQ) (os:=fun _=>none) Tryz.func176 (by kernel_rfl)) (fun _=>rfl)
 |n+1=>by
  have ih:=Uz n
  exact aiX (rW n) n ih
theorem aiZ(n:Nat):eT aQ aR xk (rW n):=(Uz n)
theorem M8(n:Nat):a8 aQ aR 124 (qE n):=
 cg ⟨eN aQ,aR,tabC [],n,[],cn [],cn [],cn [],fv [],tabH [(7,⟨xk,rW n,6010,[]⟩)],fI [],fy []⟩ (tok _) aK (bu (aiZ n) ar) mixed rfl Tryz.func124 (by kernel_rfl) (by kernel_rfl) (fun _=>by kernel_rfl)
theorem ai0(vS:List D→Option (List D))(n:Nat)(ai1:eT aQ aR xl vS):eT aQ aR xl (LO vS n):=
 mS ⟨eN aQ,aR,tabC [],n,[10000,10001],cn [(4,⟨[ao 1,(2,.fn (.func SR) [] [.ptr 10000 0,.ptr 10001 0]),ao 15,ao 16,ao 17],[(10000,.box [.b (.row 6010)]),(10001,.box [.b (.row 6011)]),b9 6010 1,b9 6011 1],[]⟩)],cn [],cn [(0,⟨[],[(10000,.box [.b (.row 6010)]),(10001,.box [.b (.row 6011)]),b9 6010 1,b9 6011 1],[]⟩)],fv [],tabH [(12,⟨Ur,vQ n,6010,[]⟩),(25,⟨xl,vS,6020,[]⟩)],fI [],fy []⟩ (tok _) aK (bu (aiW n) (bu ai1 ar)) mixed Tryz.func176 (by kernel_rfl) (by kernel_rfl) (by kernel_rfl) [] fun _=>by kernel_rfl
theorem UA:∀n,eT aQ aR xl (rX n)
 |0=>tw (s:=xl) (tu (T:=eN aQ) (os:=fun _=>none) Tryz.func176 (by kernel_rfl)) (fun _=>rfl)
 |n+1=>by
  have ih:=UA n
  exact ai0 (rX n) n ih
theorem ai2(n:Nat):eT aQ aR xl (rX n):=(UA n)
theorem HM(n:Nat):a8 aQ aR 125 (pt n):=
 cg ⟨eN aQ,aR,tabC [],n,[],cn [],cn [],cn [],fv [(2,[0,1,2,3])],tabH [(6,⟨xl,rX n,6010,[.box 3 0 5900 1,.box 2 0 5901 1]⟩)],fI [],fy []⟩ (tok _) aK (bu (ai2 n) ar) mixed rfl Tryz.func125 (by kernel_rfl) (by kernel_rfl) (fun _=>by kernel_rfl)
theorem ai3(n:Nat):a8 aQ aR 78 (vT n):=
 cg (bx n [(124,qE n),(125,pt n)] [] [] []) (tok _) (a3 (M8 n) (a3 (HM n) aK)) ar mixed rfl Tryz.func78 (by kernel_rfl) (by kernel_rfl) (fun _=>by kernel_rfl)
theorem ai4(n:Nat):a8 aQ aR 79 (Cf n):=
 cg (bx n [] [] [(6005000,⟨[ao 3,ao 6],[],[]⟩),(6006000,⟨[ao 3,ao 6],[],[]⟩),(6007000,⟨[ao 3,ao 6],[],[]⟩),(6008000,⟨[ao 3,ao 6],[],[]⟩),(12011000,⟨[ao 12],[],[]⟩),(12012000,⟨[ao 12],[],[]⟩),(12013000,⟨[ao 12],[],[]⟩),(12014000,⟨[ao 12],[],[]⟩),(12015000,⟨[ao 12],[],[]⟩),(12016000,⟨[ao 12],[],[]⟩)] [(0,⟨[],[],[]⟩)]) (tok _) aK ar mixed rfl Tryz.func79 (by kernel_rfl) (by kernel_rfl) (fun _=>by kernel_rfl)
theorem ai5(n:Nat):eT aQ aR Us (Cg n):=
 mS ⟨eN aQ,aR,tabC [(78,vT n),(79,Cf n)],n,[10000,10001],cn [],cn [(40007006,⟨[(3,.b (.ptr 10001 0))],[aX 10001 1,aX 10000 1],[]⟩),(43009008,⟨[(3,.b (.ptr 10001 0))],[aX 10001 1,aX 10000 1],[]⟩),(46011010,⟨[(3,.b (.ptr 10001 0))],[aX 10001 1,aX 10000 1],[]⟩),(50013012,⟨[(3,.b (.ptr 10001 0))],[aX 10001 1,aX 10000 1],[]⟩),(65000014,⟨[(3,.b (.ptr 10001 0))],[aX 10001 1,aX 10000 1],[]⟩)],cn [(0,⟨[(3,.b (.ptr 10001 0))],[aX 10001 1,aX 10000 1],[]⟩)],fv [],tabH [],fI [],fy []⟩ (tok _) (a3 (ai3 n) (a3 (ai4 n) aK)) ar mixed Tryz.func77 (by kernel_rfl) (by kernel_rfl) (by kernel_rfl) [] fun _=>by kernel_rfl
theorem ai6(vU:List D→Option (List D))(n:Nat)(ai7:eT aQ aR xm vU):eT aQ aR xm (LP vU n):=
 mS ⟨eN aQ,aR,tabC [],n,[10000,10001],cn [(4,⟨[ao 1,(2,.fn (.func SP) [] [.ptr 10000 0,.ptr 10001 0]),ao 15,ao 16,ao 17],[aX 10000 1,aX 10001 1],[]⟩)],cn [],cn [(0,⟨[],[aX 10000 1,aX 10001 1],[]⟩)],fv [],tabH [(12,⟨Us,Cg n,6010,[]⟩),(25,⟨xm,vU,6020,[]⟩)],fI [],fy []⟩ (tok _) aK (bu (ai5 n) (bu ai7 ar)) mixed Tryz.func76 (by kernel_rfl) (by kernel_rfl) (by kernel_rfl) [] fun _=>by kernel_rfl
theorem UB:∀n,eT aQ aR xm (rY n)
 |0=>tw (s:=xm) (tu (T:=eN aQ) (os:=fun _=>none) Tryz.func76 (by kernel_rfl)) (fun _=>rfl)
 |n+1=>by
  have ih:=UB n
  exact ai6 (rY n) n ih
theorem ai8(n:Nat):eT aQ aR xm (rY n):=(UB n)
theorem D3(n:Nat):a8 aQ aR 42 (nC n):=
 cg ⟨eN aQ,aR,tabC [],n,[],cn [],cn [],cn [],fv [],tabH [(7,⟨xm,rY n,6010,[]⟩)],fI [],fy []⟩ (tok _) aK (bu (ai8 n) ar) mixed rfl Tryz.func42 (by kernel_rfl) (by kernel_rfl) (fun _=>by kernel_rfl)
theorem M9(n:Nat):a8 aQ aR 160 (rZ n):=
 cg (bx n [] [(3,⟨[(3,.b (.map 8)),ao 9,ao 10,ao 11],[(8,.map)],[]⟩)] [(24000007,⟨[(3,.b (.map 8)),ao 9,ao 10,ao 11],[(8,.map)],[]⟩)] [(0,⟨[(3,.b (.map 8))],[(8,.map)],[]⟩),(1,⟨[(3,.b (.map 8)),ao 9,ao 10,ao 11],[(8,.map)],[]⟩)]) (tok _) aK ar mixed rfl Tryz.func160 (by kernel_rfl) (by kernel_rfl) (fun _=>by kernel_rfl)
theorem ai9(n:Nat):a8 aQ aR 161 (Cj n):=
 cg ⟨eN aQ,aR,tabC [(160,rZ n),(125,pt n)],n,[],cn [(4,⟨[ao 3,cO 4 5002,ao 16,ao 17,ao 18],[b9 5002 1],[.slot 4 5002 1]⟩),(9,⟨[ao 3,cO 4 5002,cO 7 5001,ao 16,ao 17,ao 18,ao 28,ao 29,ao 30],[b9 5002 1,b9 5001 1],[.slot 7 5001 1]⟩)],cn [(40000013,⟨[ao 3,cO 4 5002,cO 7 44,ao 16,ao 17,ao 18,ao 28,ao 29,ao 30],[b9 5002 1,b9 44 1],[.slot 7 5000 1]⟩)],cn [(0,⟨[cO 4 5002],[b9 5002 1],[]⟩),(1,⟨[ao 3,cO 4 49,ao 16,ao 17,ao 18],[b9 49 1],[]⟩),(2,⟨[ao 3,cO 4 5002,cO 7 5001,ao 16,ao 17,ao 18],[b9 5002 1,b9 5001 1],[]⟩),(3,⟨[ao 3,cO 4 5002,cO 7 44,ao 16,ao 17,ao 18,ao 28,ao 29,ao 30],[b9 5002 1,b9 44 1],[]⟩)],fv [],tabH [],fI [48],fy []⟩ (tok _) (a3 (M9 n) (a3 (HM n) aK)) ar mixed rfl Tryz.func161 (by kernel_rfl) (by kernel_rfl) (fun _=>by kernel_rfl)
theorem aja(vV:List D→Option (List D))(n:Nat)(ajb:eT aQ aR uc vV):eT aQ aR uc (GS vV n):=
 mS ⟨eN aQ,aR,tabC [],n,[10000,10001,10002],cn [(1,⟨[(2,.b (.ptr 10001 0)),(3,.b (.ptr 10002 0)),ao 10,ao 11,ao 12],[(10001,.box [.b (.map 9000)]),(10002,.box [.fn (.func tD) [] [.ptr 10000 0,.ptr 10001 0,.ptr 10002 0]]),aX 10000 1,(9000,.map)],[]⟩)],cn [(19000004,⟨[(2,.b (.ptr 10001 0)),(3,.b (.ptr 10002 0)),ao 10,ao 11,ao 12],[(10001,.box [.b (.map 6010)]),(10002,.box [.fn (.func tD) [] [.ptr 10000 0,.ptr 10001 0,.ptr 10002 0]]),aX 10000 1,(6010,.map)],[]⟩)],cn [(0,⟨[],[aX 10000 1,(10001,.box [.b (.map 9000)]),(10002,.box [.fn (.func tD) [] [.ptr 10000 0,.ptr 10001 0,.ptr 10002 0]]),(9000,.map)],[]⟩),(1,⟨[(2,.b (.ptr 10001 0)),(3,.b (.ptr 10002 0)),ao 10,ao 11,ao 12],[(10001,.box [.b (.map 6010)]),(10002,.box [.fn (.func tD) [] [.ptr 10000 0,.ptr 10001 0,.ptr 10002 0]]),aX 10000 1,(6010,.map)],[]⟩)],fv [],tabH [(24,⟨uc,vV,6010,[]⟩)],fI [],fy []⟩ (tok _) aK (bu ajb ar) mixed Tryz.func192 (by kernel_rfl) (by kernel_rfl) (by kernel_rfl) [] fun _=>by kernel_rfl
theorem UC:∀n,eT aQ aR uc (pw n)
 |0=>tw (s:=uc) (tu (T:=eN aQ) (os:=fun _=>none) Tryz.func192 (by kernel_rfl)) (fun _=>rfl)
 |n+1=>by
  have ih:=UC n
  exact aja (pw n) n ih
theorem UD(n:Nat):eT aQ aR uc (pw n):=(UC n)
theorem ajc(n:Nat):eT aQ aR Ut (Cm n):=
 mS ⟨eN aQ,aR,tabC [],n,[],cn [(5,⟨[sp 5,sp 6,ao 11,ao 12,ao 13],[(5,.box [.b (.map 9)]),(6,.box [.fn (.func tD) [] [.ptr 2 0,.ptr 5 0,.ptr 6 0]]),(9,.map),aX 2 1],[]⟩)],cn [],cn [(0,⟨[sp 5],[(5,.box [.b (.map 9)]),(9,.map)],[]⟩)],fv [],tabH [(19,⟨uc,pw n,6010,[]⟩)],fI [],fy []⟩ (tok _) aK (bu (UD n) ar) mixed Tryz.func162 (by kernel_rfl) (by kernel_rfl) (by kernel_rfl) [] fun _=>by kernel_rfl
theorem ajd(n:Nat):a8 aQ aR 162 (yV n):=
 dK ⟨eN aQ,aR,tabC [],n,[],cn [(5,⟨[sp 5,sp 6,ao 11,ao 12,ao 13],[(5,.box [.b (.map 9)]),(6,.box [.fn (.func tD) [] [.ptr 2 0,.ptr 5 0,.ptr 6 0]]),(9,.map),aX 2 1],[]⟩)],cn [],cn [(0,⟨[sp 5],[(5,.box [.b (.map 9)]),(9,.map)],[]⟩)],fv [],tabH [(19,⟨uc,pw n,6010,[]⟩)],fI [],fy []⟩ (tok _) aK (bu (UD n) ar) mixed rfl Tryz.func162 (by kernel_rfl) (by kernel_rfl) (fun _ _=>by kernel_rfl)
theorem aje(r1:List D→Option (List D))(n:Nat)(ajf:eT aQ aR xn r1):eT aQ aR xn (Co r1 n):=
 mS ⟨eN aQ,aR,tabC [],n,[10000,10001,10002,10003],cn [(1,⟨[ao 1,(2,.b (.ptr 10000 0)),(3,.b (.ptr 10001 0)),(4,.b (.ptr 10002 0)),(5,.b (.ptr 10003 0)),sp 6,sp 8],[aX 10000 1,aX 10001 1,aX 10002 1,(10003,.box [.fn (.func tE) [] [.ptr 10000 0,.ptr 10001 0,.ptr 10002 0,.ptr 10003 0]]),aX 6 4,aX 8 4],[]⟩),(10,⟨[ao 1,(4,.b (.ptr 10002 0)),(5,.b (.ptr 10003 0)),sp 6,sp 8,cO 11 41,ao 43,ao 44,ao 45],[aX 10002 1,(10003,.box [.fn (.func tE) [] [.ptr 10000 0,.ptr 10001 0,.ptr 10002 0,.ptr 10003 0]]),aX 6 4,aX 8 4,b9 41 4,aX 10000 1,aX 10001 1],[]⟩)],cn [(55000013,⟨[ao 1,(4,.b (.ptr 10002 0)),(5,.b (.ptr 10003 0)),sp 6,sp 8,cO 11 41,ao 43,ao 44,ao 45],[aX 10002 1,(10003,.box [.fn (.func tE) [] [.ptr 10000 0,.ptr 10001 0,.ptr 10002 0,.ptr 10003 0]]),aX 6 4,aX 8 4,b9 41 4,aX 10000 1,aX 10001 1],[]⟩)],cn [(0,⟨[ao 1,(4,.b (.ptr 10002 0)),(5,.b (.ptr 10003 0)),sp 6,sp 8],[aX 10002 1,(10003,.box [.fn (.func tE) [] [.ptr 10000 0,.ptr 10001 0,.ptr 10002 0,.ptr 10003 0]]),aX 6 4,aX 8 4,aX 10000 1,aX 10001 1],[]⟩),(2,⟨[sp 6,sp 8,cO 11 41],[aX 6 4,aX 8 4,b9 41 4,aX 10000 1,aX 10001 1,aX 10002 1,(10003,.box [.fn (.func tE) [] [.ptr 10000 0,.ptr 10001 0,.ptr 10002 0,.ptr 10003 0]])],[]⟩),(3,⟨[ao 1,(4,.b (.ptr 10002 0)),(5,.b (.ptr 10003 0)),sp 6,sp 8,cO 11 41,ao 43,ao 44,ao 45],[aX 10002 1,(10003,.box [.fn (.func tE) [] [.ptr 10000 0,.ptr 10001 0,.ptr 10002 0,.ptr 10003 0]]),aX 6 4,aX 8 4,b9 41 4,aX 10000 1,aX 10001 1],[]⟩)],fv [],tabH [(62,⟨xn,r1,6010,[]⟩)],fI [20066],fy []⟩ (tok _) aK (bu ajf ar) mixed Tryz.func193 (by kernel_rfl) (by kernel_rfl) (by kernel_rfl) [] fun _=>by kernel_rfl
theorem UE:∀n,eT aQ aR xn (qF n)
 |0=>tw (s:=xn) (tu (T:=eN aQ) (os:=fun _=>none) Tryz.func193 (by kernel_rfl)) (fun _=>rfl)
 |n+1=>by
  have ih:=UE n
  exact aje (qF n) n ih
theorem ajg(n:Nat):eT aQ aR xn (qF n):=(UE n)
theorem ajh(n:Nat):a8 aQ aR 163 (Cp n):=
 dK ⟨eN aQ,aR,tabC [(160,rZ n)],n,[],cn [],cn [],cn [],fv [],tabH [(13,⟨xn,qF n,6010,[]⟩)],fI [],fy []⟩ (tok _) (a3 (M9 n) aK) (bu (ajg n) ar) mixed rfl Tryz.func163 (by kernel_rfl) (by kernel_rfl) (fun _ _=>by kernel_rfl)
theorem HN(n:Nat):a8 aQ aR 114 (kC n):=
 dK ⟨(eN Tryz.prog).qn [77],aR,tabC [(124,qE n),(160,rZ n),(161,Cj n),(125,pt n),(162,yV n),(163,Cp n)],n,[],cn [(8,⟨[ao 1,sp 2,sp 4,ao 7,ao 8,cO 9 5001,ao 36,ao 37,ao 38],[aX 2 4,aX 4 4,b9 5001 1],[.slot 9 5001 1]⟩),(16,⟨[ao 1,sp 2,sp 4,ao 8,(16,.b (.map 6010)),ao 57,ao 58,ao 59],[aX 2 4,aX 4 4,(6010,.map)],[]⟩),(21,⟨[ao 1,sp 2,sp 4,ao 8,(16,.b (.map 6010)),ao 67,ao 68],[aX 2 4,aX 4 4,(6010,.map)],[]⟩)],cn [(48000012,⟨[ao 1,sp 2,sp 4,ao 7,ao 8,cO 9 52,ao 36,ao 37,ao 38],[aX 2 4,aX 4 4,b9 52 1],[.slot 9 5000 1]⟩)],cn [(0,⟨[ao 1,sp 2,sp 4,ao 8,cO 9 5001],[aX 2 4,aX 4 4,b9 5001 1],[]⟩),(1,⟨[ao 1,sp 2,sp 4,ao 7,ao 8,cO 9 52,ao 36,ao 37,ao 38],[aX 2 4,aX 4 4,b9 52 1],[]⟩),(2,⟨[ao 1,sp 2,sp 4,ao 8,(16,.b (.map 6010))],[aX 2 4,aX 4 4,(6010,.map)],[]⟩),(4,⟨[ao 1,sp 2,sp 4],[aX 2 4,aX 4 4],[]⟩)],fv [],tabH [(56,⟨Ut,Cm n,6010,[]⟩)],fI [],fy [(14,[[5001],[],[]])]⟩ ((tok _).qn _) (a3 (M8 n) (a3 (M9 n) (a3 (ai9 n) (a3 (HM n) (a3 (ajd n) (a3 (ajh n) aK)))))) (bu (ajc n) ar) mixed rfl Tryz.func114 (by kernel_rfl) (by kernel_rfl) (fun _ _=>by kernel_rfl)
theorem UF(n:Nat):a8 aQ aR 147 (vX n):=
 cg (bx n [] [(3,⟨[(3,.b (.map 8)),ao 9,ao 10,ao 11],[(8,.map)],[]⟩)] [(24000007,⟨[(3,.b (.map 8)),ao 9,ao 10,ao 11],[(8,.map)],[]⟩)] [(0,⟨[(3,.b (.map 8))],[(8,.map)],[]⟩),(1,⟨[(3,.b (.map 8)),ao 9,ao 10,ao 11],[(8,.map)],[]⟩)]) (tok _) aK ar mixed rfl Tryz.func147 (by kernel_rfl) (by kernel_rfl) (fun _=>by kernel_rfl)
theorem UG(n:Nat):a8 aQ aR 205 (px n):=
 dK (bx n [] [] [] []) (tok _) aK ar mixed rfl Tryz.func205 (by kernel_rfl) (by kernel_rfl) (fun _ _=>by kernel_rfl)
theorem aji(n:Nat):a8 aQ aR 206 (Cu n):=
 cg (bx n [] [(2,⟨[sp 2,ao 6,ao 7,ao 8],[aX 2 3],[]⟩)] [] [(0,⟨[sp 2],[aX 2 3],[]⟩)]) (tok _) aK ar mixed rfl Tryz.func206 (by kernel_rfl) (by kernel_rfl) (fun _=>by kernel_rfl)
theorem ajj(n:Nat):a8 aQ aR 207 (vY n):=
 hk (bx n [(205,px n)] [] [(13000002,⟨[ao 0,sp 4,sp 5,sp 6],[aX 4 3,aX 5 3,aX 6 3],[]⟩)] []) (tok _) (a3 (UG n) aK) ar mixed rfl Tryz.func207 (by kernel_rfl) (by kernel_rfl) (fun _ _ _=>by kernel_rfl)
theorem ajk(n:Nat):a8 aQ aR 194 (m1 n):=
 adK (bx n [(205,px n),(206,Cu n),(207,vY n)] [] [(29007000,⟨[ao 0,ao 1,ao 3,ao 4,sp 7,sp 10,ao 16,ao 29],[aX 7 4,aX 10 3],[]⟩),(69017000,⟨[ao 4,sp 7,sp 10,ao 16,ao 69],[aX 7 4,aX 10 3],[]⟩),(69018000,⟨[ao 4,sp 7,sp 10,ao 16,ao 69],[aX 7 4,aX 10 3],[]⟩),(69019000,⟨[ao 4,sp 7,sp 10,ao 16,ao 69],[aX 7 4,aX 10 3],[]⟩),(69020000,⟨[ao 4,sp 7,sp 10,ao 16,ao 69],[aX 7 4,aX 10 3],[]⟩),(126029000,⟨[ao 4,sp 7,sp 10,ao 126],[aX 7 4,aX 10 3],[]⟩),(164038000,⟨[ao 4,sp 7,sp 10,ao 152,ao 164],[aX 7 4,aX 10 3],[]⟩)] [(0,⟨[ao 4,sp 7,sp 10],[aX 7 4,aX 10 3],[]⟩)]) (tok _) (a3 (UG n) (a3 (aji n) (a3 (ajj n) aK))) ar mixed rfl Tryz.func194 (by kernel_rfl) (by kernel_rfl) (fun _ _ _ _ _=>by kernel_rfl)
theorem ajl(v8:List D→Option D)(n:Nat)(ab:D)(ah:D)(aT:D)(bR:D)(ajm:a8 aQ aR 164 v8){r:D}(h:L3 v8 n ab ah aT bR=some r):dz aQ aR 164 [ab,ah,aT,bR] (·=r):=
 dM (bx n [(164,v8),(194,m1 n)] [(3,⟨[ao 0,ao 1,ao 3,sp 6,sp 8,cO 10 5000,ao 16,ao 17,ao 18],[aX 6 4,aX 8 3,b9 5000 3],[.slot 10 5000 3]⟩)] [] [(0,⟨[ao 0,ao 1,ao 3,sp 6,sp 8,cO 10 5000],[aX 6 4,aX 8 3,b9 5000 3],[]⟩)]) (tok _) (a3 ajm (a3 (ajk n) aK)) ar mixed rfl Tryz.func164 (by kernel_rfl) (bA (bA (bA (bA le_nil)))) (by kernel_rfl) (by kernel_rfl) h
theorem UH:∀n,a8 aQ aR 164 (pA n)
 |0=>(fun _ _ h=>by cases h)
 |n+1=>by
  have ih:=UH n
  exact (by
   intro aF r h
   unfold pA at h
   split at h
   case h_2=>cases h
   exact ajl (pA n) n _ _ _ _ ih h)
theorem ajn(n:Nat):a8 aQ aR 164 (pA n):=(UH n)
theorem Na(n:Nat):a8 aQ aR 115 (qK n):=
 hk (bx n [(124,qE n),(147,vX n),(164,pA n)] [] [] []) (tok _) (a3 (M8 n) (a3 (UF n) (a3 (ajn n) aK))) ar mixed rfl Tryz.func115 (by kernel_rfl) (by kernel_rfl) (fun _ _ _=>by kernel_rfl)
theorem Nb(n:Nat):a8 aQ aR 240 (qL n):=
 hk (bx n [(114,kC n),(115,qK n)] [] [] []) (tok _) (a3 (HN n) (a3 (Na n) aK)) ar mixed rfl Tryz.func240 (by kernel_rfl) (by kernel_rfl) (fun _ _ _=>by kernel_rfl)
theorem UI(n:Nat):a8 aQ aR 244 (tG n):=
 hk (bx n [(240,qL n)] [] [] []) (tok _) (a3 (Nb n) aK) ar mixed rfl Tryz.func244 (by kernel_rfl) (by kernel_rfl) (fun _ _ _=>by kernel_rfl)
theorem ajo(v9:List D→Option D)(n:Nat)(ab:D)(ah:D)(ajp:a8 aQ aR 257 v9){r:D}(h:CH v9 n ab ah=some r):dz aQ aR 257 [ab,ah] (·=r):=
 dM (bx n [(244,tG n),(257,v9)] [(4,⟨[sp 2,ao 16,ao 17,ao 18],[aX 2 8],[]⟩)] [] [(0,⟨[],[],[]⟩)]) (tok _) (a3 (UI n) (a3 ajp aK)) ar mixed rfl Tryz.func257 (by kernel_rfl) (bA (bA le_nil)) (by kernel_rfl) (by kernel_rfl) h
theorem UJ:∀n,a8 aQ aR 257 (qM n)
 |0=>(fun _ _ h=>by cases h)
 |n+1=>by
  have ih:=UJ n
  exact (by
   intro aF r h
   unfold qM at h
   split at h
   case h_2=>cases h
   exact ajo (qM n) n _ _ ih h)
theorem ajq(n:Nat):a8 aQ aR 257 (qM n):=(UJ n)
theorem ajr(n:Nat):a8 aQ aR 254 (r4 n):=
 hk (bx n [(156,qD n),(255,vP n),(42,nC n),(257,qM n)] [] [] []) (tok _) (a3 (M7 n) (a3 (aiS n) (a3 (D3 n) (a3 (ajq n) aK)))) ar mixed rfl Tryz.func254 (by kernel_rfl) (by kernel_rfl) (fun _ _ _=>by kernel_rfl)
theorem ajs(n:Nat)(ab:D)(x1:List D){r:D}(h:G0 n ab x1=some r):dz aQ aR 248 [ab,.ref x1 0] (·=r):=
 dM (bx n [] [] [] []) (tok _) aK ar mixed rfl Tryz.func248 (by kernel_rfl) (bA (l2 mR le_nil)) (by kernel_rfl) (by kernel_rfl) h
theorem ajt(n:Nat):a8 aQ aR 248 (CJ n):=by
 intro aF r h
 unfold CJ at h
 split at h
 case h_2=>cases h
 split at h
 case h_2=>cases h
 exact ajs n _ _ h
theorem aju(n:Nat)(ab:D)(b7:D){r:D}(h:CL n ab b7=some r):dz aQ aR 103 [ab,(D.fn (.func yJ) [] [b7])] (·=r):=
 dM (bx n [(248,CJ n)] [(2,⟨[ao 0,(1,.b (.fd yJ 1)),ao 7,ao 8],[],[]⟩)] [] [(0,⟨[],[],[]⟩)]) (tok _) (a3 (ajt n) aK) ar mixed rfl Tryz.func103 (by kernel_rfl) (bA (bA le_nil)) (by kernel_rfl) (by kernel_rfl) h
theorem ajv(n:Nat):a8 aQ aR 103 (wb n):=by
 intro aF r h
 unfold wb at h
 split at h
 case h_2=>cases h
 split at h
 case h_2=>cases h
 rename_i aj
 obtain rfl:=j5 aj
 exact aju n _ _ h
theorem ajw(n:Nat)(ab:D)(x1:List D){r:D}(h:G1 n ab x1=some r):dz aQ aR 250 [ab,.ref x1 0] (·=r):=
 dM (bx n [] [] [] []) (tok _) aK ar mixed rfl Tryz.func250 (by kernel_rfl) (bA (l2 mR le_nil)) (by kernel_rfl) (by kernel_rfl) h
theorem ajx(n:Nat):a8 aQ aR 250 (CM n):=by
 intro aF r h
 unfold CM at h
 split at h
 case h_2=>cases h
 split at h
 case h_2=>cases h
 exact ajw n _ _ h
theorem ajy(n:Nat)(ab:D)(b7:D){r:D}(h:CO n ab b7=some r):dz aQ aR 251 [ab,(D.fn (.func pn) [] [b7])] (·=r):=
 dM (bx n [(250,CM n)] [(2,⟨[ao 0,(1,.b (.fd pn 1)),ao 7,ao 8],[],[]⟩)] [] [(0,⟨[],[],[]⟩)]) (tok _) (a3 (ajx n) aK) ar mixed rfl Tryz.func251 (by kernel_rfl) (bA (bA le_nil)) (by kernel_rfl) (by kernel_rfl) h
theorem ajz(n:Nat):a8 aQ aR 251 (wc n):=by
 intro aF r h
 unfold wc at h
 split at h
 case h_2=>cases h
 split at h
 case h_2=>cases h
 rename_i aj
 obtain rfl:=j5 aj
 exact ajy n _ _ h
theorem ajA(n:Nat)(ab:D)(b7:D){r:D}(h:G2 n ab b7=some r):dz aQ aR 249 [ab,(D.fn (.func pn) [] [b7])] (·=r):=
 dM (bx n [(251,wc n)] [] [] []) (tok _) (a3 (ajz n) aK) ar mixed rfl Tryz.func249 (by kernel_rfl) (bA (bA le_nil)) (by kernel_rfl) (by kernel_rfl) h
theorem ajB(n:Nat):a8 aQ aR 249 (we n):=by
 intro aF r h
 unfold we at h
 split at h
 case h_2=>cases h
 split at h
 case h_2=>cases h
 rename_i aj
 obtain rfl:=j5 aj
 exact ajA n _ _ h
theorem ajC(n:Nat):a8 aQ aR 247 (tH n):=
 hk (bx n [(103,wb n),(249,we n),(240,qL n)] [] [] []) (tok _) (a3 (ajv n) (a3 (ajB n) (a3 (Nb n) aK))) ar mixed rfl Tryz.func247 (by kernel_rfl) (by kernel_rfl) (fun _ _ _=>by kernel_rfl)
theorem ajD(n:Nat):a8 aQ aR 243 (y3 n):=
 hk (bx n [(244,tG n)] [] [] []) (tok _) (a3 (UI n) aK) ar mixed rfl Tryz.func243 (by kernel_rfl) (by kernel_rfl) (fun _ _ _=>by kernel_rfl)
theorem ajE(n:Nat):a8 aQ aR 239 (y4 n):=
 hk (bx n [(240,qL n)] [] [] []) (tok _) (a3 (Nb n) aK) ar mixed rfl Tryz.func239 (by kernel_rfl) (by kernel_rfl) (fun _ _ _=>by kernel_rfl)
theorem ajF(n:Nat)(ab:D)(x1:List D){r:D}(h:G4 n ab x1=some r):dz aQ aR 236 [ab,.ref x1 0] (·=r):=
 dM (bx n [] [] [] []) (tok _) aK ar mixed rfl Tryz.func236 (by kernel_rfl) (bA (l2 mR le_nil)) (by kernel_rfl) (by kernel_rfl) h
theorem ajG(n:Nat):a8 aQ aR 236 (CP n):=by
 intro aF r h
 unfold CP at h
 split at h
 case h_2=>cases h
 split at h
 case h_2=>cases h
 exact ajF n _ _ h
theorem ajH(n:Nat)(ab:D)(b7:D){r:D}(h:CR n ab b7=some r):dz aQ aR 235 [ab,(D.fn (.func yI) [] [b7])] (·=r):=
 dM (bx n [(236,CP n)] [(2,⟨[ao 0,(1,.b (.fd yI 1)),ao 7,ao 8],[],[]⟩)] [] [(0,⟨[],[],[]⟩)]) (tok _) (a3 (ajG n) aK) ar mixed rfl Tryz.func235 (by kernel_rfl) (bA (bA le_nil)) (by kernel_rfl) (by kernel_rfl) h
theorem ajI(n:Nat):a8 aQ aR 235 (wh n):=by
 intro aF r h
 unfold wh at h
 split at h
 case h_2=>cases h
 split at h
 case h_2=>cases h
 rename_i aj
 obtain rfl:=j5 aj
 exact ajH n _ _ h
theorem ajJ(n:Nat):a8 aQ aR 234 (y5 n):=
 hk ⟨eN aQ,aR,tabC [(125,pt n),(235,wh n)],n,[],cn [(3,⟨[ao 0,ao 2,cO 7 16,cO 8 18],[b9 16 1,b9 18 1],[]⟩),(7,⟨[ao 0,ao 2,cO 7 16,cO 8 18,ao 35,ao 36,ao 37],[b9 16 1,b9 18 1],[]⟩)],cn [(52000011,⟨[ao 0,ao 2,cO 7 16,cO 8 59,ao 35,ao 36,ao 37],[b9 16 1,b9 59 1],[]⟩)],cn [(0,⟨[ao 2,cO 7 16],[b9 16 1],[]⟩),(1,⟨[ao 0,ao 2,cO 7 16,cO 8 18],[b9 16 1,b9 18 1],[]⟩),(2,⟨[ao 0,ao 2,cO 7 16,cO 8 18],[b9 16 1,b9 18 1],[]⟩),(3,⟨[ao 0,ao 2,cO 7 16,cO 8 59,ao 35,ao 36,ao 37],[b9 16 1,b9 59 1],[]⟩)],fv [],tabH [],fI [23],fy []⟩ (tok _) (a3 (HM n) (a3 (ajI n) aK)) ar mixed rfl Tryz.func234 (by kernel_rfl) (by kernel_rfl) (fun _ _ _=>by kernel_rfl)
theorem ajK(n:Nat)(ab:D)(x1:List D){r:D}(h:G7 n ab x1=some r):dz aQ aR 228 [ab,.ref x1 0] (·=r):=
 dM (bx n [] [] [] []) (tok _) aK ar mixed rfl Tryz.func228 (by kernel_rfl) (bA (l2 mR le_nil)) (by kernel_rfl) (by kernel_rfl) h
theorem ajL(n:Nat):a8 aQ aR 228 (CS n):=by
 intro aF r h
 unfold CS at h
 split at h
 case h_2=>cases h
 split at h
 case h_2=>cases h
 exact ajK n _ _ h
theorem ajM(n:Nat)(ab:D)(b7:D){r:D}(h:CU n ab b7=some r):dz aQ aR 103 [ab,(D.fn (.func pj) [] [b7])] (·=r):=
 dM (bx n [(228,CS n)] [(2,⟨[ao 0,(1,.b (.fd pj 1)),ao 7,ao 8],[],[]⟩)] [] [(0,⟨[],[],[]⟩)]) (tok _) (a3 (ajL n) aK) ar mixed rfl Tryz.func103 (by kernel_rfl) (bA (bA le_nil)) (by kernel_rfl) (by kernel_rfl) h
theorem ajN(n:Nat):a8 aQ aR 103 (wj n):=by
 intro aF r h
 unfold wj at h
 split at h
 case h_2=>cases h
 split at h
 case h_2=>cases h
 rename_i aj
 obtain rfl:=j5 aj
 exact ajM n _ _ h
theorem ajO(n:Nat)(ab:D)(b7:D){r:D}(h:G8 n ab b7=some r):dz aQ aR 157 [ab,(D.fn (.func pj) [] [b7])] (·=r):=
 dM (bx n [(103,wj n)] [] [] []) (tok _) (a3 (ajN n) aK) ar mixed rfl Tryz.func157 (by kernel_rfl) (bA (bA le_nil)) (by kernel_rfl) (by kernel_rfl) h
theorem ajP(n:Nat):a8 aQ aR 157 (wk n):=by
 intro aF r h
 unfold wk at h
 split at h
 case h_2=>cases h
 split at h
 case h_2=>cases h
 rename_i aj
 obtain rfl:=j5 aj
 exact ajO n _ _ h
theorem ajQ(n:Nat)(ab:D)(x1:List D){r:D}(h:G9 n ab x1=some r):dz aQ aR 230 [ab,.ref x1 0] (·=r):=
 dM (bx n [] [] [] []) (tok _) aK ar mixed rfl Tryz.func230 (by kernel_rfl) (bA (l2 mR le_nil)) (by kernel_rfl) (by kernel_rfl) h
theorem ajR(n:Nat):a8 aQ aR 230 (CV n):=by
 intro aF r h
 unfold CV at h
 split at h
 case h_2=>cases h
 split at h
 case h_2=>cases h
 exact ajQ n _ _ h
theorem ajS(n:Nat)(ab:D)(b7:D){r:D}(h:CX n ab b7=some r):dz aQ aR 231 [ab,(D.fn (.func pk) [] [b7])] (·=r):=
 dM (bx n [(230,CV n)] [(2,⟨[ao 0,(1,.b (.fd pk 1)),ao 7,ao 8],[],[]⟩)] [] [(0,⟨[],[],[]⟩)]) (tok _) (a3 (ajR n) aK) ar mixed rfl Tryz.func231 (by kernel_rfl) (bA (bA le_nil)) (by kernel_rfl) (by kernel_rfl) h
theorem ajT(n:Nat):a8 aQ aR 231 (wm n):=by
 intro aF r h
 unfold wm at h
 split at h
 case h_2=>cases h
 split at h
 case h_2=>cases h
 rename_i aj
 obtain rfl:=j5 aj
 exact ajS n _ _ h
theorem ajU(n:Nat)(ab:D)(b7:D){r:D}(h:Ha n ab b7=some r):dz aQ aR 229 [ab,(D.fn (.func pk) [] [b7])] (·=r):=
 dM (bx n [(231,wm n)] [] [] []) (tok _) (a3 (ajT n) aK) ar mixed rfl Tryz.func229 (by kernel_rfl) (bA (bA le_nil)) (by kernel_rfl) (by kernel_rfl) h
theorem ajV(n:Nat):a8 aQ aR 229 (wo n):=by
 intro aF r h
 unfold wo at h
 split at h
 case h_2=>cases h
 split at h
 case h_2=>cases h
 rename_i aj
 obtain rfl:=j5 aj
 exact ajU n _ _ h
theorem ajW(n:Nat):a8 aQ aR 227 (r6 n):=
 hk (bx n [(156,qD n),(157,wk n),(229,wo n)] [] [(17005000,⟨[ao 17],[],[]⟩)] []) (tok _) (a3 (M7 n) (a3 (ajP n) (a3 (ajV n) aK))) ar mixed rfl Tryz.func227 (by kernel_rfl) (by kernel_rfl) (fun _ _ _=>by kernel_rfl)
theorem ajX(n:Nat):a8 aQ aR 252 (Hb n):=
 cg (bx n [] [] [] []) (tok _) aK ar mixed rfl Tryz.func252 (by kernel_rfl) (by kernel_rfl) (fun _=>by kernel_rfl)
theorem ajY(n:Nat):a8 aQ aR 245 (Hc n):=
 cg (bx n [] [] [] []) (tok _) aK ar mixed rfl Tryz.func245 (by kernel_rfl) (by kernel_rfl) (fun _=>by kernel_rfl)
theorem ajZ(n:Nat):a8 aQ aR 241 (Hd n):=
 cg (bx n [] [] [] []) (tok _) aK ar mixed rfl Tryz.func241 (by kernel_rfl) (by kernel_rfl) (fun _=>by kernel_rfl)
theorem aj0(n:Nat):a8 aQ aR 237 (He n):=
 cg (bx n [] [] [] []) (tok _) aK ar mixed rfl Tryz.func237 (by kernel_rfl) (by kernel_rfl) (fun _=>by kernel_rfl)
theorem aj1(n:Nat):a8 aQ aR 232 (Hf n):=
 cg (bx n [] [] [] []) (tok _) aK ar mixed rfl Tryz.func232 (by kernel_rfl) (by kernel_rfl) (fun _=>by kernel_rfl)
theorem aj2(n:Nat):a8 aQ aR 225 (Hg n):=
 cg (bx n [] [] [] []) (tok _) aK ar mixed rfl Tryz.func225 (by kernel_rfl) (by kernel_rfl) (fun _=>by kernel_rfl)
theorem aj3(n:Nat):a8 aQ aR 64 (ov n):=
 cg ⟨((eN Tryz.prog).FR [151,152,153,155,156,157]),aR,tabC [(107,yU n),(108,BZ n),(253,B0 n),(246,B1 n),(242,pr n),(238,B3 n),(233,B4 n),(226,B5 n),(254,r4 n),(247,tH n),(243,y3 n),(239,y4 n),(234,y5 n),(227,r6 n),(252,Hb n),(245,Hc n),(241,Hd n),(237,He n),(232,Hf n),(225,Hg n)],n,[],cn [(2,⟨[sp 1,sp 2,ao 36,ao 37],[aX 1 8,aX 2 2],[]⟩),(13,⟨[sp 1,sp 2,ao 93,ao 94],[aX 1 8,aX 2 2],[]⟩),(16,⟨[sp 1,sp 2,ao 9,ao 93,ao 94,ao 98,ao 99],[aX 1 8,aX 2 2],[]⟩)],cn [],cn [(0,⟨[sp 1,sp 2],[aX 1 8,aX 2 2],[]⟩),(2,⟨[sp 2],[aX 2 2],[]⟩),(3,⟨[sp 1,sp 2,ao 93,ao 94],[aX 1 8,aX 2 2],[]⟩),(4,⟨[sp 1,sp 2,ao 93,ao 94],[aX 1 8,aX 2 2],[]⟩)],fv [],tabH [],fI [],fy []⟩ ((tok _).FR _) (a3 (aiD n) (a3 (aiG n) (a3 (aiH n) (a3 (aiI n) (a3 (aiJ n) (a3 (aiK n) (a3 (aiL n) (a3 (aiM n) (a3 (ajr n) (a3 (ajC n) (a3 (ajD n) (a3 (ajE n) (a3 (ajJ n) (a3 (ajW n) (a3 (ajX n) (a3 (ajY n) (a3 (ajZ n) (a3 (aj0 n) (a3 (aj1 n) (a3 (aj2 n) aK)))))))))))))))))))) ar mixed rfl Tryz.func64 (by kernel_rfl) (by kernel_rfl) (fun _=>by kernel_rfl)
theorem aj4(n:Nat):a8 aQ aR 109 (nE n):=
 dK (bx n [(114,kC n)] [(2,⟨[ao 1,cO 4 5000,ao 11,ao 12,ao 13],[b9 5000 4],[.slot 4 5000 4]⟩)] [] [(0,⟨[cO 4 5000],[b9 5000 4],[]⟩)]) (tok _) (a3 (HN n) aK) ar mixed rfl Tryz.func109 (by kernel_rfl) (by kernel_rfl) (fun _ _=>by kernel_rfl)
theorem aj5(n:Nat):a8 aQ aR 110 (wv n):=
 dK (bx n [(114,kC n)] [(2,⟨[ao 1,cO 4 5000,ao 11,ao 12,ao 13],[b9 5000 5],[.slot 4 5000 5]⟩)] [] [(0,⟨[cO 4 5000],[b9 5000 5],[]⟩)]) (tok _) (a3 (HN n) aK) ar mixed rfl Tryz.func110 (by kernel_rfl) (by kernel_rfl) (fun _ _=>by kernel_rfl)
theorem aj6(wx:List D→Option (List D))(n:Nat)(aj7:eT aQ aR xo wx):eT aQ aR xo (qN wx n):=
 mS ⟨eN aQ,aR,tabC [(114,kC n)],n,[10000,10001],cn [(8,⟨[(2,.b (.ptr 10001 0)),sp 3,sp 4,cO 8 5000,ao 32,ao 33,ao 34],[(10001,.box [.fn (.func GD) [] [.ptr 10000 0,.ptr 10001 0]]),aX 3 6,aX 4 6,b9 5000 6,aX 10000 1],[.slot 8 5000 6]⟩)],cn [],cn [(0,⟨[sp 3,sp 4,cO 8 5000],[aX 3 6,aX 4 6,b9 5000 6,aX 10000 1,(10001,.box [.fn (.func GD) [] [.ptr 10000 0,.ptr 10001 0]])],[]⟩)],fv [],tabH [(41,⟨xo,wx,6020,[]⟩)],fI [20004],fy []⟩ (tok _) (a3 (HN n) aK) (bu aj7 ar) mixed Tryz.func113 (by kernel_rfl) (by kernel_rfl) (by kernel_rfl) [] fun _=>by kernel_rfl
theorem UK:∀n,eT aQ aR xo (nF n)
 |0=>tw (s:=xo) (tu (T:=eN aQ) (os:=fun _=>none) Tryz.func113 (by kernel_rfl)) (fun _=>rfl)
 |n+1=>by
  have ih:=UK n
  exact aj6 (nF n) n ih
theorem aj8(n:Nat):eT aQ aR xo (nF n):=(UK n)
theorem UL(n:Nat):a8 aQ aR 67 (r7 n):=
 dK ⟨eN aQ,aR,tabC [(42,nC n)],n,[],cn [],cn [],cn [],fv [],tabH [(17,⟨xo,nF n,6010,[]⟩)],fI [],fy []⟩ (tok _) (a3 (D3 n) aK) (bu (aj8 n) ar) mixed rfl Tryz.func67 (by kernel_rfl) (by kernel_rfl) (fun _ _=>by kernel_rfl)
theorem aj9(n:Nat):a8 aQ aR 111 (wy n):=
 dK (bx n [(67,r7 n)] [(2,⟨[ao 1,cO 4 5000,ao 11,ao 12,ao 13],[b9 5000 7],[.slot 4 5000 7]⟩)] [] [(0,⟨[cO 4 5000],[b9 5000 7],[]⟩)]) (tok _) (a3 (UL n) aK) ar mixed rfl Tryz.func111 (by kernel_rfl) (by kernel_rfl) (fun _ _=>by kernel_rfl)
theorem aka(n:Nat):a8 aQ aR 65 (CZ n):=
 cg ⟨eN aQ,aR,tabC [(109,nE n),(110,wv n),(111,wy n)],n,[],cn [],cn [],cn [],fv [(4,[1,2,0,3,4,5,6,7]),(7,[1,2,0,3,4,5,6,7]),(10,[1,2,0,3,4,5,6,7]),(13,[1,2,0,3,4,5,6,7]),(16,[1,2,0,3,4,5,6,7]),(19,[1,2,0,3,4,5,6,7])],tabH [],fI [],fy []⟩ (tok _) (a3 (aj4 n) (a3 (aj5 n) (a3 (aj9 n) aK))) ar mixed rfl Tryz.func65 (by kernel_rfl) (by kernel_rfl) (fun _=>by kernel_rfl)
theorem HO(n:Nat):a8 aQ aR 31 (nG n):=
 cg (bx n [(64,ov n),(65,CZ n)] [] [] []) (tok _) (a3 (aj3 n) (a3 (aka n) aK)) ar mixed rfl Tryz.func31 (by kernel_rfl) (by kernel_rfl) (fun _=>by kernel_rfl)
theorem akb(n:Nat):a8 aQ aR 80 (y8 n):=
 dK (bx n [] [(4,⟨[ao 1,ao 16,ao 17,ao 18],[],[]⟩)] [(28000008,⟨[ao 1,ao 5,ao 7,ao 8,ao 16,ao 17,ao 18],[],[]⟩)] [(0,⟨[],[],[]⟩)]) (tok _) aK ar mixed rfl Tryz.func80 (by kernel_rfl) (by kernel_rfl) (fun _ _=>by kernel_rfl)
theorem UM(n:Nat):a8 aQ aR 149 (nH n):=
 cg (bx n [] [] [] []) (tok _) aK ar mixed rfl Tryz.func149 (by kernel_rfl) (by kernel_rfl) (fun _=>by kernel_rfl)
theorem akc(n:Nat):a8 aQ aR 186 (C1 n):=
 dK (bx n [] [] [] []) (tok _) aK ar mixed rfl Tryz.func186 (by kernel_rfl) (by kernel_rfl) (fun _ _=>by kernel_rfl)
theorem UN(n:Nat):a8 aQ aR 150 (qO n):=
 dK (bx n [(186,C1 n)] [] [] []) (tok _) (a3 (akc n) aK) ar mixed rfl Tryz.func150 (by kernel_rfl) (by kernel_rfl) (fun _ _=>by kernel_rfl)
theorem akd(n:Nat):a8 aQ aR 202 (wA n):=
 cg (bx n [] [] [] []) (tok _) aK ar mixed rfl Tryz.func202 (by kernel_rfl) (by kernel_rfl) (fun _=>by kernel_rfl)
theorem ake(n:Nat):a8 aQ aR 201 (Hl n):=
 dK (bx n [] [] [] []) (tok _) aK ar mixed rfl Tryz.func201 (by kernel_rfl) (by kernel_rfl) (fun _ _=>by kernel_rfl)
theorem akf(n:Nat):a8 aQ aR 187 (tJ n):=
 dK (bx n [(202,wA n),(201,Hl n)] [] [] []) (tok _) (a3 (akd n) (a3 (ake n) aK)) ar mixed rfl Tryz.func187 (by kernel_rfl) (by kernel_rfl) (fun _ _=>by kernel_rfl)
theorem akg(n:Nat):a8 aQ aR 151 (iB n):=
 dK (bx n [(149,nH n),(150,qO n),(187,tJ n)] [(29,⟨[ao 1,sp 2,ao 6,ao 147,ao 148,ao 149],[aX 2 4],[]⟩)] [(35007000,⟨[ao 1,sp 2,ao 10,ao 35],[aX 2 4],[]⟩)] [(1,⟨[ao 1,sp 2,ao 6],[aX 2 4],[]⟩)]) (tok _) (a3 (UM n) (a3 (UN n) (a3 (akf n) aK))) ar mixed rfl Tryz.func151 (by kernel_rfl) (by kernel_rfl) (fun _ _=>by kernel_rfl)
theorem akh(wG:List D→Option (List D))(n:Nat)(aki:eT aQ aR xp wG):eT aQ aR xp (sb wG n):=
 mS ⟨eN aQ,aR,tabC [(149,nH n),(150,qO n),(151,iB n)],n,[10000,10001,10002,10003,10004],cn [(3,⟨[(1,.b (.ptr 10000 0)),(2,.b (.ptr 10001 0)),(3,.b (.ptr 10002 0)),(4,.b (.ptr 10003 0)),(5,.b (.ptr 10004 0)),sp 6,cO 9 5000,ao 17,ao 18,ao 19],[(10000,.box [.fn (.func vx) [] [.ptr 10000 0,.ptr 10001 0,.ptr 10002 0,.ptr 10003 0,.ptr 10004 0]]),aX 10001 1,aX 10002 1,aX 10003 1,aX 10004 1,aX 6 4,b9 5000 1],[.slot 9 5000 1]⟩)],cn [(43013000,⟨[(2,.b (.ptr 10001 0)),(3,.b (.ptr 10002 0)),(4,.b (.ptr 10003 0)),(5,.b (.ptr 10004 0)),sp 6,cO 9 5000,ao 37,ao 43],[aX 10001 1,aX 10002 1,aX 10003 1,aX 10004 1,aX 6 4,b9 5000 1,(10000,.box [.fn (.func vx) [] [.ptr 10000 0,.ptr 10001 0,.ptr 10002 0,.ptr 10003 0,.ptr 10004 0]])],[]⟩),(48016000,⟨[(2,.b (.ptr 10001 0)),(3,.b (.ptr 10002 0)),(4,.b (.ptr 10003 0)),(5,.b (.ptr 10004 0)),sp 6,cO 9 5000,ao 48],[aX 10001 1,aX 10002 1,aX 10003 1,aX 10004 1,aX 6 4,b9 5000 1,(10000,.box [.fn (.func vx) [] [.ptr 10000 0,.ptr 10001 0,.ptr 10002 0,.ptr 10003 0,.ptr 10004 0]])],[]⟩),(58000019,⟨[(5,.b (.ptr 10004 0)),ao 14,ao 15],[aX 10004 1,(10000,.box [.fn (.func vx) [] [.ptr 10000 0,.ptr 10001 0,.ptr 10002 0,.ptr 10003 0,.ptr 10004 0]]),aX 10001 1,aX 10002 1,aX 10003 1],[]⟩)],cn [(0,⟨[(2,.b (.ptr 10001 0)),(3,.b (.ptr 10002 0)),(4,.b (.ptr 10003 0)),(5,.b (.ptr 10004 0)),sp 6,cO 9 5000],[aX 10001 1,aX 10002 1,aX 10003 1,aX 10004 1,aX 6 4,b9 5000 1,(10000,.box [.fn (.func vx) [] [.ptr 10000 0,.ptr 10001 0,.ptr 10002 0,.ptr 10003 0,.ptr 10004 0]])],[]⟩)],fv [],tabH [(26,⟨xp,wG,6020,[]⟩)],fI [],fy []⟩ (tok _) (a3 (UM n) (a3 (UN n) (a3 (akg n) aK))) (bu aki ar) mixed Tryz.func148 (by kernel_rfl) (by kernel_rfl) (by kernel_rfl) [] fun _=>by kernel_rfl
theorem UO:∀n,eT aQ aR xp (sc n)
 |0=>tw (s:=xp) (tu (T:=eN aQ) (os:=fun _=>none) Tryz.func148 (by kernel_rfl)) (fun _=>rfl)
 |n+1=>by
  have ih:=UO n
  exact akh (sc n) n ih
theorem akj(n:Nat):eT aQ aR xp (sc n):=(UO n)
theorem UP(n:Nat):a8 aQ aR 102 (pF n):=
 yy ⟨eN aQ,aR,tabC [(115,qK n),(147,vX n)],n,[],cn [],cn [],cn [],fv [],tabH [(34,⟨xp,sc n,6010,[]⟩)],fI [],fy []⟩ (tok _) (a3 (Na n) (a3 (UF n) aK)) (bu (akj n) ar) mixed rfl Tryz.func102 (by kernel_rfl) (by kernel_rfl) (fun _ _ _ _=>by kernel_rfl)
theorem Nc(n:Nat):a8 aQ aR 73 (sd n):=
 yy (bx n [(102,pF n)] [] [] []) (tok _) (a3 (UP n) aK) ar mixed rfl Tryz.func73 (by kernel_rfl) (by kernel_rfl) (fun _ _ _ _=>by kernel_rfl)
theorem akk(n:Nat)(ab:D)(x1:List D)(ig:List D)(tM:List D){r:D}(h:Hn n ab x1 ig tM=some r):dz aQ aR 101 [ab,.ref x1 0,.ref ig 0,.ref tM 0] (·=r):=
 dM (bx n [(73,sd n)] [] [] []) (tok _) (a3 (Nc n) aK) ar mixed rfl Tryz.func101 (by kernel_rfl) (bA (l2 mR (l2 mR (l2 mR le_nil)))) (by kernel_rfl) (by kernel_rfl) h
theorem akl(n:Nat):a8 aQ aR 101 (Db n):=by
 intro aF r h
 unfold Db at h
 split at h
 case h_2=>cases h
 split at h
 case h_2=>cases h
 split at h
 case h_2=>cases h
 split at h
 case h_2=>cases h
 exact akk n _ _ _ _ h
theorem akm(n:Nat)(ab:D)(b7:D)(nJ:D)(nK:D){r:D}(h:Dd n ab b7 nJ nK=some r):dz aQ aR 146 [ab,(D.fn (.func ph) [] [b7,nJ,nK])] (·=r):=
 dM (bx n [(101,Db n)] [(2,⟨[ao 0,(1,.b (.fd ph 3)),ao 7,ao 8],[],[]⟩)] [] [(0,⟨[],[],[]⟩)]) (tok _) (a3 (akl n) aK) ar mixed rfl Tryz.func146 (by kernel_rfl) (bA (bA le_nil)) (by kernel_rfl) (by kernel_rfl) h
theorem akn(n:Nat):a8 aQ aR 146 (wH n):=by
 intro aF r h
 unfold wH at h
 split at h
 case h_2=>cases h
 split at h
 case h_2=>cases h
 rename_i aj
 obtain rfl:=j5 aj
 exact akm n _ _ _ _ h
theorem ako(n:Nat)(ab:D)(b7:D)(nJ:D)(nK:D){r:D}(h:Ho n ab b7 nJ nK=some r):dz aQ aR 100 [ab,(D.fn (.func ph) [] [b7,nJ,nK])] (·=r):=
 dM (bx n [(146,wH n)] [] [] []) (tok _) (a3 (akn n) aK) ar mixed rfl Tryz.func100 (by kernel_rfl) (bA (bA le_nil)) (by kernel_rfl) (by kernel_rfl) h
theorem akp(n:Nat):a8 aQ aR 100 (wI n):=by
 intro aF r h
 unfold wI at h
 split at h
 case h_2=>cases h
 split at h
 case h_2=>cases h
 rename_i aj
 obtain rfl:=j5 aj
 exact ako n _ _ _ _ h
theorem UQ(n:Nat):a8 aQ aR 53 (wJ n):=
 yy (bx n [(100,wI n)] [] [] []) (tok _) (a3 (akp n) aK) ar mixed rfl Tryz.func53 (by kernel_rfl) (by kernel_rfl) (fun _ _ _ _=>by kernel_rfl)
theorem HP(n:Nat):a8 aQ aR 43 (nL n):=
 dK (bx n [(80,y8 n),(53,wJ n)] [] [] []) (tok _) (a3 (akb n) (a3 (UQ n) aK)) ar mixed rfl Tryz.func43 (by kernel_rfl) (by kernel_rfl) (fun _ _=>by kernel_rfl)
theorem akq(n:Nat):a8 aQ aR 132 (Mp n):=
 cg (bx n [] [(3,⟨[ao 0,ao 11,ao 12],[],[]⟩)] [] [(0,⟨[ao 0],[],[]⟩)]) (tok _) aK ar mixed rfl Tryz.func132 (by kernel_rfl) (by kernel_rfl) (fun _=>by kernel_rfl)
theorem akr(l7:List D→Option D)(nM:List D→Option D)(n:Nat)(ab:D)(ah:D)(ig:List D)(UR:a8 aQ aR 131 l7)(Nd:a8 aQ aR 87 nM){r:D}(h:TE l7 nM n ab ah ig=some r):dz aQ aR 131 [ab,ah,.ref ig 0] (·=r):=
 dM ⟨eN aQ,aR,tabC [(87,nM)],n,[],cn [(3,⟨[ao 1,sp 5,sp 6,ao 12,ao 13,ao 14],[aX 5 6,(6,.box [.b (.d),.b (.d),.b (.d),.b (.d),.b (.d),.b (.row 5000)]),b9 5000 6],[.box 6 5 5000 6]⟩)],cn [],cn [(0,⟨[sp 5,sp 6],[aX 5 6,(6,.box [.b (.d),.b (.d),.b (.d),.b (.d),.b (.d),.b (.row 5000)]),b9 5000 6],[]⟩)],fv [],tabH [],fI [20005],fy []⟩ (tok _) (a3 Nd aK) ar mixed rfl Tryz.func131 (by kernel_rfl) (bA (bA (l2 mR le_nil))) (by kernel_rfl) (by kernel_rfl) h
theorem aks(l7:List D→Option D)(nM:List D→Option D)(n:Nat)(ab:D)(ah:D)(UR:a8 aQ aR 131 l7)(Nd:a8 aQ aR 87 nM){r:D}(h:TF l7 nM n ab ah=some r):dz aQ aR 87 [ab,ah] (·=r):=
 dM ⟨eN aQ,aR,tabC [(87,nM),(131,l7),(132,Mp n)],n,[],cn [],cn [(67000015,⟨[sp 4,sp 6],[aX 4 6,aX 6 6],[]⟩)],cn [],fv [],tabH [],fI [20004,45,52,66,20006,79,84],fy []⟩ (tok _) (a3 Nd (a3 UR (a3 (akq n) aK))) ar mixed rfl Tryz.func87 (by kernel_rfl) (bA (bA le_nil)) (by kernel_rfl) (by kernel_rfl) h
theorem US:∀n,a8 aQ aR 131 (zc n)∧a8 aQ aR 87 (se n)
 |0=>⟨(fun _ _ h=>by cases h),(fun _ _ h=>by cases h)⟩
 |n+1=>by
  have ih:=US n
  exact ⟨(by
   intro aF r h
   unfold zc at h
   split at h
   case h_2=>cases h
   split at h
   case h_2=>cases h
   exact akr (zc n) (se n) n _ _ _ ih.1 ih.2 h),(by
   intro aF r h
   unfold se at h
   split at h
   case h_2=>cases h
   exact aks (zc n) (se n) n _ _ ih.1 ih.2 h)⟩
theorem akt(n:Nat):a8 aQ aR 87 (se n):=(US n).2
theorem UT(n:Nat):a8 aQ aR 45 (zd n):=
 dK (bx n [(42,nC n),(87,se n)] [] [] []) (tok _) (a3 (D3 n) (a3 (akt n) aK)) ar mixed rfl Tryz.func45 (by kernel_rfl) (by kernel_rfl) (fun _ _=>by kernel_rfl)
theorem aku(n:Nat):a8 aQ aR 81 (Mq n):=
 cg (bx n [] [] [(11009000,⟨[sp 1,ao 4,ao 11],[aX 1 6],[]⟩),(11010000,⟨[sp 1,ao 4,ao 11],[aX 1 6],[]⟩),(11011000,⟨[sp 1,ao 4,ao 11],[aX 1 6],[]⟩),(16014000,⟨[sp 1,ao 4,ao 16],[aX 1 6],[]⟩),(16015000,⟨[sp 1,ao 4,ao 16],[aX 1 6],[]⟩),(16016000,⟨[sp 1,ao 4,ao 16],[aX 1 6],[]⟩),(21000019,⟨[],[],[]⟩),(23020000,⟨[],[],[]⟩)] [(0,⟨[],[],[]⟩),(1,⟨[],[],[]⟩)]) (tok _) aK ar mixed rfl Tryz.func81 (by kernel_rfl) (by kernel_rfl) (fun _=>by kernel_rfl)
theorem UU(n:Nat):a8 aQ aR 82 (ze n):=
 dK (bx n [] [(4,⟨[ao 0,ao 1,ao 12,ao 13],[],[]⟩)] [] [(0,⟨[],[],[]⟩)]) (tok _) aK ar mixed rfl Tryz.func82 (by kernel_rfl) (by kernel_rfl) (fun _ _=>by kernel_rfl)
theorem akv(wK:List D→Option D)(n:Nat)(ab:D)(ah:D)(akw:a8 aQ aR 126 wK){r:D}(h:TG wK n ab ah=some r):dz aQ aR 126 [ab,ah] (·=r):=
 dM (bx n [(126,wK)] [(4,⟨[sp 3,ao 36,ao 37,ao 38],[aX 3 4],[]⟩)] [] [(0,⟨[],[],[]⟩)]) (tok _) (a3 akw aK) ar mixed rfl Tryz.func126 (by kernel_rfl) (bA (bA le_nil)) (by kernel_rfl) (by kernel_rfl) h
theorem UW:∀n,a8 aQ aR 126 (wM n)
 |0=>(fun _ _ h=>by cases h)
 |n+1=>by
  have ih:=UW n
  exact (by
   intro aF r h
   unfold wM at h
   split at h
   case h_2=>cases h
   exact akv (wM n) n _ _ ih h)
theorem akx(n:Nat):a8 aQ aR 126 (wM n):=(UW n)
theorem aky(pG:List D→Option D)(pH:List D→Option D)(n:Nat)(ab:D)(ah:D)(UX:a8 aQ aR 127 pG)(UY:a8 aQ aR 83 pH){r:D}(h:TH pG pH n ab ah=some r):dz aQ aR 127 [ab,ah,(D.val (.func (.func GC) #[] #[]))] (·=r):=
 dM (bx n [(83,pH)] [(4,⟨[ao 1,(2,.b (.A9 GC)),ao 15,ao 16,ao 17],[],[]⟩)] [] [(0,⟨[],[],[]⟩)]) (tok _) (a3 UY aK) ar mixed rfl Tryz.func127 (by kernel_rfl) (bA (bA (bA le_nil))) (by kernel_rfl) (by kernel_rfl) h
theorem akz(pG:List D→Option D)(pH:List D→Option D)(n:Nat)(ab:D)(ah:D)(UX:a8 aQ aR 127 pG)(UY:a8 aQ aR 83 pH){r:D}(h:TI pG pH n ab ah=some r):dz aQ aR 83 [ab,ah] (·=r):=
 dM (bx n [(126,wM n),(127,pG)] [] [] []) (tok _) (a3 (akx n) (a3 UX aK)) ar mixed rfl Tryz.func83 (by kernel_rfl) (bA (bA le_nil)) (by kernel_rfl) (by kernel_rfl) h
theorem UZ:∀n,a8 aQ aR 127 (zf n)∧a8 aQ aR 83 (pI n)
 |0=>⟨(fun _ _ h=>by cases h),(fun _ _ h=>by cases h)⟩
 |n+1=>by
  have ih:=UZ n
  exact ⟨(by
   intro aF r h
   unfold zf at h
   split at h
   case h_2=>cases h
   obtain ⟨aj,h⟩:=kv h
   obtain rfl:=La aj
   exact aky (zf n) (pI n) n _ _ ih.1 ih.2 h),(by
   intro aF r h
   unfold pI at h
   split at h
   case h_2=>cases h
   exact akz (zf n) (pI n) n _ _ ih.1 ih.2 h)⟩
theorem U0(n:Nat):a8 aQ aR 83 (pI n):=(UZ n).2
theorem akA(n:Nat)(ab:D)(x1:List D){r:D}(h:Hp n ab x1=some r):dz aQ aR 104 [ab,.ref x1 0] (·=r):=
 dM (bx n [] [] [] []) (tok _) aK ar mixed rfl Tryz.func104 (by kernel_rfl) (bA (l2 mR le_nil)) (by kernel_rfl) (by kernel_rfl) h
theorem akB(n:Nat):a8 aQ aR 104 (Dh n):=by
 intro aF r h
 unfold Dh at h
 split at h
 case h_2=>cases h
 split at h
 case h_2=>cases h
 exact akA n _ _ h
theorem akC(n:Nat)(ab:D)(b7:D){r:D}(h:Dj n ab b7=some r):dz aQ aR 103 [ab,(D.fn (.func yH) [] [b7])] (·=r):=
 dM (bx n [(104,Dh n)] [(2,⟨[ao 0,(1,.b (.fd yH 1)),ao 7,ao 8],[],[]⟩)] [] [(0,⟨[],[],[]⟩)]) (tok _) (a3 (akB n) aK) ar mixed rfl Tryz.func103 (by kernel_rfl) (bA (bA le_nil)) (by kernel_rfl) (by kernel_rfl) h
theorem akD(n:Nat):a8 aQ aR 103 (wN n):=by
 intro aF r h
 unfold wN at h
 split at h
 case h_2=>cases h
 split at h
 case h_2=>cases h
 rename_i aj
 obtain rfl:=j5 aj
 exact akC n _ _ h
theorem U1(n:Nat):a8 aQ aR 55 (ow n):=
 hk (bx n [(43,nL n),(102,pF n),(103,wN n),(53,wJ n)] [(4,⟨[ao 1,ao 2,sp 3,ao 24,ao 25,ao 26],[aX 3 9],[]⟩)] [] [(0,⟨[ao 1,ao 2,sp 3],[aX 3 9],[]⟩)]) (tok _) (a3 (HP n) (a3 (UP n) (a3 (akD n) (a3 (UQ n) aK)))) ar mixed rfl Tryz.func55 (by kernel_rfl) (by kernel_rfl) (fun _ _ _=>by kernel_rfl)
theorem U2(n:Nat):a8 aQ aR 38 (l8 n):=
 hk (bx n [(43,nL n),(55,ow n),(73,sd n)] [(4,⟨[ao 1,ao 2,sp 3,ao 7],[aX 3 9],[]⟩),(11,⟨[ao 1,ao 2,sp 3,ao 61,ao 62,ao 63],[aX 3 9],[]⟩),(14,⟨[ao 1,ao 2,sp 3,sp 9,ao 61,ao 62,ao 63,ao 69,ao 70,ao 71],[aX 3 9,aX 9 4],[]⟩)] [] [(0,⟨[ao 1,ao 2,sp 3],[aX 3 9],[]⟩),(2,⟨[],[],[]⟩),(3,⟨[ao 1,ao 2,sp 3,ao 61,ao 62,ao 63],[aX 3 9],[]⟩),(4,⟨[],[],[]⟩)]) (tok _) (a3 (HP n) (a3 (U1 n) (a3 (Nc n) aK))) ar mixed rfl Tryz.func38 (by kernel_rfl) (by kernel_rfl) (fun _ _ _=>by kernel_rfl)
theorem akE(n:Nat):a8 aQ aR 112 (Mr n):=
 dK (bx n [] [] [] []) (tok _) aK ar mixed rfl Tryz.func112 (by kernel_rfl) (by kernel_rfl) (fun _ _=>by kernel_rfl)
theorem akF(wQ:List D→Option D)(n:Nat)(ab:D)(ah:D)(akG:a8 aQ aR 76 wQ){r:D}(h:TJ wQ n ab ah=some r):dz aQ aR 76 [ab,ah,(D.val (.func (.func BJ) #[] #[]))] (·=r):=
 dM (bx n [(112,Mr n),(76,wQ)] [(4,⟨[ao 1,(2,.b (.A9 BJ)),ao 15,ao 16,ao 17],[],[]⟩)] [] [(0,⟨[],[],[]⟩)]) (tok _) (a3 (akE n) (a3 akG aK)) ar mixed rfl Tryz.func76 (by kernel_rfl) (bA (bA (bA le_nil))) (by kernel_rfl) (by kernel_rfl) h
theorem U3:∀n,a8 aQ aR 76 (wR n)
 |0=>(fun _ _ h=>by cases h)
 |n+1=>by
  have ih:=U3 n
  exact (by
   intro aF r h
   unfold wR at h
   split at h
   case h_2=>cases h
   obtain ⟨aj,h⟩:=kv h
   obtain rfl:=La aj
   exact akF (wR n) n _ _ ih h)
theorem akH(n:Nat):a8 aQ aR 76 (wR n):=(U3 n)
theorem akI(n:Nat):a8 aQ aR 66 (Ms n):=
 cg (bx n [(76,wR n)] [] [] []) (tok _) (a3 (akH n) aK) ar mixed rfl Tryz.func66 (by kernel_rfl) (by kernel_rfl) (fun _=>by kernel_rfl)
theorem akJ(ka:List D→Option D)(kb:List D→Option D)(kc:List D→Option D)(kd:List D→Option D)(n:Nat)(ab:D)(x1:List D)(HQ:a8 aQ aR 117 ka)(HR:a8 aQ aR 165 kb)(HS:a8 aQ aR 116 kc)(HT:a8 aQ aR 68 kd){r:D}(h:TK ka kb kc kd n ab x1=some r):dz aQ aR 117 [ab,.ref x1 0] (·=r):=
 dM (bx n [(68,kd)] [] [] []) (tok _) (a3 HT aK) ar mixed rfl Tryz.func117 (by kernel_rfl) (bA (l2 mR le_nil)) (by kernel_rfl) (by kernel_rfl) h
theorem akK(ka:List D→Option D)(kb:List D→Option D)(kc:List D→Option D)(kd:List D→Option D)(n:Nat)(ab:D)(b7:D)(HQ:a8 aQ aR 117 ka)(HR:a8 aQ aR 165 kb)(HS:a8 aQ aR 116 kc)(HT:a8 aQ aR 68 kd){r:D}(h:TL ka kb kc kd n ab b7=some r):dz aQ aR 165 [ab,(D.fn (.func vw) [] [b7])] (·=r):=
 dM (bx n [(117,ka)] [(2,⟨[ao 0,(1,.b (.fd vw 1)),ao 7,ao 8],[],[]⟩)] [] [(0,⟨[],[],[]⟩)]) (tok _) (a3 HQ aK) ar mixed rfl Tryz.func165 (by kernel_rfl) (bA (bA le_nil)) (by kernel_rfl) (by kernel_rfl) h
theorem akL(ka:List D→Option D)(kb:List D→Option D)(kc:List D→Option D)(kd:List D→Option D)(n:Nat)(ab:D)(b7:D)(HQ:a8 aQ aR 117 ka)(HR:a8 aQ aR 165 kb)(HS:a8 aQ aR 116 kc)(HT:a8 aQ aR 68 kd){r:D}(h:TM ka kb kc kd n ab b7=some r):dz aQ aR 116 [ab,(D.fn (.func vw) [] [b7])] (·=r):=
 dM (bx n [(165,kb)] [] [] []) (tok _) (a3 HR aK) ar mixed rfl Tryz.func116 (by kernel_rfl) (bA (bA le_nil)) (by kernel_rfl) (by kernel_rfl) h
theorem akM(ka:List D→Option D)(kb:List D→Option D)(kc:List D→Option D)(kd:List D→Option D)(n:Nat)(ab:D)(ah:D)(HQ:a8 aQ aR 117 ka)(HR:a8 aQ aR 165 kb)(HS:a8 aQ aR 116 kc)(HT:a8 aQ aR 68 kd){r:D}(h:TN ka kb kc kd n ab ah=some r):dz aQ aR 68 [ab,ah] (·=r):=
 dM (bx n [(115,qK n),(116,kc)] [] [] []) (tok _) (a3 (Na n) (a3 HS aK)) ar mixed rfl Tryz.func68 (by kernel_rfl) (bA (bA le_nil)) (by kernel_rfl) (by kernel_rfl) h
theorem U4:∀n,a8 aQ aR 117 (qP n)∧a8 aQ aR 165 (qQ n)∧a8 aQ aR 116 (qR n)∧a8 aQ aR 68 (nN n)
 |0=>⟨(fun _ _ h=>by cases h),(fun _ _ h=>by cases h),(fun _ _ h=>by cases h),(fun _ _ h=>by cases h)⟩
 |n+1=>by
  have ih:=U4 n
  exact ⟨(by
   intro aF r h
   unfold qP at h
   split at h
   case h_2=>cases h
   split at h
   case h_2=>cases h
   exact akJ (qP n) (qQ n) (qR n) (nN n) n _ _ ih.1 ih.2.1 ih.2.2.1 ih.2.2.2 h),(by
   intro aF r h
   unfold qQ at h
   split at h
   case h_2=>cases h
   split at h
   case h_2=>cases h
   rename_i aj
   obtain rfl:=j5 aj
   exact akK (qP n) (qQ n) (qR n) (nN n) n _ _ ih.1 ih.2.1 ih.2.2.1 ih.2.2.2 h),(by
   intro aF r h
   unfold qR at h
   split at h
   case h_2=>cases h
   split at h
   case h_2=>cases h
   rename_i aj
   obtain rfl:=j5 aj
   exact akL (qP n) (qQ n) (qR n) (nN n) n _ _ ih.1 ih.2.1 ih.2.2.1 ih.2.2.2 h),(by
   intro aF r h
   unfold nN at h
   split at h
   case h_2=>cases h
   exact akM (qP n) (qQ n) (qR n) (nN n) n _ _ ih.1 ih.2.1 ih.2.2.1 ih.2.2.2 h)⟩
theorem akN(n:Nat):a8 aQ aR 68 (nN n):=(U4 n).2.2.2
theorem akO(pJ:List D→Option D)(n:Nat)(ab:D)(ah:D)(aT:D)(akP:a8 aQ aR 69 pJ){r:D}(h:TO pJ n ab ah aT=some r):dz aQ aR 69 [ab,ah,aT] (·=r):=
 dM (bx n [(73,sd n),(69,pJ)] [] [] []) (tok _) (a3 (Nc n) (a3 akP aK)) ar mixed rfl Tryz.func69 (by kernel_rfl) (bA (bA (bA le_nil))) (by kernel_rfl) (by kernel_rfl) h
theorem U5:∀n,a8 aQ aR 69 (wS n)
 |0=>(fun _ _ h=>by cases h)
 |n+1=>by
  have ih:=U5 n
  exact (by
   intro aF r h
   unfold wS at h
   split at h
   case h_2=>cases h
   exact akO (wS n) n _ _ _ ih h)
theorem akQ(n:Nat):a8 aQ aR 69 (wS n):=(U5 n)
theorem U6(n:Nat):a8 aQ aR 32 (zk n):=
 hk (bx n [(42,nC n),(66,Ms n),(43,nL n),(67,r7 n),(68,nN n),(69,wS n)] [] [] []) (tok _) (a3 (D3 n) (a3 (akI n) (a3 (HP n) (a3 (UL n) (a3 (akN n) (a3 (akQ n) aK)))))) ar mixed rfl Tryz.func32 (by kernel_rfl) (by kernel_rfl) (fun _ _ _=>by kernel_rfl)
theorem akR(n:Nat):a8 aQ aR 128 (Mv n):=
 hk (bx n [(32,zk n)] [] [] []) (tok _) (a3 (U6 n) aK) ar mixed rfl Tryz.func128 (by kernel_rfl) (by kernel_rfl) (fun _ _ _=>by kernel_rfl)
theorem HU(n:Nat):eT aQ aR D2 (sg n):=
 mS ⟨eN aQ,aR,tabC [],n,[10000,10001],cn [(2,⟨[(3,.b (.ptr 10001 0)),sp 4,ao 11,ao 12,ao 13],[(10001,.box [.b (.row 9000)]),aX 4 6,aX 10000 12,b9 9000 7],[]⟩)],cn [],cn [(0,⟨[],[aX 10000 12,(10001,.box [.b (.row 9000)]),b9 9000 7],[]⟩)],fv [],tabH [],fI [],fy []⟩ (tok _) aK ar mixed Tryz.func181 (by kernel_rfl) (by kernel_rfl) (by kernel_rfl) [] fun _=>by kernel_rfl
theorem akS(n:Nat):a8 aQ aR 129 (Mx n):=
 dK ⟨eN aQ,aR,tabC [(45,zd n)],n,[],cn [],cn [],cn [],fv [(13,[1,2,3,4,5,6,0,7]),(14,[0,1,2,3,4,5]),(18,[1,2,3,4,5,6,0])],tabH [(69,⟨D2,sg n,6010,[.box 4 0 5900 7]⟩),(85,⟨D2,sg n,6020,[.box 4 0 5901 7]⟩),(117,⟨D2,sg n,6030,[.box 4 0 5902 7]⟩),(126,⟨D2,sg n,6040,[.box 4 0 5903 7]⟩)],fI [],fy []⟩ (tok _) (a3 (UT n) aK) (bu (HU n) (bu (HU n) (bu (HU n) (bu (HU n) ar)))) mixed rfl Tryz.func129 (by kernel_rfl) (by kernel_rfl) (fun _ _=>by kernel_rfl)
theorem akT(n:Nat):a8 aQ aR 84 (My n):=
 hk ⟨(eN Tryz.prog).qn [62],aR,tabC [(128,Mv n),(129,Mx n)],n,[],cn [],cn [],cn [],fv [],tabH [],fI [],fy []⟩ ((tok _).qn _) (a3 (akR n) (a3 (akS n) aK)) ar mixed rfl Tryz.func84 (by kernel_rfl) (by kernel_rfl) (fun _ _ _=>by kernel_rfl)
theorem akU(n:Nat)(ab:D)(x1:List D){r:D}(h:TP n ab x1=some r):dz aQ aR 86 [ab,.ref x1 0] (·=r):=
 dM (bx n [(82,ze n),(83,pI n)] [] [] []) (tok _) (a3 (UU n) (a3 (U0 n) aK)) ar mixed rfl Tryz.func86 (by kernel_rfl) (bA (l2 mR le_nil)) (by kernel_rfl) (by kernel_rfl) h
theorem akV(n:Nat):a8 aQ aR 86 (Hr n):=by
 intro aF r h
 unfold Hr at h
 split at h
 case h_2=>cases h
 split at h
 case h_2=>cases h
 exact akU n _ _ h
theorem akW(n:Nat)(ab:D)(b7:D){r:D}(h:TQ n ab b7=some r):dz aQ aR 130 [ab,(D.fn (.func vv) [] [b7])] (·=r):=
 dM (bx n [(86,Hr n)] [(2,⟨[ao 0,(1,.b (.fd vv 1)),ao 7,ao 8],[],[]⟩)] [] [(0,⟨[],[],[]⟩)]) (tok _) (a3 (akV n) aK) ar mixed rfl Tryz.func130 (by kernel_rfl) (bA (bA le_nil)) (by kernel_rfl) (by kernel_rfl) h
theorem akX(n:Nat):a8 aQ aR 130 (Hs n):=by
 intro aF r h
 unfold Hs at h
 split at h
 case h_2=>cases h
 split at h
 case h_2=>cases h
 rename_i aj
 obtain rfl:=j5 aj
 exact akW n _ _ h
theorem akY(n:Nat)(ab:D)(b7:D){r:D}(h:TR n ab b7=some r):dz aQ aR 85 [ab,(D.fn (.func vv) [] [b7])] (·=r):=
 dM (bx n [(130,Hs n)] [] [] []) (tok _) (a3 (akX n) aK) ar mixed rfl Tryz.func85 (by kernel_rfl) (bA (bA le_nil)) (by kernel_rfl) (by kernel_rfl) h
theorem akZ(n:Nat):a8 aQ aR 85 (Ht n):=by
 intro aF r h
 unfold Ht at h
 split at h
 case h_2=>cases h
 split at h
 case h_2=>cases h
 rename_i aj
 obtain rfl:=j5 aj
 exact akY n _ _ h
theorem ak0(wU:List D→Option (List D))(n:Nat)(ak1:eT aQ aR xq wU):eT aQ aR xq (TS wU n):=
 mS ⟨eN aQ,aR,tabC [(81,Mq n),(82,ze n),(83,pI n),(38,l8 n),(84,My n),(85,Ht n)],n,[10000],cn [(11,⟨[(3,.b (.ptr 10000 0)),sp 4,sp 6,ao 108,ao 109,ao 110],[(10000,.box [.b (.row 106)]),aX 4 9,aX 6 12,b9 106 7],[]⟩)],cn [(95000009,⟨[(3,.b (.ptr 10000 0)),sp 4,sp 6,ao 9],[(10000,.box [.b (.row 106)]),aX 4 9,aX 6 12,b9 106 7],[]⟩)],cn [(0,⟨[],[(10000,.box [.b (.row 106)]),b9 106 7],[]⟩)],fv [(13,[0,1,2,3,4,5,6,7])],tabH [(123,⟨xq,wU,6010,[]⟩)],fI [],fy []⟩ (tok _) (a3 (aku n) (a3 (UU n) (a3 (U0 n) (a3 (U2 n) (a3 (akT n) (a3 (akZ n) aK)))))) (bu ak1 ar) mixed Tryz.func44 (by kernel_rfl) (by kernel_rfl) (by kernel_rfl) [] fun _=>by kernel_rfl
theorem U7:∀n,eT aQ aR xq (zl n)
 |0=>tw (s:=xq) (tu (T:=eN aQ) (os:=fv [(13,[0,1,2,3,4,5,6,7])]) Tryz.func44 (by kernel_rfl)) (fun _=>rfl)
 |n+1=>by
  have ih:=U7 n
  exact ak0 (zl n) n ih
theorem ak2(n:Nat):eT aQ aR xq (zl n):=(U7 n)
theorem ak3(n:Nat):a8 aQ aR 15 (Mz n):=
 yy ⟨eN aQ,aR,tabC [(31,nG n),(42,nC n),(43,nL n),(45,zd n)],n,[],cn [],cn [],cn [],fv [(9,[0,1,5,2,3,4])],tabH [(36,⟨xq,zl n,6010,[.box 8 0 5900 7]⟩)],fI [],fy []⟩ (tok _) (a3 (HO n) (a3 (D3 n) (a3 (HP n) (a3 (UT n) aK)))) (bu (ak2 n) ar) mixed rfl Tryz.func15 (by kernel_rfl) (by kernel_rfl) (fun _ _ _ _=>by kernel_rfl)
theorem ak4(n:Nat):a8 aQ aR 10 (MA n):=
 hk (bx n [(31,nG n),(32,zk n)] [] [] []) (tok _) (a3 (HO n) (a3 (U6 n) aK)) ar mixed rfl Tryz.func10 (by kernel_rfl) (by kernel_rfl) (fun _ _ _=>by kernel_rfl)
theorem ak5(n:Nat):a8 aQ aR 23 (MB n):=
 hk (bx n [(31,nG n),(55,ow n)] [] [] []) (tok _) (a3 (HO n) (a3 (U1 n) aK)) ar mixed rfl Tryz.func23 (by kernel_rfl) (by kernel_rfl) (fun _ _ _=>by kernel_rfl)
theorem U8(n:Nat):a8 aQ aR 12 (qS n):=
 hk (bx n [(31,nG n),(38,l8 n)] [] [] []) (tok _) (a3 (HO n) (a3 (U2 n) aK)) ar mixed rfl Tryz.func12 (by kernel_rfl) (by kernel_rfl) (fun _ _ _=>by kernel_rfl)
theorem ak6(n:Nat):a8 aQ aR 9 (zm n):=
 yn ⟨eN aQ,aR,tabC [(30,LF n),(15,Mz n),(10,MA n),(23,MB n),(12,qS n)],n,[],cn [],cn [],cn [],fv [],tabH [],fI [16,23,27,34],fy []⟩ (tok _) (a3 (aiq n) (a3 (ak3 n) (a3 (ak4 n) (a3 (ak5 n) (a3 (U8 n) aK))))) ar mixed rfl Tryz.func9 (by kernel_rfl) (by kernel_rfl) (by kernel_rfl)
theorem U9(n:Nat):a8 aQ aR 182 (wV n):=
 cg (bx n [] [] [] []) (tok _) aK ar mixed rfl Tryz.func182 (by kernel_rfl) (by kernel_rfl) (fun _=>by kernel_rfl)
theorem ak7(n:Nat):a8 aQ aR 200 (Dn n):=
 cg (bx n [] [] [] []) (tok _) aK ar mixed rfl Tryz.func200 (by kernel_rfl) (by kernel_rfl) (fun _=>by kernel_rfl)
theorem ak8(n:Nat):a8 aQ aR 183 (Dq n):=
 hk (bx n [(200,Dn n),(182,wV n)] [(1,⟨[ao 0,ao 1,ao 2],[],[]⟩)] [] [(0,⟨[ao 1],[],[]⟩)]) (tok _) (a3 (ak7 n) (a3 (U9 n) aK)) ar mixed rfl Tryz.func183 (by kernel_rfl) (by kernel_rfl) (fun _ _ _=>by kernel_rfl)
theorem ak9(n:Nat):a8 aQ aR 185 (Hu n):=
 yn (bx n [] [] [] []) (tok _) aK ar mixed rfl Tryz.func185 (by kernel_rfl) (by kernel_rfl) (by kernel_rfl)
theorem ala(n:Nat):a8 aQ aR 184 (zo n):=
 dK (bx n [] [(2,⟨[ao 0,ao 1,ao 5],[],[]⟩)] [] [(0,⟨[],[],[]⟩)]) (tok _) aK ar mixed rfl Tryz.func184 (by kernel_rfl) (by kernel_rfl) (fun _ _=>by kernel_rfl)
theorem Nf(n:Nat):a8 aQ aR 136 (qT n):=
 cg (bx n [(182,wV n),(183,Dq n),(185,Hu n),(184,zo n)] [] [] []) (tok _) (a3 (U9 n) (a3 (ak8 n) (a3 (ak9 n) (a3 (ala n) aK)))) ar mixed rfl Tryz.func136 (by kernel_rfl) (by kernel_rfl) (fun _=>by kernel_rfl)
theorem alb(n:Nat):a8 aQ aR 137 (zp n):=
 cg (bx n [] [] [] []) (tok _) aK ar mixed rfl Tryz.func137 (by kernel_rfl) (by kernel_rfl) (fun _=>by kernel_rfl)
theorem Va(n:Nat):a8 aQ aR 138 (wW n):=
 cg (bx n [] [] [(19000007,⟨[ao 3],[],[]⟩)] []) (tok _) aK ar mixed rfl Tryz.func138 (by kernel_rfl) (by kernel_rfl) (fun _=>by kernel_rfl)
theorem alc(n:Nat):a8 aQ aR 93 (Dt n):=
 cg (bx n [(136,qT n),(137,zp n),(138,wW n)] [(2,⟨[ao 0,ao 4],[],[]⟩),(7,⟨[ao 0,ao 4,ao 5],[],[]⟩)] [] [(0,⟨[],[],[]⟩),(1,⟨[ao 0,ao 4],[],[]⟩),(2,⟨[ao 0,ao 4],[],[]⟩)]) (tok _) (a3 (Nf n) (a3 (alb n) (a3 (Va n) aK))) ar mixed rfl Tryz.func93 (by kernel_rfl) (by kernel_rfl) (fun _=>by kernel_rfl)
theorem ald(n:Nat):a8 aQ aR 139 (Du n):=
 cg (bx n [] [(2,⟨[ao 0,ao 3],[],[]⟩)] [] [(0,⟨[ao 3],[],[]⟩)]) (tok _) aK ar mixed rfl Tryz.func139 (by kernel_rfl) (by kernel_rfl) (fun _=>by kernel_rfl)
theorem ale(n:Nat):a8 aQ aR 94 (Dv n):=
 cg (bx n [(138,wW n),(139,Du n)] [(3,⟨[sp 1,ao 3,ao 4],[aX 1 8],[]⟩)] [] [(0,⟨[ao 3],[],[]⟩)]) (tok _) (a3 (Va n) (a3 (ald n) aK)) ar mixed rfl Tryz.func94 (by kernel_rfl) (by kernel_rfl) (fun _=>by kernel_rfl)
theorem Vb(n:Nat):a8 aQ aR 140 (wY n):=
 dK (bx n [] [(2,⟨[ao 1,sp 2,ao 5],[aX 2 8],[]⟩)] [] [(0,⟨[],[],[]⟩)]) (tok _) aK ar mixed rfl Tryz.func140 (by kernel_rfl) (by kernel_rfl) (fun _ _=>by kernel_rfl)
theorem Vc(n:Nat):a8 aQ aR 141 (wZ n):=
 dK (bx n [] [(2,⟨[ao 1,sp 2,ao 5],[aX 2 8],[]⟩)] [] [(0,⟨[],[],[]⟩)]) (tok _) aK ar mixed rfl Tryz.func141 (by kernel_rfl) (by kernel_rfl) (fun _ _=>by kernel_rfl)
theorem alf(n:Nat):a8 aQ aR 209 (Dz n):=
 dK (bx n [] [(2,⟨[ao 0,ao 1,ao 5],[],[]⟩)] [] [(0,⟨[],[],[]⟩)]) (tok _) aK ar mixed rfl Tryz.func209 (by kernel_rfl) (by kernel_rfl) (fun _ _=>by kernel_rfl)
theorem alg(n:Nat):a8 aQ aR 208 (w1 n):=
 dK (bx n [(209,Dz n)] [(6,⟨[ao 0,ao 1,cO 5 12,ao 6,ao 7],[b9 12 1],[]⟩)] [(28000009,⟨[ao 0,ao 1,cO 5 32,ao 6,ao 7],[b9 32 1],[]⟩),(41000013,⟨[cO 5 45],[b9 45 1],[]⟩)] [(0,⟨[ao 1,cO 5 12,ao 6],[b9 12 1],[]⟩)]) (tok _) (a3 (alf n) aK) ar mixed rfl Tryz.func208 (by kernel_rfl) (by kernel_rfl) (fun _ _=>by kernel_rfl)
theorem alh(w2:List D→Option D)(n:Nat)(ab:D)(ah:D)(aT:D)(ali:a8 aQ aR 195 w2){r:D}(h:DA w2 n ab ah aT=some r):dz aQ aR 195 [ab,ah,aT] (·=r):=
 dM (bx n [(208,w1 n),(195,w2)] [(4,⟨[ao 1,ao 2,sp 3,ao 7],[aX 3 4],[]⟩)] [(11000002,⟨[ao 1,ao 2,sp 3],[aX 3 4],[]⟩)] [(0,⟨[ao 2],[],[]⟩)]) (tok _) (a3 (alg n) (a3 ali aK)) ar mixed rfl Tryz.func195 (by kernel_rfl) (bA (bA (bA le_nil))) (by kernel_rfl) (by kernel_rfl) h
theorem Vd:∀n,a8 aQ aR 195 (pK n)
 |0=>(fun _ _ h=>by cases h)
 |n+1=>by
  have ih:=Vd n
  exact (by
   intro aF r h
   unfold pK at h
   split at h
   case h_2=>cases h
   exact alh (pK n) n _ _ _ ih h)
theorem alj(n:Nat):a8 aQ aR 195 (pK n):=(Vd n)
theorem Ng(n:Nat):a8 aQ aR 167 (sh n):=
 cg (bx n [(195,pK n)] [] [] []) (tok _) (a3 (alj n) aK) ar mixed rfl Tryz.func167 (by kernel_rfl) (by kernel_rfl) (fun _=>by kernel_rfl)
theorem alk(n:Nat):a8 aQ aR 142 (DB n):=
 dK (bx n [(167,sh n),(141,wZ n)] [(4,⟨[sp 2,cO 5 15,cO 6 17,ao 7],[aX 2 8,b9 15 1,b9 17 1],[]⟩),(8,⟨[sp 2,cO 5 15,cO 6 17,ao 7,ao 8,ao 10],[aX 2 8,b9 15 1,b9 17 1],[]⟩)] [(57000012,⟨[sp 2,cO 5 15,cO 6 64,ao 7,ao 8,ao 10],[aX 2 8,b9 15 1,b9 64 1],[]⟩)] [(0,⟨[cO 5 15],[b9 15 1],[]⟩),(1,⟨[sp 2,cO 5 15,cO 6 17,ao 7],[aX 2 8,b9 15 1,b9 17 1],[]⟩),(2,⟨[sp 2,cO 5 15,cO 6 17,ao 7],[aX 2 8,b9 15 1,b9 17 1],[]⟩),(3,⟨[sp 2,cO 5 15,cO 6 64,ao 7,ao 8,ao 10],[aX 2 8,b9 15 1,b9 64 1],[]⟩)]) (tok _) (a3 (Ng n) (a3 (Vc n) aK)) ar mixed rfl Tryz.func142 (by kernel_rfl) (by kernel_rfl) (fun _ _=>by kernel_rfl)
theorem alm(n:Nat):a8 aQ aR 198 (zr n):=
 cg (bx n [] [] [(5003000,⟨[ao 0,ao 4,ao 5],[],[]⟩),(5004000,⟨[ao 0,ao 4,ao 5],[],[]⟩),(5005000,⟨[ao 0,ao 4,ao 5],[],[]⟩),(12010000,⟨[ao 0,ao 4,ao 12],[],[]⟩)] [(0,⟨[ao 0],[],[]⟩)]) (tok _) aK ar mixed rfl Tryz.func198 (by kernel_rfl) (by kernel_rfl) (fun _=>by kernel_rfl)
theorem Ve(n:Nat):a8 aQ aR 175 (w4 n):=
 dK (bx n [(198,zr n)] [] [(22000008,⟨[sp 2,ao 5,ao 6,ao 7,ao 8],[aX 2 4],[]⟩),(25000010,⟨[sp 2,ao 5,ao 6,ao 7,ao 8],[aX 2 4],[]⟩)] []) (tok _) (a3 (alm n) aK) ar mixed rfl Tryz.func175 (by kernel_rfl) (by kernel_rfl) (fun _ _=>by kernel_rfl)
theorem aln(w5:List D→Option D)(n:Nat)(ab:D)(ah:D)(aT:D)(alo:a8 aQ aR 169 w5){r:D}(h:MG w5 n ab ah aT=some r):dz aQ aR 169 [ab,ah,aT] (·=r):=
 dM (bx n [(175,w4 n),(169,w5)] [(8,⟨[ao 1,ao 2,sp 3,ao 9],[aX 3 4],[]⟩)] [] [(0,⟨[ao 2],[],[]⟩)]) (tok _) (a3 (Ve n) (a3 alo aK)) ar mixed rfl Tryz.func169 (by kernel_rfl) (bA (bA (bA le_nil))) (by kernel_rfl) (by kernel_rfl) h
theorem Vf:∀n,a8 aQ aR 169 (qU n)
 |0=>(fun _ _ h=>by cases h)
 |n+1=>by
  have ih:=Vf n
  exact (by
   intro aF r h
   unfold qU at h
   split at h
   case h_2=>cases h
   exact aln (qU n) n _ _ _ ih h)
theorem alp(n:Nat):a8 aQ aR 169 (qU n):=(Vf n)
theorem Nh(n:Nat):a8 aQ aR 119 (si n):=
 cg (bx n [(169,qU n)] [] [] []) (tok _) (a3 (alp n) aK) ar mixed rfl Tryz.func119 (by kernel_rfl) (by kernel_rfl) (fun _=>by kernel_rfl)
theorem Vg(n:Nat):a8 aQ aR 174 (tO n):=
 dK (bx n [] [(2,⟨[ao 0,ao 1,ao 5],[],[]⟩)] [] [(0,⟨[],[],[]⟩)]) (tok _) aK ar mixed rfl Tryz.func174 (by kernel_rfl) (by kernel_rfl) (fun _ _=>by kernel_rfl)
theorem alq(n:Nat):a8 aQ aR 172 (DE n):=
 dK (bx n [(167,sh n),(174,tO n)] [(4,⟨[ao 1,cO 5 10,ao 6,ao 8],[b9 10 1],[]⟩)] [(29000008,⟨[ao 1,cO 5 33,ao 6,ao 8],[b9 33 1],[]⟩)] [(0,⟨[cO 5 10],[b9 10 1],[]⟩),(1,⟨[ao 1,cO 5 33,ao 6,ao 8],[b9 33 1],[]⟩)]) (tok _) (a3 (Ng n) (a3 (Vg n) aK)) ar mixed rfl Tryz.func172 (by kernel_rfl) (by kernel_rfl) (fun _ _=>by kernel_rfl)
theorem Vh(n:Nat):a8 aQ aR 173 (tP n):=
 dK (bx n [] [(2,⟨[ao 0,ao 1,ao 5],[],[]⟩)] [] [(0,⟨[],[],[]⟩)]) (tok _) aK ar mixed rfl Tryz.func173 (by kernel_rfl) (by kernel_rfl) (fun _ _=>by kernel_rfl)
theorem alr(w6:List D→Option D)(n:Nat)(ab:D)(ah:D)(aT:D)(als:a8 aQ aR 121 w6){r:D}(h:HB w6 n ab ah aT=some r):dz aQ aR 121 [ab,ah,aT] (·=r):=
 dM ⟨(eN Tryz.prog).qn [42],aR,tabC [(172,DE n),(173,tP n),(121,w6)],n,[],cn [(3,⟨[ao 1,ao 2,ao 7,ao 8],[],[]⟩)],cn [(24000006,⟨[ao 1,ao 2,ao 7,ao 8],[],[]⟩)],cn [(0,⟨[ao 2],[],[]⟩),(1,⟨[ao 1,ao 2,ao 7,ao 8],[],[]⟩)],fv [(6,[0,1,2,3,4,5,6,7,12,13,14,15,8,9,10,11,16,17,18,19])],tabH [],fI [],fy []⟩ ((tok _).qn _) (a3 (alq n) (a3 (Vh n) (a3 als aK))) ar mixed rfl Tryz.func121 (by kernel_rfl) (bA (bA (bA le_nil))) (by kernel_rfl) (by kernel_rfl) h
theorem Vi:∀n,a8 aQ aR 121 (ox n)
 |0=>(fun _ _ h=>by cases h)
 |n+1=>by
  have ih:=Vi n
  exact (by
   intro aF r h
   unfold ox at h
   split at h
   case h_2=>cases h
   exact alr (ox n) n _ _ _ ih h)
theorem Vj(n:Nat):a8 aQ aR 121 (ox n):=(Vi n)
theorem alu(n:Nat):a8 aQ aR 122 (DH n):=
 dK (bx n [(121,ox n),(173,tP n)] [] [] []) (tok _) (a3 (Vj n) (a3 (Vh n) aK)) ar mixed rfl Tryz.func122 (by kernel_rfl) (by kernel_rfl) (fun _ _=>by kernel_rfl)
theorem alv(tQ:List D→Option D)(n:Nat)(ab:D)(ah:D)(aT:D)(bR:D)(alw:a8 aQ aR 123 tQ){r:D}(h:pL tQ n ab ah aT bR=some r):dz aQ aR 123 [ab,ah,aT,bR] (·=r):=
 dM (bx n [(174,tO n),(123,tQ),(175,w4 n)] [(13,⟨[ao 1,ao 2,ao 3,sp 4,sp 8,cO 13 53,ao 14],[aX 4 4,aX 8 4,b9 53 4],[]⟩)] [(20000002,⟨[ao 1,ao 2,ao 3,sp 4,sp 8],[aX 4 4,aX 8 4],[]⟩)] [(0,⟨[ao 3,sp 4,sp 8,cO 13 53],[aX 4 4,aX 8 4,b9 53 4],[]⟩)]) (tok _) (a3 (Vg n) (a3 alw (a3 (Ve n) aK))) ar mixed rfl Tryz.func123 (by kernel_rfl) (bA (bA (bA (bA le_nil)))) (by kernel_rfl) (by kernel_rfl) h
theorem Vk:∀n,a8 aQ aR 123 (pM n)
 |0=>(fun _ _ h=>by cases h)
 |n+1=>by
  have ih:=Vk n
  exact (by
   intro aF r h
   unfold pM at h
   split at h
   case h_2=>cases h
   exact alv (pM n) n _ _ _ _ ih h)
theorem alx(n:Nat):a8 aQ aR 123 (pM n):=(Vk n)
theorem HV(n:Nat):a8 aQ aR 75 (kE n):=
 dK (bx n [(119,si n),(121,ox n),(122,DH n),(123,pM n)] [(6,⟨[ao 1,sp 2,sp 4,ao 7,ao 8],[aX 2 4,aX 4 4],[]⟩)] [] [(0,⟨[ao 1,sp 2,sp 4],[aX 2 4,aX 4 4],[]⟩)]) (tok _) (a3 (Nh n) (a3 (Vj n) (a3 (alu n) (a3 (alx n) aK)))) ar mixed rfl Tryz.func75 (by kernel_rfl) (by kernel_rfl) (fun _ _=>by kernel_rfl)
theorem Vl(n:Nat):a8 aQ aR 170 (oy n):=
 dK (bx n [] [] [] []) (tok _) aK ar mixed rfl Tryz.func170 (by kernel_rfl) (by kernel_rfl) (fun _ _=>by kernel_rfl)
theorem Ni(n:Nat):a8 aQ aR 57 (sj n):=
 dK (bx n [] [(2,⟨[ao 0,ao 1,ao 5],[],[]⟩)] [] [(0,⟨[],[],[]⟩)]) (tok _) aK ar mixed rfl Tryz.func57 (by kernel_rfl) (by kernel_rfl) (fun _ _=>by kernel_rfl)
theorem aly(n:Nat):a8 aQ aR 196 (DN n):=
 cg (bx n [] [(2,⟨[ao 0,ao 3],[],[]⟩)] [] [(0,⟨[],[],[]⟩)]) (tok _) aK ar mixed rfl Tryz.func196 (by kernel_rfl) (by kernel_rfl) (fun _=>by kernel_rfl)
theorem alz(n:Nat):a8 aQ aR 197 (DO n):=
 dK (bx n [] [(4,⟨[cO 6 30,ao 7,ao 8,ao 9],[b9 30 1],[]⟩)] [] [(0,⟨[ao 7,ao 8],[],[]⟩)]) (tok _) aK ar mixed rfl Tryz.func197 (by kernel_rfl) (by kernel_rfl) (fun _ _=>by kernel_rfl)
theorem alA(n:Nat):a8 aQ aR 171 (w7 n):=
 dK (bx n [(196,DN n),(170,oy n),(197,DO n)] [] [(13005000,⟨[ao 1,sp 2,sp 4,sp 6,ao 7,ao 12,ao 13],[aX 2 4,aX 4 3,aX 6 3],[]⟩),(13006000,⟨[ao 1,sp 2,sp 4,sp 6,ao 7,ao 12,ao 13],[aX 2 4,aX 4 3,aX 6 3],[]⟩),(13007000,⟨[ao 1,sp 2,sp 4,sp 6,ao 7,ao 12,ao 13],[aX 2 4,aX 4 3,aX 6 3],[]⟩),(13008000,⟨[ao 1,sp 2,sp 4,sp 6,ao 7,ao 12,ao 13],[aX 2 4,aX 4 3,aX 6 3],[]⟩),(25013000,⟨[ao 1,sp 2,sp 4,sp 6,ao 7,ao 12,ao 25],[aX 2 4,aX 4 3,aX 6 3],[]⟩)] [(0,⟨[ao 1,sp 2,sp 4,sp 6,ao 7],[aX 2 4,aX 4 3,aX 6 3],[]⟩)]) (tok _) (a3 (aly n) (a3 (Vl n) (a3 (alz n) aK))) ar mixed rfl Tryz.func171 (by kernel_rfl) (by kernel_rfl) (fun _ _=>by kernel_rfl)
theorem alB(w8:List D→Option D)(n:Nat)(ab:D)(ah:D)(aT:D)(alC:a8 aQ aR 120 w8){r:D}(h:sk w8 n ab ah aT=some r):dz aQ aR 120 [ab,ah,aT] (·=r):=
 dM (bx n [(170,oy n),(57,sj n),(120,w8),(171,w7 n)] [(18,⟨[ao 0,ao 2,sp 4,sp 6,cO 9 64,ao 10],[aX 4 4,aX 6 3,b9 64 3],[]⟩)] [(27007000,⟨[ao 0,ao 2,sp 4,sp 6,ao 27],[aX 4 4,aX 6 3],[]⟩)] [(1,⟨[sp 4,sp 6,cO 9 64],[aX 4 4,aX 6 3,b9 64 3],[]⟩)]) (tok _) (a3 (Vl n) (a3 (Ni n) (a3 alC (a3 (alA n) aK)))) ar mixed rfl Tryz.func120 (by kernel_rfl) (bA (bA (bA le_nil))) (by kernel_rfl) (by kernel_rfl) h
theorem Vm:∀n,a8 aQ aR 120 (k4 n)
 |0=>(fun _ _ h=>by cases h)
 |n+1=>by
  have ih:=Vm n
  exact (by
   intro aF r h
   unfold k4 at h
   split at h
   case h_2=>cases h
   exact alB (k4 n) n _ _ _ ih h)
theorem alD(n:Nat):a8 aQ aR 120 (k4 n):=(Vm n)
theorem Vn(n:Nat):a8 aQ aR 72 (tS n):=
 hk (bx n [(119,si n),(120,k4 n)] [] [] []) (tok _) (a3 (Nh n) (a3 (alD n) aK)) ar mixed rfl Tryz.func72 (by kernel_rfl) (by kernel_rfl) (fun _ _ _=>by kernel_rfl)
theorem Nj(n:Nat):a8 aQ aR 143 (qV n):=
 hk (bx n [(75,kE n),(72,tS n)] [] [] []) (tok _) (a3 (HV n) (a3 (Vn n) aK)) ar mixed rfl Tryz.func143 (by kernel_rfl) (by kernel_rfl) (fun _ _ _=>by kernel_rfl)
theorem alE(n:Nat):a8 aQ aR 95 (tT n):=
 cg (bx n [(136,qT n),(140,wY n),(141,wZ n),(142,DB n),(143,qV n)] [(2,⟨[sp 1,ao 4],[aX 1 8],[]⟩),(9,⟨[sp 1,ao 5],[aX 1 8],[]⟩),(14,⟨[sp 1,ao 6],[aX 1 8],[]⟩)] [] [(0,⟨[sp 1],[aX 1 8],[]⟩),(2,⟨[sp 1],[aX 1 8],[]⟩),(4,⟨[],[],[]⟩)]) (tok _) (a3 (Nf n) (a3 (Vb n) (a3 (Vc n) (a3 (alk n) (a3 (Nj n) aK))))) ar mixed rfl Tryz.func95 (by kernel_rfl) (by kernel_rfl) (fun _=>by kernel_rfl)
theorem Vo(n:Nat):a8 aQ aR 144 (tU n):=
 hk (bx n [(143,qV n)] [] [] []) (tok _) (a3 (Nj n) aK) ar mixed rfl Tryz.func144 (by kernel_rfl) (by kernel_rfl) (fun _ _ _=>by kernel_rfl)
theorem alF(n:Nat):a8 aQ aR 96 (sl n):=
 hk (bx n [(144,tU n)] [(2,⟨[ao 1,ao 2,sp 3,ao 8],[aX 3 8],[]⟩)] [] [(0,⟨[],[],[]⟩)]) (tok _) (a3 (Vo n) aK) ar mixed rfl Tryz.func96 (by kernel_rfl) (by kernel_rfl) (fun _ _ _=>by kernel_rfl)
theorem alG(n:Nat):a8 aQ aR 97 (zv n):=
 cg (bx n [(140,wY n),(143,qV n)] [(2,⟨[sp 1,ao 4],[aX 1 8],[]⟩),(8,⟨[sp 1,ao 4,ao 5,ao 6],[aX 1 8],[]⟩)] [(69000014,⟨[sp 1,ao 4,ao 8],[aX 1 8],[]⟩)] [(0,⟨[],[],[]⟩),(1,⟨[sp 1,ao 4],[aX 1 8],[]⟩),(2,⟨[sp 1,ao 4,ao 5],[aX 1 8],[]⟩)]) (tok _) (a3 (Vb n) (a3 (Nj n) aK)) ar mixed rfl Tryz.func97 (by kernel_rfl) (by kernel_rfl) (fun _=>by kernel_rfl)
theorem alH(n:Nat):a8 aQ aR 166 (zw n):=
 cg (bx n [] [] [(6005000,⟨[ao 3,ao 6],[],[]⟩),(6006000,⟨[ao 3,ao 6],[],[]⟩),(6007000,⟨[ao 3,ao 6],[],[]⟩),(6008000,⟨[ao 3,ao 6],[],[]⟩),(6009000,⟨[ao 3,ao 6],[],[]⟩),(6010000,⟨[ao 3,ao 6],[],[]⟩),(14013000,⟨[ao 14],[],[]⟩),(14014000,⟨[ao 14],[],[]⟩),(14015000,⟨[ao 14],[],[]⟩),(14016000,⟨[ao 14],[],[]⟩)] [(0,⟨[],[],[]⟩)]) (tok _) aK ar mixed rfl Tryz.func166 (by kernel_rfl) (by kernel_rfl) (fun _=>by kernel_rfl)
theorem alI(n:Nat):a8 aQ aR 168 (DT n):=
 cg (bx n [] [] [] []) (tok _) aK ar mixed rfl Tryz.func168 (by kernel_rfl) (by kernel_rfl) (fun _=>by kernel_rfl)
theorem alJ(n:Nat):a8 aQ aR 118 (sm n):=
 cg (bx n [(166,zw n),(119,si n),(167,sh n),(168,DT n)] [] [(12000004,⟨[sp 1],[aX 1 6],[]⟩)] []) (tok _) (a3 (alH n) (a3 (Nh n) (a3 (Ng n) (a3 (alI n) aK)))) ar mixed rfl Tryz.func118 (by kernel_rfl) (by kernel_rfl) (fun _=>by kernel_rfl)
theorem alK(xa:List D→Option D)(n:Nat)(ab:D)(ah:D)(aT:D)(alL:a8 aQ aR 70 xa){r:D}(h:MX xa n ab ah aT=some r):dz aQ aR 70 [ab,ah,aT] (·=r):=
 dM (bx n [(118,sm n),(70,xa)] [(10,⟨[ao 1,ao 2,sp 3,ao 9],[aX 3 6],[]⟩)] [] [(0,⟨[ao 2],[],[]⟩)]) (tok _) (a3 (alJ n) (a3 alL aK)) ar mixed rfl Tryz.func70 (by kernel_rfl) (bA (bA (bA le_nil))) (by kernel_rfl) (by kernel_rfl) h
theorem Vp:∀n,a8 aQ aR 70 (qW n)
 |0=>(fun _ _ h=>by cases h)
 |n+1=>by
  have ih:=Vp n
  exact (by
   intro aF r h
   unfold qW at h
   split at h
   case h_2=>cases h
   exact alK (qW n) n _ _ _ ih h)
theorem alM(n:Nat):a8 aQ aR 70 (qW n):=(Vp n)
theorem Vq(n:Nat):a8 aQ aR 33 (xb n):=
 cg (bx n [(70,qW n)] [] [] []) (tok _) (a3 (alM n) aK) ar mixed rfl Tryz.func33 (by kernel_rfl) (by kernel_rfl) (fun _=>by kernel_rfl)
theorem alN(xc:List D→Option D)(n:Nat)(ab:D)(ah:D)(alO:a8 aQ aR 145 xc){r:D}(h:DV xc n ab ah=some r):dz aQ aR 145 [ab,ah] (·=r):=
 dM (bx n [(144,tU n),(145,xc)] [(4,⟨[sp 2,sp 3,ao 5],[aX 2 8,aX 3 6],[]⟩)] [] [(0,⟨[],[],[]⟩)]) (tok _) (a3 (Vo n) (a3 alO aK)) ar mixed rfl Tryz.func145 (by kernel_rfl) (bA (bA le_nil)) (by kernel_rfl) (by kernel_rfl) h
theorem Vr:∀n,a8 aQ aR 145 (qX n)
 |0=>(fun _ _ h=>by cases h)
 |n+1=>by
  have ih:=Vr n
  exact (by
   intro aF r h
   unfold qX at h
   split at h
   case h_2=>cases h
   exact alN (qX n) n _ _ ih h)
theorem alP(n:Nat):a8 aQ aR 145 (qX n):=(Vr n)
theorem alQ(n:Nat):a8 aQ aR 98 (zz n):=
 cg (bx n [(136,qT n),(33,xb n),(145,qX n)] [(2,⟨[sp 1,ao 4],[aX 1 8],[]⟩),(7,⟨[sp 1,ao 4,ao 5],[aX 1 8],[]⟩)] [(50000013,⟨[sp 1,ao 4,ao 6],[aX 1 8],[]⟩)] [(0,⟨[],[],[]⟩),(1,⟨[sp 1,ao 4],[aX 1 8],[]⟩),(2,⟨[sp 1,ao 4],[aX 1 8],[]⟩)]) (tok _) (a3 (Nf n) (a3 (Vq n) (a3 (alP n) aK))) ar mixed rfl Tryz.func98 (by kernel_rfl) (by kernel_rfl) (fun _=>by kernel_rfl)
theorem alR(n:Nat):a8 aQ aR 50 (oz n):=
 cg (bx n [(93,Dt n),(94,Dv n),(95,tT n),(96,sl n),(97,zv n),(98,zz n)] [(3,⟨[sp 1,sp 2,cO 4 33,ao 5],[aX 1 8,aX 2 2,b9 33 1],[]⟩),(13,⟨[sp 1,sp 2,ao 6,ao 7,ao 8],[aX 1 8,aX 2 2],[]⟩)] [(68018017,⟨[sp 1,sp 2,ao 6,ao 7,ao 8],[aX 1 8,aX 2 2],[]⟩),(75020019,⟨[sp 1,sp 2,ao 6,ao 7,ao 8],[aX 1 8,aX 2 2],[]⟩),(84022021,⟨[sp 1,sp 2,ao 6,ao 7,ao 8],[aX 1 8,aX 2 2],[]⟩),(93024023,⟨[sp 1,sp 2,ao 6,ao 7,ao 8],[aX 1 8,aX 2 2],[]⟩),(100026025,⟨[sp 1,sp 2,ao 6,ao 7,ao 8],[aX 1 8,aX 2 2],[]⟩),(109028027,⟨[sp 1,sp 2,ao 6,ao 7,ao 8],[aX 1 8,aX 2 2],[]⟩),(118000029,⟨[sp 1,sp 2,ao 6,ao 7,ao 8],[aX 1 8,aX 2 2],[]⟩)] [(0,⟨[sp 1,sp 2],[aX 1 8,aX 2 2],[]⟩),(2,⟨[sp 2],[aX 2 2],[]⟩),(3,⟨[sp 1,sp 2,ao 6,ao 7,ao 8],[aX 1 8,aX 2 2],[]⟩),(4,⟨[sp 1,sp 2,ao 6,ao 7,ao 8],[aX 1 8,aX 2 2],[]⟩)]) (tok _) (a3 (alc n) (a3 (ale n) (a3 (alE n) (a3 (alF n) (a3 (alG n) (a3 (alQ n) aK)))))) ar mixed rfl Tryz.func50 (by kernel_rfl) (by kernel_rfl) (fun _=>by kernel_rfl)
theorem alS(n:Nat):a8 aQ aR 18 (DX n):=
 cg (bx n [(50,oz n)] [] [] []) (tok _) (a3 (alR n) aK) ar mixed rfl Tryz.func18 (by kernel_rfl) (by kernel_rfl) (fun _=>by kernel_rfl)
theorem alT(n:Nat):a8 aQ aR 74 (nO n):=
 dK (bx n [(75,kE n)] [(3,⟨[ao 0,ao 1,cO 7 11,ao 8],[b9 11 4],[]⟩)] [] [(0,⟨[cO 7 11],[b9 11 4],[]⟩)]) (tok _) (a3 (HV n) aK) ar mixed rfl Tryz.func74 (by kernel_rfl) (by kernel_rfl) (fun _ _=>by kernel_rfl)
theorem alU(xe:List D→Option D)(n:Nat)(ab:D)(ah:D)(alV:a8 aQ aR 71 xe){r:D}(h:qY xe n ab ah=some r):dz aQ aR 71 [ab,ah] (·=r):=
 dM (bx n [(75,kE n),(71,xe)] [(9,⟨[ao 1,sp 2,sp 4,cO 8 29,ao 9],[aX 2 6,aX 4 6,b9 29 6],[]⟩)] [] [(0,⟨[sp 2,sp 4,cO 8 29],[aX 2 6,aX 4 6,b9 29 6],[]⟩)]) (tok _) (a3 (HV n) (a3 alV aK)) ar mixed rfl Tryz.func71 (by kernel_rfl) (bA (bA le_nil)) (by kernel_rfl) (by kernel_rfl) h
theorem Vs:∀n,a8 aQ aR 71 (m2 n)
 |0=>(fun _ _ h=>by cases h)
 |n+1=>by
  have ih:=Vs n
  exact (by
   intro aF r h
   unfold m2 at h
   split at h
   case h_2=>cases h
   exact alU (m2 n) n _ _ ih h)
theorem alW(n:Nat):a8 aQ aR 71 (m2 n):=(Vs n)
theorem alX(n:Nat):a8 aQ aR 35 (xf n):=
 dK (bx n [(33,xb n),(71,m2 n)] [] [] []) (tok _) (a3 (Vq n) (a3 (alW n) aK)) ar mixed rfl Tryz.func35 (by kernel_rfl) (by kernel_rfl) (fun _ _=>by kernel_rfl)
theorem Vt(n:Nat):a8 aQ aR 39 (tX n):=
 cg ⟨eN aQ,aR,tabC [(74,nO n),(75,kE n),(35,xf n)],n,[],cn [(11,⟨[sp 1,sp 2,sp 3,sp 5,ao 9],[aX 1 8,aX 2 8,aX 3 2,(5,.box [.b (.d),.b (.d),.b (.d),.b (.d),.b (.row 5000),.b (.d),.b (.d),.b (.d)]),b9 5000 5],[.box 5 4 5000 5]⟩),(26,⟨[sp 1,sp 2,sp 3,sp 5,ao 12],[aX 1 8,aX 2 8,aX 3 2,(5,.box [.b (.d),.b (.d),.b (.d),.b (.d),.b (.row 5000),.b (.d),.b (.d),.b (.row 5001)]),b9 5000 5,b9 5001 7],[.box 5 7 5001 7]⟩)],cn [],cn [(0,⟨[sp 1,sp 2,sp 3,sp 5],[aX 1 8,aX 2 8,aX 3 2,(5,.box [.b (.d),.b (.d),.b (.d),.b (.d),.b (.row 5000),.b (.d),.b (.d),.b (.d)]),b9 5000 5],[]⟩),(2,⟨[sp 2,sp 3,sp 5],[aX 2 8,aX 3 2,(5,.box [.b (.d),.b (.d),.b (.d),.b (.d),.b (.row 5000),.b (.d),.b (.d),.b (.row 5001)]),b9 5000 5,b9 5001 7],[]⟩)],fv [],tabH [],fI [20002],fy []⟩ (tok _) (a3 (alT n) (a3 (HV n) (a3 (alX n) aK))) ar mixed rfl Tryz.func39 (by kernel_rfl) (by kernel_rfl) (fun _=>by kernel_rfl)
theorem Vu(n:Nat):a8 aQ aR 52 (sn n):=
 cg (bx n [(39,tX n)] [] [] []) (tok _) (a3 (Vt n) aK) ar mixed rfl Tryz.func52 (by kernel_rfl) (by kernel_rfl) (fun _=>by kernel_rfl)
theorem alY(n:Nat):a8 aQ aR 99 (zD n):=
 dK (bx n [] [(4,⟨[ao 1,sp 2,ao 5],[aX 2 8],[]⟩)] [] [(0,⟨[],[],[]⟩)]) (tok _) aK ar mixed rfl Tryz.func99 (by kernel_rfl) (by kernel_rfl) (fun _ _=>by kernel_rfl)
theorem alZ(xg:List D→Option D)(n:Nat)(ab:D)(al0:a8 aQ aR 105 xg){r:D}(h:HI xg n ab=some r):dz aQ aR 105 [ab] (·=r):=
 dM (bx n [(105,xg)] [(4,⟨[sp 1,ao 3],[aX 1 4],[]⟩)] [] [(0,⟨[],[],[]⟩)]) (tok _) (a3 al0 aK) ar mixed rfl Tryz.func105 (by kernel_rfl) (bA le_nil) (by kernel_rfl) (by kernel_rfl) h
theorem Vv:∀n,a8 aQ aR 105 (pP n)
 |0=>(fun _ _ h=>by cases h)
 |n+1=>by
  have ih:=Vv n
  exact (by
   intro aF r h
   unfold pP at h
   split at h
   case h_2=>cases h
   exact alZ (pP n) n _ ih h)
theorem al1(n:Nat):a8 aQ aR 105 (pP n):=(Vv n)
theorem al2(n:Nat):a8 aQ aR 152 (nP n):=
 cg (bx n [] [] [] []) (tok _) aK ar mixed rfl Tryz.func152 (by kernel_rfl) (by kernel_rfl) (fun _=>by kernel_rfl)
theorem al3(n:Nat):a8 aQ aR 153 (tY n):=
 cg (bx n [] [] [] []) (tok _) aK ar mixed rfl Tryz.func153 (by kernel_rfl) (by kernel_rfl) (fun _=>by kernel_rfl)
theorem al4(n:Nat):a8 aQ aR 154 (zE n):=
 cg (bx n [] [] [] []) (tok _) aK ar mixed rfl Tryz.func154 (by kernel_rfl) (by kernel_rfl) (fun _=>by kernel_rfl)
theorem al5(xh:List D→Option D)(n:Nat)(ab:D)(ah:D)(aT:D)(bR:D)(al6:a8 aQ aR 106 xh){r:D}(h:ke xh n ab ah aT bR=some r):dz aQ aR 106 [ab,ah,aT,bR] (·=r):=
 dM (bx n [(57,sj n),(152,nP n),(153,tY n),(106,xh),(154,zE n)] [(18,⟨[ao 0,ao 2,ao 3,sp 5,cO 12 55,ao 13,ao 14],[aX 5 4,b9 55 1],[]⟩)] [(20003000,⟨[ao 0,ao 2,ao 3,sp 5,ao 19,ao 20],[aX 5 4],[]⟩),(25006000,⟨[ao 0,ao 2,ao 3,sp 5,ao 25],[aX 5 4],[]⟩),(34011010,⟨[ao 0,ao 10,ao 11],[],[]⟩),(88000025,⟨[ao 0,ao 2,ao 3,sp 5,cO 12 80,ao 13,ao 14],[aX 5 4,b9 80 1],[]⟩),(94030029,⟨[ao 17],[],[]⟩),(100032031,⟨[ao 17],[],[]⟩),(107034033,⟨[ao 17],[],[]⟩),(112036035,⟨[ao 17],[],[]⟩),(125037000,⟨[cO 12 55,ao 17,ao 93,ao 125],[b9 55 1],[]⟩),(125039038,⟨[ao 17],[],[]⟩),(136041040,⟨[ao 17],[],[]⟩),(146043042,⟨[ao 17],[],[]⟩),(156045044,⟨[ao 17],[],[]⟩),(166047046,⟨[ao 17],[],[]⟩),(175049048,⟨[ao 17],[],[]⟩),(184053050,⟨[ao 17],[],[]⟩),(209055054,⟨[ao 17],[],[]⟩),(226000056,⟨[ao 17],[],[]⟩),(234000058,⟨[ao 17],[],[]⟩)] [(1,⟨[sp 5,cO 12 55,ao 13],[aX 5 4,b9 55 1],[]⟩),(2,⟨[ao 0,ao 2,ao 3,sp 5,cO 12 80,ao 13,ao 14],[aX 5 4,b9 80 1],[]⟩),(3,⟨[ao 17],[],[]⟩)]) (tok _) (a3 (Ni n) (a3 (al2 n) (a3 (al3 n) (a3 al6 (a3 (al4 n) aK))))) ar mixed rfl Tryz.func106 (by kernel_rfl) (bA (bA (bA (bA le_nil)))) (by kernel_rfl) (by kernel_rfl) h
theorem Vw:∀n,a8 aQ aR 106 (pQ n)
 |0=>(fun _ _ h=>by cases h)
 |n+1=>by
  have ih:=Vw n
  exact (by
   intro aF r h
   unfold pQ at h
   split at h
   case h_2=>cases h
   exact al5 (pQ n) n _ _ _ _ ih h)
theorem al7(n:Nat):a8 aQ aR 106 (pQ n):=(Vw n)
theorem Vx(n:Nat):a8 aQ aR 56 (nQ n):=
 yy (bx n [(72,tS n),(105,pP n),(106,pQ n)] [] [] []) (tok _) (a3 (Vn n) (a3 (al1 n) (a3 (al7 n) aK))) ar mixed rfl Tryz.func56 (by kernel_rfl) (by kernel_rfl) (fun _ _ _ _=>by kernel_rfl)
theorem Nk(n:Nat):a8 aQ aR 54 (qZ n):=
 yy (bx n [(56,nQ n)] [(2,⟨[ao 0,ao 1,ao 2,ao 3,ao 9],[],[]⟩)] [] [(0,⟨[],[],[]⟩)]) (tok _) (a3 (Vx n) aK) ar mixed rfl Tryz.func54 (by kernel_rfl) (by kernel_rfl) (fun _ _ _ _=>by kernel_rfl)
theorem al8(n:Nat):a8 aQ aR 51 (xi n):=
 dK (bx n [(99,zD n),(54,qZ n)] [] [] []) (tok _) (a3 (alY n) (a3 (Nk n) aK)) ar mixed rfl Tryz.func51 (by kernel_rfl) (by kernel_rfl) (fun _ _=>by kernel_rfl)
theorem al9(n:Nat):a8 aQ aR 24 (ua n):=
 hk (bx n [(52,sn n),(51,xi n),(56,nQ n),(57,sj n),(54,qZ n)] [(5,⟨[ao 1,ao 2,sp 7,ao 8],[aX 7 8],[]⟩)] [] [(0,⟨[ao 1,ao 2,sp 7],[aX 7 8],[]⟩)]) (tok _) (a3 (Vu n) (a3 (al8 n) (a3 (Vx n) (a3 (Ni n) (a3 (Nk n) aK))))) ar mixed rfl Tryz.func24 (by kernel_rfl) (by kernel_rfl) (fun _ _ _=>by kernel_rfl)
theorem ama(n:Nat):a8 aQ aR 40 (D1 n):=
 dK (bx n [(52,sn n),(54,qZ n)] [(4,⟨[ao 1,sp 5,cO 6 10,ao 7],[aX 5 8,b9 10 1],[]⟩)] [] [(0,⟨[cO 6 10],[b9 10 1],[]⟩)]) (tok _) (a3 (Vu n) (a3 (Nk n) aK)) ar mixed rfl Tryz.func40 (by kernel_rfl) (by kernel_rfl) (fun _ _=>by kernel_rfl)
theorem amb(n:Nat):a8 aQ aR 13 (q0 n):=
 hk (bx n [(18,DX n),(39,tX n),(24,ua n),(40,D1 n)] [(5,⟨[ao 1,ao 2,sp 3,ao 7],[aX 3 8],[]⟩),(13,⟨[ao 1,ao 2,sp 3,ao 9],[aX 3 8],[]⟩),(17,⟨[ao 1,ao 2,sp 3,ao 9,ao 10,ao 11],[aX 3 8],[]⟩)] [(42000009,⟨[ao 1,ao 2,sp 3,ao 7,ao 8],[aX 3 8],[]⟩)] [(0,⟨[ao 1,ao 2,sp 3],[aX 3 8],[]⟩),(2,⟨[],[],[]⟩),(3,⟨[ao 1,ao 2,sp 3,ao 9],[aX 3 8],[]⟩),(4,⟨[ao 1,ao 2,sp 3,ao 9,ao 10],[aX 3 8],[]⟩)]) (tok _) (a3 (alS n) (a3 (Vt n) (a3 (al9 n) (a3 (ama n) aK)))) ar mixed rfl Tryz.func13 (by kernel_rfl) (by kernel_rfl) (fun _ _ _=>by kernel_rfl)
theorem amc(n:Nat):a8 aQ aR 4 (HL n):=
 hk (bx n [(7,vH n),(9,zm n),(12,qS n),(13,q0 n)] [] [] []) (tok _) (a3 (ain n) (a3 (ak6 n) (a3 (U8 n) (a3 (amb n) aK)))) ar mixed rfl Tryz.func4 (by kernel_rfl) (by kernel_rfl) (fun _ _ _=>by kernel_rfl)
end Go.Am
