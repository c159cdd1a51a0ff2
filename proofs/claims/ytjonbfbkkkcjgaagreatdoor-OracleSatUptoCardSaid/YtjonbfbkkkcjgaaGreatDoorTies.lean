/- That the functions of the program compute this. No condition. -/
import Derived.Test.YtjonbfbkkkcjgaaGreatDoorHand
import Derived.KernelRfl
set_option linter.all false
set_option linter.unnecessarySimpa false
namespace Go.Am
open Go.Proofs
set_option maxRecDepth 100000
def acP(n:Nat):aU 217 (Di n):=bR (bp n [] [] (bS true [([5004,5005,5006],[4,5]),([12011],[4,12]),([15014,15015,15016,15017,15018,15019,15020,15021,15022],[4,15])]) [])
def acQ(n:Nat):aU 165 (Dj n):=bR (bp n [aP acP] [] (bS true [([18008007,20000009],[1004,3,4,5,6])]) (bS true [([0],[1004,3,4,5,6])]))
def acR(n:Nat):eG RU (yG n):=jE ⟨dm bV,bW,gD n [aP acQ],n,[10000,10001],bF [],bF (bz true [([10004003,18000006],⟨[(3,.b (.ptr 10001 0))],[aV 10001 1,aV 10000 1],[]⟩)]),bF [],dJ [],dq [],dO [],dI []⟩ ca cZ ak b8 Tryz.func164 []
def Sg(n:Nat):aU 80 (yI n):=bR (bp n [] (bz true [([3],⟨[(3,.b (.map 8)),aq 9,aq 10,aq 11],[(8,.map)],[]⟩)]) (bz true [([24000007],⟨[(3,.b (.map 8)),aq 9,aq 10,aq 11],[(8,.map)],[]⟩)]) (bz true [([0],⟨[(3,.b (.map 8))],[(8,.map)],[]⟩),([1],⟨[(3,.b (.map 8)),aq 9,aq 10,aq 11],[(8,.map)],[]⟩)]))
def Sh(n:Nat):aU 218 (pw n):=cx (bp n [] [] [] [])
def acS(n:Nat):aU 219 (Dk n):=bR (bp n [] (bS true [([2],[2003,6,7,8])]) [] (bS true [([0],[2003])]))
def acT(n:Nat):aU 220 (u3 n):=fy (bp n [aP Sh] [] (bS true [([13000002],[0,4003,5003,6003])]) [])
def acU(n:Nat):aU 168 (lv n):=aa8 (bp n [aP Sh,aP acS,aP acT] [] (bS true [([29007],[0,1,3,4,7004,10003,16,29]),([69017,69018,69019,69020],[4,7004,10003,16,69]),([126029],[4,7004,10003,126]),([164038],[4,7004,10003,152,164])]) (bS true [([0],[4,7004,10003])]))
def acV(a:lZ->oX)(n:Nat)(a0:D)(aG:D)(a2:D)(a3:D)(b:aU 127 a){r:D}(h:Jx a n a0 aG a2 a3=some r):cF bV bW 127 [a0,aG,a2,a3] (·=r):=cW (bp n [kX b,aP acU] (bz true [([3],⟨[aq 0,aq 1,aq 3,sp 6,sp 8,aX 10 5000,aq 16,aq 17,aq 18],[aV 6 4,aV 8 3,aJ 5000 3],[.slot 10 5000 3]⟩)]) [] (bz true [([0],⟨[aq 0,aq 1,aq 3,sp 6,sp 8,aX 10 5000],[aV 6 4,aV 8 3,aJ 5000 3],[]⟩)])) ca cZ ak b8 Tryz.func127 (br (br (br (br le_nil)))) h
def Si:∀n,aU 127 (ob n)
 |0=>(λ_ _ h=>by cases h)
 |n+1=>by
  have ih:=Si n;exact(by
   intro a r h;unfold ob at h;split at h
   case h_2=>cases h
   exact acV (ob n) n _ _ _ _ ih h)
def acW(n:Nat):aU 127 (ob n):=(Si n)
def Sj(n:Nat):aU 82 (nd n):=bR (bp n [] [] [] [])
def acX(n:Nat):aU 128 (Dm n):=cx (bp n [] [] [] [])
def Sk(n:Nat):aU 83 (qL n):=cx (bp n [aP acX] [] [] [])
def acY(n:Nat):aU 170 (u5 n):=bR (bp n [] [] [] [])
def acZ(n:Nat):aU 169 (JA n):=cx (bp n [] [] [] [])
def ac0(n:Nat):aU 129 (sA n):=cx (bp n [aP acY,aP acZ] [] [] [])
def ac1(n:Nat):aU 84 (hX n):=cx (bp n [aP Sj,aP Sk,aP ac0] (bS true [([29],[1,2004,6,147,148,149])]) (bS true [([35007],[1,2004,10,35])]) (bS true [([1],[1,2004,6])]))
def ac2(a:lZ->oY)(n:Nat)(c:eG tc a):eG tc (px a n):=jE ⟨dm bV,bW,gD n [aP Sj,aP Sk,aP ac1],n,[10000,10001,10002,10003,10004],bF (bz true [([3],⟨[(1,.b (.ptr 10000 0)),(2,.b (.ptr 10001 0)),(3,.b (.ptr 10002 0)),(4,.b (.ptr 10003 0)),(5,.b (.ptr 10004 0)),sp 6,aX 9 5000,aq 17,aq 18,aq 19],[(10000,.box [.fn (.func sz) [] [.ptr 10000 0,.ptr 10001 0,.ptr 10002 0,.ptr 10003 0,.ptr 10004 0]]),aV 10001 1,aV 10002 1,aV 10003 1,aV 10004 1,aV 6 4,aJ 5000 1],[.slot 9 5000 1]⟩)]),bF (bz true [([43013],⟨[(2,.b (.ptr 10001 0)),(3,.b (.ptr 10002 0)),(4,.b (.ptr 10003 0)),(5,.b (.ptr 10004 0)),sp 6,aX 9 5000,aq 37,aq 43],[aV 10001 1,aV 10002 1,aV 10003 1,aV 10004 1,aV 6 4,aJ 5000 1,(10000,.box [.fn (.func sz) [] [.ptr 10000 0,.ptr 10001 0,.ptr 10002 0,.ptr 10003 0,.ptr 10004 0]])],[]⟩),([48016],⟨[(2,.b (.ptr 10001 0)),(3,.b (.ptr 10002 0)),(4,.b (.ptr 10003 0)),(5,.b (.ptr 10004 0)),sp 6,aX 9 5000,aq 48],[aV 10001 1,aV 10002 1,aV 10003 1,aV 10004 1,aV 6 4,aJ 5000 1,(10000,.box [.fn (.func sz) [] [.ptr 10000 0,.ptr 10001 0,.ptr 10002 0,.ptr 10003 0,.ptr 10004 0]])],[]⟩),([58000019],⟨[(5,.b (.ptr 10004 0)),aq 14,aq 15],[aV 10004 1,(10000,.box [.fn (.func sz) [] [.ptr 10000 0,.ptr 10001 0,.ptr 10002 0,.ptr 10003 0,.ptr 10004 0]]),aV 10001 1,aV 10002 1,aV 10003 1],[]⟩)]),bF (bz true [([0],⟨[(2,.b (.ptr 10001 0)),(3,.b (.ptr 10002 0)),(4,.b (.ptr 10003 0)),(5,.b (.ptr 10004 0)),sp 6,aX 9 5000],[aV 10001 1,aV 10002 1,aV 10003 1,aV 10004 1,aV 6 4,aJ 5000 1,(10000,.box [.fn (.func sz) [] [.ptr 10000 0,.ptr 10001 0,.ptr 10002 0,.ptr 10003 0,.ptr 10004 0]])],[]⟩)]),dJ [],dq [(26,⟨tc,a,6020,[]⟩)],dO [],dI []⟩ ca cZ (a1 c ak) b8 Tryz.func81 []
def Sl:∀n,eG tc (py n)
 |0=>se (s:=tc) (si (T:=dm bV) (os:=λ_=>none) Tryz.func81) (λ_=>rfl)|n+1=>by have ih:=Sl n;exact ac2 (py n) n ih
def ac3(n:Nat):eG tc (py n):=(Sl n)
def ac4(n:Nat)(a0:D)(x1:lZ){r:D}(h:JB n a0 x1=some r):cF bV bW 36 [a0,.ref x1 0] (·=r):=cW (jm n [] [] [] []) ca bK ak b8 Tryz.func36 (br (fg fo le_nil)) h
def ac5(n:Nat):aU 36 (Dp n):=by
 intro a r h;unfold Dp at h;split at h
 case h_2=>cases h
 split at h
 case h_2=>cases h
 exact ac4 n _ _ h
def ac6(n:Nat)(a0:D)(a:D){r:D}(h:JC n a0 a=some r):cF bV bW 35 [a0,(D.fn (.func Dg) [] [a])] (·=r):=cW (bp n [aP ac5] (bz true [([3],⟨[(1,.b (.fd Dg 1)),aX 5 10,aq 12,aq 13],[aJ 10 1],[]⟩)]) [] (bz true [([0],⟨[aX 5 10],[aJ 10 1],[]⟩)])) ca cZ ak b8 Tryz.func35 (br (br le_nil)) h
def ac7(n:Nat):aU 35 (Dr n):=by
 intro b r h;unfold Dr at h;split at h
 case h_2=>cases h
 split at h
 case h_2=>cases h
 rename_i a;obtain rfl:=gU a;exact ac6 n _ _ h
def ac8(n:Nat)(a0:D)(x1:lZ){r:D}(h:JD n a0 x1=some r):cF bV bW 34 [a0,.ref x1 0] (·=r):=cW ⟨dm bV,bW,gD n [aP ac7],n,[],bF [],bF [],bF [],dJ [],dq [],dO [6],dI []⟩ ca cZ ak b8 Tryz.func34 (br (fg fo le_nil)) h
def ac9(n:Nat):aU 34 (jK n):=by
 intro a r h;unfold jK at h;split at h
 case h_2=>cases h
 split at h
 case h_2=>cases h
 exact ac8 n _ _ h
def ada(n:Nat)(a0:D)(x1:lZ)(ds:lZ){r:D}(h:JE n a0 x1 ds=some r):cF bV bW 40 [a0,.ref x1 0,.ref ds 0] (·=r):=cW (jm n [] [] [] []) ca bK ak b8 Tryz.func40 (br (fg fo (fg fo le_nil))) h
def adb(n:Nat):aU 40 (Ds n):=by
 intro a r h;unfold Ds at h;split at h
 case h_2=>cases h
 split at h
 case h_2=>cases h
 split at h
 case h_2=>cases h
 exact ada n _ _ _ h
def ade(n:Nat)(a0:D)(a:D)(c:D){r:D}(h:JF n a0 a c=some r):cF bV bW 35 [a0,(D.fn (.func uT) [] [a,c])] (·=r):=cW (bp n [aP adb] (bz true [([3],⟨[(1,.b (.fd uT 2)),aX 5 10,aq 12,aq 13],[aJ 10 1],[]⟩)]) [] (bz true [([0],⟨[aX 5 10],[aJ 10 1],[]⟩)])) ca cZ ak b8 Tryz.func35 (br (br le_nil)) h
def adf(n:Nat):aU 35 (u6 n):=by
 intro b r h;unfold u6 at h;split at h
 case h_2=>cases h
 split at h
 case h_2=>cases h
 rename_i a;obtain rfl:=gU a;exact ade n _ _ _ h
def adg(n:Nat)(a0:D)(x1:lZ)(ds:lZ){r:D}(h:JG n a0 x1 ds=some r):cF bV bW 41 [a0,.ref x1 0,.ref ds 0] (·=r):=cW (jm n [] [] [] []) ca bK ak b8 Tryz.func41 (br (fg fo (fg fo le_nil))) h
def adh(n:Nat):aU 41 (Du n):=by
 intro a r h;unfold Du at h;split at h
 case h_2=>cases h
 split at h
 case h_2=>cases h
 split at h
 case h_2=>cases h
 exact adg n _ _ _ h
def adi(n:Nat)(a0:D)(a:D)(c:D){r:D}(h:JH n a0 a c=some r):cF bV bW 35 [a0,(D.fn (.func uU) [] [a,c])] (·=r):=cW (bp n [aP adh] (bz true [([3],⟨[(1,.b (.fd uU 2)),aX 5 10,aq 12,aq 13],[aJ 10 1],[]⟩)]) [] (bz true [([0],⟨[aX 5 10],[aJ 10 1],[]⟩)])) ca cZ ak b8 Tryz.func35 (br (br le_nil)) h
def adj(n:Nat):aU 35 (u7 n):=by
 intro b r h;unfold u7 at h;split at h
 case h_2=>cases h
 split at h
 case h_2=>cases h
 rename_i a;obtain rfl:=gU a;exact adi n _ _ _ h
def adk(n:Nat)(a0:D)(x1:lZ)(ds:lZ){r:D}(h:JI n a0 x1 ds=some r):cF bV bW 42 [a0,.ref x1 0,.ref ds 0] (·=r):=cW (jm n [] [] [] []) ca bK ak b8 Tryz.func42 (br (fg fo (fg fo le_nil))) h
def adl(n:Nat):aU 42 (Dw n):=by
 intro a r h;unfold Dw at h;split at h
 case h_2=>cases h
 split at h
 case h_2=>cases h
 split at h
 case h_2=>cases h
 exact adk n _ _ _ h
def adm(n:Nat)(a0:D)(a:D)(c:D){r:D}(h:JJ n a0 a c=some r):cF bV bW 35 [a0,(D.fn (.func uV) [] [a,c])] (·=r):=cW (bp n [aP adl] (bz true [([3],⟨[(1,.b (.fd uV 2)),aX 5 10,aq 12,aq 13],[aJ 10 1],[]⟩)]) [] (bz true [([0],⟨[aX 5 10],[aJ 10 1],[]⟩)])) ca cZ ak b8 Tryz.func35 (br (br le_nil)) h
def adn(n:Nat):aU 35 (u9 n):=by
 intro b r h;unfold u9 at h;split at h
 case h_2=>cases h
 split at h
 case h_2=>cases h
 rename_i a;obtain rfl:=gU a;exact adm n _ _ _ h
def KG(n:Nat):aU 49 (sB n):=cx (bp n [] [] [] [])
def ado(n:Nat):aU 85 (JK n):=bR (bp n [] [] [] [])
def adp(n:Nat)(a0:D){r:D}(h:JL n a0=some r):cF bV bW 35 [a0,(D.val (.func (.func uY) #[] #[]))] (·=r):=cW (bp n [aP ado] (bz true [([3],⟨[(1,.b (.x9 uY)),aX 5 10,aq 12,aq 13],[aJ 10 1],[]⟩)]) [] (bz true [([0],⟨[aX 5 10],[aJ 10 1],[]⟩)])) ca cZ ak b8 Tryz.func35 (br (br le_nil)) h
def adq(n:Nat):aU 35 (Dz n):=by
 intro b r h;unfold Dz at h;split at h
 case h_2=>cases h
 obtain⟨a,h⟩:=hA h;obtain rfl:=Pz a;exact adp n _ h
def KH(n:Nat):aU 43 (qM n):=bR (bp n [aP adq] [] [] [])
def adr(n:Nat)(a0:D)(x1:lZ){r:D}(h:DA n a0 x1=some r):cF bV bW 90 [a0,.ref x1 0] (·=r):=cW (jm n [] [] [] []) ca bK ak b8 Tryz.func90 (br (fg fo le_nil)) h
def Sm(n:Nat):aU 90 (qN n):=by
 intro a r h;unfold qN at h;split at h
 case h_2=>cases h
 split at h
 case h_2=>cases h
 exact adr n _ _ h
def ads(n:Nat)(a0:D)(a:D){r:D}(h:JM n a0 a=some r):cF bV bW 91 [a0,(D.fn (.func hG) [] [a])] (·=r):=cW ⟨dm bV,bW,gD n [aP Sm],n,[],bF (bz true [([4],⟨[aq 0,(1,.b (.fd hG 1)),aX 5 5003,aX 6 13,aq 15,aq 16],[aJ 5003 1,aJ 13 1],[.slot 5 5003 1]⟩),([9],⟨[aq 0,(1,.b (.fd hG 1)),aX 5 5003,aX 6 13,aX 8 34,aq 15,aq 16],[aJ 5003 1,aJ 13 1,aJ 34 2],[.slot 5 5001 1]⟩)]),bF (bz true [([97000017],⟨[aq 0,(1,.b (.fd hG 1)),aX 5 5003,aX 6 13,aX 8 105,aq 15,aq 16],[aJ 5003 1,aJ 13 1,aJ 105 2],[]⟩)]),bF (bz true [([0],⟨[aX 5 5003],[aJ 5003 1],[]⟩),([1],⟨[aq 0,(1,.b (.fd hG 1)),aX 5 5003,aX 6 13,aq 15,aq 16],[aJ 5003 1,aJ 13 1],[.slot 5 5002 1]⟩),([2],⟨[aq 0,(1,.b (.fd hG 1)),aX 5 5003,aX 6 13,aq 15,aq 16],[aJ 5003 1,aJ 13 1],[]⟩),([3],⟨[aq 0,(1,.b (.fd hG 1)),aX 5 62,aX 6 13,aX 8 67,aq 15,aq 16],[aJ 62 1,aJ 13 1,aJ 67 2],[.slot 5 5000 1]⟩)]),dJ [],dq [],dO [67],dI []⟩ ca cZ ak b8 Tryz.func91 (br (br le_nil)) h
def adt(n:Nat):aU 91 (yN n):=by
 intro b r h;unfold yN at h;split at h
 case h_2=>cases h
 split at h
 case h_2=>cases h
 rename_i a;obtain rfl:=gU a;exact ads n _ _ h
def Sn(n:Nat):eG Kz (oc n):=jE ⟨dm bV,bW,fx [],n,[10000],bF [],bF (bz true [([24000001],⟨[],[(10000,.box [.b (.row 9000),.b (.row 38)]),aJ 9000 1,aJ 38 1],[]⟩)]),bF [],dJ [],dq [],dO [],dI []⟩ ca bK ak b8 Tryz.func93 []
def adu(n:Nat):eG RV (vc n):=jE ⟨dm bV,bW,gD n [aP Sm],n,[10000,10001,10002],bF [],bF (bz true [([6000001],⟨[],[(10000,.box [.fn (.func hG) [] [.cH 0]]),(10001,.box [.b (.ptr 10002 0)]),(10002,.box [.b (.row 6010),.b (.row 6011)]),aJ 6010 1,aJ 6011 1],[]⟩)]),bF [],dJ [],dq [(9,⟨Kz,oc n,6010,[]⟩)],dO [],dI []⟩ ca cZ (a1 (Sn n) ak) b8 Tryz.func95 []
def adv(n:Nat):eG RW (yO n):=jE ⟨dm bV,bW,fx [],n,[10000,10001,10002],bF (bz true [([1],⟨[(1,.fn (.func Qf) [] [.ptr 10000 0,.ptr 10001 0]),aq 6,aq 7,aq 8],[(10000,.box [.fn (.func hG) [] [.cH 0]]),(10001,.box [.b (.ptr 10002 0)]),(10002,.box [.b (.row 9000),.b (.row 9001)]),aJ 9000 1,aJ 9001 1],[]⟩)]),bF [],bF (bz true [([0],⟨[],[(10000,.box [.fn (.func hG) [] [.cH 0]]),(10001,.box [.b (.ptr 10002 0)]),(10002,.box [.b (.row 9000),.b (.row 9001)]),aJ 9000 1,aJ 9001 1],[]⟩)]),dJ [],dq [(14,⟨RV,vc n,6010,[]⟩)],dO [],dI []⟩ ca bK (a1 (adu n) ak) b8 Tryz.func94 []
def adw(n:Nat):aU 50 (DC n):=cx ⟨dm bV,bW,gD n [aP adt,aP Sa],n,[],bF (bz true [([7],⟨[sp 5,aq 6,aq 7,sp 8,aX 9 5003,aq 10],[(5,.box [.fn (.func hG) [] [.cH 0]]),(8,.box [.b (.ptr 25 0)]),aJ 5003 1,(25,.box [.b (.row 23),.b (.row 5004)]),aJ 23 1,aJ 5004 1],[.slot 9 5003 1,.box 25 1 5004 1]⟩),([12],⟨[sp 5,aq 6,aq 7,sp 8,aX 9 5003,aq 10,aX 11 5000],[(5,.box [.fn (.func hG) [] [.cH 0]]),(8,.box [.b (.ptr 25 0)]),aJ 5003 1,aJ 5000 1,(25,.box [.b (.row 6140),.b (.row 6141)]),aJ 6140 1,aJ 6141 1],[.slot 11 5000 1]⟩)]),bF [],bF (bz true [([0],⟨[aX 9 5003],[aJ 5003 1],[]⟩),([1],⟨[sp 5,aq 6,aq 7,sp 8,aX 9 5003,aq 10],[(5,.box [.fn (.func hG) [] [.cH 0]]),(8,.box [.b (.ptr 25 0)]),aJ 5003 1,(25,.box [.b (.row 23),.b (.row 5004)]),aJ 23 1,aJ 5004 1],[.slot 9 5001 1,.box 25 1 5002 1]⟩),([2],⟨[sp 5,aq 6,aq 7,sp 8,aX 9 5003,aq 10,aX 11 5000],[(5,.box [.fn (.func hG) [] [.cH 0]]),(8,.box [.b (.ptr 25 0)]),aJ 5003 1,aJ 5000 1,(25,.box [.b (.row 6140),.b (.row 6141)]),aJ 6140 1,aJ 6141 1],[]⟩)]),dJ [(11,[0,1,2,3,4]),(14,[0,1,2,3,4,5,6,7])],dq [(48,⟨Kz,oc n,6140,[]⟩),(78,⟨RW,yO n,6150,[]⟩),(80,⟨RX,yy n,6160,[]⟩),(86,⟨RY,uQ n,6170,[]⟩)],dO [17,40066,83],dI []⟩ (S:=⟨ca,cZ,(a1 (Sn n) (a1 (adv n) (a1 (acD n) (a1 (acO n) ak)))),b8⟩)
def adx(n:Nat):aU 51 (vi n):=cx (bp n [] (bz true [([3],⟨[aq 1,sp 2,(5,.b (.map 16)),aq 17,aq 18,aq 19],[aV 2 4,(16,.map)],[]⟩),([9],⟨[aq 1,sp 2,(5,.b (.map 16)),aq 8,aq 26,aq 27,aq 28],[aV 2 4,(16,.map)],[]⟩),([12],⟨[aq 1,sp 2,(5,.b (.map 16)),aq 8,aq 26,aq 27,aq 28,aq 36,aq 37,aq 38],[aV 2 4,(16,.map)],[]⟩),([21],lp [1,2004,56,57]),([24],lp [1,2004,13,56,57,60,61,62])]) [] (bz true [([0],⟨[aq 1,sp 2,(5,.b (.map 16))],[aV 2 4,(16,.map)],[]⟩),([2],lp [1,2004,8]),([3,4],⟨[aq 1,sp 2,(5,.b (.map 16)),aq 8,aq 26,aq 27,aq 28],[aV 2 4,(16,.map)],[]⟩),([6,8],lp []),([7],lp [1,2004,56,57])]))
def ady(n:Nat):eG RZ (yR n):=jE ⟨dm bV,bW,fx [],n,[],bF [],bF [],bF [],dJ [],dq [],dO [],dI []⟩ ca bK ak b8 Tryz.func49 []
def Sp(n:Nat):aU 52 (yS n):=fy ⟨dm bV,bW,gD n [aP Sa],n,[],bF (bz true [([4],⟨[aq 1,sp 3,aX 7 6010,aX 8 5001,aX 17 6010,aq 18,aq 19],[aV 3 4,aJ 6010 1,aJ 5001 1],[.slot 8 5001 1]⟩),([10],⟨[aq 1,aX 7 6010,aX 8 5001,aq 11],[aJ 6010 1,aJ 5001 1],[]⟩),([13],⟨[aq 1,aX 7 6010,aX 8 5001,aq 11,aq 42,aq 43,aq 44],[aJ 6010 1,aJ 5001 1],[]⟩)]),bF (bz true [([24000007],⟨[aq 1,sp 3,aX 7 6010,aX 8 28,aX 17 6010,aq 18,aq 19],[aV 3 4,aJ 6010 1,aJ 28 1],[.slot 8 5000 1]⟩),([58000016],⟨[aq 1,aX 7 6010,aX 8 65,aq 11,aq 42,aq 43,aq 44],[aJ 6010 1,aJ 65 1],[]⟩)]),bF (bz true [([0],⟨[aq 1,sp 3,aX 7 6010,aX 8 5001],[aV 3 4,aJ 6010 1,aJ 5001 1],[]⟩),([1],⟨[aq 1,sp 3,aX 7 6010,aX 8 28,aX 17 6010,aq 18,aq 19],[aV 3 4,aJ 6010 1,aJ 28 1],[]⟩),([2],⟨[aX 7 6010],[aJ 6010 1],[]⟩),([3,4],⟨[aq 1,aX 7 6010,aX 8 5001,aq 11],[aJ 6010 1,aJ 5001 1],[]⟩),([5],⟨[aq 1,aX 7 6010,aX 8 65,aq 11,aq 42,aq 43,aq 44],[aJ 6010 1,aJ 65 1],[]⟩)]),dJ [],dq [(16,⟨RZ,yR n,6010,[]⟩)],dO [36],dI []⟩ (S:=⟨ca,cZ,(a1 (ady n) ak),b8⟩)
def KI(n:Nat):aU 13 (vl n):=cx ⟨dm bV,bW,gD n [aP KG,aP adw,aP adx,aP Sp],n,[],bF (bz true [([4],⟨[aq 1,sp 2,aX 5 15,aq 18,aq 19,aq 20],[aV 2 4,aJ 15 1],[]⟩),([8],⟨[aq 1,sp 2,aX 5 15,aq 18,aq 19,aq 20,aq 27,aq 28,aq 29],[aV 2 4,aJ 15 1],[]⟩)]),bF (bz true [([26000007],⟨[aq 1,sp 2,aX 5 15,aq 18,aq 19,aq 20],[aV 2 4,aJ 15 1],[]⟩)]),bF (bz true [([0],⟨[aq 1,sp 2,aX 5 15],[aV 2 4,aJ 15 1],[]⟩),([1,2],⟨[aq 1,sp 2,aX 5 15,aq 18,aq 19,aq 20],[aV 2 4,aJ 15 1],[]⟩)]),dJ [],dq [],dO [41],dI []⟩ (S:=⟨ca,cZ,ak,b8⟩)
def adz(n:Nat)(a0:D)(x1:lZ)(ds:lZ)(a:lZ){r:D}(h:DF n a0 x1 ds a=some r):cF bV bW 55 [a0,.ref x1 0,.ref ds 0,.ref a 0] (·=r):=cW (jm n [] (bz true [([2],⟨[(2,.b (.cH 0)),(3,.b (.cH 0)),aq 12,aq 13,aq 14],[],[]⟩)]) [] (bS true [([0],[])])) ca bK ak b8 Tryz.func55 (br (fg fo (fg fo (fg fo le_nil)))) h
def adA(n:Nat):aU 55 (yV n):=by
 intro a r h;unfold yV at h;split at h
 case h_2=>cases h
 split at h
 case h_2=>cases h
 split at h
 case h_2=>cases h
 split at h
 case h_2=>cases h
 exact adz n _ _ _ _ h
def adB(n:Nat)(a0:D)(a:D)(c:D)(d:D){r:D}(h:JN n a0 a c d=some r):cF bV bW 35 [a0,(D.fn (.func yC) [] [a,c,d])] (·=r):=cW (bp n [aP adA] (bz true [([3],⟨[(1,.b (.fd yC 3)),aX 5 10,aq 12,aq 13],[aJ 10 1],[]⟩)]) [] (bz true [([0],⟨[aX 5 10],[aJ 10 1],[]⟩)])) ca cZ ak b8 Tryz.func35 (br (br le_nil)) h
def adC(n:Nat):aU 35 (yX n):=by
 intro b r h;unfold yX at h;split at h
 case h_2=>cases h
 split at h
 case h_2=>cases h
 rename_i a;obtain rfl:=gU a;exact adB n _ _ _ _ h
def adD(n:Nat):aU 15 (vn n):=cx ⟨dm bV,bW,gD n [aP KG,aP KH,aP KI,aP adC],n,[],bF [],bF [],bF [],dJ [],dq [],dO [15],dI []⟩ (S:=⟨ca,cZ,ak,b8⟩)
def adE(n:Nat)(a0:D)(x1:lZ)(ds:lZ){r:D}(h:JO n a0 x1 ds=some r):cF bV bW 56 [a0,.ref x1 0,.ref ds 0] (·=r):=cW (jm n [] [] [] []) ca bK ak b8 Tryz.func56 (br (fg fo (fg fo le_nil))) h
def adF(n:Nat):aU 56 (DG n):=by
 intro a r h;unfold DG at h;split at h
 case h_2=>cases h
 split at h
 case h_2=>cases h
 split at h
 case h_2=>cases h
 exact adE n _ _ _ h
def adG(n:Nat)(a0:D)(a:D)(c:D){r:D}(h:JP n a0 a c=some r):cF bV bW 35 [a0,(D.fn (.func yD) [] [a,c])] (·=r):=cW (bp n [aP adF] (bz true [([3],⟨[(1,.b (.fd yD 2)),aX 5 10,aq 12,aq 13],[aJ 10 1],[]⟩)]) [] (bz true [([0],⟨[aX 5 10],[aJ 10 1],[]⟩)])) ca cZ ak b8 Tryz.func35 (br (br le_nil)) h
def adH(n:Nat):aU 35 (yY n):=by
 intro b r h;unfold yY at h;split at h
 case h_2=>cases h
 split at h
 case h_2=>cases h
 rename_i a;obtain rfl:=gU a;exact adG n _ _ _ h
def adI(n:Nat):aU 17 (qP n):=fy ⟨dm bV,bW,gD n [aP KG,aP KH,aP KI,aP adH,aP Sp],n,[],bF [],bF [],bF [],dJ [],dq [],dO [],dI [(3,[[],[],[5,7]])]⟩ (S:=⟨ca,cZ,ak,b8⟩)
def adJ(n:Nat):aU 20 (sD n):=cx (bp n [aP KI] [] [] [])
def adK(n:Nat)(a0:D)(x1:lZ)(ds:lZ){r:D}(h:JQ n a0 x1 ds=some r):cF bV bW 44 [a0,.ref x1 0,.ref ds 0] (·=r):=cW (jm n [] [] [] []) ca bK ak b8 Tryz.func44 (br (fg fo (fg fo le_nil))) h
def adL(n:Nat):aU 44 (DI n):=by
 intro a r h;unfold DI at h;split at h
 case h_2=>cases h
 split at h
 case h_2=>cases h
 split at h
 case h_2=>cases h
 exact adK n _ _ _ h
def adM(n:Nat)(a0:D)(a:D)(c:D){r:D}(h:JR n a0 a c=some r):cF bV bW 35 [a0,(D.fn (.func uW) [] [a,c])] (·=r):=cW (bp n [aP adL] (bz true [([3],⟨[(1,.b (.fd uW 2)),aX 5 10,aq 12,aq 13],[aJ 10 1],[]⟩)]) [] (bz true [([0],⟨[aX 5 10],[aJ 10 1],[]⟩)])) ca cZ ak b8 Tryz.func35 (br (br le_nil)) h
def adN(n:Nat):aU 35 (vo n):=by
 intro b r h;unfold vo at h;split at h
 case h_2=>cases h
 split at h
 case h_2=>cases h
 rename_i a;obtain rfl:=gU a;exact adM n _ _ _ h
def adO(n:Nat)(a0:D)(x1:lZ)(ds:lZ){r:D}(h:JS n a0 x1 ds=some r):cF bV bW 45 [a0,.ref x1 0,.ref ds 0] (·=r):=cW (jm n [] [] [] []) ca bK ak b8 Tryz.func45 (br (fg fo (fg fo le_nil))) h
def adP(n:Nat):aU 45 (DK n):=by
 intro a r h;unfold DK at h;split at h
 case h_2=>cases h
 split at h
 case h_2=>cases h
 split at h
 case h_2=>cases h
 exact adO n _ _ _ h
def adQ(n:Nat)(a0:D)(a:D)(c:D){r:D}(h:JT n a0 a c=some r):cF bV bW 35 [a0,(D.fn (.func uX) [] [a,c])] (·=r):=cW (bp n [aP adP] (bz true [([3],⟨[(1,.b (.fd uX 2)),aX 5 10,aq 12,aq 13],[aJ 10 1],[]⟩)]) [] (bz true [([0],⟨[aX 5 10],[aJ 10 1],[]⟩)])) ca cZ ak b8 Tryz.func35 (br (br le_nil)) h
def adR(n:Nat):aU 35 (vp n):=by
 intro b r h;unfold vp at h;split at h
 case h_2=>cases h
 split at h
 case h_2=>cases h
 rename_i a;obtain rfl:=gU a;exact adQ n _ _ _ h
def Sq(n:Nat):aU 197 (yZ n):=bR (bp n [] [] [] [])
def adS(n:Nat):aU 232 (DM n):=bR (bp n [] [] [] [])
def adT(n:Nat):aU 198 (DN n):=fy (bp n [aP adS,aP Sq] (bS true [([1],[0,1,2])]) [] (bS true [([0],[1])]))
def adU(n:Nat):aU 200 (JU n):=uk (bp n [] [] [] [])
def adV(n:Nat):aU 199 (y1 n):=cx (bp n [] (bS true [([2],[0,1,5])]) [] (bS true [([0],[])]))
def KJ(n:Nat):aU 140 (sE n):=bR (bp n [aP Sq,aP adT,aP adU,aP adV] [] [] [])
def adW(n:Nat):aU 141 (y2 n):=bR (bp n [] [] [] [])
def A4(n:Nat):aU 105 (pz n):=bR (bp n [] [] (bS true [([19000007],[3])]) [])
def adX(n:Nat):aU 99 (DO n):=bR (bp n [aP KJ,aP adW,aP A4] (bS true [([2],[0,4]),([7],[0,4,5])]) [] (bS true [([0],[]),([1,2],[0,4])]))
def adY(n:Nat):aU 142 (DQ n):=bR (bp n [] (bS true [([2],[0,3])]) [] (bS true [([0],[3])]))
def adZ(n:Nat):aU 100 (DS n):=bR (bp n [aP A4,aP adY] (bS true [([3],[1008,3,4])]) [] (bS true [([0],[3])]))
def Sr(n:Nat):aU 143 (y5 n):=cx (bp n [] (bS true [([2],[1,2008,5])]) [] (bS true [([0],[])]))
def Ss(n:Nat):aU 144 (y7 n):=cx (bp n [] (bS true [([2],[1,2008,5])]) [] (bS true [([0],[])]))
def ad0(n:Nat):aU 241 (DT n):=cx (bp n [] (bS true [([2],[0,1,5])]) [] (bS true [([0],[])]))
def ad1(n:Nat):aU 238 (vt n):=cx (bp n [aP ad0] (bz true [([6],⟨[aq 0,aq 1,aX 5 12,aq 6,aq 7],[aJ 12 1],[]⟩)]) (bz true [([28000009],⟨[aq 0,aq 1,aX 5 32,aq 6,aq 7],[aJ 32 1],[]⟩),([41000013],⟨[aX 5 45],[aJ 45 1],[]⟩)]) (bz true [([0],⟨[aq 1,aX 5 12,aq 6],[aJ 12 1],[]⟩)]))
def ad2(a:lZ->oX)(n:Nat)(a0:D)(aG:D)(a2:D)(b:aU 221 a){r:D}(h:y9 a n a0 aG a2=some r):cF bV bW 221 [a0,aG,a2] (·=r):=cW (bp n [aP ad1,kX b] (bS true [([4],[1,2,3004,7])]) (bS true [([11000002],[1,2,3004])]) (bS true [([0],[2])])) ca cZ ak b8 Tryz.func221 (br (br (br le_nil))) h
def St:∀n,aU 221 (od n)
 |0=>(λ_ _ h=>by cases h)
 |n+1=>by
  have ih:=St n;exact(by
   intro a r h;unfold od at h;split at h
   case h_2=>cases h
   exact ad2 (od n) n _ _ _ ih h)
def ad3(n:Nat):aU 221 (od n):=(St n)
def KK(n:Nat):aU 172 (vu n):=bR (bp n [aP ad3] [] [] [])
def ad4(n:Nat):aU 145 (DX n):=cx (bp n [aP KK,aP Ss] (bz true [([4],⟨[sp 2,aX 5 15,aX 6 17,aq 7],[aV 2 8,aJ 15 1,aJ 17 1],[]⟩),([8],⟨[sp 2,aX 5 15,aX 6 17,aq 7,aq 8,aq 10],[aV 2 8,aJ 15 1,aJ 17 1],[]⟩)]) (bz true [([57000012],⟨[sp 2,aX 5 15,aX 6 64,aq 7,aq 8,aq 10],[aV 2 8,aJ 15 1,aJ 64 1],[]⟩)]) (bz true [([0],⟨[aX 5 15],[aJ 15 1],[]⟩),([1,2],⟨[sp 2,aX 5 15,aX 6 17,aq 7],[aV 2 8,aJ 15 1,aJ 17 1],[]⟩),([3],⟨[sp 2,aX 5 15,aX 6 64,aq 7,aq 8,aq 10],[aV 2 8,aJ 15 1,aJ 64 1],[]⟩)]))
def ad5(n:Nat):aU 233 (za n):=bR (bp n [] [] (bS true [([5003,5004,5005],[0,4,5]),([12010],[0,4,12])]) (bS true [([0],[0])]))
def Su(n:Nat):aU 204 (zb n):=cx (bp n [aP ad5] [] (bS true [([22000008,25000010],[2004,5,6,7,8])]) [])
def ad6(a:lZ->oX)(n:Nat)(a0:D)(aG:D)(a2:D)(b:aU 174 a){r:D}(h:JY a n a0 aG a2=some r):cF bV bW 174 [a0,aG,a2] (·=r):=cW (bp n [aP Su,kX b] (bS true [([8],[1,2,3004,9])]) [] (bS true [([0],[2])])) ca cZ ak b8 Tryz.func174 (br (br (br le_nil))) h
def Sv:∀n,aU 174 (pA n)
 |0=>(λ_ _ h=>by cases h)
 |n+1=>by
  have ih:=Sv n;exact(by
   intro a r h;unfold pA at h;split at h
   case h_2=>cases h
   exact ad6 (pA n) n _ _ _ ih h)
def ad7(n:Nat):aU 174 (pA n):=(Sv n)
def KL(n:Nat):aU 131 (vv n):=bR (bp n [aP ad7] [] [] [])
def Sw(n:Nat):aU 203 (vw n):=cx (bp n [] (bS true [([2],[0,1,5])]) [] (bS true [([0],[])]))
def ad8(n:Nat):aU 201 (ze n):=cx (bp n [aP KK,aP Sw] (bz true [([4],⟨[aq 1,aX 5 10,aq 6,aq 8],[aJ 10 1],[]⟩)]) (bz true [([29000008],⟨[aq 1,aX 5 33,aq 6,aq 8],[aJ 33 1],[]⟩)]) (bz true [([0],⟨[aX 5 10],[aJ 10 1],[]⟩),([1],⟨[aq 1,aX 5 33,aq 6,aq 8],[aJ 33 1],[]⟩)]))
def Sx(n:Nat):aU 202 (sH n):=cx (bp n [] (bS true [([2],[0,1,5])]) [] (bS true [([0],[])]))
def ad9(a:lZ->oX)(n:Nat)(a0:D)(aG:D)(a2:D)(b:aU 149 a){r:D}(h:DZ a n a0 aG a2=some r):cF bV bW 149 [a0,aG,a2] (·=r):=cW ⟨(dm Tryz.prog).uh [42],bW,fx [(201,ze n),(202,sH n),(149,a)],n,[],bF (bS true [([3],[1,2,7,8])]),bF (bS true [([24000006],[1,2,7,8])]),bF (bS true [([0],[2]),([1],[1,2,7,8])]),dJ [(6,[0,1,2,3,4,5,6,7,12,13,14,15,8,9,10,11,16,17,18,19])],dq [],dO [],dI []⟩ ((tok _).uh _) (df (ad8 n) (df (Sx n) (df b bK))) ak b8 Tryz.func149 (br (br (br le_nil))) h
def Sy:∀n,aU 149 (oe n)
 |0=>(λ_ _ h=>by cases h)
 |n+1=>by
  have ih:=Sy n;exact(by
   intro a r h;unfold oe at h;split at h
   case h_2=>cases h
   exact ad9 (oe n) n _ _ _ ih h)
def Sz(n:Nat):aU 149 (oe n):=(Sy n)
def aea(n:Nat):aU 150 (D0 n):=cx (bp n [aP Sz,aP Sx] [] [] [])
def aeb(a:lZ->oX)(n:Nat)(a0:D)(aG:D)(a2:D)(a3:D)(b:aU 151 a){r:D}(h:nf a n a0 aG a2 a3=some r):cF bV bW 151 [a0,aG,a2,a3] (·=r):=cW (bp n [aP Sw,kX b,aP Su] (bz true [([13],⟨[aq 1,aq 2,aq 3,sp 4,sp 8,aX 13 53,aq 14],[aV 4 4,aV 8 4,aJ 53 4],[]⟩)]) (bS true [([20000002],[1,2,3,4004,8004])]) (bz true [([0],⟨[aq 3,sp 4,sp 8,aX 13 53],[aV 4 4,aV 8 4,aJ 53 4],[]⟩)])) ca cZ ak b8 Tryz.func151 (br (br (br (br le_nil)))) h
def SA:∀n,aU 151 (og n)
 |0=>(λ_ _ h=>by cases h)
 |n+1=>by
  have ih:=SA n;exact(by
   intro a r h;unfold og at h;split at h
   case h_2=>cases h
   exact aeb (og n) n _ _ _ _ ih h)
def aec(n:Nat):aU 151 (og n):=(SA n)
def Fz(n:Nat):aU 107 (kU n):=cx (bp n [aP KL,aP Sz,aP aea,aP aec] (bS true [([6],[1,2004,4004,7,8])]) [] (bS true [([0],[1,2004,4004])]))
def SB(n:Nat):aU 175 (oh n):=cx (bp n [] [] [] [])
def KM(n:Nat):aU 113 (vy n):=cx (bp n [] (bS true [([2],[0,1,5])]) [] (bS true [([0],[])]))
def aed(n:Nat):aU 222 (D1 n):=bR (bp n [] (bS true [([2],[0,3])]) [] (bS true [([0],[])]))
def aee(n:Nat):aU 223 (D3 n):=cx (bp n [] (bz true [([4],⟨[aX 6 30,aq 7,aq 8,aq 9],[aJ 30 1],[]⟩)]) [] (bS true [([0],[7,8])]))
def aef(n:Nat):aU 176 (vz n):=cx (bp n [aP aed,aP SB,aP aee] [] (bS true [([13005,13006,13007,13008],[1,2004,4003,6003,7,12,13]),([25013],[1,2004,4003,6003,7,12,25])]) (bS true [([0],[1,2004,4003,6003,7])]))
def aeg(a:lZ->oX)(n:Nat)(a0:D)(aG:D)(a2:D)(b:aU 132 a){r:D}(h:pB a n a0 aG a2=some r):cF bV bW 132 [a0,aG,a2] (·=r):=cW (bp n [aP SB,aP KM,kX b,aP aef] (bz true [([18],⟨[aq 0,aq 2,sp 4,sp 6,aX 9 64,aq 10],[aV 4 4,aV 6 3,aJ 64 3],[]⟩)]) (bS true [([27007],[0,2,4004,6003,27])]) (bz true [([1],⟨[sp 4,sp 6,aX 9 64],[aV 4 4,aV 6 3,aJ 64 3],[]⟩)])) ca cZ ak b8 Tryz.func132 (br (br (br le_nil))) h
def SC:∀n,aU 132 (j9 n)
 |0=>(λ_ _ h=>by cases h)
 |n+1=>by
  have ih:=SC n;exact(by
   intro a r h;unfold j9 at h;split at h
   case h_2=>cases h
   exact aeg (j9 n) n _ _ _ ih h)
def aeh(n:Nat):aU 132 (j9 n):=(SC n)
def KN(n:Nat):aU 87 (sI n):=fy (bp n [aP KL,aP aeh] [] [] [])
def KO(n:Nat):aU 146 (sJ n):=fy (bp n [aP Fz,aP KN] [] [] [])
def aei(n:Nat):aU 101 (sL n):=bR (bp n [aP KJ,aP Sr,aP Ss,aP ad4,aP KO] (bS true [([2],[1008,4]),([9],[1008,5]),([14],[1008,6])]) [] (bS true [([0,2],[1008]),([4],[])]))
def SD(n:Nat):aU 147 (vB n):=fy (bp n [aP KO] [] [] [])
def aej(n:Nat):aU 102 (qQ n):=fy (bp n [aP SD] (bS true [([2],[1,2,3008,8])]) [] (bS true [([0],[])]))
def aek(n:Nat):aU 103 (zp n):=bR (bp n [aP Sr,aP KO] (bS true [([2],[1008,4]),([8],[1008,4,5,6])]) (bS true [([69000014],[1008,4,8])]) (bS true [([0],[]),([1],[1008,4]),([2],[1008,4,5])]))
def ael(n:Nat):aU 171 (zq n):=bR (bp n [] [] (bS true [([6005,6006,6007,6008,6009,6010],[3,6]),([14013,14014,14015,14016],[14])]) (bS true [([0],[])]))
def aem(n:Nat):aU 173 (D5 n):=bR (bp n [] [] [] [])
def aen(n:Nat):aU 130 (qS n):=bR (bp n [aP ael,aP KL,aP KK,aP aem] [] (bS true [([12000004],[1006])]) [])
def aeo(a:lZ->oX)(n:Nat)(a0:D)(aG:D)(a2:D)(b:aU 86 a){r:D}(h:J5 a n a0 aG a2=some r):cF bV bW 86 [a0,aG,a2] (·=r):=cW (bp n [aP aen,kX b] (bS true [([10],[1,2,3006,9])]) [] (bS true [([0],[2])])) ca cZ ak b8 Tryz.func86 (br (br (br le_nil))) h
def SE:∀n,aU 86 (pC n)
 |0=>(λ_ _ h=>by cases h)
 |n+1=>by
  have ih:=SE n;exact(by
   intro a r h;unfold pC at h;split at h
   case h_2=>cases h
   exact aeo (pC n) n _ _ _ ih h)
def aep(n:Nat):aU 86 (pC n):=(SE n)
def KP(n:Nat):aU 46 (vE n):=bR (bp n [aP aep] [] [] [])
def aeq(a:lZ->oX)(n:Nat)(a0:D)(aG:D)(b:aU 148 a){r:D}(h:zs a n a0 aG=some r):cF bV bW 148 [a0,aG] (·=r):=cW (bp n [aP SD,kX b] (bS true [([4],[2008,3006,5])]) [] (bS true [([0],[])])) ca cZ ak b8 Tryz.func148 (br (br le_nil)) h
def SF:∀n,aU 148 (pD n)
 |0=>(λ_ _ h=>by cases h)
 |n+1=>by
  have ih:=SF n;exact(by
   intro a r h;unfold pD at h;split at h
   case h_2=>cases h
   exact aeq (pD n) n _ _ ih h)
def aer(n:Nat):aU 148 (pD n):=(SF n)
def aes(n:Nat):aU 104 (zt n):=bR (bp n [aP KJ,aP KP,aP aer] (bS true [([2],[1008,4]),([7],[1008,4,5])]) (bS true [([50000013],[1008,4,6])]) (bS true [([0],[]),([1,2],[1008,4])]))
def SG(n:Nat):aU 57 (l9 n):=bR (bp n [aP adX,aP adZ,aP aei,aP aej,aP aek,aP aes] (bz true [([3],⟨[sp 1,sp 2,aX 4 33,aq 5],[aV 1 8,aV 2 2,aJ 33 1],[]⟩),([13],lp [1008,2002,6,7,8])]) (bS true [([68018017,75020019,84022021,93024023,100026025,109028027,118000029],[1008,2002,6,7,8])]) (bS true [([0],[1008,2002]),([2],[2002]),([3,4],[1008,2002,6,7,8])]))
def SH(n:Nat):aU 58 (vG n):=cx (bp n [aP A4] (bS true [([3],[0,1,5,6])]) [] (bS true [([0],[])]))
def aet(n:Nat):aU 27 (qU n):=cx (bp n [aP SG,aP SH] [] [] [])
def aeu(n:Nat):aU 106 (ma n):=cx (bp n [aP Fz] (bz true [([3],⟨[aq 0,aq 1,aX 7 11,aq 8],[aJ 11 4],[]⟩)]) [] (bz true [([0],⟨[aX 7 11],[aJ 11 4],[]⟩)]))
def aev(a:lZ->oX)(n:Nat)(a0:D)(aG:D)(b:aU 152 a){r:D}(h:oi a n a0 aG=some r):cF bV bW 152 [a0,aG] (·=r):=cW (bp n [aP Fz,kX b] (bz true [([9],⟨[aq 1,sp 2,sp 4,aX 8 29,aq 9],[aV 2 6,aV 4 6,aJ 29 6],[]⟩)]) [] (bz true [([0],⟨[sp 2,sp 4,aX 8 29],[aV 2 6,aV 4 6,aJ 29 6],[]⟩)])) ca cZ ak b8 Tryz.func152 (br (br le_nil)) h
def SI:∀n,aU 152 (lx n)
 |0=>(λ_ _ h=>by cases h)
 |n+1=>by
  have ih:=SI n;exact(by
   intro a r h;unfold lx at h;split at h
   case h_2=>cases h
   exact aev (lx n) n _ _ ih h)
def aew(n:Nat):aU 152 (lx n):=(SI n)
def aex(n:Nat):aU 108 (vJ n):=cx (bp n [aP KP,aP aew] [] [] [])
def SJ(n:Nat):aU 59 (zv n):=bR ⟨dm bV,bW,gD n [aP aeu,aP Fz,aP aex],n,[],bF (bz true [([11],⟨[sp 1,sp 2,sp 3,sp 5,aq 9],[aV 1 8,aV 2 8,aV 3 2,(5,.box [.b (.d),.b (.d),.b (.d),.b (.d),.b (.row 5000),.b (.d),.b (.d),.b (.d)]),aJ 5000 5],[.box 5 4 5000 5]⟩),([26],⟨[sp 1,sp 2,sp 3,sp 5,aq 12],[aV 1 8,aV 2 8,aV 3 2,(5,.box [.b (.d),.b (.d),.b (.d),.b (.d),.b (.row 5000),.b (.d),.b (.d),.b (.row 5001)]),aJ 5000 5,aJ 5001 7],[.box 5 7 5001 7]⟩)]),bF [],bF (bz true [([0],⟨[sp 1,sp 2,sp 3,sp 5],[aV 1 8,aV 2 8,aV 3 2,(5,.box [.b (.d),.b (.d),.b (.d),.b (.d),.b (.row 5000),.b (.d),.b (.d),.b (.d)]),aJ 5000 5],[]⟩),([2],⟨[sp 2,sp 3,sp 5],[aV 2 8,aV 3 2,(5,.box [.b (.d),.b (.d),.b (.d),.b (.d),.b (.row 5000),.b (.d),.b (.d),.b (.row 5001)]),aJ 5000 5,aJ 5001 7],[]⟩)]),dJ [],dq [],dO [20002],dI []⟩ (S:=⟨ca,cZ,ak,b8⟩)
def FA(n:Nat):aU 109 (pE n):=bR (bp n [aP SJ] [] [] [])
def aey(n:Nat):aU 153 (vM n):=bR (bp n [aP A4] (bS true [([3],[1008,4,5]),([8],[1008,4,6])]) [] (bS true [([0],[1008,4]),([2],[4])]))
def aez(n:Nat):aU 110 (Ea n):=cx ⟨dm bV,bW,gD n [aP aey,aP A4],n,[],bF (bz true [([6],⟨[sp 2,aX 7 26,aq 8],[aV 2 8,aJ 26 1],[]⟩),([13],⟨[sp 2,aX 7 26,aq 8,aq 9,aX 10 46,aq 11],[aV 2 8,aJ 26 1,aJ 46 1],[]⟩),([16],⟨[sp 2,aX 7 26,aq 8,aq 9,aX 10 46,aq 11,aq 12],[aV 2 8,aJ 26 1,aJ 46 1],[]⟩)]),bF (bz true [([45000010],⟨[sp 2,aX 7 26,aq 8,aq 9],[aV 2 8,aJ 26 1],[]⟩)]),bF (bz true [([0],⟨[aX 7 26],[aJ 26 1],[]⟩),([1],⟨[sp 2,aX 7 46,aq 8],[aV 2 8,aJ 46 1],[]⟩),([2],⟨[sp 2,aq 8,aX 10 46],[aV 2 8,aJ 46 1],[]⟩),([3,4],⟨[sp 2,aX 7 26,aq 8,aq 9,aX 10 46,aq 11],[aV 2 8,aJ 26 1,aJ 46 1],[]⟩)]),dJ [],dq [],dO [26,75],dI []⟩ (S:=⟨ca,cZ,ak,b8⟩)
def aeA(n:Nat):aU 154 (zB n):=cx (bp n [] (bS true [([4],[1,2008,5])]) [] (bS true [([0],[])]))
def aeB(a:lZ->oX)(n:Nat)(a0:D)(b:aU 155 a){r:D}(h:Eb a n a0=some r):cF bV bW 155 [a0] (·=r):=cW (bp n [kX b] (bS true [([4],[1004,3])]) [] (bS true [([0],[])])) ca cZ ak b8 Tryz.func155 (br le_nil) h
def SK:∀n,aU 155 (oj n)
 |0=>(λ_ _ h=>by cases h)
 |n+1=>by
  have ih:=SK n;exact(by
   intro a r h;unfold oj at h;split at h
   case h_2=>cases h
   exact aeB (oj n) n _ ih h)
def aeC(n:Nat):aU 155 (oj n):=(SK n)
def aeD(n:Nat):aU 205 (mb n):=bR (bp n [] [] [] [])
def aeE(n:Nat):aU 206 (sN n):=bR (bp n [] [] [] [])
def aeF(n:Nat):aU 207 (zD n):=bR (bp n [] [] [] [])
def aeG(a:lZ->oX)(n:Nat)(a0:D)(aG:D)(a2:D)(a3:D)(b:aU 156 a){r:D}(h:iP a n a0 aG a2 a3=some r):cF bV bW 156 [a0,aG,a2,a3] (·=r):=cW (bp n [aP KM,aP aeD,aP aeE,kX b,aP aeF] (bz true [([18],⟨[aq 0,aq 2,aq 3,sp 5,aX 12 55,aq 13,aq 14],[aV 5 4,aJ 55 1],[]⟩)]) (bz true [([20003],lp [0,2,3,5004,19,20]),([25006],lp [0,2,3,5004,25]),([34011010],lp [0,10,11]),([88000025],⟨[aq 0,aq 2,aq 3,sp 5,aX 12 80,aq 13,aq 14],[aV 5 4,aJ 80 1],[]⟩),([94030029,100032031,107034033,112036035,125039038,136041040,146043042,156045044,166047046,175049048,184053050,209055054,226000056,234000058],lp [17]),([125037],⟨[aX 12 55,aq 17,aq 93,aq 125],[aJ 55 1],[]⟩)]) (bz true [([1],⟨[sp 5,aX 12 55,aq 13],[aV 5 4,aJ 55 1],[]⟩),([2],⟨[aq 0,aq 2,aq 3,sp 5,aX 12 80,aq 13,aq 14],[aV 5 4,aJ 80 1],[]⟩),([3],lp [17])])) ca cZ ak b8 Tryz.func156 (br (br (br (br le_nil)))) h
def SL:∀n,aU 156 (om n)
 |0=>(λ_ _ h=>by cases h)
 |n+1=>by
  have ih:=SL n;exact(by
   intro a r h;unfold om at h;split at h
   case h_2=>cases h
   exact aeG (om n) n _ _ _ _ ih h)
def aeH(n:Nat):aU 156 (om n):=(SL n)
def KQ(n:Nat):aU 112 (ly n):=uF (bp n [aP KN,aP aeC,aP aeH] [] [] [])
def FB(n:Nat):aU 114 (qW n):=uF (bp n [aP KQ] (bS true [([2],[0,1,2,3,9])]) [] (bS true [([0],[])]))
def KR(n:Nat):aU 111 (qX n):=cx (bp n [aP aeA,aP FB] [] [] [])
def aeI(n:Nat):aU 60 (Ed n):=bR (bp n [aP FA,aP aez,aP KR] (bz true [([5],⟨[sp 3,aX 4 9,aq 5,aq 6],[aV 3 8,aJ 9 1],[]⟩)]) (bz true [([23000008],⟨[sp 3,aX 4 30,aq 5,aq 6],[aV 3 8,aJ 30 1],[]⟩)]) (bz true [([0],⟨[aX 4 9],[aJ 9 1],[]⟩),([1],⟨[sp 3,aX 4 30,aq 5,aq 6],[aV 3 8,aJ 30 1],[]⟩)]))
def aeJ(n:Nat):aU 61 (sO n):=fy (bp n [aP FA,aP KR,aP KQ,aP KM,aP FB] (bS true [([5],[1,2,7008,8])]) [] (bS true [([0],[1,2,7008])]))
def aeK(n:Nat):aU 62 (zH n):=cx (bp n [aP FA,aP KR,aP FB] [] [] [])
def aeL(n:Nat):aU 63 (Ef n):=cx (bp n [aP FA,aP FB] (bz true [([4],⟨[aq 1,sp 5,aX 6 10,aq 7],[aV 5 8,aJ 10 1],[]⟩)]) [] (bz true [([0],⟨[aX 6 10],[aJ 10 1],[]⟩)]))
def aeM(n:Nat):aU 28 (vR n):=bR ⟨dm bV,bW,gD n [aP SG,aP SH,aP SJ,aP aeI,aP aeJ,aP aeK,aP aeL],n,[],bF (bz true [([10],⟨[sp 1,sp 2,sp 6,aq 7],[aV 1 8,aV 2 4,(6,.box [.b (.d),.b (.row 5003),.b (.row 5004),.b (.row 5005)]),aJ 5003 1,aJ 5004 1,aJ 5005 1],[.box 6 1 5003 1,.box 6 2 5004 1,.box 6 3 5005 1]⟩),([14],⟨[sp 1,sp 2,sp 6,aq 7,aX 8 5001,aq 9],[aV 1 8,aV 2 4,(6,.box [.b (.d),.b (.row 5003),.b (.row 5004),.b (.row 5005)]),aJ 5001 1,aJ 5003 1,aJ 5004 1,aJ 5005 1],[.slot 8 5001 1]⟩)]),bF (bz true [([58000017],⟨[sp 1,sp 2,sp 6,aq 7,aX 8 62,aq 9],[aV 1 8,aV 2 4,(6,.box [.b (.d),.b (.row 5003),.b (.row 5004),.b (.row 5005)]),aJ 62 1,aJ 5003 1,aJ 5004 1,aJ 5005 1],[.slot 8 5000 1]⟩),([75000020],⟨[sp 1,sp 2,sp 6,aq 7],[aV 1 8,aV 2 4,(6,.box [.b (.d),.b (.row 67),.b (.row 80),.b (.row 5005)]),aJ 67 1,aJ 80 1,aJ 5005 1],[.box 6 2 5002 1]⟩)]),bF (bz true [([0],⟨[sp 2,sp 6],[aV 2 4,(6,.box [.b (.d),.b (.row 5003),.b (.row 5004),.b (.row 5005)]),aJ 5003 1,aJ 5004 1,aJ 5005 1],[]⟩),([1],⟨[sp 1,sp 2,sp 6,aq 7],[aV 1 8,aV 2 4,(6,.box [.b (.d),.b (.row 67),.b (.row 80),.b (.row 92)]),aJ 67 1,aJ 80 1,aJ 92 1],[]⟩),([2],⟨[sp 1,sp 2,sp 6,aq 7,aX 8 5001],[aV 1 8,aV 2 4,(6,.box [.b (.d),.b (.row 5003),.b (.row 5004),.b (.row 5005)]),aJ 5001 1,aJ 5003 1,aJ 5004 1,aJ 5005 1],[]⟩),([3],⟨[sp 1,sp 2,sp 6,aq 7,aX 8 62,aq 9],[aV 1 8,aV 2 4,(6,.box [.b (.d),.b (.row 5003),.b (.row 5004),.b (.row 5005)]),aJ 62 1,aJ 5003 1,aJ 5004 1,aJ 5005 1],[]⟩)]),dJ [],dq [],dO [66],dI []⟩ (S:=⟨ca,cZ,ak,b8⟩)
def SM(n:Nat):aU 208 (zI n):=bR (bp n [] [] [] [])
def aeN(n:Nat):aU 234 (Eg n):=bR (bp n [] [] [] [])
def aeO(n:Nat):aU 210 (Eh n):=bR (bp n [aP SM,aP aeN] [] [] [])
def aeP(n:Nat)(a0:D){r:D}(h:Ke n a0=some r):cF bV bW 209 [a0,(D.val (.func (.func yE) #[] #[]))] (·=r):=cW (bp n [aP aeO] (bz true [([2],⟨[aq 0,(1,.b (.x9 yE)),aq 5],[],[]⟩)]) [] (bS true [([0],[5])])) ca cZ ak b8 Tryz.func209 (br (br le_nil)) h
def aeQ(n:Nat):aU 209 (zK n):=by
 intro b r h;unfold zK at h;split at h
 case h_2=>cases h
 obtain⟨a,h⟩:=hA h;obtain rfl:=Pz a;exact aeP n _ h
def aeR(n:Nat):aU 235 (zL n):=cx (bp n [] (bS true [([2],[0,1,7,8])]) [] (bS true [([0],[])]))
def aeS(n:Nat):aU 211 (Ei n):=cx (bp n [aP aeR] [] [] [])
def KS(n:Nat):aU 158 (sP n):=bR (bp n [aP SM,aP aeQ,aP aeS] [] [] [])
def aeT(n:Nat)(a0:D)(x1:lZ){r:D}(h:Kh n a0 x1=some r):cF bV bW 157 [a0,.ref x1 0] (·=r):=cW (jm n [] [] [] []) ca bK ak b8 Tryz.func157 (br (fg fo le_nil)) h
def aeU(n:Nat):aU 157 (zM n):=by
 intro a r h;unfold zM at h;split at h
 case h_2=>cases h
 split at h
 case h_2=>cases h
 exact aeT n _ _ h
def aeV(n:Nat)(a0:D)(a:D){r:D}(h:Ki n a0 a=some r):cF bV bW 122 [a0,(D.fn (.func n9) [] [a])] (·=r):=cW (bp n [aP aeU] (bz true [([2],⟨[aq 0,(1,.b (.fd n9 1)),aq 7,aq 8],[],[]⟩)]) [] (bS true [([0],[])])) ca cZ ak b8 Tryz.func122 (br (br le_nil)) h
def aeW(n:Nat):aU 122 (vT n):=by
 intro b r h;unfold vT at h;split at h
 case h_2=>cases h
 split at h
 case h_2=>cases h
 rename_i a;obtain rfl:=gU a;exact aeV n _ _ h
def aeX(n:Nat)(a0:D)(a:D){r:D}(h:Kj n a0 a=some r):cF bV bW 159 [a0,(D.fn (.func n9) [] [a])] (·=r):=cW (bp n [aP aeW] [] [] []) ca cZ ak b8 Tryz.func159 (br (br le_nil)) h
def aeY(n:Nat):aU 159 (zN n):=by
 intro b r h;unfold zN at h;split at h
 case h_2=>cases h
 split at h
 case h_2=>cases h
 rename_i a;obtain rfl:=gU a;exact aeX n _ _ h
def aeZ(n:Nat):aU 115 (vU n):=bR (bp n [aP KS,aP aeY] (bS true [([2],[0,8,9,10])]) [] (bS true [([0],[])]))
def KT(n:Nat):aU 117 (vV n):=bR (bp n [] [] [] [])
def ae0(n:Nat):aU 160 (Ek n):=bR (bp n [] (bS true [([2],[0,4])]) [] (bS true [([0],[])]))
def ae1(n:Nat):aU 116 (zO n):=bR (bp n [aP KT,aP ae0] (bS true [([3],[3,7,8,9])]) [] (bS true [([0],[3])]))
def ae2(n:Nat):aU 285 (zP n):=bR (bp n [] [] [] [])
def ae3(n:Nat):aU 278 (zQ n):=bR (bp n [] [] [] [])
def ae4(n:Nat):aU 274 (ni n):=bR (bp n [] [] [] [])
def ae5(n:Nat):aU 270 (zS n):=bR (bp n [] [] [] [])
def ae6(n:Nat):aU 265 (zT n):=bR (bp n [] [] [] [])
def ae7(n:Nat):aU 258 (zU n):=bR (bp n [] [] [] [])
def ae8(n:Nat)(a0:D)(x1:lZ){r:D}(h:Em n a0 x1=some r):cF bV bW 288 [a0,.ref x1 0] (·=r):=cW (jm n [] [] [] []) ca bK ak b8 Tryz.func288 (br (fg fo le_nil)) h
def ae9(n:Nat):aU 288 (En n):=by
 intro a r h;unfold En at h;split at h
 case h_2=>cases h
 split at h
 case h_2=>cases h
 exact ae8 n _ _ h
def afa(n:Nat)(a0:D)(a:D){r:D}(h:zW n a0 a=some r):cF bV bW 290 [a0,(D.fn (.func nc) [] [a])] (·=r):=cW (bp n [aP ae9] (bz true [([2],⟨[aq 0,(1,.b (.fd nc 1)),aq 7,aq 8],[],[]⟩)]) [] (bS true [([0],[])])) ca cZ ak b8 Tryz.func290 (br (br le_nil)) h
def afb(n:Nat):aU 290 (vW n):=by
 intro b r h;unfold vW at h;split at h
 case h_2=>cases h
 split at h
 case h_2=>cases h
 rename_i a;obtain rfl:=gU a;exact afa n _ _ h
def afc(n:Nat)(a0:D)(a:D){r:D}(h:Eo n a0 a=some r):cF bV bW 287 [a0,(D.fn (.func nc) [] [a])] (·=r):=cW (bp n [aP afb] [] [] []) ca cZ ak b8 Tryz.func287 (br (br le_nil)) h
def afd(n:Nat):aU 287 (vX n):=by
 intro b r h;unfold vX at h;split at h
 case h_2=>cases h
 split at h
 case h_2=>cases h
 rename_i a;obtain rfl:=gU a;exact afc n _ _ h
def SN(n:Nat):eG KA (qY n):=jE ⟨dm bV,bW,fx [],n,[],bF (bz true [([2],⟨[aX 0 9000,aq 1,aq 5],[aJ 9000 1],[]⟩)]),bF [],bF (bz true [([0],⟨[aX 0 9000,aq 1,aq 5],[aJ 9000 1],[]⟩)]),dJ [],dq [],dO [],dI []⟩ ca bK ak b8 Tryz.func167 []
def afe(n:Nat):eG R0 (sS n):=jE ⟨dm bV,bW,fx [],n,[10000,10001],bF [],bF (bz true [([9004003],⟨[],[(10000,.box [.b (.row 6010)]),(10001,.box [.b (.row 9001)]),aJ 6010 1,aJ 9001 1],[]⟩),([15000005],⟨[],[(10000,.box [.b (.row 9000)]),(10001,.box [.b (.row 6020)]),aJ 9000 1,aJ 6020 1],[]⟩)]),bF (bz true [([0],⟨[],[(10000,.box [.b (.row 6010)]),(10001,.box [.b (.row 9001)]),aJ 6010 1,aJ 9001 1],[]⟩)]),dJ [],dq [(14,⟨KA,qY n,6010,[]⟩),(20,⟨KA,qY n,6020,[]⟩)],dO [],dI []⟩ ca bK (a1 (SN n) (a1 (SN n) ak)) b8 Tryz.func166 []
def aff(a:lZ->oY)(n:Nat)(b:eG te a):eG te (Kk a n):=jE ⟨dm bV,bW,fx [],n,[10000,10001],bF (bz true [([4],⟨[aq 1,(2,.fn (.func Qh) [] [.ptr 10000 0,.ptr 10001 0]),aq 15,aq 16,aq 17],[aV 10000 1,aV 10001 1],[]⟩)]),bF [],bF (bz true [([0],⟨[],[aV 10000 1,aV 10001 1],[]⟩)]),dJ [],dq [(12,⟨RU,yG n,6010,[]⟩),(25,⟨te,a,6020,[]⟩)],dO [],dI []⟩ ca bK (a1 (acR n) (a1 b ak)) b8 Tryz.func163 []
def SO:∀n,eG te (pF n)
 |0=>se (s:=te) (si (T:=dm bV) (os:=λ_=>none) Tryz.func163) (λ_=>rfl)|n+1=>by have ih:=SO n;exact aff (pF n) n ih
def afg(n:Nat):eG te (pF n):=(SO n)
def KU(n:Nat):aU 125 (qZ n):=bR ⟨dm bV,bW,fx [],n,[],bF [],bF [],bF [],dJ [],dq [(7,⟨te,pF n,6010,[]⟩)],dO [],dI []⟩ (S:=⟨ca,bK,(a1 (afg n) ak),b8⟩)
def afh(a:lZ->oY)(n:Nat)(c:eG tg a):eG tg (Kl a n):=jE ⟨dm bV,bW,fx [],n,[10000,10001],bF (bz true [([4],⟨[aq 1,(2,.fn (.func Qi) [] [.ptr 10000 0,.ptr 10001 0]),aq 15,aq 16,aq 17],[(10000,.box [.b (.row 6010)]),(10001,.box [.b (.row 6011)]),aJ 6010 1,aJ 6011 1],[]⟩)]),bF [],bF (bz true [([0],⟨[],[(10000,.box [.b (.row 6010)]),(10001,.box [.b (.row 6011)]),aJ 6010 1,aJ 6011 1],[]⟩)]),dJ [],dq [(12,⟨R0,sS n,6010,[]⟩),(25,⟨tg,a,6020,[]⟩)],dO [],dI []⟩ ca bK (a1 (afe n) (a1 c ak)) b8 Tryz.func163 []
def SP:∀n,eG tg (pG n)
 |0=>se (s:=tg) (si (T:=dm bV) (os:=λ_=>none) Tryz.func163) (λ_=>rfl)|n+1=>by have ih:=SP n;exact afh (pG n) n ih
def afi(n:Nat):eG tg (pG n):=(SP n)
def FC(n:Nat):aU 126 (q0 n):=bR ⟨dm bV,bW,fx [],n,[],bF [],bF [],bF [],dJ [(2,[0,1,2,3])],dq [(6,⟨tg,pG n,6010,[.box 3 0 5900 1,.box 2 0 5901 1]⟩)],dO [],dI []⟩ (S:=⟨ca,bK,(a1 (afi n) ak),b8⟩)
def afj(n:Nat):aU 77 (vY n):=bR (bp n [aP KU,aP FC] [] [] [])
def afk(n:Nat):aU 78 (Et n):=bR (bp n [] [] (bS true [([6005,6006,6007,6008],[3,6]),([12011,12012,12013,12014,12015,12016],[12])]) (bS true [([0],[])]))
def afl(n:Nat):eG R1 (zY n):=jE ⟨dm bV,bW,gD n [aP afj,aP afk],n,[10000,10001],bF [],bF (bz true [([40007006,43009008,46011010,50013012,65000014],⟨[(3,.b (.ptr 10001 0))],[aV 10001 1,aV 10000 1],[]⟩)]),bF (bz true [([0],⟨[(3,.b (.ptr 10001 0))],[aV 10001 1,aV 10000 1],[]⟩)]),dJ [],dq [],dO [],dI []⟩ ca cZ ak b8 Tryz.func76 []
def afm(a:lZ->oY)(n:Nat)(b:eG th a):eG th (Km a n):=jE ⟨dm bV,bW,fx [],n,[10000,10001],bF (bz true [([4],⟨[aq 1,(2,.fn (.func Qe) [] [.ptr 10000 0,.ptr 10001 0]),aq 15,aq 16,aq 17],[aV 10000 1,aV 10001 1],[]⟩)]),bF [],bF (bz true [([0],⟨[],[aV 10000 1,aV 10001 1],[]⟩)]),dJ [],dq [(12,⟨R1,zY n,6010,[]⟩),(25,⟨th,a,6020,[]⟩)],dO [],dI []⟩ ca bK (a1 (afl n) (a1 b ak)) b8 Tryz.func75 []
def SQ:∀n,eG th (pH n)
 |0=>se (s:=th) (si (T:=dm bV) (os:=λ_=>none) Tryz.func75) (λ_=>rfl)|n+1=>by have ih:=SQ n;exact afm (pH n) n ih
def afn(n:Nat):eG th (pH n):=(SQ n)
def A5(n:Nat):aU 32 (pI n):=bR ⟨dm bV,bW,fx [],n,[],bF [],bF [],bF [],dJ [],dq [(7,⟨th,pH n,6010,[]⟩)],dO [],dI []⟩ (S:=⟨ca,bK,(a1 (afn n) ak),b8⟩)
def KV(n:Nat):aU 212 (sT n):=bR (bp n [] (bz true [([3],⟨[(3,.b (.map 8)),aq 9,aq 10,aq 11],[(8,.map)],[]⟩)]) (bz true [([24000007],⟨[(3,.b (.map 8)),aq 9,aq 10,aq 11],[(8,.map)],[]⟩)]) (bz true [([0],⟨[(3,.b (.map 8))],[(8,.map)],[]⟩),([1],⟨[(3,.b (.map 8)),aq 9,aq 10,aq 11],[(8,.map)],[]⟩)]))
def afo(n:Nat):aU 213 (z6 n):=bR ⟨dm bV,bW,gD n [aP KV,aP FC],n,[],bF (bz true [([4],⟨[aq 3,aX 4 5002,aq 16,aq 17,aq 18],[aJ 5002 1],[.slot 4 5002 1]⟩),([9],⟨[aq 3,aX 4 5002,aX 7 5001,aq 16,aq 17,aq 18,aq 28,aq 29,aq 30],[aJ 5002 1,aJ 5001 1],[.slot 7 5001 1]⟩)]),bF (bz true [([40000013],⟨[aq 3,aX 4 5002,aX 7 44,aq 16,aq 17,aq 18,aq 28,aq 29,aq 30],[aJ 5002 1,aJ 44 1],[.slot 7 5000 1]⟩)]),bF (bz true [([0],⟨[aX 4 5002],[aJ 5002 1],[]⟩),([1],⟨[aq 3,aX 4 49,aq 16,aq 17,aq 18],[aJ 49 1],[]⟩),([2],⟨[aq 3,aX 4 5002,aX 7 5001,aq 16,aq 17,aq 18],[aJ 5002 1,aJ 5001 1],[]⟩),([3],⟨[aq 3,aX 4 5002,aX 7 44,aq 16,aq 17,aq 18,aq 28,aq 29,aq 30],[aJ 5002 1,aJ 44 1],[]⟩)]),dJ [],dq [],dO [48],dI []⟩ (S:=⟨ca,cZ,ak,b8⟩)
def afp(a:lZ->oY)(n:Nat)(c:eG q5 a):eG q5 (Ew a n):=jE ⟨dm bV,bW,fx [],n,[10000,10001,10002],bF (bz true [([1],⟨[(2,.b (.ptr 10001 0)),(3,.b (.ptr 10002 0)),aq 10,aq 11,aq 12],[(10001,.box [.b (.map 9000)]),(10002,.box [.fn (.func qJ) [] [.ptr 10000 0,.ptr 10001 0,.ptr 10002 0]]),aV 10000 1,(9000,.map)],[]⟩)]),bF (bz true [([19000004],⟨[(2,.b (.ptr 10001 0)),(3,.b (.ptr 10002 0)),aq 10,aq 11,aq 12],[(10001,.box [.b (.map 6010)]),(10002,.box [.fn (.func qJ) [] [.ptr 10000 0,.ptr 10001 0,.ptr 10002 0]]),aV 10000 1,(6010,.map)],[]⟩)]),bF (bz true [([0],⟨[],[aV 10000 1,(10001,.box [.b (.map 9000)]),(10002,.box [.fn (.func qJ) [] [.ptr 10000 0,.ptr 10001 0,.ptr 10002 0]]),(9000,.map)],[]⟩),([1],⟨[(2,.b (.ptr 10001 0)),(3,.b (.ptr 10002 0)),aq 10,aq 11,aq 12],[(10001,.box [.b (.map 6010)]),(10002,.box [.fn (.func qJ) [] [.ptr 10000 0,.ptr 10001 0,.ptr 10002 0]]),aV 10000 1,(6010,.map)],[]⟩)]),dJ [],dq [(24,⟨q5,a,6010,[]⟩)],dO [],dI []⟩ ca bK (a1 c ak) b8 Tryz.func236 []
def SR:∀n,eG q5 (nj n)
 |0=>se (s:=q5) (si (T:=dm bV) (os:=λ_=>none) Tryz.func236) (λ_=>rfl)|n+1=>by have ih:=SR n;exact afp (nj n) n ih
def SS(n:Nat):eG q5 (nj n):=(SR n)
def afq(n:Nat):eG R2 (z8 n):=jE ⟨dm bV,bW,fx [],n,[],bF (bz true [([5],⟨[sp 5,sp 6,aq 11,aq 12,aq 13],[(5,.box [.b (.map 9)]),(6,.box [.fn (.func qJ) [] [.ptr 2 0,.ptr 5 0,.ptr 6 0]]),(9,.map),aV 2 1],[]⟩)]),bF [],bF (bz true [([0],⟨[sp 5],[(5,.box [.b (.map 9)]),(9,.map)],[]⟩)]),dJ [],dq [(19,⟨q5,nj n,6010,[]⟩)],dO [],dI []⟩ ca bK (a1 (SS n) ak) b8 Tryz.func214 []
def afr(n:Nat):aU 214 (vZ n):=cx ⟨dm bV,bW,fx [],n,[],bF (bz true [([5],⟨[sp 5,sp 6,aq 11,aq 12,aq 13],[(5,.box [.b (.map 9)]),(6,.box [.fn (.func qJ) [] [.ptr 2 0,.ptr 5 0,.ptr 6 0]]),(9,.map),aV 2 1],[]⟩)]),bF [],bF (bz true [([0],⟨[sp 5],[(5,.box [.b (.map 9)]),(9,.map)],[]⟩)]),dJ [],dq [(19,⟨q5,nj n,6010,[]⟩)],dO [],dI []⟩ (S:=⟨ca,bK,(a1 (SS n) ak),b8⟩)
def afs(a:lZ->oY)(n:Nat)(c:eG ti a):eG ti (Ab a n):=jE ⟨dm bV,bW,fx [],n,[10000,10001,10002,10003],bF (bz true [([1],⟨[aq 1,(2,.b (.ptr 10000 0)),(3,.b (.ptr 10001 0)),(4,.b (.ptr 10002 0)),(5,.b (.ptr 10003 0)),sp 6,sp 8],[aV 10000 1,aV 10001 1,aV 10002 1,(10003,.box [.fn (.func qK) [] [.ptr 10000 0,.ptr 10001 0,.ptr 10002 0,.ptr 10003 0]]),aV 6 4,aV 8 4],[]⟩),([10],⟨[aq 1,(4,.b (.ptr 10002 0)),(5,.b (.ptr 10003 0)),sp 6,sp 8,aX 11 41,aq 43,aq 44,aq 45],[aV 10002 1,(10003,.box [.fn (.func qK) [] [.ptr 10000 0,.ptr 10001 0,.ptr 10002 0,.ptr 10003 0]]),aV 6 4,aV 8 4,aJ 41 4,aV 10000 1,aV 10001 1],[]⟩)]),bF (bz true [([55000013],⟨[aq 1,(4,.b (.ptr 10002 0)),(5,.b (.ptr 10003 0)),sp 6,sp 8,aX 11 41,aq 43,aq 44,aq 45],[aV 10002 1,(10003,.box [.fn (.func qK) [] [.ptr 10000 0,.ptr 10001 0,.ptr 10002 0,.ptr 10003 0]]),aV 6 4,aV 8 4,aJ 41 4,aV 10000 1,aV 10001 1],[]⟩)]),bF (bz true [([0],⟨[aq 1,(4,.b (.ptr 10002 0)),(5,.b (.ptr 10003 0)),sp 6,sp 8],[aV 10002 1,(10003,.box [.fn (.func qK) [] [.ptr 10000 0,.ptr 10001 0,.ptr 10002 0,.ptr 10003 0]]),aV 6 4,aV 8 4,aV 10000 1,aV 10001 1],[]⟩),([2],⟨[sp 6,sp 8,aX 11 41],[aV 6 4,aV 8 4,aJ 41 4,aV 10000 1,aV 10001 1,aV 10002 1,(10003,.box [.fn (.func qK) [] [.ptr 10000 0,.ptr 10001 0,.ptr 10002 0,.ptr 10003 0]])],[]⟩),([3],⟨[aq 1,(4,.b (.ptr 10002 0)),(5,.b (.ptr 10003 0)),sp 6,sp 8,aX 11 41,aq 43,aq 44,aq 45],[aV 10002 1,(10003,.box [.fn (.func qK) [] [.ptr 10000 0,.ptr 10001 0,.ptr 10002 0,.ptr 10003 0]]),aV 6 4,aV 8 4,aJ 41 4,aV 10000 1,aV 10001 1],[]⟩)]),dJ [],dq [(62,⟨ti,a,6010,[]⟩)],dO [20066],dI []⟩ ca bK (a1 c ak) b8 Tryz.func237 []
def SU:∀n,eG ti (oo n)
 |0=>se (s:=ti) (si (T:=dm bV) (os:=λ_=>none) Tryz.func237) (λ_=>rfl)|n+1=>by have ih:=SU n;exact afs (oo n) n ih
def aft(n:Nat):eG ti (oo n):=(SU n)
def afu(n:Nat):aU 215 (Ac n):=cx ⟨dm bV,bW,gD n [aP KV],n,[],bF [],bF [],bF [],dJ [],dq [(13,⟨ti,oo n,6010,[]⟩)],dO [],dI []⟩ (S:=⟨ca,cZ,(a1 (aft n) ak),b8⟩)
def FD(n:Nat):aU 161 (kV n):=cx ⟨(dm Tryz.prog).uh [77],bW,fx [(125,qZ n),(212,sT n),(213,z6 n),(126,q0 n),(214,vZ n),(215,Ac n)],n,[],bF (bz true [([8],⟨[aq 1,sp 2,sp 4,aq 7,aq 8,aX 9 5001,aq 36,aq 37,aq 38],[aV 2 4,aV 4 4,aJ 5001 1],[.slot 9 5001 1]⟩),([16],⟨[aq 1,sp 2,sp 4,aq 8,(16,.b (.map 6010)),aq 57,aq 58,aq 59],[aV 2 4,aV 4 4,(6010,.map)],[]⟩),([21],⟨[aq 1,sp 2,sp 4,aq 8,(16,.b (.map 6010)),aq 67,aq 68],[aV 2 4,aV 4 4,(6010,.map)],[]⟩)]),bF (bz true [([48000012],⟨[aq 1,sp 2,sp 4,aq 7,aq 8,aX 9 52,aq 36,aq 37,aq 38],[aV 2 4,aV 4 4,aJ 52 1],[.slot 9 5000 1]⟩)]),bF (bz true [([0],⟨[aq 1,sp 2,sp 4,aq 8,aX 9 5001],[aV 2 4,aV 4 4,aJ 5001 1],[]⟩),([1],⟨[aq 1,sp 2,sp 4,aq 7,aq 8,aX 9 52,aq 36,aq 37,aq 38],[aV 2 4,aV 4 4,aJ 52 1],[]⟩),([2],⟨[aq 1,sp 2,sp 4,aq 8,(16,.b (.map 6010))],[aV 2 4,aV 4 4,(6010,.map)],[]⟩),([4],lp [1,2004,4004])]),dJ [],dq [(56,⟨R2,z8 n,6010,[]⟩)],dO [],dI [(14,[[5001],[],[]])]⟩ (S:=⟨(tok _).uh _,(df (KU n) (df (KV n) (df (afo n) (df (FC n) (df (afr n) (df (afu n) bK)))))),(a1 (afq n) ak),b8⟩)
def KW(n:Nat):aU 79 (sV n):=fy (bp n [aP KU,aP Sg,aP acW] [] [] [])
def KX(n:Nat):aU 272 (sW n):=fy (bp n [aP FD,aP KW] [] [] [])
def SV(n:Nat):aU 276 (wa n):=fy (bp n [aP KX] [] [] [])
def afv(a:lZ->oX)(n:Nat)(a0:D)(aG:D)(b:aU 289 a){r:D}(h:Af a n a0 aG=some r):cF bV bW 289 [a0,aG] (·=r):=cW (bp n [aP SV,kX b] (bS true [([4],[2008,16,17,18])]) [] (bS true [([0],[])])) ca cZ ak b8 Tryz.func289 (br (br le_nil)) h
def SX:∀n,aU 289 (pJ n)
 |0=>(λ_ _ h=>by cases h)
 |n+1=>by
  have ih:=SX n;exact(by
   intro a r h;unfold pJ at h;split at h
   case h_2=>cases h
   exact afv (pJ n) n _ _ ih h)
def afw(n:Nat):aU 289 (pJ n):=(SX n)
def afx(n:Nat):aU 286 (pK n):=fy (bp n [aP KS,aP afd,aP A5,aP afw] [] [] [])
def afy(n:Nat)(a0:D)(x1:lZ){r:D}(h:EA n a0 x1=some r):cF bV bW 280 [a0,.ref x1 0] (·=r):=cW (jm n [] [] [] []) ca bK ak b8 Tryz.func280 (br (fg fo le_nil)) h
def afz(n:Nat):aU 280 (EB n):=by
 intro a r h;unfold EB at h;split at h
 case h_2=>cases h
 split at h
 case h_2=>cases h
 exact afy n _ _ h
def afA(n:Nat)(a0:D)(a:D){r:D}(h:Ai n a0 a=some r):cF bV bW 122 [a0,(D.fn (.func u2) [] [a])] (·=r):=cW (bp n [aP afz] (bz true [([2],⟨[aq 0,(1,.b (.fd u2 1)),aq 7,aq 8],[],[]⟩)]) [] (bS true [([0],[])])) ca cZ ak b8 Tryz.func122 (br (br le_nil)) h
def afB(n:Nat):aU 122 (wb n):=by
 intro b r h;unfold wb at h;split at h
 case h_2=>cases h
 split at h
 case h_2=>cases h
 rename_i a;obtain rfl:=gU a;exact afA n _ _ h
def afC(n:Nat)(a0:D)(x1:lZ){r:D}(h:EC n a0 x1=some r):cF bV bW 282 [a0,.ref x1 0] (·=r):=cW (jm n [] [] [] []) ca bK ak b8 Tryz.func282 (br (fg fo le_nil)) h
def afD(n:Nat):aU 282 (ED n):=by
 intro a r h;unfold ED at h;split at h
 case h_2=>cases h
 split at h
 case h_2=>cases h
 exact afC n _ _ h
def afE(n:Nat)(a0:D)(a:D){r:D}(h:Ak n a0 a=some r):cF bV bW 283 [a0,(D.fn (.func nb) [] [a])] (·=r):=cW (bp n [aP afD] (bz true [([2],⟨[aq 0,(1,.b (.fd nb 1)),aq 7,aq 8],[],[]⟩)]) [] (bS true [([0],[])])) ca cZ ak b8 Tryz.func283 (br (br le_nil)) h
def afF(n:Nat):aU 283 (wc n):=by
 intro b r h;unfold wc at h;split at h
 case h_2=>cases h
 split at h
 case h_2=>cases h
 rename_i a;obtain rfl:=gU a;exact afE n _ _ h
def afG(n:Nat)(a0:D)(a:D){r:D}(h:EE n a0 a=some r):cF bV bW 281 [a0,(D.fn (.func nb) [] [a])] (·=r):=cW (bp n [aP afF] [] [] []) ca cZ ak b8 Tryz.func281 (br (br le_nil)) h
def afH(n:Nat):aU 281 (we n):=by
 intro b r h;unfold we at h;split at h
 case h_2=>cases h
 split at h
 case h_2=>cases h
 rename_i a;obtain rfl:=gU a;exact afG n _ _ h
def afI(n:Nat):aU 279 (q1 n):=fy (bp n [aP afB,aP afH,aP KX] [] [] [])
def afJ(n:Nat):aU 275 (wg n):=fy (bp n [aP SV] [] [] [])
def afK(n:Nat):aU 271 (wh n):=fy (bp n [aP KX] [] [] [])
def afL(n:Nat)(a0:D)(x1:lZ){r:D}(h:EG n a0 x1=some r):cF bV bW 268 [a0,.ref x1 0] (·=r):=cW (jm n [] [] [] []) ca bK ak b8 Tryz.func268 (br (fg fo le_nil)) h
def afM(n:Nat):aU 268 (EH n):=by
 intro a r h;unfold EH at h;split at h
 case h_2=>cases h
 split at h
 case h_2=>cases h
 exact afL n _ _ h
def afN(n:Nat)(a0:D)(a:D){r:D}(h:An n a0 a=some r):cF bV bW 267 [a0,(D.fn (.func u1) [] [a])] (·=r):=cW (bp n [aP afM] (bz true [([2],⟨[aq 0,(1,.b (.fd u1 1)),aq 7,aq 8],[],[]⟩)]) [] (bS true [([0],[])])) ca cZ ak b8 Tryz.func267 (br (br le_nil)) h
def afO(n:Nat):aU 267 (wi n):=by
 intro b r h;unfold wi at h;split at h
 case h_2=>cases h
 split at h
 case h_2=>cases h
 rename_i a;obtain rfl:=gU a;exact afN n _ _ h
def afP(n:Nat):aU 266 (wj n):=fy ⟨dm bV,bW,gD n [aP FC,aP afO],n,[],bF (bz true [([3],⟨[aq 0,aq 2,aX 7 16,aX 8 18],[aJ 16 1,aJ 18 1],[]⟩),([7],⟨[aq 0,aq 2,aX 7 16,aX 8 18,aq 35,aq 36,aq 37],[aJ 16 1,aJ 18 1],[]⟩)]),bF (bz true [([52000011],⟨[aq 0,aq 2,aX 7 16,aX 8 59,aq 35,aq 36,aq 37],[aJ 16 1,aJ 59 1],[]⟩)]),bF (bz true [([0],⟨[aq 2,aX 7 16],[aJ 16 1],[]⟩),([1,2],⟨[aq 0,aq 2,aX 7 16,aX 8 18],[aJ 16 1,aJ 18 1],[]⟩),([3],⟨[aq 0,aq 2,aX 7 16,aX 8 59,aq 35,aq 36,aq 37],[aJ 16 1,aJ 59 1],[]⟩)]),dJ [],dq [],dO [23],dI []⟩ (S:=⟨ca,cZ,ak,b8⟩)
def afQ(n:Nat)(a0:D)(x1:lZ){r:D}(h:EJ n a0 x1=some r):cF bV bW 260 [a0,.ref x1 0] (·=r):=cW (jm n [] [] [] []) ca bK ak b8 Tryz.func260 (br (fg fo le_nil)) h
def afR(n:Nat):aU 260 (EK n):=by
 intro a r h;unfold EK at h;split at h
 case h_2=>cases h
 split at h
 case h_2=>cases h
 exact afQ n _ _ h
def afS(n:Nat)(a0:D)(a:D){r:D}(h:Ap n a0 a=some r):cF bV bW 122 [a0,(D.fn (.func mV) [] [a])] (·=r):=cW (bp n [aP afR] (bz true [([2],⟨[aq 0,(1,.b (.fd mV 1)),aq 7,aq 8],[],[]⟩)]) [] (bS true [([0],[])])) ca cZ ak b8 Tryz.func122 (br (br le_nil)) h
def afT(n:Nat):aU 122 (wk n):=by
 intro b r h;unfold wk at h;split at h
 case h_2=>cases h
 split at h
 case h_2=>cases h
 rename_i a;obtain rfl:=gU a;exact afS n _ _ h
def afU(n:Nat)(a0:D)(a:D){r:D}(h:EL n a0 a=some r):cF bV bW 159 [a0,(D.fn (.func mV) [] [a])] (·=r):=cW (bp n [aP afT] [] [] []) ca cZ ak b8 Tryz.func159 (br (br le_nil)) h
def afV(n:Nat):aU 159 (wm n):=by
 intro b r h;unfold wm at h;split at h
 case h_2=>cases h
 split at h
 case h_2=>cases h
 rename_i a;obtain rfl:=gU a;exact afU n _ _ h
def afW(n:Nat)(a0:D)(x1:lZ){r:D}(h:EM n a0 x1=some r):cF bV bW 262 [a0,.ref x1 0] (·=r):=cW (jm n [] [] [] []) ca bK ak b8 Tryz.func262 (br (fg fo le_nil)) h
def afX(n:Nat):aU 262 (EN n):=by
 intro a r h;unfold EN at h;split at h
 case h_2=>cases h
 split at h
 case h_2=>cases h
 exact afW n _ _ h
def afY(n:Nat)(a0:D)(a:D){r:D}(h:Ar n a0 a=some r):cF bV bW 263 [a0,(D.fn (.func na) [] [a])] (·=r):=cW (bp n [aP afX] (bz true [([2],⟨[aq 0,(1,.b (.fd na 1)),aq 7,aq 8],[],[]⟩)]) [] (bS true [([0],[])])) ca cZ ak b8 Tryz.func263 (br (br le_nil)) h
def afZ(n:Nat):aU 263 (wo n):=by
 intro b r h;unfold wo at h;split at h
 case h_2=>cases h
 split at h
 case h_2=>cases h
 rename_i a;obtain rfl:=gU a;exact afY n _ _ h
def af0(n:Nat)(a0:D)(a:D){r:D}(h:EO n a0 a=some r):cF bV bW 261 [a0,(D.fn (.func na) [] [a])] (·=r):=cW (bp n [aP afZ] [] [] []) ca cZ ak b8 Tryz.func261 (br (br le_nil)) h
def af1(n:Nat):aU 261 (wq n):=by
 intro b r h;unfold wq at h;split at h
 case h_2=>cases h
 split at h
 case h_2=>cases h
 rename_i a;obtain rfl:=gU a;exact af0 n _ _ h
def af2(n:Nat):aU 259 (pL n):=fy (bp n [aP KS,aP afV,aP af1] [] (bS true [([17005],[17])]) [])
def af3(n:Nat):aU 284 (EP n):=bR (bp n [] [] [] [])
def af4(n:Nat):aU 277 (ER n):=bR (bp n [] [] [] [])
def af5(n:Nat):aU 273 (ES n):=bR (bp n [] [] [] [])
def af6(n:Nat):aU 269 (ET n):=bR (bp n [] [] [] [])
def af7(n:Nat):aU 264 (EU n):=bR (bp n [] [] [] [])
def af8(n:Nat):aU 257 (EV n):=bR (bp n [] [] [] [])
def af9(n:Nat):aU 64 (kW n):=bR ⟨((dm Tryz.prog).Ch [166,167,168,170,171,172]),bW,fx [(115,vU n),(116,zO n),(285,zP n),(278,zQ n),(274,ni n),(270,zS n),(265,zT n),(258,zU n),(286,pK n),(279,q1 n),(275,wg n),(271,wh n),(266,wj n),(259,pL n),(284,EP n),(277,ER n),(273,ES n),(269,ET n),(264,EU n),(257,EV n)],n,[],bF (bS true [([2],[1008,2002,36,37]),([13],[1008,2002,93,94]),([16],[1008,2002,9,93,94,98,99])]),bF [],bF (bS true [([0],[1008,2002]),([2],[2002]),([3,4],[1008,2002,93,94])]),dJ [],dq [],dO [],dI []⟩ (S:=⟨(tok _).Ch _,(df (aeZ n) (df (ae1 n) (df (ae2 n) (df (ae3 n) (df (ae4 n) (df (ae5 n) (df (ae6 n) (df (ae7 n) (df (afx n) (df (afI n) (df (afJ n) (df (afK n) (df (afP n) (df (af2 n) (df (af3 n) (df (af4 n) (df (af5 n) (df (af6 n) (df (af7 n) (df (af8 n) bK)))))))))))))))))))),ak,b8⟩)
def aga(n:Nat):aU 65 (wu n):=bR (bp n [aP KT] (bS true [([3],[4,5,10,11,12])]) (bS true [([24000008],[4,5,10,11,12])]) (bS true [([0],[4,5]),([1],[4,5,10,11,12])]))
def agb(n:Nat):aU 118 (mc n):=cx (bp n [aP FD] (bz true [([2],⟨[aq 1,aX 4 5000,aq 11,aq 12,aq 13],[aJ 5000 4],[.slot 4 5000 4]⟩)]) [] (bz true [([0],⟨[aX 4 5000],[aJ 5000 4],[]⟩)]))
def agc(n:Nat):aU 119 (wv n):=cx (bp n [aP FD] (bz true [([2],⟨[aq 1,aX 4 5000,aq 11,aq 12,aq 13],[aJ 5000 5],[.slot 4 5000 5]⟩)]) [] (bz true [([0],⟨[aX 4 5000],[aJ 5000 5],[]⟩)]))
def agd(a:lZ->oY)(n:Nat)(c:eG tj a):eG tj (oq a n):=jE ⟨dm bV,bW,gD n [aP FD],n,[10000,10001],bF (bz true [([8],⟨[(2,.b (.ptr 10001 0)),sp 3,sp 4,aX 8 5000,aq 32,aq 33,aq 34],[(10001,.box [.fn (.func Dh) [] [.ptr 10000 0,.ptr 10001 0]]),aV 3 6,aV 4 6,aJ 5000 6,aV 10000 1],[.slot 8 5000 6]⟩)]),bF [],bF (bz true [([0],⟨[sp 3,sp 4,aX 8 5000],[aV 3 6,aV 4 6,aJ 5000 6,aV 10000 1,(10001,.box [.fn (.func Dh) [] [.ptr 10000 0,.ptr 10001 0]])],[]⟩)]),dJ [],dq [(41,⟨tj,a,6020,[]⟩)],dO [20004],dI []⟩ ca cZ (a1 c ak) b8 Tryz.func216 []
def SY:∀n,eG tj (lz n)
 |0=>se (s:=tj) (si (T:=dm bV) (os:=λ_=>none) Tryz.func216) (λ_=>rfl)|n+1=>by have ih:=SY n;exact agd (lz n) n ih
def age(n:Nat):eG tj (lz n):=(SY n)
def agf(n:Nat):aU 162 (wy n):=cx ⟨dm bV,bW,gD n [aP A5],n,[],bF [],bF [],bF [],dJ [],dq [(17,⟨tj,lz n,6010,[]⟩)],dO [],dI []⟩ (S:=⟨ca,cZ,(a1 (age n) ak),b8⟩)
def agh(n:Nat):aU 120 (wz n):=cx (bp n [aP agf] (bz true [([2],⟨[aq 1,aX 4 5000,aq 11,aq 12,aq 13],[aJ 5000 7],[.slot 4 5000 7]⟩)]) [] (bz true [([0],⟨[aX 4 5000],[aJ 5000 7],[]⟩)]))
def agi(n:Nat):aU 66 (E0 n):=bR ⟨dm bV,bW,gD n [aP agb,aP agc,aP agh],n,[],bF [],bF [],bF [],dJ [(4,[1,2,0,3,4,5,6,7]),(7,[1,2,0,3,4,5,6,7]),(10,[1,2,0,3,4,5,6,7]),(13,[1,2,0,3,4,5,6,7]),(16,[1,2,0,3,4,5,6,7]),(19,[1,2,0,3,4,5,6,7])],dq [],dO [],dI []⟩ (S:=⟨ca,cZ,ak,b8⟩)
def agj(n:Nat):eG R3 (Av n):=jE ⟨dm bV,bW,fx [],n,[],bF [],bF [],bF [],dJ [],dq [],dO [],dI []⟩ ca bK ak b8 Tryz.func121 [.slot 0 5000 1]
def agk(n:Nat):aU 67 (E1 n):=bR ⟨dm bV,bW,gD n [aP KT],n,[],bF (bz true [([3],⟨[aX 3 11,aq 12,aq 13,aq 14],[aJ 11 1],[]⟩),([10],⟨[sp 5,aq 6,aX 7 5001,aq 12,aq 13,aq 14,aX 22 11,aq 23,aq 24],[aV 5 4,aJ 5001 1,aJ 11 1],[.slot 7 5001 1]⟩),([13],⟨[sp 5,aq 6,aX 7 5001,aq 9,aq 12,aq 13,aq 14,aX 22 11,aq 23,aq 24,aq 29,aq 30],[aV 5 4,aJ 5001 1,aJ 11 1],[.slot 7 5000 1]⟩)]),bF (bz true [([21000007],⟨[aX 3 11,sp 5,aq 6,aq 12,aq 13,aq 14],[aJ 11 1,aV 5 4],[]⟩)]),bF (bz true [([0],⟨[aX 3 11],[aJ 11 1],[]⟩),([1],⟨[aX 3 5001,aq 12,aq 13,aq 14],[aJ 5001 1],[]⟩),([2],⟨[aX 7 5001,aq 12,aq 13,aq 14],[aJ 5001 1],[]⟩),([3,4],⟨[sp 5,aq 6,aX 7 5001,aq 12,aq 13,aq 14,aX 22 11,aq 23,aq 24],[aV 5 4,aJ 5001 1,aJ 11 1],[]⟩)]),dJ [],dq [(35,⟨R3,Av n,6030,[]⟩)],dO [41],dI []⟩ (S:=⟨ca,cZ,(a1 (agj n) ak),b8⟩)
def agl(d:D):d.le (wA d):=by
 unfold wA;split;.exact D.nil_le 1
 exact D.le_refl _
def agm{x r:D}(h:Az x=some r):x.le r:=by
 unfold Az at h;split at h
 case h_2=>cases h
 rename_i k es;split at h
 case isFalse=>cases h
 rename_i g;cases h;refine D.W8 sZ ?_;intro i x y d e;simp only[xah,d,xaI,xaE]at e;subst e;refine⟨by simp,xay.1 g x (xad d),?_⟩;intro j a b f c;simp only[xah,f,xaI,xaE]at c;subst c;exact agl a
def agn(n:Nat):aU 67 (AA n):=by
 intro b r h;unfold AA at h;split at h
 case h_2=>cases h
 rename_i x g;have H:=agk n b x g;refine⟨H.fn,?_⟩;intro m fr w vs d f hD;refine(H.run m fr w vs d f hD).mono ?_;rintro e w' ⟨v,a,q,ab,rfl,ad,ai,c⟩;exact⟨v,a,r,ab,rfl,ad,ai,agm h a v c⟩
def KY(n:Nat):aU 39 (nm n):=uF ⟨dm bV,bW,gD n [aP KW,aP Sg],n,[],bF [],bF [],bF [],dJ [],dq [(34,⟨tc,py n,6010,[]⟩)],dO [],dI []⟩ (S:=⟨ca,cZ,(a1 (ac3 n) ak),b8⟩)
def SZ(n:Nat):aU 69 (AB n):=uF (bp n [aP KY] [] [] [])
def ago(n:Nat):aU 68 (s3 n):=uF (bp n [aP SZ] (bS true [([2],[2,3,4008,11,12,13])]) [] (bS true [([0],[])]))
def agp(n:Nat)(a0:D)(x1:lZ){r:D}(h:E3 n a0 x1=some r):cF bV bW 123 [a0,.ref x1 0] (·=r):=cW (jm n [] [] [] []) ca bK ak b8 Tryz.func123 (br (fg fo le_nil)) h
def agq(n:Nat):aU 123 (E4 n):=by
 intro a r h;unfold E4 at h;split at h
 case h_2=>cases h
 split at h
 case h_2=>cases h
 exact agp n _ _ h
def agr(n:Nat)(a0:D)(a:D){r:D}(h:AF n a0 a=some r):cF bV bW 122 [a0,(D.fn (.func u0) [] [a])] (·=r):=cW (bp n [aP agq] (bz true [([2],⟨[aq 0,(1,.b (.fd u0 1)),aq 7,aq 8],[],[]⟩)]) [] (bS true [([0],[])])) ca cZ ak b8 Tryz.func122 (br (br le_nil)) h
def ags(n:Nat):aU 122 (wB n):=by
 intro b r h;unfold wB at h;split at h
 case h_2=>cases h
 split at h
 case h_2=>cases h
 rename_i a;obtain rfl:=gU a;exact agr n _ _ h
def agt(n:Nat):aU 70 (E6 n):=cx (bp n [aP KY,aP ags] (bz true [([3],⟨[aq 1,sp 2,aX 6 5000,aq 14,aq 15,aq 16],[aV 2 8,aJ 5000 2],[.slot 6 5000 2]⟩)]) [] (bz true [([0],⟨[aX 6 5000],[aJ 5000 2],[]⟩)]))
def agu(n:Nat)(a0:D)(x1:lZ){r:D}(h:E7 n a0 x1=some r):cF bV bW 72 [a0,.ref x1 0] (·=r):=cW (jm n [] [] [] []) ca bK ak b8 Tryz.func72 (br (fg fo le_nil)) h
def agv(n:Nat):aU 72 (E8 n):=by
 intro a r h;unfold E8 at h;split at h
 case h_2=>cases h
 split at h
 case h_2=>cases h
 exact agu n _ _ h
def agw(n:Nat)(a0:D)(a:D){r:D}(h:AH n a0 a=some r):cF bV bW 124 [a0,(D.fn (.func n8) [] [a])] (·=r):=cW (bp n [aP agv] (bz true [([2],⟨[aq 0,(1,.b (.fd n8 1)),aq 7,aq 8],[],[]⟩)]) [] (bS true [([0],[])])) ca cZ ak b8 Tryz.func124 (br (br le_nil)) h
def agx(n:Nat):aU 124 (AI n):=by
 intro b r h;unfold AI at h;split at h
 case h_2=>cases h
 split at h
 case h_2=>cases h
 rename_i a;obtain rfl:=gU a;exact agw n _ _ h
def agy(n:Nat)(a0:D)(a:D){r:D}(h:AJ n a0 a=some r):cF bV bW 71 [a0,(D.fn (.func n8) [] [a])] (·=r):=cW (bp n [aP agx] [] [] []) ca cZ ak b8 Tryz.func71 (br (br le_nil)) h
def agz(n:Nat):aU 71 (wC n):=by
 intro b r h;unfold wC at h;split at h
 case h_2=>cases h
 split at h
 case h_2=>cases h
 rename_i a;obtain rfl:=gU a;exact agy n _ _ h
def agA(n:Nat):aU 29 (s4 n):=bR ⟨dm bV,bW,gD n [aP af9,aP aga,aP agi,aP agn,aP ago,aP SZ,aP agt,aP agz],n,[],bF (bz true [([12],⟨[sp 2,sp 10,aq 59,aq 60,aq 61],[(2,.box [.b (.row 5001),.b (.d),.b (.d),.b (.d)]),aV 10 8,aJ 5001 1],[.box 2 0 5001 1]⟩),([18],⟨[sp 2,sp 10,aX 79 5001,aq 80,aq 81],[(2,.box [.b (.row 5001),.b (.row 5006),.b (.row 5007),.b (.row 5008)]),aV 10 8,aJ 5001 1,aJ 5006 1,aJ 5007 1,aJ 5008 1],[.box 2 1 5006 1,.box 2 2 5007 1,.box 2 3 5008 1]⟩),([24],⟨[sp 2,sp 10,aq 14,aX 15 5003,aX 79 5001,aq 80,aq 81,aq 100,aq 101,aq 102],[(2,.box [.b (.row 5001),.b (.row 5006),.b (.row 96),.b (.row 5008)]),aV 10 8,aJ 5003 1,aJ 5001 1,aJ 5006 1,aJ 96 1,aJ 5008 1],[.slot 15 5003 1]⟩),([32],⟨[sp 2,sp 10,aq 14,aX 18 5005,aq 19,aq 20,aX 79 5001,aq 80,aq 81,aX 127 5001,aq 128,aq 129],[(2,.box [.b (.row 5001),.b (.row 5006),.b (.row 96),.b (.row 118)]),aV 10 8,aJ 5005 1,aJ 5001 1,aJ 5006 1,aJ 96 1,aJ 118 1],[.slot 18 5005 1]⟩)]),bF (bz true [([70000015],⟨[sp 2,sp 10,aq 59,aq 60,aq 61],[(2,.box [.b (.row 75),.b (.d),.b (.d),.b (.d)]),aV 10 8,aJ 75 1],[.box 2 0 5000 1]⟩),([91000021],⟨[sp 2,sp 10,aq 14,aX 79 5001,aq 80,aq 81],[(2,.box [.b (.row 5001),.b (.row 5006),.b (.row 96),.b (.row 5008)]),aV 10 8,aJ 5001 1,aJ 5006 1,aJ 96 1,aJ 5008 1],[.box 2 2 5002 1]⟩),([149000035],⟨[sp 2,sp 10,aq 14,aX 18 153,aq 19,aq 20,aX 79 5001,aq 80,aq 81,aX 127 5001,aq 128,aq 129],[(2,.box [.b (.row 5001),.b (.row 5006),.b (.row 96),.b (.row 118)]),aV 10 8,aJ 153 1,aJ 5001 1,aJ 5006 1,aJ 96 1,aJ 118 1],[.slot 18 5004 1]⟩)]),bF (bz true [([0],⟨[sp 2,sp 10],[(2,.box [.b (.row 5001),.b (.d),.b (.d),.b (.d)]),aV 10 8,aJ 5001 1],[]⟩),([1],⟨[sp 2,sp 10,aq 59,aq 60,aq 61],[(2,.box [.b (.row 75),.b (.d),.b (.d),.b (.d)]),aV 10 8,aJ 75 1],[]⟩),([2],⟨[sp 2],[(2,.box [.b (.row 5001),.b (.row 5006),.b (.row 5007),.b (.row 5008)]),aJ 5001 1,aJ 5006 1,aJ 5007 1,aJ 5008 1],[]⟩),([3],⟨[sp 2,sp 10,aX 79 5001,aq 80,aq 81],[(2,.box [.b (.row 5001),.b (.row 159),.b (.row 96),.b (.row 118)]),aV 10 8,aJ 5001 1,aJ 159 1,aJ 96 1,aJ 118 1],[]⟩),([4],⟨[sp 2,sp 10,aq 14,aX 15 5003,aX 79 5001,aq 80,aq 81],[(2,.box [.b (.row 5001),.b (.row 5006),.b (.row 96),.b (.row 5008)]),aV 10 8,aJ 5003 1,aJ 5001 1,aJ 5006 1,aJ 96 1,aJ 5008 1],[]⟩),([6],⟨[sp 2,sp 10,aX 18 5005,aX 79 5001,aq 80,aq 81],[(2,.box [.b (.row 5001),.b (.row 5006),.b (.row 96),.b (.row 118)]),aV 10 8,aJ 5005 1,aJ 5001 1,aJ 5006 1,aJ 96 1,aJ 118 1],[]⟩),([7],⟨[sp 2,sp 10,aq 14,aX 18 153,aq 19,aq 20,aX 79 5001,aq 80,aq 81,aX 127 5001,aq 128,aq 129],[(2,.box [.b (.row 5001),.b (.row 5006),.b (.row 96),.b (.row 118)]),aV 10 8,aJ 153 1,aJ 5001 1,aJ 5006 1,aJ 96 1,aJ 118 1],[]⟩)]),dJ [],dq [],dO [117,158],dI []⟩ (S:=⟨ca,cZ,ak,b8⟩)
def q8(k:Nat)(d:D):d.le (ot k d):=by
 unfold ot;split;.exact D.nil_le k
 exact D.le_refl _
def agB(d:D):d.le (Ku d):=by
 unfold Ku;split
 .refine D.W7 rfl ?_;intro i x y a b
  match i,a,b with
  |0,a,b=>cases a;cases b;exact q8 _ _
  |1,a,b=>cases a;cases b;exact q8 _ _
  |2,a,b=>cases a;cases b;exact q8 _ _
  |3,a,b=>cases a;cases b;exact q8 _ _
  |4,a,b=>cases a;cases b;exact q8 _ _
  |5,a,b=>cases a;cases b;exact q8 _ _
  |6,a,b=>cases a;cases b;exact q8 _ _
  |7,a,b=>cases a;cases b;exact q8 _ _
  |i+8,a,b=>cases a
 exact D.le_refl _
def S0(n:Nat):aU 29 (pM n):=by
 intro g r h;unfold pM at h;split at h
 case h_2=>cases h
 rename_i a;have H:=agA n _ r h;refine⟨H.fn,?_⟩;intro m fr w vs c e hD;refine H.run m fr w vs c e ⟨hD.1,?_⟩;intro i d v b f;cases i with|zero=>simp only[xbF,xaE]at b;subst b;exact agB a m v (hD.2 0 a v rfl f)|succ i=>simp at b
def KZ(n:Nat):aU 12 (pN n):=cx (bp n [] (bS true [([4],[0,1,5])]) [] (bS true [([0],[])]))
def S1(n:Nat):aU 74 (s5 n):=cx (bp n [] (bS true [([4],[0,1,5])]) [] (bS true [([0],[])]))
def agC(n:Nat):aU 73 (AM n):=cx (bp n [aP S1] (bS true [([4],[0,1,5])]) [] (bS true [([0],[])]))
def agD(n:Nat):aU 30 (wG n):=cx (bp n [aP KZ,aP agC,aP S1] (bS true [([4],[2004,3004,5])]) [] (bS true [([0],[2004,3004])]))
def agE(n:Nat):aU 7 (s6 n):=bR ⟨dm bV,bW,gD n [aP aet,aP aeM,aP S0,aP agD],n,[],bF [],bF [],bF [],dJ [(5,[0,1,2,3,4,5,6,7])],dq [],dO [],dI []⟩ (S:=⟨ca,cZ,ak,b8⟩)
def agF(n:Nat):aU 8 (AN n):=cx ⟨dm bV,bW,fx [],n,[],bF (bz true [([3],⟨[aq 1,aX 5 9,aq 6],[aJ 9 6],[]⟩)]),bF [],bF (bS true [([0],[])]),dJ [],dq [],dO [25],dI []⟩ (S:=⟨ca,bK,ak,b8⟩)
def agG(n:Nat):aU 31 (RI n):=uk ⟨dm bV,bW,fx [],n,[],bF [],bF [],bF [],dJ [],dq [],dO [9],dI []⟩ (S:=⟨ca,bK,ak,b8⟩)
def agH(a:lZ->oX)(n:Nat)(a0:D)(aG:D)(b:aU 47 a){r:D}(h:q3 a n a0 aG=some r):cF bV bW 47 [a0,aG] (·=r):=cW (bp n [aP KN,kX b] (bS true [([9],[0,3006,7])]) [] (bS true [([0],[])])) ca cZ ak b8 Tryz.func47 (br (br le_nil)) h
def S2:∀n,aU 47 (pO n)
 |0=>(λ_ _ h=>by cases h)
 |n+1=>by
  have ih:=S2 n;exact(by
   intro a r h;unfold pO at h;split at h
   case h_2=>cases h
   exact agH (pO n) n _ _ ih h)
def agI(n:Nat):aU 47 (pO n):=(S2 n)
def agJ(n:Nat):aU 88 (Fj n):=fy (bp n [aP KQ] (bz true [([3],⟨[aq 1,sp 3,sp 5,aX 7 14,aq 8],[aV 3 4,aV 5 4,aJ 14 1],[]⟩)]) [] (bz true [([0],⟨[aX 7 14],[aJ 14 1],[]⟩)]))
def S3(n:Nat):aU 133 (iQ n):=bR (bp n [] (bz true [([3],⟨[aq 0,aX 3 7,aq 4],[aJ 7 1],[]⟩)]) [] (bz true [([0],⟨[aX 3 7],[aJ 7 1],[]⟩)]))
def S4(n:Nat):aU 134 (wJ n):=cx (bp n [] (bz true [([3],⟨[aq 0,aq 1,aX 5 9,aq 6],[aJ 9 1],[]⟩)]) [] (bz true [([0],⟨[aX 5 9],[aJ 9 1],[]⟩)]))
def agK(n:Nat):aU 135 (wK n):=cx (bp n [aP S3,aP S4] [] [] [])
def K0(n:Nat):aU 19 (nr n):=cx (bp n [] (bz true [([3],⟨[aq 1,aX 5 10,aq 6],[aJ 10 1],[]⟩)]) [] (bz true [([0],⟨[aX 5 10],[aJ 10 1],[]⟩)]))
def K1(n:Nat):aU 26 (ox n):=bR (bp n [] (bz true [([3],⟨[aX 3 8,aq 4],[aJ 8 1],[]⟩)]) [] (bz true [([0],⟨[aX 3 8],[aJ 8 1],[]⟩)]))
def S5(n:Nat):aU 54 (s9 n):=fy ⟨dm bV,bW,fx [],n,[],bF (bz true [([3],⟨[aq 2,sp 3,aX 7 15,aX 8 17],[aV 3 4,aJ 15 1,aJ 17 1],[]⟩),([7],⟨[aq 2,sp 3,aX 7 15,aX 8 25,aq 9,aq 10],[aV 3 4,aJ 15 1,aJ 25 1],[]⟩)]),bF (bz true [([54000011],⟨[aq 2,sp 3,aX 7 15,aX 8 61,aq 9,aq 10],[aV 3 4,aJ 15 1,aJ 61 1],[]⟩)]),bF (bz true [([0],⟨[aX 7 15],[aJ 15 1],[]⟩),([1,2],⟨[aq 2,sp 3,aX 7 15,aX 8 25],[aV 3 4,aJ 15 1,aJ 25 1],[]⟩),([3],⟨[aq 2,sp 3,aX 7 15,aX 8 61,aq 9,aq 10],[aV 3 4,aJ 15 1,aJ 61 1],[]⟩)]),dJ [],dq [],dO [25],dI []⟩ (S:=⟨ca,bK,ak,b8⟩)
def agL(n:Nat):aU 53 (AT n):=cx (bp n [aP S5] (bz true [([6],⟨[aq 1,sp 2,aq 5,aX 6 24,aq 7],[aV 2 4,aJ 24 1],[]⟩),([12],⟨[aq 1,sp 2,aq 5,aX 6 24,aq 7,aq 8,aq 9],[aV 2 4,aJ 24 1],[]⟩),([16],⟨[aq 1,sp 2,aq 5,aX 6 24,aq 7,aq 8,aq 9,aq 10,aq 11],[aV 2 4,aJ 24 1],[]⟩)]) (bS true [([15000003],[1,2004,5])]) (bz true [([0],⟨[aX 6 24],[aJ 24 1],[]⟩),([1,2],⟨[aq 1,sp 2,aq 5,aX 6 24,aq 7],[aV 2 4,aJ 24 1],[]⟩),([3],⟨[aq 1,sp 2,aq 5,aX 6 24,aq 7,aq 8,aq 9],[aV 2 4,aJ 24 1],[]⟩),([4],⟨[aq 1,sp 2,aq 5,aX 6 24,aq 7,aq 8,aq 9,aq 10],[aV 2 4,aJ 24 1],[]⟩)]))
def K2(n:Nat):aU 14 (wN n):=cx (bp n [aP K0,aP agL,aP S5] (bz true [([5],⟨[sp 2,aq 5,aq 6,aX 7 19,aq 8],[aV 2 4,aJ 19 1],[]⟩),([11],⟨[sp 2,aq 5,aq 6,aX 7 19,aq 8,aq 9,aq 10],[aV 2 4,aJ 19 1],[]⟩)]) [] (bz true [([0],⟨[aX 7 19],[aJ 19 1],[]⟩),([1,2],⟨[sp 2,aq 5,aq 6,aX 7 19,aq 8],[aV 2 4,aJ 19 1],[]⟩)]))
def agM(n:Nat):aU 16 (AX n):=cx (bp n [aP K0,aP K1,aP K2] (bz true [([5],⟨[sp 2,aq 5,aq 6,aX 7 20,aq 8],[aV 2 4,aJ 20 1],[]⟩),([8],⟨[sp 2,aq 5,aq 6,aX 7 20,aq 8,aq 9],[aV 2 4,aJ 20 1],[]⟩)]) [] (bz true [([0],⟨[aX 7 20],[aJ 20 1],[]⟩),([1,2],⟨[sp 2,aq 5,aq 6,aX 7 20,aq 8],[aV 2 4,aJ 20 1],[]⟩)]))
def agN(n:Nat):aU 18 (tb n):=fy (bp n [aP K0,aP K1,aP K2] (bz true [([5],⟨[sp 3,aq 7,aq 8,aq 9,aX 10 27,aq 11],[aV 3 4,aJ 27 1],[]⟩),([9],⟨[sp 3,aq 7,aX 10 27,aq 12],[aV 3 4,aJ 27 1],[]⟩),([12],⟨[sp 3,aq 7,aX 10 27,aq 12,aq 13],[aV 3 4,aJ 27 1],[]⟩),([15],⟨[sp 3,aq 7,aX 10 27,aq 12,aq 13,aq 14],[aV 3 4,aJ 27 1],[]⟩)]) (bz true [([87000018],⟨[sp 3,aq 7,aX 10 27,aq 12,aq 13,aq 14],[aV 3 4,aJ 27 1],[]⟩)]) (bz true [([0],⟨[sp 3,aq 7,aX 10 27],[aV 3 4,aJ 27 1],[]⟩),([2],⟨[aX 10 27],[aJ 27 1],[]⟩),([3,4],⟨[sp 3,aq 7,aX 10 27,aq 12],[aV 3 4,aJ 27 1],[]⟩),([5,6],⟨[sp 3,aq 7,aX 10 27,aq 12,aq 13],[aV 3 4,aJ 27 1],[]⟩),([7],⟨[sp 3,aq 7,aX 10 27,aq 12,aq 13,aq 14],[aV 3 4,aJ 27 1],[]⟩)]))
def agO(n:Nat):aU 21 (wO n):=cx (bp n [aP K2] [] [] [])
def agP(n:Nat):aU 89 (ko n):=uF (bp n [aP S3,aP S4,aP agK,aP agM,aP K1,aP agN,aP agO] [] [] [])
def agQ(a:lZ->oX)(n:Nat)(a0:D)(aG:D)(a2:D)(b:aU 48 a){r:D}(h:wP a n a0 aG a2=some r):cF bV bW 48 [a0,aG,a2] (·=r):=cW (bp n [aP agJ,kX b,aP agP] [] (bS true [([27000006],[3004,5006,7,8])]) []) ca cZ ak b8 Tryz.func48 (br (br (br le_nil))) h
def S6:∀n,aU 48 (q4 n)
 |0=>(λ_ _ h=>by cases h)
 |n+1=>by
  have ih:=S6 n;exact(by
   intro a r h;unfold q4 at h;split at h
   case h_2=>cases h
   exact agQ (q4 n) n _ _ _ ih h)
def agR(n:Nat):aU 48 (q4 n):=(S6 n)
def agS(n:Nat):aU 11 (wQ n):=fy (bp n [aP KP,aP agI,aP agR] [] (bS true [([12000003],[3004,4008,5006,8])]) [])
def agT(a:lZ->oX)(n:Nat)(a0:D)(aG:D)(b:aU 33 a){r:D}(h:q2 a n a0 aG=some r):cF bV bW 33 [a0,aG] (·=r):=cW (bp n [aP KW,kX b] (bS true [([7],[0,29,30,31])]) (bS true [([26000004],[6])]) (bS true [([0],[])])) ca cZ ak b8 Tryz.func33 (br (br le_nil)) h
def S7:∀n,aU 33 (nq n)
 |0=>(λ_ _ h=>by cases h)
 |n+1=>by
  have ih:=S7 n;exact(by
   intro a r h;unfold nq at h;split at h
   case h_2=>cases h
   exact agT (nq n) n _ _ ih h)
def S8(n:Nat):aU 33 (nq n):=(S7 n)
def agU(n:Nat)(a0:D)(x1:lZ)(ds:lZ)(a:lZ){r:D}(h:Kw n a0 x1 ds a=some r):cF bV bW 38 [a0,.ref x1 0,.ref ds 0,.ref a 0] (·=r):=cW (bp n [aP KY] [] [] []) ca cZ ak b8 Tryz.func38 (br (fg fo (fg fo (fg fo le_nil)))) h
def agV(n:Nat):aU 38 (Ff n):=by
 intro a r h;unfold Ff at h;split at h
 case h_2=>cases h
 split at h
 case h_2=>cases h
 split at h
 case h_2=>cases h
 split at h
 case h_2=>cases h
 exact agU n _ _ _ _ h
def agW(n:Nat)(a0:D)(a:D)(c:D)(d:D){r:D}(h:Kx n a0 a c d=some r):cF bV bW 35 [a0,(D.fn (.func uS) [] [a,c,d])] (·=r):=cW (bp n [aP agV] (bz true [([3],⟨[(1,.b (.fd uS 3)),aX 5 10,aq 12,aq 13],[aJ 10 1],[]⟩)]) [] (bz true [([0],⟨[aX 5 10],[aJ 10 1],[]⟩)])) ca cZ ak b8 Tryz.func35 (br (br le_nil)) h
def agX(n:Nat):aU 35 (wI n):=by
 intro b r h;unfold wI at h;split at h
 case h_2=>cases h
 split at h
 case h_2=>cases h
 rename_i a;obtain rfl:=gU a;exact agW n _ _ _ _ h
def agY(a:lZ->oX)(n:Nat)(a0:D)(x1:lZ)(ds:lZ)(d:lZ)(e:lZ)(c:aU 37 a){r:D}(h:ka a n a0 x1 ds d e=some r):cF bV bW 37 [a0,.ref x1 0,.ref ds 0,.ref d 0,.ref e 0] (·=r):=cW ⟨((dm bV).Ci [(22,[37,34]),(33,[37,34]),(40,[37,34]),(85,[37,34]),(87,[37,34]),(94,[37,34]),(96,[37,34]),(105,[37,34]),(107,[37,34]),(111,[37,34]),(116,[37,34])]),bW,fx [(35,uG 1 [(uS,wI n),(uT,u6 n),(uU,u7 n),(uV,u9 n),(uW,vo n),(uX,vp n)]),(37,a),(34,jK n),(15,vn n),(43,qM n),(17,qP n),(20,sD n)],n,[],bF [],bF (bz true [([27000006],⟨[(1,.b (.cH 0)),(4,.b (.cH 0)),sp 5,sp 7,sp 8],[aV 5 6,aV 7 1,aV 8 1],[]⟩)]),bF [],dJ [],dq [],dO [16,45,50,55,123],dI [(31,[[],[],[7,8]])]⟩ ((tok _).Ci _) (df (uH (agX n) (uH (adf n) (uH (adj n) (uH (adn n) (uH (adN n) (uH (adR n) abc)))))) (df c (df (ac9 n) (df (adD n) (df (KH n) (df (adI n) (df (adJ n) bK))))))) ak b8 Tryz.func37 (br (fg fo (fg fo (fg fo (fg fo le_nil))))) h
def S9:∀n,aU 37 (ov n)
 |0=>(λ_ _ h=>by cases h)
 |n+1=>by
  have ih:=S9 n;exact(by
   intro a r h;unfold ov at h;split at h
   case h_2=>cases h
   split at h
   case h_2=>cases h
   split at h
   case h_2=>cases h
   split at h
   case h_2=>cases h
   split at h
   case h_2=>cases h
   exact agY (ov n) n _ _ _ _ _ ih h)
def agZ(n:Nat):aU 37 (ov n):=(S9 n)
end Go.Am
