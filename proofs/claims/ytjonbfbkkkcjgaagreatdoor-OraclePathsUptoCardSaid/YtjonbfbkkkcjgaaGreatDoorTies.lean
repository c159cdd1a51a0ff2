/- That the functions of the program compute this. No condition. -/
import Derived.Test.YtjonbfbkkkcjgaaGreatDoorHand
import Derived.KernelRfl
set_option linter.all false
set_option linter.unnecessarySimpa false
namespace Go.Am
open Go.Proofs
set_option maxRecDepth 100000
def ac8(n:Nat):aT 217 (Dm n):=bS (bq n [] [] (bW true [([5004,5005,5006],[4,5]),([12011],[4,12]),([15014,15015,15016,15017,15018,15019,15020,15021,15022],[4,15])]) [])
def ac9(n:Nat):aT 165 (Dn n):=bS (bq n [aQ ac8] [] (bW true [([18008007,20000009],[1004,3,4,5,6])]) (bW true [([0],[1004,3,4,5,6])]))
def ada(n:Nat):eD RV (yG n):=jH ⟨dn bV,bQ,gu n [aQ ac9],n,[10000,10001],bE [],bE (bB true [([10004003,18000006],⟨[(3,.b (.ptr 10001 0))],[aW 10001 1,aW 10000 1],[]⟩)]),bE [],dG [],dq [],dH [],dF []⟩ cb c0 ak b9 Tryz.func164 []
def Sh(n:Nat):aT 80 (yI n):=bS (bq n [] (bB true [([3],⟨[(3,.b (.map 8)),aq 9,aq 10,aq 11],[(8,.map)],[]⟩)]) (bB true [([24000007],⟨[(3,.b (.map 8)),aq 9,aq 10,aq 11],[(8,.map)],[]⟩)]) (bB true [([0],⟨[(3,.b (.map 8))],[(8,.map)],[]⟩),([1],⟨[(3,.b (.map 8)),aq 9,aq 10,aq 11],[(8,.map)],[]⟩)]))
def Si(n:Nat):aT 218 (py n):=cy (bq n [] [] [] [])
def adb(n:Nat):aT 219 (Dp n):=bS (bq n [] (bW true [([2],[2003,6,7,8])]) [] (bW true [([0],[2003])]))
def ade(n:Nat):aT 220 (u4 n):=fo (bq n [aQ Si] [] (bW true [([13000002],[0,4003,5003,6003])]) [])
def adf(n:Nat):aT 168 (lz n):=aby (bq n [aQ Si,aQ adb,aQ ade] [] (bW true [([29007],[0,1,3,4,7004,10003,16,29]),([69017,69018,69019,69020],[4,7004,10003,16,69]),([126029],[4,7004,10003,126]),([164038],[4,7004,10003,152,164])]) (bW true [([0],[4,7004,10003])]))
def adg(a:lZ->oX)(n:Nat)(a0:D)(aG:D)(a2:D)(a3:D)(b:aT 127 a){r:D}(h:Jv a n a0 aG a2 a3=some r):cF bV bQ 127 [a0,aG,a2,a3] (·=r):=cY (bq n [mh b,aQ adf] (bB true [([3],⟨[aq 0,aq 1,aq 3,sp 6,sp 8,a1 10 5000,aq 16,aq 17,aq 18],[aW 6 4,aW 8 3,aJ 5000 3],[.slot 10 5000 3]⟩)]) [] (bB true [([0],⟨[aq 0,aq 1,aq 3,sp 6,sp 8,a1 10 5000],[aW 6 4,aW 8 3,aJ 5000 3],[]⟩)])) cb c0 ak b9 Tryz.func127 (br (br (br (br le_nil)))) h
def Sj:∀n,aT 127 (og n)
 |0=>(λ_ _ h=>by cases h)
 |n+1=>by
  have ih:=Sj n;exact(by
   intro a r h;unfold og at h;split at h
   case h_2=>cases h
   exact adg (og n) n _ _ _ _ ih h)
def adh(n:Nat):aT 127 (og n):=(Sj n)
def Sk(n:Nat):aT 82 (nk n):=bS (bq n [] [] [] [])
def adi(n:Nat):aT 128 (Dr n):=cy (bq n [] [] [] [])
def Sl(n:Nat):aT 83 (qS n):=cy (bq n [aQ adi] [] [] [])
def adj(n:Nat):aT 170 (u6 n):=bS (bq n [] [] [] [])
def adk(n:Nat):aT 169 (Jy n):=cy (bq n [] [] [] [])
def adl(n:Nat):aT 129 (sB n):=cy (bq n [aQ adj,aQ adk] [] [] [])
def adm(n:Nat):aT 84 (h2 n):=cy (bq n [aQ Sk,aQ Sl,aQ adl] (bW true [([29],[1,2004,6,147,148,149])]) (bW true [([35007],[1,2004,10,35])]) (bW true [([1],[1,2004,6])]))
def adn(a:lZ->oY)(n:Nat)(c:eD th a):eD th (pz a n):=jH ⟨dn bV,bQ,gu n [aQ Sk,aQ Sl,aQ adm],n,[10000,10001,10002,10003,10004],bE (bB true [([3],⟨[(1,.b (.ptr 10000 0)),(2,.b (.ptr 10001 0)),(3,.b (.ptr 10002 0)),(4,.b (.ptr 10003 0)),(5,.b (.ptr 10004 0)),sp 6,a1 9 5000,aq 17,aq 18,aq 19],[(10000,.box [.fn (.func sA) [] [.ptr 10000 0,.ptr 10001 0,.ptr 10002 0,.ptr 10003 0,.ptr 10004 0]]),aW 10001 1,aW 10002 1,aW 10003 1,aW 10004 1,aW 6 4,aJ 5000 1],[.slot 9 5000 1]⟩)]),bE (bB true [([43013],⟨[(2,.b (.ptr 10001 0)),(3,.b (.ptr 10002 0)),(4,.b (.ptr 10003 0)),(5,.b (.ptr 10004 0)),sp 6,a1 9 5000,aq 37,aq 43],[aW 10001 1,aW 10002 1,aW 10003 1,aW 10004 1,aW 6 4,aJ 5000 1,(10000,.box [.fn (.func sA) [] [.ptr 10000 0,.ptr 10001 0,.ptr 10002 0,.ptr 10003 0,.ptr 10004 0]])],[]⟩),([48016],⟨[(2,.b (.ptr 10001 0)),(3,.b (.ptr 10002 0)),(4,.b (.ptr 10003 0)),(5,.b (.ptr 10004 0)),sp 6,a1 9 5000,aq 48],[aW 10001 1,aW 10002 1,aW 10003 1,aW 10004 1,aW 6 4,aJ 5000 1,(10000,.box [.fn (.func sA) [] [.ptr 10000 0,.ptr 10001 0,.ptr 10002 0,.ptr 10003 0,.ptr 10004 0]])],[]⟩),([58000019],⟨[(5,.b (.ptr 10004 0)),aq 14,aq 15],[aW 10004 1,(10000,.box [.fn (.func sA) [] [.ptr 10000 0,.ptr 10001 0,.ptr 10002 0,.ptr 10003 0,.ptr 10004 0]]),aW 10001 1,aW 10002 1,aW 10003 1],[]⟩)]),bE (bB true [([0],⟨[(2,.b (.ptr 10001 0)),(3,.b (.ptr 10002 0)),(4,.b (.ptr 10003 0)),(5,.b (.ptr 10004 0)),sp 6,a1 9 5000],[aW 10001 1,aW 10002 1,aW 10003 1,aW 10004 1,aW 6 4,aJ 5000 1,(10000,.box [.fn (.func sA) [] [.ptr 10000 0,.ptr 10001 0,.ptr 10002 0,.ptr 10003 0,.ptr 10004 0]])],[]⟩)]),dG [],dq [(26,⟨th,a,6020,[]⟩)],dH [],dF []⟩ cb c0 (aX c ak) b9 Tryz.func81 []
def Sm:∀n,eD th (pA n)
 |0=>sg (s:=th) (sk (T:=dn bV) (os:=λ_=>none) Tryz.func81) (λ_=>rfl)|n+1=>by have ih:=Sm n;exact adn (pA n) n ih
def ado(n:Nat):eD th (pA n):=(Sm n)
def adp(n:Nat)(a0:D)(x1:lZ){r:D}(h:Jz n a0 x1=some r):cF bV bQ 36 [a0,.ref x1 0] (·=r):=cY (jr n [] [] [] []) cb bK ak b9 Tryz.func36 (br (e0 e6 le_nil)) h
def adq(n:Nat):aT 36 (Dt n):=by
 intro a r h;unfold Dt at h;split at h
 case h_2=>cases h
 split at h
 case h_2=>cases h
 exact adp n _ _ h
def adr(n:Nat)(a0:D)(a:D){r:D}(h:JA n a0 a=some r):cF bV bQ 35 [a0,(D.fn (.func Dk) [] [a])] (·=r):=cY (bq n [aQ adq] (bB true [([3],⟨[(1,.b (.fd Dk 1)),a1 5 10,aq 12,aq 13],[aJ 10 1],[]⟩)]) [] (bB true [([0],⟨[a1 5 10],[aJ 10 1],[]⟩)])) cb c0 ak b9 Tryz.func35 (br (br le_nil)) h
def ads(n:Nat):aT 35 (Dv n):=by
 intro b r h;unfold Dv at h;split at h
 case h_2=>cases h
 split at h
 case h_2=>cases h
 rename_i a;obtain rfl:=gV a;exact adr n _ _ h
def adt(n:Nat)(a0:D)(x1:lZ){r:D}(h:JB n a0 x1=some r):cF bV bQ 34 [a0,.ref x1 0] (·=r):=cY ⟨dn bV,bQ,gu n [aQ ads],n,[],bE [],bE [],bE [],dG [],dq [],dH [6],dF []⟩ cb c0 ak b9 Tryz.func34 (br (e0 e6 le_nil)) h
def adu(n:Nat):aT 34 (jN n):=by
 intro a r h;unfold jN at h;split at h
 case h_2=>cases h
 split at h
 case h_2=>cases h
 exact adt n _ _ h
def adv(n:Nat)(a0:D)(x1:lZ)(c9:lZ){r:D}(h:JC n a0 x1 c9=some r):cF bV bQ 40 [a0,.ref x1 0,.ref c9 0] (·=r):=cY (jr n [] [] [] []) cb bK ak b9 Tryz.func40 (br (e0 e6 (e0 e6 le_nil))) h
def adw(n:Nat):aT 40 (Dw n):=by
 intro a r h;unfold Dw at h;split at h
 case h_2=>cases h
 split at h
 case h_2=>cases h
 split at h
 case h_2=>cases h
 exact adv n _ _ _ h
def adx(n:Nat)(a0:D)(a:D)(c:D){r:D}(h:JD n a0 a c=some r):cF bV bQ 35 [a0,(D.fn (.func uU) [] [a,c])] (·=r):=cY (bq n [aQ adw] (bB true [([3],⟨[(1,.b (.fd uU 2)),a1 5 10,aq 12,aq 13],[aJ 10 1],[]⟩)]) [] (bB true [([0],⟨[a1 5 10],[aJ 10 1],[]⟩)])) cb c0 ak b9 Tryz.func35 (br (br le_nil)) h
def ady(n:Nat):aT 35 (u7 n):=by
 intro b r h;unfold u7 at h;split at h
 case h_2=>cases h
 split at h
 case h_2=>cases h
 rename_i a;obtain rfl:=gV a;exact adx n _ _ _ h
def adz(n:Nat)(a0:D)(x1:lZ)(c9:lZ){r:D}(h:JE n a0 x1 c9=some r):cF bV bQ 41 [a0,.ref x1 0,.ref c9 0] (·=r):=cY (jr n [] [] [] []) cb bK ak b9 Tryz.func41 (br (e0 e6 (e0 e6 le_nil))) h
def adA(n:Nat):aT 41 (Dy n):=by
 intro a r h;unfold Dy at h;split at h
 case h_2=>cases h
 split at h
 case h_2=>cases h
 split at h
 case h_2=>cases h
 exact adz n _ _ _ h
def adB(n:Nat)(a0:D)(a:D)(c:D){r:D}(h:JF n a0 a c=some r):cF bV bQ 35 [a0,(D.fn (.func uV) [] [a,c])] (·=r):=cY (bq n [aQ adA] (bB true [([3],⟨[(1,.b (.fd uV 2)),a1 5 10,aq 12,aq 13],[aJ 10 1],[]⟩)]) [] (bB true [([0],⟨[a1 5 10],[aJ 10 1],[]⟩)])) cb c0 ak b9 Tryz.func35 (br (br le_nil)) h
def adC(n:Nat):aT 35 (u9 n):=by
 intro b r h;unfold u9 at h;split at h
 case h_2=>cases h
 split at h
 case h_2=>cases h
 rename_i a;obtain rfl:=gV a;exact adB n _ _ _ h
def adD(n:Nat)(a0:D)(x1:lZ)(c9:lZ){r:D}(h:JG n a0 x1 c9=some r):cF bV bQ 42 [a0,.ref x1 0,.ref c9 0] (·=r):=cY (jr n [] [] [] []) cb bK ak b9 Tryz.func42 (br (e0 e6 (e0 e6 le_nil))) h
def adE(n:Nat):aT 42 (DA n):=by
 intro a r h;unfold DA at h;split at h
 case h_2=>cases h
 split at h
 case h_2=>cases h
 split at h
 case h_2=>cases h
 exact adD n _ _ _ h
def adF(n:Nat)(a0:D)(a:D)(c:D){r:D}(h:JH n a0 a c=some r):cF bV bQ 35 [a0,(D.fn (.func uW) [] [a,c])] (·=r):=cY (bq n [aQ adE] (bB true [([3],⟨[(1,.b (.fd uW 2)),a1 5 10,aq 12,aq 13],[aJ 10 1],[]⟩)]) [] (bB true [([0],⟨[a1 5 10],[aJ 10 1],[]⟩)])) cb c0 ak b9 Tryz.func35 (br (br le_nil)) h
def adG(n:Nat):aT 35 (vb n):=by
 intro b r h;unfold vb at h;split at h
 case h_2=>cases h
 split at h
 case h_2=>cases h
 rename_i a;obtain rfl:=gV a;exact adF n _ _ _ h
def KG(n:Nat):aT 49 (sC n):=cy (bq n [] [] [] [])
def adH(n:Nat):aT 85 (JI n):=bS (bq n [] [] [] [])
def adI(n:Nat)(a0:D){r:D}(h:JJ n a0=some r):cF bV bQ 35 [a0,(D.val (.func (.func u0) #[] #[]))] (·=r):=cY (bq n [aQ adH] (bB true [([3],⟨[(1,.b (.x8 u0)),a1 5 10,aq 12,aq 13],[aJ 10 1],[]⟩)]) [] (bB true [([0],⟨[a1 5 10],[aJ 10 1],[]⟩)])) cb c0 ak b9 Tryz.func35 (br (br le_nil)) h
def adJ(n:Nat):aT 35 (DD n):=by
 intro b r h;unfold DD at h;split at h
 case h_2=>cases h
 obtain⟨a,h⟩:=hE h;obtain rfl:=Pu a;exact adI n _ h
def KH(n:Nat):aT 43 (qT n):=bS (bq n [aQ adJ] [] [] [])
def adK(n:Nat)(a0:D)(x1:lZ){r:D}(h:DE n a0 x1=some r):cF bV bQ 90 [a0,.ref x1 0] (·=r):=cY (jr n [] [] [] []) cb bK ak b9 Tryz.func90 (br (e0 e6 le_nil)) h
def Sn(n:Nat):aT 90 (qU n):=by
 intro a r h;unfold qU at h;split at h
 case h_2=>cases h
 split at h
 case h_2=>cases h
 exact adK n _ _ h
def adL(n:Nat)(a0:D)(a:D){r:D}(h:JK n a0 a=some r):cF bV bQ 91 [a0,(D.fn (.func hJ) [] [a])] (·=r):=cY ⟨dn bV,bQ,gu n [aQ Sn],n,[],bE (bB true [([4],⟨[aq 0,(1,.b (.fd hJ 1)),a1 5 5003,a1 6 13,aq 15,aq 16],[aJ 5003 1,aJ 13 1],[.slot 5 5003 1]⟩),([9],⟨[aq 0,(1,.b (.fd hJ 1)),a1 5 5003,a1 6 13,a1 8 34,aq 15,aq 16],[aJ 5003 1,aJ 13 1,aJ 34 2],[.slot 5 5001 1]⟩)]),bE (bB true [([97000017],⟨[aq 0,(1,.b (.fd hJ 1)),a1 5 5003,a1 6 13,a1 8 105,aq 15,aq 16],[aJ 5003 1,aJ 13 1,aJ 105 2],[]⟩)]),bE (bB true [([0],⟨[a1 5 5003],[aJ 5003 1],[]⟩),([1],⟨[aq 0,(1,.b (.fd hJ 1)),a1 5 5003,a1 6 13,aq 15,aq 16],[aJ 5003 1,aJ 13 1],[.slot 5 5002 1]⟩),([2],⟨[aq 0,(1,.b (.fd hJ 1)),a1 5 5003,a1 6 13,aq 15,aq 16],[aJ 5003 1,aJ 13 1],[]⟩),([3],⟨[aq 0,(1,.b (.fd hJ 1)),a1 5 62,a1 6 13,a1 8 67,aq 15,aq 16],[aJ 62 1,aJ 13 1,aJ 67 2],[.slot 5 5000 1]⟩)]),dG [],dq [],dH [67],dF []⟩ cb c0 ak b9 Tryz.func91 (br (br le_nil)) h
def adM(n:Nat):aT 91 (yN n):=by
 intro b r h;unfold yN at h;split at h
 case h_2=>cases h
 split at h
 case h_2=>cases h
 rename_i a;obtain rfl:=gV a;exact adL n _ _ h
def Sp(n:Nat):eD Kz (oh n):=jH ⟨dn bV,bQ,fv [],n,[10000],bE [],bE (bB true [([24000001],⟨[],[(10000,.box [.b (.row 9000),.b (.row 38)]),aJ 9000 1,aJ 38 1],[]⟩)]),bE [],dG [],dq [],dH [],dF []⟩ cb bK ak b9 Tryz.func93 []
def adN(n:Nat):eD RW (vd n):=jH ⟨dn bV,bQ,gu n [aQ Sn],n,[10000,10001,10002],bE [],bE (bB true [([6000001],⟨[],[(10000,.box [.fn (.func hJ) [] [.cH 0]]),(10001,.box [.b (.ptr 10002 0)]),(10002,.box [.b (.row 6010),.b (.row 6011)]),aJ 6010 1,aJ 6011 1],[]⟩)]),bE [],dG [],dq [(9,⟨Kz,oh n,6010,[]⟩)],dH [],dF []⟩ cb c0 (aX (Sp n) ak) b9 Tryz.func95 []
def adO(n:Nat):eD RX (yO n):=jH ⟨dn bV,bQ,fv [],n,[10000,10001,10002],bE (bB true [([1],⟨[(1,.fn (.func Qh) [] [.ptr 10000 0,.ptr 10001 0]),aq 6,aq 7,aq 8],[(10000,.box [.fn (.func hJ) [] [.cH 0]]),(10001,.box [.b (.ptr 10002 0)]),(10002,.box [.b (.row 9000),.b (.row 9001)]),aJ 9000 1,aJ 9001 1],[]⟩)]),bE [],bE (bB true [([0],⟨[],[(10000,.box [.fn (.func hJ) [] [.cH 0]]),(10001,.box [.b (.ptr 10002 0)]),(10002,.box [.b (.row 9000),.b (.row 9001)]),aJ 9000 1,aJ 9001 1],[]⟩)]),dG [],dq [(14,⟨RW,vd n,6010,[]⟩)],dH [],dF []⟩ cb bK (aX (adN n) ak) b9 Tryz.func94 []
def adP(n:Nat):aT 50 (DG n):=cy ⟨dn bV,bQ,gu n [aQ adM,aQ Sb],n,[],bE (bB true [([7],⟨[sp 5,aq 6,aq 7,sp 8,a1 9 5003,aq 10],[(5,.box [.fn (.func hJ) [] [.cH 0]]),(8,.box [.b (.ptr 25 0)]),aJ 5003 1,(25,.box [.b (.row 23),.b (.row 5004)]),aJ 23 1,aJ 5004 1],[.slot 9 5003 1,.box 25 1 5004 1]⟩),([12],⟨[sp 5,aq 6,aq 7,sp 8,a1 9 5003,aq 10,a1 11 5000],[(5,.box [.fn (.func hJ) [] [.cH 0]]),(8,.box [.b (.ptr 25 0)]),aJ 5003 1,aJ 5000 1,(25,.box [.b (.row 6140),.b (.row 6141)]),aJ 6140 1,aJ 6141 1],[.slot 11 5000 1]⟩)]),bE [],bE (bB true [([0],⟨[a1 9 5003],[aJ 5003 1],[]⟩),([1],⟨[sp 5,aq 6,aq 7,sp 8,a1 9 5003,aq 10],[(5,.box [.fn (.func hJ) [] [.cH 0]]),(8,.box [.b (.ptr 25 0)]),aJ 5003 1,(25,.box [.b (.row 23),.b (.row 5004)]),aJ 23 1,aJ 5004 1],[.slot 9 5001 1,.box 25 1 5002 1]⟩),([2],⟨[sp 5,aq 6,aq 7,sp 8,a1 9 5003,aq 10,a1 11 5000],[(5,.box [.fn (.func hJ) [] [.cH 0]]),(8,.box [.b (.ptr 25 0)]),aJ 5003 1,aJ 5000 1,(25,.box [.b (.row 6140),.b (.row 6141)]),aJ 6140 1,aJ 6141 1],[]⟩)]),dG [(11,[0,1,2,3,4]),(14,[0,1,2,3,4,5,6,7])],dq [(48,⟨Kz,oh n,6140,[]⟩),(78,⟨RX,yO n,6150,[]⟩),(80,⟨RY,yy n,6160,[]⟩),(86,⟨RZ,uQ n,6170,[]⟩)],dH [17,40066,83],dF []⟩ (S:=⟨cb,c0,(aX (Sp n) (aX (adO n) (aX (acW n) (aX (ac7 n) ak)))),b9⟩)
def adQ(n:Nat):aT 51 (vj n):=cy (bq n [] (bB true [([3],⟨[aq 1,sp 2,(5,.b (.map 16)),aq 17,aq 18,aq 19],[aW 2 4,(16,.map)],[]⟩),([9],⟨[aq 1,sp 2,(5,.b (.map 16)),aq 8,aq 26,aq 27,aq 28],[aW 2 4,(16,.map)],[]⟩),([12],⟨[aq 1,sp 2,(5,.b (.map 16)),aq 8,aq 26,aq 27,aq 28,aq 36,aq 37,aq 38],[aW 2 4,(16,.map)],[]⟩),([21],lu [1,2004,56,57]),([24],lu [1,2004,13,56,57,60,61,62])]) [] (bB true [([0],⟨[aq 1,sp 2,(5,.b (.map 16))],[aW 2 4,(16,.map)],[]⟩),([2],lu [1,2004,8]),([3,4],⟨[aq 1,sp 2,(5,.b (.map 16)),aq 8,aq 26,aq 27,aq 28],[aW 2 4,(16,.map)],[]⟩),([6,8],lu []),([7],lu [1,2004,56,57])]))
def adR(n:Nat):eD R0 (yR n):=jH ⟨dn bV,bQ,fv [],n,[],bE [],bE [],bE [],dG [],dq [],dH [],dF []⟩ cb bK ak b9 Tryz.func49 []
def Sq(n:Nat):aT 52 (yS n):=fo ⟨dn bV,bQ,gu n [aQ Sb],n,[],bE (bB true [([4],⟨[aq 1,sp 3,a1 7 6010,a1 8 5001,a1 17 6010,aq 18,aq 19],[aW 3 4,aJ 6010 1,aJ 5001 1],[.slot 8 5001 1]⟩),([10],⟨[aq 1,a1 7 6010,a1 8 5001,aq 11],[aJ 6010 1,aJ 5001 1],[]⟩),([13],⟨[aq 1,a1 7 6010,a1 8 5001,aq 11,aq 42,aq 43,aq 44],[aJ 6010 1,aJ 5001 1],[]⟩)]),bE (bB true [([24000007],⟨[aq 1,sp 3,a1 7 6010,a1 8 28,a1 17 6010,aq 18,aq 19],[aW 3 4,aJ 6010 1,aJ 28 1],[.slot 8 5000 1]⟩),([58000016],⟨[aq 1,a1 7 6010,a1 8 65,aq 11,aq 42,aq 43,aq 44],[aJ 6010 1,aJ 65 1],[]⟩)]),bE (bB true [([0],⟨[aq 1,sp 3,a1 7 6010,a1 8 5001],[aW 3 4,aJ 6010 1,aJ 5001 1],[]⟩),([1],⟨[aq 1,sp 3,a1 7 6010,a1 8 28,a1 17 6010,aq 18,aq 19],[aW 3 4,aJ 6010 1,aJ 28 1],[]⟩),([2],⟨[a1 7 6010],[aJ 6010 1],[]⟩),([3,4],⟨[aq 1,a1 7 6010,a1 8 5001,aq 11],[aJ 6010 1,aJ 5001 1],[]⟩),([5],⟨[aq 1,a1 7 6010,a1 8 65,aq 11,aq 42,aq 43,aq 44],[aJ 6010 1,aJ 65 1],[]⟩)]),dG [],dq [(16,⟨R0,yR n,6010,[]⟩)],dH [36],dF []⟩ (S:=⟨cb,c0,(aX (adR n) ak),b9⟩)
def FB(n:Nat):aT 13 (sE n):=cy ⟨dn bV,bQ,gu n [aQ KG,aQ adP,aQ adQ,aQ Sq],n,[],bE (bB true [([4],⟨[aq 1,sp 2,a1 5 15,aq 18,aq 19,aq 20],[aW 2 4,aJ 15 1],[]⟩),([8],⟨[aq 1,sp 2,a1 5 15,aq 18,aq 19,aq 20,aq 27,aq 28,aq 29],[aW 2 4,aJ 15 1],[]⟩)]),bE (bB true [([26000007],⟨[aq 1,sp 2,a1 5 15,aq 18,aq 19,aq 20],[aW 2 4,aJ 15 1],[]⟩)]),bE (bB true [([0],⟨[aq 1,sp 2,a1 5 15],[aW 2 4,aJ 15 1],[]⟩),([1,2],⟨[aq 1,sp 2,a1 5 15,aq 18,aq 19,aq 20],[aW 2 4,aJ 15 1],[]⟩)]),dG [],dq [],dH [41],dF []⟩ (S:=⟨cb,c0,ak,b9⟩)
def adS(n:Nat)(a0:D)(x1:lZ)(c9:lZ)(a:lZ){r:D}(h:DJ n a0 x1 c9 a=some r):cF bV bQ 55 [a0,.ref x1 0,.ref c9 0,.ref a 0] (·=r):=cY (jr n [] (bB true [([2],⟨[(2,.b (.cH 0)),(3,.b (.cH 0)),aq 12,aq 13,aq 14],[],[]⟩)]) [] (bW true [([0],[])])) cb bK ak b9 Tryz.func55 (br (e0 e6 (e0 e6 (e0 e6 le_nil)))) h
def adT(n:Nat):aT 55 (yV n):=by
 intro a r h;unfold yV at h;split at h
 case h_2=>cases h
 split at h
 case h_2=>cases h
 split at h
 case h_2=>cases h
 split at h
 case h_2=>cases h
 exact adS n _ _ _ _ h
def adU(n:Nat)(a0:D)(a:D)(c:D)(d:D){r:D}(h:JL n a0 a c d=some r):cF bV bQ 35 [a0,(D.fn (.func yC) [] [a,c,d])] (·=r):=cY (bq n [aQ adT] (bB true [([3],⟨[(1,.b (.fd yC 3)),a1 5 10,aq 12,aq 13],[aJ 10 1],[]⟩)]) [] (bB true [([0],⟨[a1 5 10],[aJ 10 1],[]⟩)])) cb c0 ak b9 Tryz.func35 (br (br le_nil)) h
def adV(n:Nat):aT 35 (yX n):=by
 intro b r h;unfold yX at h;split at h
 case h_2=>cases h
 split at h
 case h_2=>cases h
 rename_i a;obtain rfl:=gV a;exact adU n _ _ _ _ h
def Sr(n:Nat):aT 15 (sF n):=cy ⟨dn bV,bQ,gu n [aQ KG,aQ KH,aQ FB,aQ adV],n,[],bE [],bE [],bE [],dG [],dq [],dH [15],dF []⟩ (S:=⟨cb,c0,ak,b9⟩)
def adW(n:Nat)(a0:D)(x1:lZ)(c9:lZ){r:D}(h:JM n a0 x1 c9=some r):cF bV bQ 56 [a0,.ref x1 0,.ref c9 0] (·=r):=cY (jr n [] [] [] []) cb bK ak b9 Tryz.func56 (br (e0 e6 (e0 e6 le_nil))) h
def adX(n:Nat):aT 56 (DK n):=by
 intro a r h;unfold DK at h;split at h
 case h_2=>cases h
 split at h
 case h_2=>cases h
 split at h
 case h_2=>cases h
 exact adW n _ _ _ h
def adY(n:Nat)(a0:D)(a:D)(c:D){r:D}(h:JN n a0 a c=some r):cF bV bQ 35 [a0,(D.fn (.func yD) [] [a,c])] (·=r):=cY (bq n [aQ adX] (bB true [([3],⟨[(1,.b (.fd yD 2)),a1 5 10,aq 12,aq 13],[aJ 10 1],[]⟩)]) [] (bB true [([0],⟨[a1 5 10],[aJ 10 1],[]⟩)])) cb c0 ak b9 Tryz.func35 (br (br le_nil)) h
def adZ(n:Nat):aT 35 (yY n):=by
 intro b r h;unfold yY at h;split at h
 case h_2=>cases h
 split at h
 case h_2=>cases h
 rename_i a;obtain rfl:=gV a;exact adY n _ _ _ h
def Ss(n:Nat):aT 17 (pB n):=fo ⟨dn bV,bQ,gu n [aQ KG,aQ KH,aQ FB,aQ adZ,aQ Sq],n,[],bE [],bE [],bE [],dG [],dq [],dH [],dF [(3,[[],[],[5,7]])]⟩ (S:=⟨cb,c0,ak,b9⟩)
def St(n:Nat):aT 20 (qW n):=cy (bq n [aQ FB] [] [] [])
def ad0(n:Nat)(a0:D)(x1:lZ)(c9:lZ){r:D}(h:JO n a0 x1 c9=some r):cF bV bQ 44 [a0,.ref x1 0,.ref c9 0] (·=r):=cY (jr n [] [] [] []) cb bK ak b9 Tryz.func44 (br (e0 e6 (e0 e6 le_nil))) h
def ad1(n:Nat):aT 44 (DM n):=by
 intro a r h;unfold DM at h;split at h
 case h_2=>cases h
 split at h
 case h_2=>cases h
 split at h
 case h_2=>cases h
 exact ad0 n _ _ _ h
def ad2(n:Nat)(a0:D)(a:D)(c:D){r:D}(h:JP n a0 a c=some r):cF bV bQ 35 [a0,(D.fn (.func uX) [] [a,c])] (·=r):=cY (bq n [aQ ad1] (bB true [([3],⟨[(1,.b (.fd uX 2)),a1 5 10,aq 12,aq 13],[aJ 10 1],[]⟩)]) [] (bB true [([0],⟨[a1 5 10],[aJ 10 1],[]⟩)])) cb c0 ak b9 Tryz.func35 (br (br le_nil)) h
def ad3(n:Nat):aT 35 (vn n):=by
 intro b r h;unfold vn at h;split at h
 case h_2=>cases h
 split at h
 case h_2=>cases h
 rename_i a;obtain rfl:=gV a;exact ad2 n _ _ _ h
def ad4(n:Nat)(a0:D)(x1:lZ)(c9:lZ){r:D}(h:JQ n a0 x1 c9=some r):cF bV bQ 45 [a0,.ref x1 0,.ref c9 0] (·=r):=cY (jr n [] [] [] []) cb bK ak b9 Tryz.func45 (br (e0 e6 (e0 e6 le_nil))) h
def ad5(n:Nat):aT 45 (DO n):=by
 intro a r h;unfold DO at h;split at h
 case h_2=>cases h
 split at h
 case h_2=>cases h
 split at h
 case h_2=>cases h
 exact ad4 n _ _ _ h
def ad6(n:Nat)(a0:D)(a:D)(c:D){r:D}(h:JR n a0 a c=some r):cF bV bQ 35 [a0,(D.fn (.func uY) [] [a,c])] (·=r):=cY (bq n [aQ ad5] (bB true [([3],⟨[(1,.b (.fd uY 2)),a1 5 10,aq 12,aq 13],[aJ 10 1],[]⟩)]) [] (bB true [([0],⟨[a1 5 10],[aJ 10 1],[]⟩)])) cb c0 ak b9 Tryz.func35 (br (br le_nil)) h
def ad7(n:Nat):aT 35 (vo n):=by
 intro b r h;unfold vo at h;split at h
 case h_2=>cases h
 split at h
 case h_2=>cases h
 rename_i a;obtain rfl:=gV a;exact ad6 n _ _ _ h
def Su(n:Nat):aT 197 (yZ n):=bS (bq n [] [] [] [])
def ad8(n:Nat):aT 232 (DQ n):=bS (bq n [] [] [] [])
def ad9(n:Nat):aT 198 (DR n):=fo (bq n [aQ ad8,aQ Su] (bW true [([1],[0,1,2])]) [] (bW true [([0],[1])]))
def aea(n:Nat):aT 200 (JS n):=uj (bq n [] [] [] [])
def aeb(n:Nat):aT 199 (y1 n):=cy (bq n [] (bW true [([2],[0,1,5])]) [] (bW true [([0],[])]))
def KI(n:Nat):aT 140 (sG n):=bS (bq n [aQ Su,aQ ad9,aQ aea,aQ aeb] [] [] [])
def aec(n:Nat):aT 141 (y2 n):=bS (bq n [] [] [] [])
def A1(n:Nat):aT 105 (pC n):=bS (bq n [] [] (bW true [([19000007],[3])]) [])
def aed(n:Nat):aT 99 (DS n):=bS (bq n [aQ KI,aQ aec,aQ A1] (bW true [([2],[0,4]),([7],[0,4,5])]) [] (bW true [([0],[]),([1,2],[0,4])]))
def aee(n:Nat):aT 142 (DU n):=bS (bq n [] (bW true [([2],[0,3])]) [] (bW true [([0],[3])]))
def aef(n:Nat):aT 100 (DW n):=bS (bq n [aQ A1,aQ aee] (bW true [([3],[1008,3,4])]) [] (bW true [([0],[3])]))
def Sv(n:Nat):aT 143 (y5 n):=cy (bq n [] (bW true [([2],[1,2008,5])]) [] (bW true [([0],[])]))
def Sw(n:Nat):aT 144 (y7 n):=cy (bq n [] (bW true [([2],[1,2008,5])]) [] (bW true [([0],[])]))
def aeg(n:Nat):aT 241 (DX n):=cy (bq n [] (bW true [([2],[0,1,5])]) [] (bW true [([0],[])]))
def aeh(n:Nat):aT 238 (vr n):=cy (bq n [aQ aeg] (bB true [([6],⟨[aq 0,aq 1,a1 5 12,aq 6,aq 7],[aJ 12 1],[]⟩)]) (bB true [([28000009],⟨[aq 0,aq 1,a1 5 32,aq 6,aq 7],[aJ 32 1],[]⟩),([41000013],⟨[a1 5 45],[aJ 45 1],[]⟩)]) (bB true [([0],⟨[aq 1,a1 5 12,aq 6],[aJ 12 1],[]⟩)]))
def aei(a:lZ->oX)(n:Nat)(a0:D)(aG:D)(a2:D)(b:aT 221 a){r:D}(h:y9 a n a0 aG a2=some r):cF bV bQ 221 [a0,aG,a2] (·=r):=cY (bq n [aQ aeh,mh b] (bW true [([4],[1,2,3004,7])]) (bW true [([11000002],[1,2,3004])]) (bW true [([0],[2])])) cb c0 ak b9 Tryz.func221 (br (br (br le_nil))) h
def Sx:∀n,aT 221 (oi n)
 |0=>(λ_ _ h=>by cases h)
 |n+1=>by
  have ih:=Sx n;exact(by
   intro a r h;unfold oi at h;split at h
   case h_2=>cases h
   exact aei (oi n) n _ _ _ ih h)
def aej(n:Nat):aT 221 (oi n):=(Sx n)
def KJ(n:Nat):aT 172 (vt n):=bS (bq n [aQ aej] [] [] [])
def aek(n:Nat):aT 145 (D1 n):=cy (bq n [aQ KJ,aQ Sw] (bB true [([4],⟨[sp 2,a1 5 15,a1 6 17,aq 7],[aW 2 8,aJ 15 1,aJ 17 1],[]⟩),([8],⟨[sp 2,a1 5 15,a1 6 17,aq 7,aq 8,aq 10],[aW 2 8,aJ 15 1,aJ 17 1],[]⟩)]) (bB true [([57000012],⟨[sp 2,a1 5 15,a1 6 64,aq 7,aq 8,aq 10],[aW 2 8,aJ 15 1,aJ 64 1],[]⟩)]) (bB true [([0],⟨[a1 5 15],[aJ 15 1],[]⟩),([1,2],⟨[sp 2,a1 5 15,a1 6 17,aq 7],[aW 2 8,aJ 15 1,aJ 17 1],[]⟩),([3],⟨[sp 2,a1 5 15,a1 6 64,aq 7,aq 8,aq 10],[aW 2 8,aJ 15 1,aJ 64 1],[]⟩)]))
def ael(n:Nat):aT 233 (za n):=bS (bq n [] [] (bW true [([5003,5004,5005],[0,4,5]),([12010],[0,4,12])]) (bW true [([0],[0])]))
def Sy(n:Nat):aT 204 (zb n):=cy (bq n [aQ ael] [] (bW true [([22000008,25000010],[2004,5,6,7,8])]) [])
def aem(a:lZ->oX)(n:Nat)(a0:D)(aG:D)(a2:D)(b:aT 174 a){r:D}(h:JW a n a0 aG a2=some r):cF bV bQ 174 [a0,aG,a2] (·=r):=cY (bq n [aQ Sy,mh b] (bW true [([8],[1,2,3004,9])]) [] (bW true [([0],[2])])) cb c0 ak b9 Tryz.func174 (br (br (br le_nil))) h
def Sz:∀n,aT 174 (pD n)
 |0=>(λ_ _ h=>by cases h)
 |n+1=>by
  have ih:=Sz n;exact(by
   intro a r h;unfold pD at h;split at h
   case h_2=>cases h
   exact aem (pD n) n _ _ _ ih h)
def aen(n:Nat):aT 174 (pD n):=(Sz n)
def KK(n:Nat):aT 131 (vu n):=bS (bq n [aQ aen] [] [] [])
def SA(n:Nat):aT 203 (vv n):=cy (bq n [] (bW true [([2],[0,1,5])]) [] (bW true [([0],[])]))
def aeo(n:Nat):aT 201 (ze n):=cy (bq n [aQ KJ,aQ SA] (bB true [([4],⟨[aq 1,a1 5 10,aq 6,aq 8],[aJ 10 1],[]⟩)]) (bB true [([29000008],⟨[aq 1,a1 5 33,aq 6,aq 8],[aJ 33 1],[]⟩)]) (bB true [([0],⟨[a1 5 10],[aJ 10 1],[]⟩),([1],⟨[aq 1,a1 5 33,aq 6,aq 8],[aJ 33 1],[]⟩)]))
def SB(n:Nat):aT 202 (sJ n):=cy (bq n [] (bW true [([2],[0,1,5])]) [] (bW true [([0],[])]))
def aep(a:lZ->oX)(n:Nat)(a0:D)(aG:D)(a2:D)(b:aT 149 a){r:D}(h:D3 a n a0 aG a2=some r):cF bV bQ 149 [a0,aG,a2] (·=r):=cY ⟨(dn Tryz.prog).ug [42],bQ,fv [(201,ze n),(202,sJ n),(149,a)],n,[],bE (bW true [([3],[1,2,7,8])]),bE (bW true [([24000006],[1,2,7,8])]),bE (bW true [([0],[2]),([1],[1,2,7,8])]),dG [(6,[0,1,2,3,4,5,6,7,12,13,14,15,8,9,10,11,16,17,18,19])],dq [],dH [],dF []⟩ ((tok _).ug _) (dg (aeo n) (dg (SB n) (dg b bK))) ak b9 Tryz.func149 (br (br (br le_nil))) h
def SC:∀n,aT 149 (oj n)
 |0=>(λ_ _ h=>by cases h)
 |n+1=>by
  have ih:=SC n;exact(by
   intro a r h;unfold oj at h;split at h
   case h_2=>cases h
   exact aep (oj n) n _ _ _ ih h)
def SD(n:Nat):aT 149 (oj n):=(SC n)
def aeq(n:Nat):aT 150 (D4 n):=cy (bq n [aQ SD,aQ SB] [] [] [])
def aer(a:lZ->oX)(n:Nat)(a0:D)(aG:D)(a2:D)(a3:D)(b:aT 151 a){r:D}(h:nm a n a0 aG a2 a3=some r):cF bV bQ 151 [a0,aG,a2,a3] (·=r):=cY (bq n [aQ SA,mh b,aQ Sy] (bB true [([13],⟨[aq 1,aq 2,aq 3,sp 4,sp 8,a1 13 53,aq 14],[aW 4 4,aW 8 4,aJ 53 4],[]⟩)]) (bW true [([20000002],[1,2,3,4004,8004])]) (bB true [([0],⟨[aq 3,sp 4,sp 8,a1 13 53],[aW 4 4,aW 8 4,aJ 53 4],[]⟩)])) cb c0 ak b9 Tryz.func151 (br (br (br (br le_nil)))) h
def SE:∀n,aT 151 (om n)
 |0=>(λ_ _ h=>by cases h)
 |n+1=>by
  have ih:=SE n;exact(by
   intro a r h;unfold om at h;split at h
   case h_2=>cases h
   exact aer (om n) n _ _ _ _ ih h)
def aes(n:Nat):aT 151 (om n):=(SE n)
def FC(n:Nat):aT 107 (k0 n):=cy (bq n [aQ KK,aQ SD,aQ aeq,aQ aes] (bW true [([6],[1,2004,4004,7,8])]) [] (bW true [([0],[1,2004,4004])]))
def SF(n:Nat):aT 175 (oo n):=cy (bq n [] [] [] [])
def KL(n:Nat):aT 113 (vx n):=cy (bq n [] (bW true [([2],[0,1,5])]) [] (bW true [([0],[])]))
def aet(n:Nat):aT 222 (D5 n):=bS (bq n [] (bW true [([2],[0,3])]) [] (bW true [([0],[])]))
def aeu(n:Nat):aT 223 (D7 n):=cy (bq n [] (bB true [([4],⟨[a1 6 30,aq 7,aq 8,aq 9],[aJ 30 1],[]⟩)]) [] (bW true [([0],[7,8])]))
def aev(n:Nat):aT 176 (vy n):=cy (bq n [aQ aet,aQ SF,aQ aeu] [] (bW true [([13005,13006,13007,13008],[1,2004,4003,6003,7,12,13]),([25013],[1,2004,4003,6003,7,12,25])]) (bW true [([0],[1,2004,4003,6003,7])]))
def aew(a:lZ->oX)(n:Nat)(a0:D)(aG:D)(a2:D)(b:aT 132 a){r:D}(h:pE a n a0 aG a2=some r):cF bV bQ 132 [a0,aG,a2] (·=r):=cY (bq n [aQ SF,aQ KL,mh b,aQ aev] (bB true [([18],⟨[aq 0,aq 2,sp 4,sp 6,a1 9 64,aq 10],[aW 4 4,aW 6 3,aJ 64 3],[]⟩)]) (bW true [([27007],[0,2,4004,6003,27])]) (bB true [([1],⟨[sp 4,sp 6,a1 9 64],[aW 4 4,aW 6 3,aJ 64 3],[]⟩)])) cb c0 ak b9 Tryz.func132 (br (br (br le_nil))) h
def SG:∀n,aT 132 (kb n)
 |0=>(λ_ _ h=>by cases h)
 |n+1=>by
  have ih:=SG n;exact(by
   intro a r h;unfold kb at h;split at h
   case h_2=>cases h
   exact aew (kb n) n _ _ _ ih h)
def aex(n:Nat):aT 132 (kb n):=(SG n)
def SH(n:Nat):aT 87 (vA n):=fo (bq n [aQ KK,aQ aex] [] [] [])
def KM(n:Nat):aT 146 (sK n):=fo (bq n [aQ FC,aQ SH] [] [] [])
def aey(n:Nat):aT 101 (sM n):=bS (bq n [aQ KI,aQ Sv,aQ Sw,aQ aek,aQ KM] (bW true [([2],[1008,4]),([9],[1008,5]),([14],[1008,6])]) [] (bW true [([0,2],[1008]),([4],[])]))
def SI(n:Nat):aT 147 (vB n):=fo (bq n [aQ KM] [] [] [])
def aez(n:Nat):aT 102 (qX n):=fo (bq n [aQ SI] (bW true [([2],[1,2,3008,8])]) [] (bW true [([0],[])]))
def aeA(n:Nat):aT 103 (zp n):=bS (bq n [aQ Sv,aQ KM] (bW true [([2],[1008,4]),([8],[1008,4,5,6])]) (bW true [([69000014],[1008,4,8])]) (bW true [([0],[]),([1],[1008,4]),([2],[1008,4,5])]))
def aeB(n:Nat):aT 171 (zq n):=bS (bq n [] [] (bW true [([6005,6006,6007,6008,6009,6010],[3,6]),([14013,14014,14015,14016],[14])]) (bW true [([0],[])]))
def aeC(n:Nat):aT 173 (D9 n):=bS (bq n [] [] [] [])
def aeD(n:Nat):aT 130 (qZ n):=bS (bq n [aQ aeB,aQ KK,aQ KJ,aQ aeC] [] (bW true [([12000004],[1006])]) [])
def aeE(a:lZ->oX)(n:Nat)(a0:D)(aG:D)(a2:D)(b:aT 86 a){r:D}(h:J3 a n a0 aG a2=some r):cF bV bQ 86 [a0,aG,a2] (·=r):=cY (bq n [aQ aeD,mh b] (bW true [([10],[1,2,3006,9])]) [] (bW true [([0],[2])])) cb c0 ak b9 Tryz.func86 (br (br (br le_nil))) h
def SJ:∀n,aT 86 (pF n)
 |0=>(λ_ _ h=>by cases h)
 |n+1=>by
  have ih:=SJ n;exact(by
   intro a r h;unfold pF at h;split at h
   case h_2=>cases h
   exact aeE (pF n) n _ _ _ ih h)
def aeF(n:Nat):aT 86 (pF n):=(SJ n)
def SK(n:Nat):aT 46 (zr n):=bS (bq n [aQ aeF] [] [] [])
def aeG(a:lZ->oX)(n:Nat)(a0:D)(aG:D)(b:aT 148 a){r:D}(h:zt a n a0 aG=some r):cF bV bQ 148 [a0,aG] (·=r):=cY (bq n [aQ SI,mh b] (bW true [([4],[2008,3006,5])]) [] (bW true [([0],[])])) cb c0 ak b9 Tryz.func148 (br (br le_nil)) h
def SL:∀n,aT 148 (pG n)
 |0=>(λ_ _ h=>by cases h)
 |n+1=>by
  have ih:=SL n;exact(by
   intro a r h;unfold pG at h;split at h
   case h_2=>cases h
   exact aeG (pG n) n _ _ ih h)
def aeH(n:Nat):aT 148 (pG n):=(SL n)
def aeI(n:Nat):aT 104 (zu n):=bS (bq n [aQ KI,aQ SK,aQ aeH] (bW true [([2],[1008,4]),([7],[1008,4,5])]) (bW true [([50000013],[1008,4,6])]) (bW true [([0],[]),([1,2],[1008,4])]))
def SM(n:Nat):aT 57 (ma n):=bS (bq n [aQ aed,aQ aef,aQ aey,aQ aez,aQ aeA,aQ aeI] (bB true [([3],⟨[sp 1,sp 2,a1 4 33,aq 5],[aW 1 8,aW 2 2,aJ 33 1],[]⟩),([13],lu [1008,2002,6,7,8])]) (bW true [([68018017,75020019,84022021,93024023,100026025,109028027,118000029],[1008,2002,6,7,8])]) (bW true [([0],[1008,2002]),([2],[2002]),([3,4],[1008,2002,6,7,8])]))
def SN(n:Nat):aT 58 (vF n):=cy (bq n [aQ A1] (bW true [([3],[0,1,5,6])]) [] (bW true [([0],[])]))
def aeJ(n:Nat):aT 27 (q1 n):=cy (bq n [aQ SM,aQ SN] [] [] [])
def aeK(n:Nat):aT 106 (mb n):=cy (bq n [aQ FC] (bB true [([3],⟨[aq 0,aq 1,a1 7 11,aq 8],[aJ 11 4],[]⟩)]) [] (bB true [([0],⟨[a1 7 11],[aJ 11 4],[]⟩)]))
def aeL(a:lZ->oX)(n:Nat)(a0:D)(aG:D)(b:aT 152 a){r:D}(h:oq a n a0 aG=some r):cF bV bQ 152 [a0,aG] (·=r):=cY (bq n [aQ FC,mh b] (bB true [([9],⟨[aq 1,sp 2,sp 4,a1 8 29,aq 9],[aW 2 6,aW 4 6,aJ 29 6],[]⟩)]) [] (bB true [([0],⟨[sp 2,sp 4,a1 8 29],[aW 2 6,aW 4 6,aJ 29 6],[]⟩)])) cb c0 ak b9 Tryz.func152 (br (br le_nil)) h
def SO:∀n,aT 152 (lA n)
 |0=>(λ_ _ h=>by cases h)
 |n+1=>by
  have ih:=SO n;exact(by
   intro a r h;unfold lA at h;split at h
   case h_2=>cases h
   exact aeL (lA n) n _ _ ih h)
def aeM(n:Nat):aT 152 (lA n):=(SO n)
def aeN(n:Nat):aT 108 (vI n):=cy (bq n [aQ SK,aQ aeM] [] [] [])
def SP(n:Nat):aT 59 (zw n):=bS ⟨dn bV,bQ,gu n [aQ aeK,aQ FC,aQ aeN],n,[],bE (bB true [([11],⟨[sp 1,sp 2,sp 3,sp 5,aq 9],[aW 1 8,aW 2 8,aW 3 2,(5,.box [.b (.d),.b (.d),.b (.d),.b (.d),.b (.row 5000),.b (.d),.b (.d),.b (.d)]),aJ 5000 5],[.box 5 4 5000 5]⟩),([26],⟨[sp 1,sp 2,sp 3,sp 5,aq 12],[aW 1 8,aW 2 8,aW 3 2,(5,.box [.b (.d),.b (.d),.b (.d),.b (.d),.b (.row 5000),.b (.d),.b (.d),.b (.row 5001)]),aJ 5000 5,aJ 5001 7],[.box 5 7 5001 7]⟩)]),bE [],bE (bB true [([0],⟨[sp 1,sp 2,sp 3,sp 5],[aW 1 8,aW 2 8,aW 3 2,(5,.box [.b (.d),.b (.d),.b (.d),.b (.d),.b (.row 5000),.b (.d),.b (.d),.b (.d)]),aJ 5000 5],[]⟩),([2],⟨[sp 2,sp 3,sp 5],[aW 2 8,aW 3 2,(5,.box [.b (.d),.b (.d),.b (.d),.b (.d),.b (.row 5000),.b (.d),.b (.d),.b (.row 5001)]),aJ 5000 5,aJ 5001 7],[]⟩)]),dG [],dq [],dH [20002],dF []⟩ (S:=⟨cb,c0,ak,b9⟩)
def FD(n:Nat):aT 109 (pH n):=bS (bq n [aQ SP] [] [] [])
def aeO(n:Nat):aT 153 (vL n):=bS (bq n [aQ A1] (bW true [([3],[1008,4,5]),([8],[1008,4,6])]) [] (bW true [([0],[1008,4]),([2],[4])]))
def aeP(n:Nat):aT 110 (Ee n):=cy ⟨dn bV,bQ,gu n [aQ aeO,aQ A1],n,[],bE (bB true [([6],⟨[sp 2,a1 7 26,aq 8],[aW 2 8,aJ 26 1],[]⟩),([13],⟨[sp 2,a1 7 26,aq 8,aq 9,a1 10 46,aq 11],[aW 2 8,aJ 26 1,aJ 46 1],[]⟩),([16],⟨[sp 2,a1 7 26,aq 8,aq 9,a1 10 46,aq 11,aq 12],[aW 2 8,aJ 26 1,aJ 46 1],[]⟩)]),bE (bB true [([45000010],⟨[sp 2,a1 7 26,aq 8,aq 9],[aW 2 8,aJ 26 1],[]⟩)]),bE (bB true [([0],⟨[a1 7 26],[aJ 26 1],[]⟩),([1],⟨[sp 2,a1 7 46,aq 8],[aW 2 8,aJ 46 1],[]⟩),([2],⟨[sp 2,aq 8,a1 10 46],[aW 2 8,aJ 46 1],[]⟩),([3,4],⟨[sp 2,a1 7 26,aq 8,aq 9,a1 10 46,aq 11],[aW 2 8,aJ 26 1,aJ 46 1],[]⟩)]),dG [],dq [],dH [26,75],dF []⟩ (S:=⟨cb,c0,ak,b9⟩)
def aeQ(n:Nat):aT 154 (zC n):=cy (bq n [] (bW true [([4],[1,2008,5])]) [] (bW true [([0],[])]))
def aeR(a:lZ->oX)(n:Nat)(a0:D)(b:aT 155 a){r:D}(h:Ef a n a0=some r):cF bV bQ 155 [a0] (·=r):=cY (bq n [mh b] (bW true [([4],[1004,3])]) [] (bW true [([0],[])])) cb c0 ak b9 Tryz.func155 (br le_nil) h
def SQ:∀n,aT 155 (ot n)
 |0=>(λ_ _ h=>by cases h)
 |n+1=>by
  have ih:=SQ n;exact(by
   intro a r h;unfold ot at h;split at h
   case h_2=>cases h
   exact aeR (ot n) n _ ih h)
def aeS(n:Nat):aT 155 (ot n):=(SQ n)
def aeT(n:Nat):aT 205 (mc n):=bS (bq n [] [] [] [])
def aeU(n:Nat):aT 206 (sO n):=bS (bq n [] [] [] [])
def aeV(n:Nat):aT 207 (zE n):=bS (bq n [] [] [] [])
def aeW(a:lZ->oX)(n:Nat)(a0:D)(aG:D)(a2:D)(a3:D)(b:aT 156 a){r:D}(h:iS a n a0 aG a2 a3=some r):cF bV bQ 156 [a0,aG,a2,a3] (·=r):=cY (bq n [aQ KL,aQ aeT,aQ aeU,mh b,aQ aeV] (bB true [([18],⟨[aq 0,aq 2,aq 3,sp 5,a1 12 55,aq 13,aq 14],[aW 5 4,aJ 55 1],[]⟩)]) (bB true [([20003],lu [0,2,3,5004,19,20]),([25006],lu [0,2,3,5004,25]),([34011010],lu [0,10,11]),([88000025],⟨[aq 0,aq 2,aq 3,sp 5,a1 12 80,aq 13,aq 14],[aW 5 4,aJ 80 1],[]⟩),([94030029,100032031,107034033,112036035,125039038,136041040,146043042,156045044,166047046,175049048,184053050,209055054,226000056,234000058],lu [17]),([125037],⟨[a1 12 55,aq 17,aq 93,aq 125],[aJ 55 1],[]⟩)]) (bB true [([1],⟨[sp 5,a1 12 55,aq 13],[aW 5 4,aJ 55 1],[]⟩),([2],⟨[aq 0,aq 2,aq 3,sp 5,a1 12 80,aq 13,aq 14],[aW 5 4,aJ 80 1],[]⟩),([3],lu [17])])) cb c0 ak b9 Tryz.func156 (br (br (br (br le_nil)))) h
def SR:∀n,aT 156 (ou n)
 |0=>(λ_ _ h=>by cases h)
 |n+1=>by
  have ih:=SR n;exact(by
   intro a r h;unfold ou at h;split at h
   case h_2=>cases h
   exact aeW (ou n) n _ _ _ _ ih h)
def aeX(n:Nat):aT 156 (ou n):=(SR n)
def SS(n:Nat):aT 112 (me n):=yj (bq n [aQ SH,aQ aeS,aQ aeX] [] [] [])
def FE(n:Nat):aT 114 (q3 n):=yj (bq n [aQ SS] (bW true [([2],[0,1,2,3,9])]) [] (bW true [([0],[])]))
def KN(n:Nat):aT 111 (q4 n):=cy (bq n [aQ aeQ,aQ FE] [] [] [])
def aeY(n:Nat):aT 60 (Eh n):=bS (bq n [aQ FD,aQ aeP,aQ KN] (bB true [([5],⟨[sp 3,a1 4 9,aq 5,aq 6],[aW 3 8,aJ 9 1],[]⟩)]) (bB true [([23000008],⟨[sp 3,a1 4 30,aq 5,aq 6],[aW 3 8,aJ 30 1],[]⟩)]) (bB true [([0],⟨[a1 4 9],[aJ 9 1],[]⟩),([1],⟨[sp 3,a1 4 30,aq 5,aq 6],[aW 3 8,aJ 30 1],[]⟩)]))
def aeZ(n:Nat):aT 61 (sP n):=fo (bq n [aQ FD,aQ KN,aQ SS,aQ KL,aQ FE] (bW true [([5],[1,2,7008,8])]) [] (bW true [([0],[1,2,7008])]))
def ae0(n:Nat):aT 62 (zI n):=cy (bq n [aQ FD,aQ KN,aQ FE] [] [] [])
def ae1(n:Nat):aT 63 (Ej n):=cy (bq n [aQ FD,aQ FE] (bB true [([4],⟨[aq 1,sp 5,a1 6 10,aq 7],[aW 5 8,aJ 10 1],[]⟩)]) [] (bB true [([0],⟨[a1 6 10],[aJ 10 1],[]⟩)]))
def ae2(n:Nat):aT 28 (vQ n):=bS ⟨dn bV,bQ,gu n [aQ SM,aQ SN,aQ SP,aQ aeY,aQ aeZ,aQ ae0,aQ ae1],n,[],bE (bB true [([10],⟨[sp 1,sp 2,sp 6,aq 7],[aW 1 8,aW 2 4,(6,.box [.b (.d),.b (.row 5003),.b (.row 5004),.b (.row 5005)]),aJ 5003 1,aJ 5004 1,aJ 5005 1],[.box 6 1 5003 1,.box 6 2 5004 1,.box 6 3 5005 1]⟩),([14],⟨[sp 1,sp 2,sp 6,aq 7,a1 8 5001,aq 9],[aW 1 8,aW 2 4,(6,.box [.b (.d),.b (.row 5003),.b (.row 5004),.b (.row 5005)]),aJ 5001 1,aJ 5003 1,aJ 5004 1,aJ 5005 1],[.slot 8 5001 1]⟩)]),bE (bB true [([58000017],⟨[sp 1,sp 2,sp 6,aq 7,a1 8 62,aq 9],[aW 1 8,aW 2 4,(6,.box [.b (.d),.b (.row 5003),.b (.row 5004),.b (.row 5005)]),aJ 62 1,aJ 5003 1,aJ 5004 1,aJ 5005 1],[.slot 8 5000 1]⟩),([75000020],⟨[sp 1,sp 2,sp 6,aq 7],[aW 1 8,aW 2 4,(6,.box [.b (.d),.b (.row 67),.b (.row 80),.b (.row 5005)]),aJ 67 1,aJ 80 1,aJ 5005 1],[.box 6 2 5002 1]⟩)]),bE (bB true [([0],⟨[sp 2,sp 6],[aW 2 4,(6,.box [.b (.d),.b (.row 5003),.b (.row 5004),.b (.row 5005)]),aJ 5003 1,aJ 5004 1,aJ 5005 1],[]⟩),([1],⟨[sp 1,sp 2,sp 6,aq 7],[aW 1 8,aW 2 4,(6,.box [.b (.d),.b (.row 67),.b (.row 80),.b (.row 92)]),aJ 67 1,aJ 80 1,aJ 92 1],[]⟩),([2],⟨[sp 1,sp 2,sp 6,aq 7,a1 8 5001],[aW 1 8,aW 2 4,(6,.box [.b (.d),.b (.row 5003),.b (.row 5004),.b (.row 5005)]),aJ 5001 1,aJ 5003 1,aJ 5004 1,aJ 5005 1],[]⟩),([3],⟨[sp 1,sp 2,sp 6,aq 7,a1 8 62,aq 9],[aW 1 8,aW 2 4,(6,.box [.b (.d),.b (.row 5003),.b (.row 5004),.b (.row 5005)]),aJ 62 1,aJ 5003 1,aJ 5004 1,aJ 5005 1],[]⟩)]),dG [],dq [],dH [66],dF []⟩ (S:=⟨cb,c0,ak,b9⟩)
def SU(n:Nat):aT 208 (zJ n):=bS (bq n [] [] [] [])
def ae3(n:Nat):aT 234 (Ek n):=bS (bq n [] [] [] [])
def ae4(n:Nat):aT 210 (El n):=bS (bq n [aQ SU,aQ ae3] [] [] [])
def ae5(n:Nat)(a0:D){r:D}(h:Kc n a0=some r):cF bV bQ 209 [a0,(D.val (.func (.func yE) #[] #[]))] (·=r):=cY (bq n [aQ ae4] (bB true [([2],⟨[aq 0,(1,.b (.x8 yE)),aq 5],[],[]⟩)]) [] (bW true [([0],[5])])) cb c0 ak b9 Tryz.func209 (br (br le_nil)) h
def ae6(n:Nat):aT 209 (zL n):=by
 intro b r h;unfold zL at h;split at h
 case h_2=>cases h
 obtain⟨a,h⟩:=hE h;obtain rfl:=Pu a;exact ae5 n _ h
def ae7(n:Nat):aT 235 (zM n):=cy (bq n [] (bW true [([2],[0,1,7,8])]) [] (bW true [([0],[])]))
def ae8(n:Nat):aT 211 (Em n):=cy (bq n [aQ ae7] [] [] [])
def KO(n:Nat):aT 158 (sQ n):=bS (bq n [aQ SU,aQ ae6,aQ ae8] [] [] [])
def ae9(n:Nat)(a0:D)(x1:lZ){r:D}(h:Kf n a0 x1=some r):cF bV bQ 157 [a0,.ref x1 0] (·=r):=cY (jr n [] [] [] []) cb bK ak b9 Tryz.func157 (br (e0 e6 le_nil)) h
def afa(n:Nat):aT 157 (zN n):=by
 intro a r h;unfold zN at h;split at h
 case h_2=>cases h
 split at h
 case h_2=>cases h
 exact ae9 n _ _ h
def afb(n:Nat)(a0:D)(a:D){r:D}(h:Kg n a0 a=some r):cF bV bQ 122 [a0,(D.fn (.func od) [] [a])] (·=r):=cY (bq n [aQ afa] (bB true [([2],⟨[aq 0,(1,.b (.fd od 1)),aq 7,aq 8],[],[]⟩)]) [] (bW true [([0],[])])) cb c0 ak b9 Tryz.func122 (br (br le_nil)) h
def afc(n:Nat):aT 122 (vS n):=by
 intro b r h;unfold vS at h;split at h
 case h_2=>cases h
 split at h
 case h_2=>cases h
 rename_i a;obtain rfl:=gV a;exact afb n _ _ h
def afd(n:Nat)(a0:D)(a:D){r:D}(h:Kh n a0 a=some r):cF bV bQ 159 [a0,(D.fn (.func od) [] [a])] (·=r):=cY (bq n [aQ afc] [] [] []) cb c0 ak b9 Tryz.func159 (br (br le_nil)) h
def afe(n:Nat):aT 159 (zO n):=by
 intro b r h;unfold zO at h;split at h
 case h_2=>cases h
 split at h
 case h_2=>cases h
 rename_i a;obtain rfl:=gV a;exact afd n _ _ h
def aff(n:Nat):aT 115 (vT n):=bS (bq n [aQ KO,aQ afe] (bW true [([2],[0,8,9,10])]) [] (bW true [([0],[])]))
def KP(n:Nat):aT 117 (vU n):=bS (bq n [] [] [] [])
def afg(n:Nat):aT 160 (Eo n):=bS (bq n [] (bW true [([2],[0,4])]) [] (bW true [([0],[])]))
def afh(n:Nat):aT 116 (zP n):=bS (bq n [aQ KP,aQ afg] (bW true [([3],[3,7,8,9])]) [] (bW true [([0],[3])]))
def afi(n:Nat):aT 285 (zQ n):=bS (bq n [] [] [] [])
def afj(n:Nat):aT 278 (zR n):=bS (bq n [] [] [] [])
def afk(n:Nat):aT 274 (nr n):=bS (bq n [] [] [] [])
def afl(n:Nat):aT 270 (zT n):=bS (bq n [] [] [] [])
def afm(n:Nat):aT 265 (zU n):=bS (bq n [] [] [] [])
def afn(n:Nat):aT 258 (zV n):=bS (bq n [] [] [] [])
def afo(n:Nat)(a0:D)(x1:lZ){r:D}(h:Er n a0 x1=some r):cF bV bQ 288 [a0,.ref x1 0] (·=r):=cY (jr n [] [] [] []) cb bK ak b9 Tryz.func288 (br (e0 e6 le_nil)) h
def afp(n:Nat):aT 288 (Es n):=by
 intro a r h;unfold Es at h;split at h
 case h_2=>cases h
 split at h
 case h_2=>cases h
 exact afo n _ _ h
def afq(n:Nat)(a0:D)(a:D){r:D}(h:zX n a0 a=some r):cF bV bQ 290 [a0,(D.fn (.func nj) [] [a])] (·=r):=cY (bq n [aQ afp] (bB true [([2],⟨[aq 0,(1,.b (.fd nj 1)),aq 7,aq 8],[],[]⟩)]) [] (bW true [([0],[])])) cb c0 ak b9 Tryz.func290 (br (br le_nil)) h
def afr(n:Nat):aT 290 (vV n):=by
 intro b r h;unfold vV at h;split at h
 case h_2=>cases h
 split at h
 case h_2=>cases h
 rename_i a;obtain rfl:=gV a;exact afq n _ _ h
def afs(n:Nat)(a0:D)(a:D){r:D}(h:Et n a0 a=some r):cF bV bQ 287 [a0,(D.fn (.func nj) [] [a])] (·=r):=cY (bq n [aQ afr] [] [] []) cb c0 ak b9 Tryz.func287 (br (br le_nil)) h
def aft(n:Nat):aT 287 (vW n):=by
 intro b r h;unfold vW at h;split at h
 case h_2=>cases h
 split at h
 case h_2=>cases h
 rename_i a;obtain rfl:=gV a;exact afs n _ _ h
def SV(n:Nat):eD KA (q5 n):=jH ⟨dn bV,bQ,fv [],n,[],bE (bB true [([2],⟨[a1 0 9000,aq 1,aq 5],[aJ 9000 1],[]⟩)]),bE [],bE (bB true [([0],⟨[a1 0 9000,aq 1,aq 5],[aJ 9000 1],[]⟩)]),dG [],dq [],dH [],dF []⟩ cb bK ak b9 Tryz.func167 []
def afu(n:Nat):eD R1 (sT n):=jH ⟨dn bV,bQ,fv [],n,[10000,10001],bE [],bE (bB true [([9004003],⟨[],[(10000,.box [.b (.row 6010)]),(10001,.box [.b (.row 9001)]),aJ 6010 1,aJ 9001 1],[]⟩),([15000005],⟨[],[(10000,.box [.b (.row 9000)]),(10001,.box [.b (.row 6020)]),aJ 9000 1,aJ 6020 1],[]⟩)]),bE (bB true [([0],⟨[],[(10000,.box [.b (.row 6010)]),(10001,.box [.b (.row 9001)]),aJ 6010 1,aJ 9001 1],[]⟩)]),dG [],dq [(14,⟨KA,q5 n,6010,[]⟩),(20,⟨KA,q5 n,6020,[]⟩)],dH [],dF []⟩ cb bK (aX (SV n) (aX (SV n) ak)) b9 Tryz.func166 []
def afv(a:lZ->oY)(n:Nat)(b:eD ti a):eD ti (Ki a n):=jH ⟨dn bV,bQ,fv [],n,[10000,10001],bE (bB true [([4],⟨[aq 1,(2,.fn (.func Qj) [] [.ptr 10000 0,.ptr 10001 0]),aq 15,aq 16,aq 17],[aW 10000 1,aW 10001 1],[]⟩)]),bE [],bE (bB true [([0],⟨[],[aW 10000 1,aW 10001 1],[]⟩)]),dG [],dq [(12,⟨RV,yG n,6010,[]⟩),(25,⟨ti,a,6020,[]⟩)],dH [],dF []⟩ cb bK (aX (ada n) (aX b ak)) b9 Tryz.func163 []
def SX:∀n,eD ti (pI n)
 |0=>sg (s:=ti) (sk (T:=dn bV) (os:=λ_=>none) Tryz.func163) (λ_=>rfl)|n+1=>by have ih:=SX n;exact afv (pI n) n ih
def afw(n:Nat):eD ti (pI n):=(SX n)
def KQ(n:Nat):aT 125 (q6 n):=bS ⟨dn bV,bQ,fv [],n,[],bE [],bE [],bE [],dG [],dq [(7,⟨ti,pI n,6010,[]⟩)],dH [],dF []⟩ (S:=⟨cb,bK,(aX (afw n) ak),b9⟩)
def afx(a:lZ->oY)(n:Nat)(c:eD tj a):eD tj (Kj a n):=jH ⟨dn bV,bQ,fv [],n,[10000,10001],bE (bB true [([4],⟨[aq 1,(2,.fn (.func Qk) [] [.ptr 10000 0,.ptr 10001 0]),aq 15,aq 16,aq 17],[(10000,.box [.b (.row 6010)]),(10001,.box [.b (.row 6011)]),aJ 6010 1,aJ 6011 1],[]⟩)]),bE [],bE (bB true [([0],⟨[],[(10000,.box [.b (.row 6010)]),(10001,.box [.b (.row 6011)]),aJ 6010 1,aJ 6011 1],[]⟩)]),dG [],dq [(12,⟨R1,sT n,6010,[]⟩),(25,⟨tj,a,6020,[]⟩)],dH [],dF []⟩ cb bK (aX (afu n) (aX c ak)) b9 Tryz.func163 []
def SY:∀n,eD tj (pJ n)
 |0=>sg (s:=tj) (sk (T:=dn bV) (os:=λ_=>none) Tryz.func163) (λ_=>rfl)|n+1=>by have ih:=SY n;exact afx (pJ n) n ih
def afy(n:Nat):eD tj (pJ n):=(SY n)
def FF(n:Nat):aT 126 (q7 n):=bS ⟨dn bV,bQ,fv [],n,[],bE [],bE [],bE [],dG [(2,[0,1,2,3])],dq [(6,⟨tj,pJ n,6010,[.box 3 0 5900 1,.box 2 0 5901 1]⟩)],dH [],dF []⟩ (S:=⟨cb,bK,(aX (afy n) ak),b9⟩)
def afz(n:Nat):aT 77 (vX n):=bS (bq n [aQ KQ,aQ FF] [] [] [])
def afA(n:Nat):aT 78 (Ex n):=bS (bq n [] [] (bW true [([6005,6006,6007,6008],[3,6]),([12011,12012,12013,12014,12015,12016],[12])]) (bW true [([0],[])]))
def afB(n:Nat):eD R2 (zZ n):=jH ⟨dn bV,bQ,gu n [aQ afz,aQ afA],n,[10000,10001],bE [],bE (bB true [([40007006,43009008,46011010,50013012,65000014],⟨[(3,.b (.ptr 10001 0))],[aW 10001 1,aW 10000 1],[]⟩)]),bE (bB true [([0],⟨[(3,.b (.ptr 10001 0))],[aW 10001 1,aW 10000 1],[]⟩)]),dG [],dq [],dH [],dF []⟩ cb c0 ak b9 Tryz.func76 []
def afC(a:lZ->oY)(n:Nat)(b:eD tk a):eD tk (Kk a n):=jH ⟨dn bV,bQ,fv [],n,[10000,10001],bE (bB true [([4],⟨[aq 1,(2,.fn (.func Qg) [] [.ptr 10000 0,.ptr 10001 0]),aq 15,aq 16,aq 17],[aW 10000 1,aW 10001 1],[]⟩)]),bE [],bE (bB true [([0],⟨[],[aW 10000 1,aW 10001 1],[]⟩)]),dG [],dq [(12,⟨R2,zZ n,6010,[]⟩),(25,⟨tk,a,6020,[]⟩)],dH [],dF []⟩ cb bK (aX (afB n) (aX b ak)) b9 Tryz.func75 []
def SZ:∀n,eD tk (pK n)
 |0=>sg (s:=tk) (sk (T:=dn bV) (os:=λ_=>none) Tryz.func75) (λ_=>rfl)|n+1=>by have ih:=SZ n;exact afC (pK n) n ih
def afD(n:Nat):eD tk (pK n):=(SZ n)
def A2(n:Nat):aT 32 (pL n):=bS ⟨dn bV,bQ,fv [],n,[],bE [],bE [],bE [],dG [],dq [(7,⟨tk,pK n,6010,[]⟩)],dH [],dF []⟩ (S:=⟨cb,bK,(aX (afD n) ak),b9⟩)
def KR(n:Nat):aT 212 (sU n):=bS (bq n [] (bB true [([3],⟨[(3,.b (.map 8)),aq 9,aq 10,aq 11],[(8,.map)],[]⟩)]) (bB true [([24000007],⟨[(3,.b (.map 8)),aq 9,aq 10,aq 11],[(8,.map)],[]⟩)]) (bB true [([0],⟨[(3,.b (.map 8))],[(8,.map)],[]⟩),([1],⟨[(3,.b (.map 8)),aq 9,aq 10,aq 11],[(8,.map)],[]⟩)]))
def afE(n:Nat):aT 213 (z7 n):=bS ⟨dn bV,bQ,gu n [aQ KR,aQ FF],n,[],bE (bB true [([4],⟨[aq 3,a1 4 5002,aq 16,aq 17,aq 18],[aJ 5002 1],[.slot 4 5002 1]⟩),([9],⟨[aq 3,a1 4 5002,a1 7 5001,aq 16,aq 17,aq 18,aq 28,aq 29,aq 30],[aJ 5002 1,aJ 5001 1],[.slot 7 5001 1]⟩)]),bE (bB true [([40000013],⟨[aq 3,a1 4 5002,a1 7 44,aq 16,aq 17,aq 18,aq 28,aq 29,aq 30],[aJ 5002 1,aJ 44 1],[.slot 7 5000 1]⟩)]),bE (bB true [([0],⟨[a1 4 5002],[aJ 5002 1],[]⟩),([1],⟨[aq 3,a1 4 49,aq 16,aq 17,aq 18],[aJ 49 1],[]⟩),([2],⟨[aq 3,a1 4 5002,a1 7 5001,aq 16,aq 17,aq 18],[aJ 5002 1,aJ 5001 1],[]⟩),([3],⟨[aq 3,a1 4 5002,a1 7 44,aq 16,aq 17,aq 18,aq 28,aq 29,aq 30],[aJ 5002 1,aJ 44 1],[]⟩)]),dG [],dq [],dH [48],dF []⟩ (S:=⟨cb,c0,ak,b9⟩)
def afF(a:lZ->oY)(n:Nat)(c:eD rb a):eD rb (EA a n):=jH ⟨dn bV,bQ,fv [],n,[10000,10001,10002],bE (bB true [([1],⟨[(2,.b (.ptr 10001 0)),(3,.b (.ptr 10002 0)),aq 10,aq 11,aq 12],[(10001,.box [.b (.map 9000)]),(10002,.box [.fn (.func qQ) [] [.ptr 10000 0,.ptr 10001 0,.ptr 10002 0]]),aW 10000 1,(9000,.map)],[]⟩)]),bE (bB true [([19000004],⟨[(2,.b (.ptr 10001 0)),(3,.b (.ptr 10002 0)),aq 10,aq 11,aq 12],[(10001,.box [.b (.map 6010)]),(10002,.box [.fn (.func qQ) [] [.ptr 10000 0,.ptr 10001 0,.ptr 10002 0]]),aW 10000 1,(6010,.map)],[]⟩)]),bE (bB true [([0],⟨[],[aW 10000 1,(10001,.box [.b (.map 9000)]),(10002,.box [.fn (.func qQ) [] [.ptr 10000 0,.ptr 10001 0,.ptr 10002 0]]),(9000,.map)],[]⟩),([1],⟨[(2,.b (.ptr 10001 0)),(3,.b (.ptr 10002 0)),aq 10,aq 11,aq 12],[(10001,.box [.b (.map 6010)]),(10002,.box [.fn (.func qQ) [] [.ptr 10000 0,.ptr 10001 0,.ptr 10002 0]]),aW 10000 1,(6010,.map)],[]⟩)]),dG [],dq [(24,⟨rb,a,6010,[]⟩)],dH [],dF []⟩ cb bK (aX c ak) b9 Tryz.func236 []
def S0:∀n,eD rb (ns n)
 |0=>sg (s:=rb) (sk (T:=dn bV) (os:=λ_=>none) Tryz.func236) (λ_=>rfl)|n+1=>by have ih:=S0 n;exact afF (ns n) n ih
def S1(n:Nat):eD rb (ns n):=(S0 n)
def afG(n:Nat):eD R3 (Aa n):=jH ⟨dn bV,bQ,fv [],n,[],bE (bB true [([5],⟨[sp 5,sp 6,aq 11,aq 12,aq 13],[(5,.box [.b (.map 9)]),(6,.box [.fn (.func qQ) [] [.ptr 2 0,.ptr 5 0,.ptr 6 0]]),(9,.map),aW 2 1],[]⟩)]),bE [],bE (bB true [([0],⟨[sp 5],[(5,.box [.b (.map 9)]),(9,.map)],[]⟩)]),dG [],dq [(19,⟨rb,ns n,6010,[]⟩)],dH [],dF []⟩ cb bK (aX (S1 n) ak) b9 Tryz.func214 []
def afH(n:Nat):aT 214 (vY n):=cy ⟨dn bV,bQ,fv [],n,[],bE (bB true [([5],⟨[sp 5,sp 6,aq 11,aq 12,aq 13],[(5,.box [.b (.map 9)]),(6,.box [.fn (.func qQ) [] [.ptr 2 0,.ptr 5 0,.ptr 6 0]]),(9,.map),aW 2 1],[]⟩)]),bE [],bE (bB true [([0],⟨[sp 5],[(5,.box [.b (.map 9)]),(9,.map)],[]⟩)]),dG [],dq [(19,⟨rb,ns n,6010,[]⟩)],dH [],dF []⟩ (S:=⟨cb,bK,(aX (S1 n) ak),b9⟩)
def afI(a:lZ->oY)(n:Nat)(c:eD tl a):eD tl (Ac a n):=jH ⟨dn bV,bQ,fv [],n,[10000,10001,10002,10003],bE (bB true [([1],⟨[aq 1,(2,.b (.ptr 10000 0)),(3,.b (.ptr 10001 0)),(4,.b (.ptr 10002 0)),(5,.b (.ptr 10003 0)),sp 6,sp 8],[aW 10000 1,aW 10001 1,aW 10002 1,(10003,.box [.fn (.func qR) [] [.ptr 10000 0,.ptr 10001 0,.ptr 10002 0,.ptr 10003 0]]),aW 6 4,aW 8 4],[]⟩),([10],⟨[aq 1,(4,.b (.ptr 10002 0)),(5,.b (.ptr 10003 0)),sp 6,sp 8,a1 11 41,aq 43,aq 44,aq 45],[aW 10002 1,(10003,.box [.fn (.func qR) [] [.ptr 10000 0,.ptr 10001 0,.ptr 10002 0,.ptr 10003 0]]),aW 6 4,aW 8 4,aJ 41 4,aW 10000 1,aW 10001 1],[]⟩)]),bE (bB true [([55000013],⟨[aq 1,(4,.b (.ptr 10002 0)),(5,.b (.ptr 10003 0)),sp 6,sp 8,a1 11 41,aq 43,aq 44,aq 45],[aW 10002 1,(10003,.box [.fn (.func qR) [] [.ptr 10000 0,.ptr 10001 0,.ptr 10002 0,.ptr 10003 0]]),aW 6 4,aW 8 4,aJ 41 4,aW 10000 1,aW 10001 1],[]⟩)]),bE (bB true [([0],⟨[aq 1,(4,.b (.ptr 10002 0)),(5,.b (.ptr 10003 0)),sp 6,sp 8],[aW 10002 1,(10003,.box [.fn (.func qR) [] [.ptr 10000 0,.ptr 10001 0,.ptr 10002 0,.ptr 10003 0]]),aW 6 4,aW 8 4,aW 10000 1,aW 10001 1],[]⟩),([2],⟨[sp 6,sp 8,a1 11 41],[aW 6 4,aW 8 4,aJ 41 4,aW 10000 1,aW 10001 1,aW 10002 1,(10003,.box [.fn (.func qR) [] [.ptr 10000 0,.ptr 10001 0,.ptr 10002 0,.ptr 10003 0]])],[]⟩),([3],⟨[aq 1,(4,.b (.ptr 10002 0)),(5,.b (.ptr 10003 0)),sp 6,sp 8,a1 11 41,aq 43,aq 44,aq 45],[aW 10002 1,(10003,.box [.fn (.func qR) [] [.ptr 10000 0,.ptr 10001 0,.ptr 10002 0,.ptr 10003 0]]),aW 6 4,aW 8 4,aJ 41 4,aW 10000 1,aW 10001 1],[]⟩)]),dG [],dq [(62,⟨tl,a,6010,[]⟩)],dH [20066],dF []⟩ cb bK (aX c ak) b9 Tryz.func237 []
def S2:∀n,eD tl (ov n)
 |0=>sg (s:=tl) (sk (T:=dn bV) (os:=λ_=>none) Tryz.func237) (λ_=>rfl)|n+1=>by have ih:=S2 n;exact afI (ov n) n ih
def afJ(n:Nat):eD tl (ov n):=(S2 n)
def afK(n:Nat):aT 215 (Ad n):=cy ⟨dn bV,bQ,gu n [aQ KR],n,[],bE [],bE [],bE [],dG [],dq [(13,⟨tl,ov n,6010,[]⟩)],dH [],dF []⟩ (S:=⟨cb,c0,(aX (afJ n) ak),b9⟩)
def FG(n:Nat):aT 161 (k1 n):=cy ⟨(dn Tryz.prog).ug [77],bQ,fv [(125,q6 n),(212,sU n),(213,z7 n),(126,q7 n),(214,vY n),(215,Ad n)],n,[],bE (bB true [([8],⟨[aq 1,sp 2,sp 4,aq 7,aq 8,a1 9 5001,aq 36,aq 37,aq 38],[aW 2 4,aW 4 4,aJ 5001 1],[.slot 9 5001 1]⟩),([16],⟨[aq 1,sp 2,sp 4,aq 8,(16,.b (.map 6010)),aq 57,aq 58,aq 59],[aW 2 4,aW 4 4,(6010,.map)],[]⟩),([21],⟨[aq 1,sp 2,sp 4,aq 8,(16,.b (.map 6010)),aq 67,aq 68],[aW 2 4,aW 4 4,(6010,.map)],[]⟩)]),bE (bB true [([48000012],⟨[aq 1,sp 2,sp 4,aq 7,aq 8,a1 9 52,aq 36,aq 37,aq 38],[aW 2 4,aW 4 4,aJ 52 1],[.slot 9 5000 1]⟩)]),bE (bB true [([0],⟨[aq 1,sp 2,sp 4,aq 8,a1 9 5001],[aW 2 4,aW 4 4,aJ 5001 1],[]⟩),([1],⟨[aq 1,sp 2,sp 4,aq 7,aq 8,a1 9 52,aq 36,aq 37,aq 38],[aW 2 4,aW 4 4,aJ 52 1],[]⟩),([2],⟨[aq 1,sp 2,sp 4,aq 8,(16,.b (.map 6010))],[aW 2 4,aW 4 4,(6010,.map)],[]⟩),([4],lu [1,2004,4004])]),dG [],dq [(56,⟨R3,Aa n,6010,[]⟩)],dH [],dF [(14,[[5001],[],[]])]⟩ (S:=⟨(tok _).ug _,(dg (KQ n) (dg (KR n) (dg (afE n) (dg (FF n) (dg (afH n) (dg (afK n) bK)))))),(aX (afG n) ak),b9⟩)
def KS(n:Nat):aT 79 (sW n):=fo (bq n [aQ KQ,aQ Sh,aQ adh] [] [] [])
def KT(n:Nat):aT 272 (sX n):=fo (bq n [aQ FG,aQ KS] [] [] [])
def S3(n:Nat):aT 276 (v8 n):=fo (bq n [aQ KT] [] [] [])
def afL(a:lZ->oX)(n:Nat)(a0:D)(aG:D)(b:aT 289 a){r:D}(h:Ag a n a0 aG=some r):cF bV bQ 289 [a0,aG] (·=r):=cY (bq n [aQ S3,mh b] (bW true [([4],[2008,16,17,18])]) [] (bW true [([0],[])])) cb c0 ak b9 Tryz.func289 (br (br le_nil)) h
def S4:∀n,aT 289 (pM n)
 |0=>(λ_ _ h=>by cases h)
 |n+1=>by
  have ih:=S4 n;exact(by
   intro a r h;unfold pM at h;split at h
   case h_2=>cases h
   exact afL (pM n) n _ _ ih h)
def afM(n:Nat):aT 289 (pM n):=(S4 n)
def afN(n:Nat):aT 286 (pN n):=fo (bq n [aQ KO,aQ aft,aQ A2,aQ afM] [] [] [])
def afO(n:Nat)(a0:D)(x1:lZ){r:D}(h:EE n a0 x1=some r):cF bV bQ 280 [a0,.ref x1 0] (·=r):=cY (jr n [] [] [] []) cb bK ak b9 Tryz.func280 (br (e0 e6 le_nil)) h
def afP(n:Nat):aT 280 (EF n):=by
 intro a r h;unfold EF at h;split at h
 case h_2=>cases h
 split at h
 case h_2=>cases h
 exact afO n _ _ h
def afQ(n:Nat)(a0:D)(a:D){r:D}(h:Aj n a0 a=some r):cF bV bQ 122 [a0,(D.fn (.func u3) [] [a])] (·=r):=cY (bq n [aQ afP] (bB true [([2],⟨[aq 0,(1,.b (.fd u3 1)),aq 7,aq 8],[],[]⟩)]) [] (bW true [([0],[])])) cb c0 ak b9 Tryz.func122 (br (br le_nil)) h
def afR(n:Nat):aT 122 (wa n):=by
 intro b r h;unfold wa at h;split at h
 case h_2=>cases h
 split at h
 case h_2=>cases h
 rename_i a;obtain rfl:=gV a;exact afQ n _ _ h
def afS(n:Nat)(a0:D)(x1:lZ){r:D}(h:EG n a0 x1=some r):cF bV bQ 282 [a0,.ref x1 0] (·=r):=cY (jr n [] [] [] []) cb bK ak b9 Tryz.func282 (br (e0 e6 le_nil)) h
def afT(n:Nat):aT 282 (EH n):=by
 intro a r h;unfold EH at h;split at h
 case h_2=>cases h
 split at h
 case h_2=>cases h
 exact afS n _ _ h
def afU(n:Nat)(a0:D)(a:D){r:D}(h:Al n a0 a=some r):cF bV bQ 283 [a0,(D.fn (.func ni) [] [a])] (·=r):=cY (bq n [aQ afT] (bB true [([2],⟨[aq 0,(1,.b (.fd ni 1)),aq 7,aq 8],[],[]⟩)]) [] (bW true [([0],[])])) cb c0 ak b9 Tryz.func283 (br (br le_nil)) h
def afV(n:Nat):aT 283 (wb n):=by
 intro b r h;unfold wb at h;split at h
 case h_2=>cases h
 split at h
 case h_2=>cases h
 rename_i a;obtain rfl:=gV a;exact afU n _ _ h
def afW(n:Nat)(a0:D)(a:D){r:D}(h:EI n a0 a=some r):cF bV bQ 281 [a0,(D.fn (.func ni) [] [a])] (·=r):=cY (bq n [aQ afV] [] [] []) cb c0 ak b9 Tryz.func281 (br (br le_nil)) h
def afX(n:Nat):aT 281 (wc n):=by
 intro b r h;unfold wc at h;split at h
 case h_2=>cases h
 split at h
 case h_2=>cases h
 rename_i a;obtain rfl:=gV a;exact afW n _ _ h
def afY(n:Nat):aT 279 (q8 n):=fo (bq n [aQ afR,aQ afX,aQ KT] [] [] [])
def afZ(n:Nat):aT 275 (we n):=fo (bq n [aQ S3] [] [] [])
def af0(n:Nat):aT 271 (wg n):=fo (bq n [aQ KT] [] [] [])
def af1(n:Nat)(a0:D)(x1:lZ){r:D}(h:EK n a0 x1=some r):cF bV bQ 268 [a0,.ref x1 0] (·=r):=cY (jr n [] [] [] []) cb bK ak b9 Tryz.func268 (br (e0 e6 le_nil)) h
def af2(n:Nat):aT 268 (EL n):=by
 intro a r h;unfold EL at h;split at h
 case h_2=>cases h
 split at h
 case h_2=>cases h
 exact af1 n _ _ h
def af3(n:Nat)(a0:D)(a:D){r:D}(h:Ao n a0 a=some r):cF bV bQ 267 [a0,(D.fn (.func u2) [] [a])] (·=r):=cY (bq n [aQ af2] (bB true [([2],⟨[aq 0,(1,.b (.fd u2 1)),aq 7,aq 8],[],[]⟩)]) [] (bW true [([0],[])])) cb c0 ak b9 Tryz.func267 (br (br le_nil)) h
def af4(n:Nat):aT 267 (wh n):=by
 intro b r h;unfold wh at h;split at h
 case h_2=>cases h
 split at h
 case h_2=>cases h
 rename_i a;obtain rfl:=gV a;exact af3 n _ _ h
def af5(n:Nat):aT 266 (wi n):=fo ⟨dn bV,bQ,gu n [aQ FF,aQ af4],n,[],bE (bB true [([3],⟨[aq 0,aq 2,a1 7 16,a1 8 18],[aJ 16 1,aJ 18 1],[]⟩),([7],⟨[aq 0,aq 2,a1 7 16,a1 8 18,aq 35,aq 36,aq 37],[aJ 16 1,aJ 18 1],[]⟩)]),bE (bB true [([52000011],⟨[aq 0,aq 2,a1 7 16,a1 8 59,aq 35,aq 36,aq 37],[aJ 16 1,aJ 59 1],[]⟩)]),bE (bB true [([0],⟨[aq 2,a1 7 16],[aJ 16 1],[]⟩),([1,2],⟨[aq 0,aq 2,a1 7 16,a1 8 18],[aJ 16 1,aJ 18 1],[]⟩),([3],⟨[aq 0,aq 2,a1 7 16,a1 8 59,aq 35,aq 36,aq 37],[aJ 16 1,aJ 59 1],[]⟩)]),dG [],dq [],dH [23],dF []⟩ (S:=⟨cb,c0,ak,b9⟩)
def af6(n:Nat)(a0:D)(x1:lZ){r:D}(h:EN n a0 x1=some r):cF bV bQ 260 [a0,.ref x1 0] (·=r):=cY (jr n [] [] [] []) cb bK ak b9 Tryz.func260 (br (e0 e6 le_nil)) h
def af7(n:Nat):aT 260 (EO n):=by
 intro a r h;unfold EO at h;split at h
 case h_2=>cases h
 split at h
 case h_2=>cases h
 exact af6 n _ _ h
def af8(n:Nat)(a0:D)(a:D){r:D}(h:Aq n a0 a=some r):cF bV bQ 122 [a0,(D.fn (.func ng) [] [a])] (·=r):=cY (bq n [aQ af7] (bB true [([2],⟨[aq 0,(1,.b (.fd ng 1)),aq 7,aq 8],[],[]⟩)]) [] (bW true [([0],[])])) cb c0 ak b9 Tryz.func122 (br (br le_nil)) h
def af9(n:Nat):aT 122 (wj n):=by
 intro b r h;unfold wj at h;split at h
 case h_2=>cases h
 split at h
 case h_2=>cases h
 rename_i a;obtain rfl:=gV a;exact af8 n _ _ h
def aga(n:Nat)(a0:D)(a:D){r:D}(h:EP n a0 a=some r):cF bV bQ 159 [a0,(D.fn (.func ng) [] [a])] (·=r):=cY (bq n [aQ af9] [] [] []) cb c0 ak b9 Tryz.func159 (br (br le_nil)) h
def agb(n:Nat):aT 159 (wk n):=by
 intro b r h;unfold wk at h;split at h
 case h_2=>cases h
 split at h
 case h_2=>cases h
 rename_i a;obtain rfl:=gV a;exact aga n _ _ h
def agc(n:Nat)(a0:D)(x1:lZ){r:D}(h:ER n a0 x1=some r):cF bV bQ 262 [a0,.ref x1 0] (·=r):=cY (jr n [] [] [] []) cb bK ak b9 Tryz.func262 (br (e0 e6 le_nil)) h
def agd(n:Nat):aT 262 (ES n):=by
 intro a r h;unfold ES at h;split at h
 case h_2=>cases h
 split at h
 case h_2=>cases h
 exact agc n _ _ h
def age(n:Nat)(a0:D)(a:D){r:D}(h:As n a0 a=some r):cF bV bQ 263 [a0,(D.fn (.func nh) [] [a])] (·=r):=cY (bq n [aQ agd] (bB true [([2],⟨[aq 0,(1,.b (.fd nh 1)),aq 7,aq 8],[],[]⟩)]) [] (bW true [([0],[])])) cb c0 ak b9 Tryz.func263 (br (br le_nil)) h
def agf(n:Nat):aT 263 (wm n):=by
 intro b r h;unfold wm at h;split at h
 case h_2=>cases h
 split at h
 case h_2=>cases h
 rename_i a;obtain rfl:=gV a;exact age n _ _ h
def agh(n:Nat)(a0:D)(a:D){r:D}(h:ET n a0 a=some r):cF bV bQ 261 [a0,(D.fn (.func nh) [] [a])] (·=r):=cY (bq n [aQ agf] [] [] []) cb c0 ak b9 Tryz.func261 (br (br le_nil)) h
def agi(n:Nat):aT 261 (wo n):=by
 intro b r h;unfold wo at h;split at h
 case h_2=>cases h
 split at h
 case h_2=>cases h
 rename_i a;obtain rfl:=gV a;exact agh n _ _ h
def agj(n:Nat):aT 259 (pO n):=fo (bq n [aQ KO,aQ agb,aQ agi] [] (bW true [([17005],[17])]) [])
def agk(n:Nat):aT 284 (EU n):=bS (bq n [] [] [] [])
def agl(n:Nat):aT 277 (EV n):=bS (bq n [] [] [] [])
def agm(n:Nat):aT 273 (EW n):=bS (bq n [] [] [] [])
def agn(n:Nat):aT 269 (EX n):=bS (bq n [] [] [] [])
def ago(n:Nat):aT 264 (EY n):=bS (bq n [] [] [] [])
def agp(n:Nat):aT 257 (EZ n):=bS (bq n [] [] [] [])
def agq(n:Nat):aT 64 (k2 n):=bS ⟨((dn Tryz.prog).Cj [166,167,168,170,171,172]),bQ,fv [(115,vT n),(116,zP n),(285,zQ n),(278,zR n),(274,nr n),(270,zT n),(265,zU n),(258,zV n),(286,pN n),(279,q8 n),(275,we n),(271,wg n),(266,wi n),(259,pO n),(284,EU n),(277,EV n),(273,EW n),(269,EX n),(264,EY n),(257,EZ n)],n,[],bE (bW true [([2],[1008,2002,36,37]),([13],[1008,2002,93,94]),([16],[1008,2002,9,93,94,98,99])]),bE [],bE (bW true [([0],[1008,2002]),([2],[2002]),([3,4],[1008,2002,93,94])]),dG [],dq [],dH [],dF []⟩ (S:=⟨(tok _).Cj _,(dg (aff n) (dg (afh n) (dg (afi n) (dg (afj n) (dg (afk n) (dg (afl n) (dg (afm n) (dg (afn n) (dg (afN n) (dg (afY n) (dg (afZ n) (dg (af0 n) (dg (af5 n) (dg (agj n) (dg (agk n) (dg (agl n) (dg (agm n) (dg (agn n) (dg (ago n) (dg (agp n) bK)))))))))))))))))))),ak,b9⟩)
def agr(n:Nat):aT 65 (wq n):=bS (bq n [aQ KP] (bW true [([3],[4,5,10,11,12])]) (bW true [([24000008],[4,5,10,11,12])]) (bW true [([0],[4,5]),([1],[4,5,10,11,12])]))
def ags(n:Nat):aT 118 (mf n):=cy (bq n [aQ FG] (bB true [([2],⟨[aq 1,a1 4 5000,aq 11,aq 12,aq 13],[aJ 5000 4],[.slot 4 5000 4]⟩)]) [] (bB true [([0],⟨[a1 4 5000],[aJ 5000 4],[]⟩)]))
def agt(n:Nat):aT 119 (wu n):=cy (bq n [aQ FG] (bB true [([2],⟨[aq 1,a1 4 5000,aq 11,aq 12,aq 13],[aJ 5000 5],[.slot 4 5000 5]⟩)]) [] (bB true [([0],⟨[a1 4 5000],[aJ 5000 5],[]⟩)]))
def agu(a:lZ->oY)(n:Nat)(c:eD tn a):eD tn (ow a n):=jH ⟨dn bV,bQ,gu n [aQ FG],n,[10000,10001],bE (bB true [([8],⟨[(2,.b (.ptr 10001 0)),sp 3,sp 4,a1 8 5000,aq 32,aq 33,aq 34],[(10001,.box [.fn (.func Dl) [] [.ptr 10000 0,.ptr 10001 0]]),aW 3 6,aW 4 6,aJ 5000 6,aW 10000 1],[.slot 8 5000 6]⟩)]),bE [],bE (bB true [([0],⟨[sp 3,sp 4,a1 8 5000],[aW 3 6,aW 4 6,aJ 5000 6,aW 10000 1,(10001,.box [.fn (.func Dl) [] [.ptr 10000 0,.ptr 10001 0]])],[]⟩)]),dG [],dq [(41,⟨tn,a,6020,[]⟩)],dH [20004],dF []⟩ cb c0 (aX c ak) b9 Tryz.func216 []
def S5:∀n,eD tn (lB n)
 |0=>sg (s:=tn) (sk (T:=dn bV) (os:=λ_=>none) Tryz.func216) (λ_=>rfl)|n+1=>by have ih:=S5 n;exact agu (lB n) n ih
def agv(n:Nat):eD tn (lB n):=(S5 n)
def agw(n:Nat):aT 162 (wx n):=cy ⟨dn bV,bQ,gu n [aQ A2],n,[],bE [],bE [],bE [],dG [],dq [(17,⟨tn,lB n,6010,[]⟩)],dH [],dF []⟩ (S:=⟨cb,c0,(aX (agv n) ak),b9⟩)
def agx(n:Nat):aT 120 (wy n):=cy (bq n [aQ agw] (bB true [([2],⟨[aq 1,a1 4 5000,aq 11,aq 12,aq 13],[aJ 5000 7],[.slot 4 5000 7]⟩)]) [] (bB true [([0],⟨[a1 4 5000],[aJ 5000 7],[]⟩)]))
def agy(n:Nat):aT 66 (E4 n):=bS ⟨dn bV,bQ,gu n [aQ ags,aQ agt,aQ agx],n,[],bE [],bE [],bE [],dG [(4,[1,2,0,3,4,5,6,7]),(7,[1,2,0,3,4,5,6,7]),(10,[1,2,0,3,4,5,6,7]),(13,[1,2,0,3,4,5,6,7]),(16,[1,2,0,3,4,5,6,7]),(19,[1,2,0,3,4,5,6,7])],dq [],dH [],dF []⟩ (S:=⟨cb,c0,ak,b9⟩)
def agz(n:Nat):eD R4 (Aw n):=jH ⟨dn bV,bQ,fv [],n,[],bE [],bE [],bE [],dG [],dq [],dH [],dF []⟩ cb bK ak b9 Tryz.func121 [.slot 0 5000 1]
def agA(n:Nat):aT 67 (E5 n):=bS ⟨dn bV,bQ,gu n [aQ KP],n,[],bE (bB true [([3],⟨[a1 3 11,aq 12,aq 13,aq 14],[aJ 11 1],[]⟩),([10],⟨[sp 5,aq 6,a1 7 5001,aq 12,aq 13,aq 14,a1 22 11,aq 23,aq 24],[aW 5 4,aJ 5001 1,aJ 11 1],[.slot 7 5001 1]⟩),([13],⟨[sp 5,aq 6,a1 7 5001,aq 9,aq 12,aq 13,aq 14,a1 22 11,aq 23,aq 24,aq 29,aq 30],[aW 5 4,aJ 5001 1,aJ 11 1],[.slot 7 5000 1]⟩)]),bE (bB true [([21000007],⟨[a1 3 11,sp 5,aq 6,aq 12,aq 13,aq 14],[aJ 11 1,aW 5 4],[]⟩)]),bE (bB true [([0],⟨[a1 3 11],[aJ 11 1],[]⟩),([1],⟨[a1 3 5001,aq 12,aq 13,aq 14],[aJ 5001 1],[]⟩),([2],⟨[a1 7 5001,aq 12,aq 13,aq 14],[aJ 5001 1],[]⟩),([3,4],⟨[sp 5,aq 6,a1 7 5001,aq 12,aq 13,aq 14,a1 22 11,aq 23,aq 24],[aW 5 4,aJ 5001 1,aJ 11 1],[]⟩)]),dG [],dq [(35,⟨R4,Aw n,6030,[]⟩)],dH [41],dF []⟩ (S:=⟨cb,c0,(aX (agz n) ak),b9⟩)
def agB(d:D):d.le (wz d):=by
 unfold wz;split;.exact D.nil_le 1
 exact D.le_refl _
def agC{x r:D}(h:AA x=some r):x.le r:=by
 unfold AA at h;split at h
 case h_2=>cases h
 rename_i k es;split at h
 case isFalse=>cases h
 rename_i g;cases h;refine D.Xx sZ ?_;intro i x y d e;simp only[xag,d,xaI,xaE]at e;subst e;refine⟨by simp,xay.1 g x (xad d),?_⟩;intro j a b f c;simp only[xag,f,xaI,xaE]at c;subst c;exact agB a
def agD(n:Nat):aT 67 (AB n):=by
 intro b r h;unfold AB at h;split at h
 case h_2=>cases h
 rename_i x g;have H:=agA n b x g;refine⟨H.fn,?_⟩;intro m fr w vs d f hD;refine(H.run m fr w vs d f hD).mono ?_;rintro e w' ⟨v,a,q,ab,rfl,ae,ai,c⟩;exact⟨v,a,r,ab,rfl,ae,ai,agC h a v c⟩
def KU(n:Nat):aT 39 (nu n):=yj ⟨dn bV,bQ,gu n [aQ KS,aQ Sh],n,[],bE [],bE [],bE [],dG [],dq [(34,⟨th,pA n,6010,[]⟩)],dH [],dF []⟩ (S:=⟨cb,c0,(aX (ado n) ak),b9⟩)
def S6(n:Nat):aT 69 (AD n):=yj (bq n [aQ KU] [] [] [])
def agE(n:Nat):aT 68 (s4 n):=yj (bq n [aQ S6] (bW true [([2],[2,3,4008,11,12,13])]) [] (bW true [([0],[])]))
def agF(n:Nat)(a0:D)(x1:lZ){r:D}(h:E7 n a0 x1=some r):cF bV bQ 123 [a0,.ref x1 0] (·=r):=cY (jr n [] [] [] []) cb bK ak b9 Tryz.func123 (br (e0 e6 le_nil)) h
def agG(n:Nat):aT 123 (E8 n):=by
 intro a r h;unfold E8 at h;split at h
 case h_2=>cases h
 split at h
 case h_2=>cases h
 exact agF n _ _ h
def agH(n:Nat)(a0:D)(a:D){r:D}(h:AG n a0 a=some r):cF bV bQ 122 [a0,(D.fn (.func u1) [] [a])] (·=r):=cY (bq n [aQ agG] (bB true [([2],⟨[aq 0,(1,.b (.fd u1 1)),aq 7,aq 8],[],[]⟩)]) [] (bW true [([0],[])])) cb c0 ak b9 Tryz.func122 (br (br le_nil)) h
def agI(n:Nat):aT 122 (wA n):=by
 intro b r h;unfold wA at h;split at h
 case h_2=>cases h
 split at h
 case h_2=>cases h
 rename_i a;obtain rfl:=gV a;exact agH n _ _ h
def agJ(n:Nat):aT 70 (Fa n):=cy (bq n [aQ KU,aQ agI] (bB true [([3],⟨[aq 1,sp 2,a1 6 5000,aq 14,aq 15,aq 16],[aW 2 8,aJ 5000 2],[.slot 6 5000 2]⟩)]) [] (bB true [([0],⟨[a1 6 5000],[aJ 5000 2],[]⟩)]))
def agK(n:Nat)(a0:D)(x1:lZ){r:D}(h:Fb n a0 x1=some r):cF bV bQ 72 [a0,.ref x1 0] (·=r):=cY (jr n [] [] [] []) cb bK ak b9 Tryz.func72 (br (e0 e6 le_nil)) h
def agL(n:Nat):aT 72 (Fc n):=by
 intro a r h;unfold Fc at h;split at h
 case h_2=>cases h
 split at h
 case h_2=>cases h
 exact agK n _ _ h
def agM(n:Nat)(a0:D)(a:D){r:D}(h:AI n a0 a=some r):cF bV bQ 124 [a0,(D.fn (.func oc) [] [a])] (·=r):=cY (bq n [aQ agL] (bB true [([2],⟨[aq 0,(1,.b (.fd oc 1)),aq 7,aq 8],[],[]⟩)]) [] (bW true [([0],[])])) cb c0 ak b9 Tryz.func124 (br (br le_nil)) h
def agN(n:Nat):aT 124 (AJ n):=by
 intro b r h;unfold AJ at h;split at h
 case h_2=>cases h
 split at h
 case h_2=>cases h
 rename_i a;obtain rfl:=gV a;exact agM n _ _ h
def agO(n:Nat)(a0:D)(a:D){r:D}(h:AK n a0 a=some r):cF bV bQ 71 [a0,(D.fn (.func oc) [] [a])] (·=r):=cY (bq n [aQ agN] [] [] []) cb c0 ak b9 Tryz.func71 (br (br le_nil)) h
def agP(n:Nat):aT 71 (wB n):=by
 intro b r h;unfold wB at h;split at h
 case h_2=>cases h
 split at h
 case h_2=>cases h
 rename_i a;obtain rfl:=gV a;exact agO n _ _ h
def agQ(n:Nat):aT 29 (s5 n):=bS ⟨dn bV,bQ,gu n [aQ agq,aQ agr,aQ agy,aQ agD,aQ agE,aQ S6,aQ agJ,aQ agP],n,[],bE (bB true [([12],⟨[sp 2,sp 10,aq 59,aq 60,aq 61],[(2,.box [.b (.row 5001),.b (.d),.b (.d),.b (.d)]),aW 10 8,aJ 5001 1],[.box 2 0 5001 1]⟩),([18],⟨[sp 2,sp 10,a1 79 5001,aq 80,aq 81],[(2,.box [.b (.row 5001),.b (.row 5006),.b (.row 5007),.b (.row 5008)]),aW 10 8,aJ 5001 1,aJ 5006 1,aJ 5007 1,aJ 5008 1],[.box 2 1 5006 1,.box 2 2 5007 1,.box 2 3 5008 1]⟩),([24],⟨[sp 2,sp 10,aq 14,a1 15 5003,a1 79 5001,aq 80,aq 81,aq 100,aq 101,aq 102],[(2,.box [.b (.row 5001),.b (.row 5006),.b (.row 96),.b (.row 5008)]),aW 10 8,aJ 5003 1,aJ 5001 1,aJ 5006 1,aJ 96 1,aJ 5008 1],[.slot 15 5003 1]⟩),([32],⟨[sp 2,sp 10,aq 14,a1 18 5005,aq 19,aq 20,a1 79 5001,aq 80,aq 81,a1 127 5001,aq 128,aq 129],[(2,.box [.b (.row 5001),.b (.row 5006),.b (.row 96),.b (.row 118)]),aW 10 8,aJ 5005 1,aJ 5001 1,aJ 5006 1,aJ 96 1,aJ 118 1],[.slot 18 5005 1]⟩)]),bE (bB true [([70000015],⟨[sp 2,sp 10,aq 59,aq 60,aq 61],[(2,.box [.b (.row 75),.b (.d),.b (.d),.b (.d)]),aW 10 8,aJ 75 1],[.box 2 0 5000 1]⟩),([91000021],⟨[sp 2,sp 10,aq 14,a1 79 5001,aq 80,aq 81],[(2,.box [.b (.row 5001),.b (.row 5006),.b (.row 96),.b (.row 5008)]),aW 10 8,aJ 5001 1,aJ 5006 1,aJ 96 1,aJ 5008 1],[.box 2 2 5002 1]⟩),([149000035],⟨[sp 2,sp 10,aq 14,a1 18 153,aq 19,aq 20,a1 79 5001,aq 80,aq 81,a1 127 5001,aq 128,aq 129],[(2,.box [.b (.row 5001),.b (.row 5006),.b (.row 96),.b (.row 118)]),aW 10 8,aJ 153 1,aJ 5001 1,aJ 5006 1,aJ 96 1,aJ 118 1],[.slot 18 5004 1]⟩)]),bE (bB true [([0],⟨[sp 2,sp 10],[(2,.box [.b (.row 5001),.b (.d),.b (.d),.b (.d)]),aW 10 8,aJ 5001 1],[]⟩),([1],⟨[sp 2,sp 10,aq 59,aq 60,aq 61],[(2,.box [.b (.row 75),.b (.d),.b (.d),.b (.d)]),aW 10 8,aJ 75 1],[]⟩),([2],⟨[sp 2],[(2,.box [.b (.row 5001),.b (.row 5006),.b (.row 5007),.b (.row 5008)]),aJ 5001 1,aJ 5006 1,aJ 5007 1,aJ 5008 1],[]⟩),([3],⟨[sp 2,sp 10,a1 79 5001,aq 80,aq 81],[(2,.box [.b (.row 5001),.b (.row 159),.b (.row 96),.b (.row 118)]),aW 10 8,aJ 5001 1,aJ 159 1,aJ 96 1,aJ 118 1],[]⟩),([4],⟨[sp 2,sp 10,aq 14,a1 15 5003,a1 79 5001,aq 80,aq 81],[(2,.box [.b (.row 5001),.b (.row 5006),.b (.row 96),.b (.row 5008)]),aW 10 8,aJ 5003 1,aJ 5001 1,aJ 5006 1,aJ 96 1,aJ 5008 1],[]⟩),([6],⟨[sp 2,sp 10,a1 18 5005,a1 79 5001,aq 80,aq 81],[(2,.box [.b (.row 5001),.b (.row 5006),.b (.row 96),.b (.row 118)]),aW 10 8,aJ 5005 1,aJ 5001 1,aJ 5006 1,aJ 96 1,aJ 118 1],[]⟩),([7],⟨[sp 2,sp 10,aq 14,a1 18 153,aq 19,aq 20,a1 79 5001,aq 80,aq 81,a1 127 5001,aq 128,aq 129],[(2,.box [.b (.row 5001),.b (.row 5006),.b (.row 96),.b (.row 118)]),aW 10 8,aJ 153 1,aJ 5001 1,aJ 5006 1,aJ 96 1,aJ 118 1],[]⟩)]),dG [],dq [],dH [117,158],dF []⟩ (S:=⟨cb,c0,ak,b9⟩)
def rh(k:Nat)(d:D):d.le (ox k d):=by
 unfold ox;split;.exact D.nil_le k
 exact D.le_refl _
def agR(d:D):d.le (Ks d):=by
 unfold Ks;split
 .refine D.Xw rfl ?_;intro i x y a b
  match i,a,b with
  |0,a,b=>cases a;cases b;exact rh _ _
  |1,a,b=>cases a;cases b;exact rh _ _
  |2,a,b=>cases a;cases b;exact rh _ _
  |3,a,b=>cases a;cases b;exact rh _ _
  |4,a,b=>cases a;cases b;exact rh _ _
  |5,a,b=>cases a;cases b;exact rh _ _
  |6,a,b=>cases a;cases b;exact rh _ _
  |7,a,b=>cases a;cases b;exact rh _ _
  |i+8,a,b=>cases a
 exact D.le_refl _
def S7(n:Nat):aT 29 (pP n):=by
 intro g r h;unfold pP at h;split at h
 case h_2=>cases h
 rename_i a;have H:=agQ n _ r h;refine⟨H.fn,?_⟩;intro m fr w vs c e hD;refine H.run m fr w vs c e ⟨hD.1,?_⟩;intro i d v b f;cases i with|zero=>simp only[xbF,xaE]at b;subst b;exact agR a m v (hD.2 0 a v rfl f)|succ i=>simp at b
def FH(n:Nat):aT 12 (mg n):=cy (bq n [] (bW true [([4],[0,1,5])]) [] (bW true [([0],[])]))
def S8(n:Nat):aT 74 (s6 n):=cy (bq n [] (bW true [([4],[0,1,5])]) [] (bW true [([0],[])]))
def agS(n:Nat):aT 73 (AN n):=cy (bq n [aQ S8] (bW true [([4],[0,1,5])]) [] (bW true [([0],[])]))
def agT(n:Nat):aT 30 (wF n):=cy (bq n [aQ FH,aQ agS,aQ S8] (bW true [([4],[2004,3004,5])]) [] (bW true [([0],[2004,3004])]))
def S9(n:Nat):aT 7 (q9 n):=bS ⟨dn bV,bQ,gu n [aQ aeJ,aQ ae2,aQ S7,aQ agT],n,[],bE [],bE [],bE [],dG [(5,[0,1,2,3,4,5,6,7])],dq [],dH [],dF []⟩ (S:=⟨cb,c0,ak,b9⟩)
def agU(n:Nat):aT 8 (wH n):=cy ⟨dn bV,bQ,fv [],n,[],bE (bB true [([3],⟨[aq 1,a1 5 9,aq 6],[aJ 9 6],[]⟩)]),bE [],bE (bW true [([0],[])]),dG [],dq [],dH [25],dF []⟩ (S:=⟨cb,bK,ak,b9⟩)
def agV(n:Nat):aT 31 (RK n):=uj ⟨dn bV,bQ,fv [],n,[],bE [],bE [],bE [],dG [],dq [],dH [9],dF []⟩ (S:=⟨cb,bK,ak,b9⟩)
def FI(n:Nat):aT 19 (ku n):=cy (bq n [] (bB true [([3],⟨[aq 1,a1 5 10,aq 6],[aJ 10 1],[]⟩)]) [] (bB true [([0],⟨[a1 5 10],[aJ 10 1],[]⟩)]))
def Ta(n:Nat):aT 26 (s9 n):=bS (bq n [] (bB true [([3],⟨[a1 3 8,aq 4],[aJ 8 1],[]⟩)]) [] (bB true [([0],⟨[a1 3 8],[aJ 8 1],[]⟩)]))
def Tb(n:Nat):aT 54 (tb n):=fo ⟨dn bV,bQ,fv [],n,[],bE (bB true [([3],⟨[aq 2,sp 3,a1 7 15,a1 8 17],[aW 3 4,aJ 15 1,aJ 17 1],[]⟩),([7],⟨[aq 2,sp 3,a1 7 15,a1 8 25,aq 9,aq 10],[aW 3 4,aJ 15 1,aJ 25 1],[]⟩)]),bE (bB true [([54000011],⟨[aq 2,sp 3,a1 7 15,a1 8 61,aq 9,aq 10],[aW 3 4,aJ 15 1,aJ 61 1],[]⟩)]),bE (bB true [([0],⟨[a1 7 15],[aJ 15 1],[]⟩),([1,2],⟨[aq 2,sp 3,a1 7 15,a1 8 25],[aW 3 4,aJ 15 1,aJ 25 1],[]⟩),([3],⟨[aq 2,sp 3,a1 7 15,a1 8 61,aq 9,aq 10],[aW 3 4,aJ 15 1,aJ 61 1],[]⟩)]),dG [],dq [],dH [25],dF []⟩ (S:=⟨cb,bK,ak,b9⟩)
def agW(n:Nat):aT 53 (AS n):=cy (bq n [aQ Tb] (bB true [([6],⟨[aq 1,sp 2,aq 5,a1 6 24,aq 7],[aW 2 4,aJ 24 1],[]⟩),([12],⟨[aq 1,sp 2,aq 5,a1 6 24,aq 7,aq 8,aq 9],[aW 2 4,aJ 24 1],[]⟩),([16],⟨[aq 1,sp 2,aq 5,a1 6 24,aq 7,aq 8,aq 9,aq 10,aq 11],[aW 2 4,aJ 24 1],[]⟩)]) (bW true [([15000003],[1,2004,5])]) (bB true [([0],⟨[a1 6 24],[aJ 24 1],[]⟩),([1,2],⟨[aq 1,sp 2,aq 5,a1 6 24,aq 7],[aW 2 4,aJ 24 1],[]⟩),([3],⟨[aq 1,sp 2,aq 5,a1 6 24,aq 7,aq 8,aq 9],[aW 2 4,aJ 24 1],[]⟩),([4],⟨[aq 1,sp 2,aq 5,a1 6 24,aq 7,aq 8,aq 9,aq 10],[aW 2 4,aJ 24 1],[]⟩)]))
def FJ(n:Nat):aT 14 (tc n):=cy (bq n [aQ FI,aQ agW,aQ Tb] (bB true [([5],⟨[sp 2,aq 5,aq 6,a1 7 19,aq 8],[aW 2 4,aJ 19 1],[]⟩),([11],⟨[sp 2,aq 5,aq 6,a1 7 19,aq 8,aq 9,aq 10],[aW 2 4,aJ 19 1],[]⟩)]) [] (bB true [([0],⟨[a1 7 19],[aJ 19 1],[]⟩),([1,2],⟨[sp 2,aq 5,aq 6,a1 7 19,aq 8],[aW 2 4,aJ 19 1],[]⟩)]))
def agX(n:Nat):aT 16 (Fq n):=cy (bq n [aQ FI,aQ Ta,aQ FJ] (bB true [([5],⟨[sp 2,aq 5,aq 6,a1 7 20,aq 8],[aW 2 4,aJ 20 1],[]⟩),([8],⟨[sp 2,aq 5,aq 6,a1 7 20,aq 8,aq 9],[aW 2 4,aJ 20 1],[]⟩)]) [] (bB true [([0],⟨[a1 7 20],[aJ 20 1],[]⟩),([1,2],⟨[sp 2,aq 5,aq 6,a1 7 20,aq 8],[aW 2 4,aJ 20 1],[]⟩)]))
def agY(n:Nat):aT 18 (Ft n):=fo (bq n [aQ FI,aQ Ta,aQ FJ] (bB true [([5],⟨[sp 3,aq 7,aq 8,aq 9,a1 10 27,aq 11],[aW 3 4,aJ 27 1],[]⟩),([9],⟨[sp 3,aq 7,a1 10 27,aq 12],[aW 3 4,aJ 27 1],[]⟩),([12],⟨[sp 3,aq 7,a1 10 27,aq 12,aq 13],[aW 3 4,aJ 27 1],[]⟩),([15],⟨[sp 3,aq 7,a1 10 27,aq 12,aq 13,aq 14],[aW 3 4,aJ 27 1],[]⟩)]) (bB true [([87000018],⟨[sp 3,aq 7,a1 10 27,aq 12,aq 13,aq 14],[aW 3 4,aJ 27 1],[]⟩)]) (bB true [([0],⟨[sp 3,aq 7,a1 10 27],[aW 3 4,aJ 27 1],[]⟩),([2],⟨[a1 10 27],[aJ 27 1],[]⟩),([3,4],⟨[sp 3,aq 7,a1 10 27,aq 12],[aW 3 4,aJ 27 1],[]⟩),([5,6],⟨[sp 3,aq 7,a1 10 27,aq 12,aq 13],[aW 3 4,aJ 27 1],[]⟩),([7],⟨[sp 3,aq 7,a1 10 27,aq 12,aq 13,aq 14],[aW 3 4,aJ 27 1],[]⟩)]))
def agZ(n:Nat):aT 21 (Fu n):=cy (bq n [aQ FJ] [] [] [])
def ag0(n:Nat):aT 22 (kv n):=bS (bq n [] [] [] [])
def ag1(n:Nat):aT 23 (oA n):=cy (bq n [] [] [] [])
def ag2(n:Nat):aT 24 (pQ n):=fo (bq n [] [] [] [])
def ag3(a:lZ->oX)(n:Nat)(a0:D)(aG:D)(b:aT 33 a){r:D}(h:ra a n a0 aG=some r):cF bV bQ 33 [a0,aG] (·=r):=cY (bq n [aQ KS,mh b] (bW true [([7],[0,29,30,31])]) (bW true [([26000004],[6])]) (bW true [([0],[])])) cb c0 ak b9 Tryz.func33 (br (br le_nil)) h
def Tc:∀n,aT 33 (nw n)
 |0=>(λ_ _ h=>by cases h)
 |n+1=>by
  have ih:=Tc n;exact(by
   intro a r h;unfold nw at h;split at h
   case h_2=>cases h
   exact ag3 (nw n) n _ _ ih h)
def Td(n:Nat):aT 33 (nw n):=(Tc n)
def ag4(n:Nat)(a0:D)(x1:lZ)(c9:lZ)(a:lZ){r:D}(h:Ku n a0 x1 c9 a=some r):cF bV bQ 38 [a0,.ref x1 0,.ref c9 0,.ref a 0] (·=r):=cY (bq n [aQ KU] [] [] []) cb c0 ak b9 Tryz.func38 (br (e0 e6 (e0 e6 (e0 e6 le_nil)))) h
def ag5(n:Nat):aT 38 (Fj n):=by
 intro a r h;unfold Fj at h;split at h
 case h_2=>cases h
 split at h
 case h_2=>cases h
 split at h
 case h_2=>cases h
 split at h
 case h_2=>cases h
 exact ag4 n _ _ _ _ h
def ag6(n:Nat)(a0:D)(a:D)(c:D)(d:D){r:D}(h:Kv n a0 a c d=some r):cF bV bQ 35 [a0,(D.fn (.func uT) [] [a,c,d])] (·=r):=cY (bq n [aQ ag5] (bB true [([3],⟨[(1,.b (.fd uT 3)),a1 5 10,aq 12,aq 13],[aJ 10 1],[]⟩)]) [] (bB true [([0],⟨[a1 5 10],[aJ 10 1],[]⟩)])) cb c0 ak b9 Tryz.func35 (br (br le_nil)) h
def ag7(n:Nat):aT 35 (wI n):=by
 intro b r h;unfold wI at h;split at h
 case h_2=>cases h
 split at h
 case h_2=>cases h
 rename_i a;obtain rfl:=gV a;exact ag6 n _ _ _ _ h
def ag8(a:lZ->oX)(n:Nat)(a0:D)(x1:lZ)(c9:lZ)(d:lZ)(e:lZ)(c:aT 37 a){r:D}(h:kc a n a0 x1 c9 d e=some r):cF bV bQ 37 [a0,.ref x1 0,.ref c9 0,.ref d 0,.ref e 0] (·=r):=cY ⟨((dn bV).Ck [(22,[37,34]),(33,[37,34]),(40,[37,34]),(85,[37,34]),(87,[37,34]),(94,[37,34]),(96,[37,34]),(105,[37,34]),(107,[37,34]),(111,[37,34]),(116,[37,34])]),bQ,fv [(35,uE 1 [(uT,wI n),(uU,u7 n),(uV,u9 n),(uW,vb n),(uX,vn n),(uY,vo n)]),(37,a),(34,jN n),(15,sF n),(43,qT n),(17,pB n),(20,qW n)],n,[],bE [],bE (bB true [([27000006],⟨[(1,.b (.cH 0)),(4,.b (.cH 0)),sp 5,sp 7,sp 8],[aW 5 6,aW 7 1,aW 8 1],[]⟩)]),bE [],dG [],dq [],dH [16,45,50,55,123],dF [(31,[[],[],[7,8]])]⟩ ((tok _).Ck _) (dg (uF (ag7 n) (uF (ady n) (uF (adC n) (uF (adG n) (uF (ad3 n) (uF (ad7 n) abC)))))) (dg c (dg (adu n) (dg (Sr n) (dg (KH n) (dg (Ss n) (dg (St n) bK))))))) ak b9 Tryz.func37 (br (e0 e6 (e0 e6 (e0 e6 (e0 e6 le_nil))))) h
def Te:∀n,aT 37 (oz n)
 |0=>(λ_ _ h=>by cases h)
 |n+1=>by
  have ih:=Te n;exact(by
   intro a r h;unfold oz at h;split at h
   case h_2=>cases h
   split at h
   case h_2=>cases h
   split at h
   case h_2=>cases h
   split at h
   case h_2=>cases h
   split at h
   case h_2=>cases h
   exact ag8 (oz n) n _ _ _ _ _ ih h)
def ag9(n:Nat):aT 37 (oz n):=(Te n)
end Go.Am
