/- That the functions of the program compute this. No condition. -/
import Derived.Test.YtjonbfbkkkcjgaaGreatDoorHand
import Derived.KernelRfl
set_option linter.all false
set_option linter.unnecessarySimpa false
namespace Go.Am
open Go.Proofs
set_option maxRecDepth 100000
def aa5(n:Nat):aU 217 (B4 n):=bT (bm n [] [] (bN true [([5004,5005,5006],[4,5]),([12011],[4,12]),([15014,15015,15016,15017,15018,15019,15020,15021,15022],[4,15])]) [])
def aa6(n:Nat):aU 165 (B5 n):=bT (bm n [aQ aa5] [] (bN true [([18008007,20000009],[1004,3,4,5,6])]) (bN true [([0],[1004,3,4,5,6])]))
def aa7(n:Nat):ew P3 (xv n):=je ⟨dn bR,bS,gh n [aQ aa6],n,[10000,10001],bD [],bD (bB true [([10004003,18000006],⟨[(3,.b (.ptr 10001 0))],[aW 10001 1,aW 10000 1],[]⟩)]),bD [],dG [],dr [],dL [],dF []⟩ b8 cW ak b7 Tryz.func164 []
def Qp(n:Nat):aU 80 (xx n):=bT (bm n [] (bB true [([3],⟨[(3,.b (.map 8)),ar 9,ar 10,ar 11],[(8,.map)],[]⟩)]) (bB true [([24000007],⟨[(3,.b (.map 8)),ar 9,ar 10,ar 11],[(8,.map)],[]⟩)]) (bB true [([0],⟨[(3,.b (.map 8))],[(8,.map)],[]⟩),([1],⟨[(3,.b (.map 8)),ar 9,ar 10,ar 11],[(8,.map)],[]⟩)]))
def Qq(n:Nat):aU 218 (oI n):=cM (bm n [] [] [] [])
def aa8(n:Nat):aU 219 (B6 n):=bT (bm n [] (bN true [([2],[2003,6,7,8])]) [] (bN true [([0],[2003])]))
def aa9(n:Nat):aU 220 (tS n):=gL (bm n [aQ Qq] [] (bN true [([13000002],[0,4003,5003,6003])]) [])
def aba(n:Nat):aU 168 (kX n):=Zk (bm n [aQ Qq,aQ aa8,aQ aa9] [] (bN true [([29007],[0,1,3,4,7004,10003,16,29]),([69017,69018,69019,69020],[4,7004,10003,16,69]),([126029],[4,7004,10003,126]),([164038],[4,7004,10003,152,164])]) (bN true [([0],[4,7004,10003])]))
def abb(a:lZ->oX)(n:Nat)(a0:D)(aE:D)(a2:D)(a3:D)(b:aU 127 a){r:D}(h:HN a n a0 aE a2 a3=some r):cC bR bS 127 [a0,aE,a2,a3] (·=r):=cV (bm n [lC b,aQ aba] (bB true [([3],⟨[ar 0,ar 1,ar 3,sp 6,sp 8,ba 10 5000,ar 16,ar 17,ar 18],[aW 6 4,aW 8 3,aH 5000 3],[.slot 10 5000 3]⟩)]) [] (bB true [([0],⟨[ar 0,ar 1,ar 3,sp 6,sp 8,ba 10 5000],[aW 6 4,aW 8 3,aH 5000 3],[]⟩)])) b8 cW ak b7 Tryz.func127 (bj (bj (bj (bj le_nil)))) h
def Qr:∀n,aU 127 (nB n)
 |0=>(λ_ _ h=>by cases h)
 |n+1=>by
  have ih:=Qr n;exact(by
   intro a r h;unfold nB at h;split at h
   case h_2=>cases h
   exact abb (nB n) n _ _ _ _ ih h)
def abc(n:Nat):aU 127 (nB n):=(Qr n)
def Qs(n:Nat):aU 82 (mn n):=bT (bm n [] [] [] [])
def abd(n:Nat):aU 128 (B8 n):=cM (bm n [] [] [] [])
def Qt(n:Nat):aU 83 (p9 n):=cM (bm n [aQ abd] [] [] [])
def abe(n:Nat):aU 170 (tU n):=bT (bm n [] [] [] [])
def abf(n:Nat):aU 169 (HQ n):=cM (bm n [] [] [] [])
def abg(n:Nat):aU 129 (rI n):=cM (bm n [aQ abe,aQ abf] [] [] [])
def abh(n:Nat):aU 84 (hz n):=cM (bm n [aQ Qs,aQ Qt,aQ abg] (bN true [([29],[1,2004,6,147,148,149])]) (bN true [([35007],[1,2004,10,35])]) (bN true [([1],[1,2004,6])]))
def abi(a:lZ->oY)(n:Nat)(c:ew sd a):ew sd (oJ a n):=je ⟨dn bR,bS,gh n [aQ Qs,aQ Qt,aQ abh],n,[10000,10001,10002,10003,10004],bD (bB true [([3],⟨[(1,.b (.ptr 10000 0)),(2,.b (.ptr 10001 0)),(3,.b (.ptr 10002 0)),(4,.b (.ptr 10003 0)),(5,.b (.ptr 10004 0)),sp 6,ba 9 5000,ar 17,ar 18,ar 19],[(10000,.box [.fn (.func rH) [] [.ptr 10000 0,.ptr 10001 0,.ptr 10002 0,.ptr 10003 0,.ptr 10004 0]]),aW 10001 1,aW 10002 1,aW 10003 1,aW 10004 1,aW 6 4,aH 5000 1],[.slot 9 5000 1]⟩)]),bD (bB true [([43013],⟨[(2,.b (.ptr 10001 0)),(3,.b (.ptr 10002 0)),(4,.b (.ptr 10003 0)),(5,.b (.ptr 10004 0)),sp 6,ba 9 5000,ar 37,ar 43],[aW 10001 1,aW 10002 1,aW 10003 1,aW 10004 1,aW 6 4,aH 5000 1,(10000,.box [.fn (.func rH) [] [.ptr 10000 0,.ptr 10001 0,.ptr 10002 0,.ptr 10003 0,.ptr 10004 0]])],[]⟩),([48016],⟨[(2,.b (.ptr 10001 0)),(3,.b (.ptr 10002 0)),(4,.b (.ptr 10003 0)),(5,.b (.ptr 10004 0)),sp 6,ba 9 5000,ar 48],[aW 10001 1,aW 10002 1,aW 10003 1,aW 10004 1,aW 6 4,aH 5000 1,(10000,.box [.fn (.func rH) [] [.ptr 10000 0,.ptr 10001 0,.ptr 10002 0,.ptr 10003 0,.ptr 10004 0]])],[]⟩),([58000019],⟨[(5,.b (.ptr 10004 0)),ar 14,ar 15],[aW 10004 1,(10000,.box [.fn (.func rH) [] [.ptr 10000 0,.ptr 10001 0,.ptr 10002 0,.ptr 10003 0,.ptr 10004 0]]),aW 10001 1,aW 10002 1,aW 10003 1],[]⟩)]),bD (bB true [([0],⟨[(2,.b (.ptr 10001 0)),(3,.b (.ptr 10002 0)),(4,.b (.ptr 10003 0)),(5,.b (.ptr 10004 0)),sp 6,ba 9 5000],[aW 10001 1,aW 10002 1,aW 10003 1,aW 10004 1,aW 6 4,aH 5000 1,(10000,.box [.fn (.func rH) [] [.ptr 10000 0,.ptr 10001 0,.ptr 10002 0,.ptr 10003 0,.ptr 10004 0]])],[]⟩)]),dG [],dr [(26,⟨sd,a,6020,[]⟩)],dL [],dF []⟩ b8 cW (aY c ak) b7 Tryz.func81 []
def Qu:∀n,ew sd (oK n)
 |0=>rp (s:=sd) (rv (T:=dn bR) (os:=λ_=>none) Tryz.func81) (λ_=>rfl)|n+1=>by have ih:=Qu n;exact abi (oK n) n ih
def abj(n:Nat):ew sd (oK n):=(Qu n)
def abk(n:Nat)(a0:D)(x1:lZ){r:D}(h:Oi n a0 x1=some r):cC bR bS 36 [a0,.ref x1 0] (·=r):=cV (iO n [] [] [] []) b8 bF ak b7 Tryz.func36 (bj (eY e3 le_nil)) h
def abl(n:Nat):aU 36 (HR n):=by
 intro a r h;unfold HR at h;split at h
 case h_2=>cases h
 split at h
 case h_2=>cases h
 exact abk n _ _ h
def abm(n:Nat)(a0:D)(a:D){r:D}(h:Oj n a0 a=some r):cC bR bS 35 [a0,(D.fn (.func B1) [] [a])] (·=r):=cV (bm n [aQ abl] (bB true [([3],⟨[(1,.b (.fd B1 1)),ba 5 10,ar 12,ar 13],[aH 10 1],[]⟩)]) [] (bB true [([0],⟨[ba 5 10],[aH 10 1],[]⟩)])) b8 cW ak b7 Tryz.func35 (bj (bj le_nil)) h
def abn(n:Nat):aU 35 (HS n):=by
 intro b r h;unfold HS at h;split at h
 case h_2=>cases h
 split at h
 case h_2=>cases h
 rename_i a;obtain rfl:=gB a;exact abm n _ _ h
def abo(n:Nat)(a0:D)(x1:lZ){r:D}(h:Ol n a0 x1=some r):cC bR bS 34 [a0,.ref x1 0] (·=r):=cV ⟨dn bR,bS,gh n [aQ abn],n,[],bD [],bD [],bD [],dG [],dr [],dL [6],dF []⟩ b8 cW ak b7 Tryz.func34 (bj (eY e3 le_nil)) h
def abp(n:Nat):aU 34 (kx n):=by
 intro a r h;unfold kx at h;split at h
 case h_2=>cases h
 split at h
 case h_2=>cases h
 exact abo n _ _ h
def abq(n:Nat)(a0:D)(x1:lZ)(df:lZ){r:D}(h:Om n a0 x1 df=some r):cC bR bS 40 [a0,.ref x1 0,.ref df 0] (·=r):=cV (iO n [] [] [] []) b8 bF ak b7 Tryz.func40 (bj (eY e3 (eY e3 le_nil))) h
def abr(n:Nat):aU 40 (HT n):=by
 intro a r h;unfold HT at h;split at h
 case h_2=>cases h
 split at h
 case h_2=>cases h
 split at h
 case h_2=>cases h
 exact abq n _ _ _ h
def abt(n:Nat)(a0:D)(a:D)(c:D){r:D}(h:On n a0 a c=some r):cC bR bS 35 [a0,(D.fn (.func xn) [] [a,c])] (·=r):=cV (bm n [aQ abr] (bB true [([3],⟨[(1,.b (.fd xn 2)),ba 5 10,ar 12,ar 13],[aH 10 1],[]⟩)]) [] (bB true [([0],⟨[ba 5 10],[aH 10 1],[]⟩)])) b8 cW ak b7 Tryz.func35 (bj (bj le_nil)) h
def abu(n:Nat):aU 35 (Ca n):=by
 intro b r h;unfold Ca at h;split at h
 case h_2=>cases h
 split at h
 case h_2=>cases h
 rename_i a;obtain rfl:=gB a;exact abt n _ _ _ h
def abv(n:Nat)(a0:D)(x1:lZ)(df:lZ){r:D}(h:Oo n a0 x1 df=some r):cC bR bS 41 [a0,.ref x1 0,.ref df 0] (·=r):=cV (iO n [] [] [] []) b8 bF ak b7 Tryz.func41 (bj (eY e3 (eY e3 le_nil))) h
def abw(n:Nat):aU 41 (HU n):=by
 intro a r h;unfold HU at h;split at h
 case h_2=>cases h
 split at h
 case h_2=>cases h
 split at h
 case h_2=>cases h
 exact abv n _ _ _ h
def abx(n:Nat)(a0:D)(a:D)(c:D){r:D}(h:Oq n a0 a c=some r):cC bR bS 35 [a0,(D.fn (.func xo) [] [a,c])] (·=r):=cV (bm n [aQ abw] (bB true [([3],⟨[(1,.b (.fd xo 2)),ba 5 10,ar 12,ar 13],[aH 10 1],[]⟩)]) [] (bB true [([0],⟨[ba 5 10],[aH 10 1],[]⟩)])) b8 cW ak b7 Tryz.func35 (bj (bj le_nil)) h
def aby(n:Nat):aU 35 (Cb n):=by
 intro b r h;unfold Cb at h;split at h
 case h_2=>cases h
 split at h
 case h_2=>cases h
 rename_i a;obtain rfl:=gB a;exact abx n _ _ _ h
def abz(n:Nat)(a0:D)(x1:lZ)(df:lZ){r:D}(h:Ot n a0 x1 df=some r):cC bR bS 42 [a0,.ref x1 0,.ref df 0] (·=r):=cV (iO n [] [] [] []) b8 bF ak b7 Tryz.func42 (bj (eY e3 (eY e3 le_nil))) h
def abA(n:Nat):aU 42 (HV n):=by
 intro a r h;unfold HV at h;split at h
 case h_2=>cases h
 split at h
 case h_2=>cases h
 split at h
 case h_2=>cases h
 exact abz n _ _ _ h
def abB(n:Nat)(a0:D)(a:D)(c:D){r:D}(h:Ou n a0 a c=some r):cC bR bS 35 [a0,(D.fn (.func xp) [] [a,c])] (·=r):=cV (bm n [aQ abA] (bB true [([3],⟨[(1,.b (.fd xp 2)),ba 5 10,ar 12,ar 13],[aH 10 1],[]⟩)]) [] (bB true [([0],⟨[ba 5 10],[aH 10 1],[]⟩)])) b8 cW ak b7 Tryz.func35 (bj (bj le_nil)) h
def abC(n:Nat):aU 35 (Cc n):=by
 intro b r h;unfold Cc at h;split at h
 case h_2=>cases h
 split at h
 case h_2=>cases h
 rename_i a;obtain rfl:=gB a;exact abB n _ _ _ h
def IV(n:Nat):aU 49 (rJ n):=cM (bm n [] [] [] [])
def abD(n:Nat):aU 85 (HW n):=bT (bm n [] [] [] [])
def abE(n:Nat)(a0:D){r:D}(h:HX n a0=some r):cC bR bS 35 [a0,(D.val (.func (.func tO) #[] #[]))] (·=r):=cV (bm n [aQ abD] (bB true [([3],⟨[(1,.b (.wO tO)),ba 5 10,ar 12,ar 13],[aH 10 1],[]⟩)]) [] (bB true [([0],⟨[ba 5 10],[aH 10 1],[]⟩)])) b8 cW ak b7 Tryz.func35 (bj (bj le_nil)) h
def abF(n:Nat):aU 35 (Ce n):=by
 intro b r h;unfold Ce at h;split at h
 case h_2=>cases h
 obtain⟨a,h⟩:=gZ h;obtain rfl:=No a;exact abE n _ h
def IW(n:Nat):aU 43 (qa n):=bT (bm n [aQ abF] [] [] [])
def abG(n:Nat)(a0:D)(x1:lZ){r:D}(h:Cf n a0 x1=some r):cC bR bS 90 [a0,.ref x1 0] (·=r):=cV (iO n [] [] [] []) b8 bF ak b7 Tryz.func90 (bj (eY e3 le_nil)) h
def Qv(n:Nat):aU 90 (qb n):=by
 intro a r h;unfold qb at h;split at h
 case h_2=>cases h
 split at h
 case h_2=>cases h
 exact abG n _ _ h
def abH(n:Nat)(a0:D)(a:D){r:D}(h:HY n a0 a=some r):cC bR bS 91 [a0,(D.fn (.func hc) [] [a])] (·=r):=cV ⟨dn bR,bS,gh n [aQ Qv],n,[],bD (bB true [([4],⟨[ar 0,(1,.b (.fd hc 1)),ba 5 5003,ba 6 13,ar 15,ar 16],[aH 5003 1,aH 13 1],[.slot 5 5003 1]⟩),([9],⟨[ar 0,(1,.b (.fd hc 1)),ba 5 5003,ba 6 13,ba 8 34,ar 15,ar 16],[aH 5003 1,aH 13 1,aH 34 2],[.slot 5 5001 1]⟩)]),bD (bB true [([97000017],⟨[ar 0,(1,.b (.fd hc 1)),ba 5 5003,ba 6 13,ba 8 105,ar 15,ar 16],[aH 5003 1,aH 13 1,aH 105 2],[]⟩)]),bD (bB true [([0],⟨[ba 5 5003],[aH 5003 1],[]⟩),([1],⟨[ar 0,(1,.b (.fd hc 1)),ba 5 5003,ba 6 13,ar 15,ar 16],[aH 5003 1,aH 13 1],[.slot 5 5002 1]⟩),([2],⟨[ar 0,(1,.b (.fd hc 1)),ba 5 5003,ba 6 13,ar 15,ar 16],[aH 5003 1,aH 13 1],[]⟩),([3],⟨[ar 0,(1,.b (.fd hc 1)),ba 5 62,ba 6 13,ba 8 67,ar 15,ar 16],[aH 62 1,aH 13 1,aH 67 2],[.slot 5 5000 1]⟩)]),dG [],dr [],dL [67],dF []⟩ b8 cW ak b7 Tryz.func91 (bj (bj le_nil)) h
def abI(n:Nat):aU 91 (xC n):=by
 intro b r h;unfold xC at h;split at h
 case h_2=>cases h
 split at h
 case h_2=>cases h
 rename_i a;obtain rfl:=gB a;exact abH n _ _ h
def Qw(n:Nat):ew IM (nC n):=je ⟨dn bR,bS,fo [],n,[10000],bD [],bD (bB true [([24000001],⟨[],[(10000,.box [.b (.row 9000),.b (.row 38)]),aH 9000 1,aH 38 1],[]⟩)]),bD [],dG [],dr [],dL [],dF []⟩ b8 bF ak b7 Tryz.func93 []
def abJ(n:Nat):ew P4 (tW n):=je ⟨dn bR,bS,gh n [aQ Qv],n,[10000,10001,10002],bD [],bD (bB true [([6000001],⟨[],[(10000,.box [.fn (.func hc) [] [.cE 0]]),(10001,.box [.b (.ptr 10002 0)]),(10002,.box [.b (.row 6010),.b (.row 6011)]),aH 6010 1,aH 6011 1],[]⟩)]),bD [],dG [],dr [(9,⟨IM,nC n,6010,[]⟩)],dL [],dF []⟩ b8 cW (aY (Qw n) ak) b7 Tryz.func95 []
def abK(n:Nat):ew P5 (xD n):=je ⟨dn bR,bS,fo [],n,[10000,10001,10002],bD (bB true [([1],⟨[(1,.fn (.func N7) [] [.ptr 10000 0,.ptr 10001 0]),ar 6,ar 7,ar 8],[(10000,.box [.fn (.func hc) [] [.cE 0]]),(10001,.box [.b (.ptr 10002 0)]),(10002,.box [.b (.row 9000),.b (.row 9001)]),aH 9000 1,aH 9001 1],[]⟩)]),bD [],bD (bB true [([0],⟨[],[(10000,.box [.fn (.func hc) [] [.cE 0]]),(10001,.box [.b (.ptr 10002 0)]),(10002,.box [.b (.row 9000),.b (.row 9001)]),aH 9000 1,aH 9001 1],[]⟩)]),dG [],dr [(14,⟨P4,tW n,6010,[]⟩)],dL [],dF []⟩ b8 bF (aY (abJ n) ak) b7 Tryz.func94 []
def abL(n:Nat):aU 50 (Ch n):=cM ⟨dn bR,bS,gh n [aQ abI,aQ Qj],n,[],bD (bB true [([7],⟨[sp 5,ar 6,ar 7,sp 8,ba 9 5003,ar 10],[(5,.box [.fn (.func hc) [] [.cE 0]]),(8,.box [.b (.ptr 25 0)]),aH 5003 1,(25,.box [.b (.row 23),.b (.row 5004)]),aH 23 1,aH 5004 1],[.slot 9 5003 1,.box 25 1 5004 1]⟩),([12],⟨[sp 5,ar 6,ar 7,sp 8,ba 9 5003,ar 10,ba 11 5000],[(5,.box [.fn (.func hc) [] [.cE 0]]),(8,.box [.b (.ptr 25 0)]),aH 5003 1,aH 5000 1,(25,.box [.b (.row 6140),.b (.row 6141)]),aH 6140 1,aH 6141 1],[.slot 11 5000 1]⟩)]),bD [],bD (bB true [([0],⟨[ba 9 5003],[aH 5003 1],[]⟩),([1],⟨[sp 5,ar 6,ar 7,sp 8,ba 9 5003,ar 10],[(5,.box [.fn (.func hc) [] [.cE 0]]),(8,.box [.b (.ptr 25 0)]),aH 5003 1,(25,.box [.b (.row 23),.b (.row 5004)]),aH 23 1,aH 5004 1],[.slot 9 5001 1,.box 25 1 5002 1]⟩),([2],⟨[sp 5,ar 6,ar 7,sp 8,ba 9 5003,ar 10,ba 11 5000],[(5,.box [.fn (.func hc) [] [.cE 0]]),(8,.box [.b (.ptr 25 0)]),aH 5003 1,aH 5000 1,(25,.box [.b (.row 6140),.b (.row 6141)]),aH 6140 1,aH 6141 1],[]⟩)]),dG [(11,[0,1,2,3,4]),(14,[0,1,2,3,4,5,6,7])],dr [(48,⟨IM,nC n,6140,[]⟩),(78,⟨P5,xD n,6150,[]⟩),(80,⟨P6,xi n,6160,[]⟩),(86,⟨P7,tL n,6170,[]⟩)],dL [17,40066,83],dF []⟩ (S:=⟨b8,cW,(aY (Qw n) (aY (abK n) (aY (aaT n) (aY (aa4 n) ak)))),b7⟩)
def abM(n:Nat):aU 51 (uc n):=cM (bm n [] (bB true [([3],⟨[ar 1,sp 2,(5,.b (.map 16)),ar 17,ar 18,ar 19],[aW 2 4,(16,.map)],[]⟩),([9],⟨[ar 1,sp 2,(5,.b (.map 16)),ar 8,ar 26,ar 27,ar 28],[aW 2 4,(16,.map)],[]⟩),([12],⟨[ar 1,sp 2,(5,.b (.map 16)),ar 8,ar 26,ar 27,ar 28,ar 36,ar 37,ar 38],[aW 2 4,(16,.map)],[]⟩),([21],kU [1,2004,56,57]),([24],kU [1,2004,13,56,57,60,61,62])]) [] (bB true [([0],⟨[ar 1,sp 2,(5,.b (.map 16))],[aW 2 4,(16,.map)],[]⟩),([2],kU [1,2004,8]),([3,4],⟨[ar 1,sp 2,(5,.b (.map 16)),ar 8,ar 26,ar 27,ar 28],[aW 2 4,(16,.map)],[]⟩),([6,8],kU []),([7],kU [1,2004,56,57])]))
def abN(n:Nat):ew P8 (xG n):=je ⟨dn bR,bS,fo [],n,[],bD [],bD [],bD [],dG [],dr [],dL [],dF []⟩ b8 bF ak b7 Tryz.func49 []
def Qx(n:Nat):aU 52 (xH n):=gL ⟨dn bR,bS,gh n [aQ Qj],n,[],bD (bB true [([4],⟨[ar 1,sp 3,ba 7 6010,ba 8 5001,ba 17 6010,ar 18,ar 19],[aW 3 4,aH 6010 1,aH 5001 1],[.slot 8 5001 1]⟩),([10],⟨[ar 1,ba 7 6010,ba 8 5001,ar 11],[aH 6010 1,aH 5001 1],[]⟩),([13],⟨[ar 1,ba 7 6010,ba 8 5001,ar 11,ar 42,ar 43,ar 44],[aH 6010 1,aH 5001 1],[]⟩)]),bD (bB true [([24000007],⟨[ar 1,sp 3,ba 7 6010,ba 8 28,ba 17 6010,ar 18,ar 19],[aW 3 4,aH 6010 1,aH 28 1],[.slot 8 5000 1]⟩),([58000016],⟨[ar 1,ba 7 6010,ba 8 65,ar 11,ar 42,ar 43,ar 44],[aH 6010 1,aH 65 1],[]⟩)]),bD (bB true [([0],⟨[ar 1,sp 3,ba 7 6010,ba 8 5001],[aW 3 4,aH 6010 1,aH 5001 1],[]⟩),([1],⟨[ar 1,sp 3,ba 7 6010,ba 8 28,ba 17 6010,ar 18,ar 19],[aW 3 4,aH 6010 1,aH 28 1],[]⟩),([2],⟨[ba 7 6010],[aH 6010 1],[]⟩),([3,4],⟨[ar 1,ba 7 6010,ba 8 5001,ar 11],[aH 6010 1,aH 5001 1],[]⟩),([5],⟨[ar 1,ba 7 6010,ba 8 65,ar 11,ar 42,ar 43,ar 44],[aH 6010 1,aH 65 1],[]⟩)]),dG [],dr [(16,⟨P8,xG n,6010,[]⟩)],dL [36],dF []⟩ (S:=⟨b8,cW,(aY (abN n) ak),b7⟩)
def DY(n:Nat):aU 13 (rL n):=cM ⟨dn bR,bS,gh n [aQ IV,aQ abL,aQ abM,aQ Qx],n,[],bD (bB true [([4],⟨[ar 1,sp 2,ba 5 15,ar 18,ar 19,ar 20],[aW 2 4,aH 15 1],[]⟩),([8],⟨[ar 1,sp 2,ba 5 15,ar 18,ar 19,ar 20,ar 27,ar 28,ar 29],[aW 2 4,aH 15 1],[]⟩)]),bD (bB true [([26000007],⟨[ar 1,sp 2,ba 5 15,ar 18,ar 19,ar 20],[aW 2 4,aH 15 1],[]⟩)]),bD (bB true [([0],⟨[ar 1,sp 2,ba 5 15],[aW 2 4,aH 15 1],[]⟩),([1,2],⟨[ar 1,sp 2,ba 5 15,ar 18,ar 19,ar 20],[aW 2 4,aH 15 1],[]⟩)]),dG [],dr [],dL [41],dF []⟩ (S:=⟨b8,cW,ak,b7⟩)
def abO(n:Nat)(a0:D)(x1:lZ)(df:lZ)(a:lZ){r:D}(h:OB n a0 x1 df a=some r):cC bR bS 55 [a0,.ref x1 0,.ref df 0,.ref a 0] (·=r):=cV (iO n [] (bB true [([2],⟨[(2,.b (.cE 0)),(3,.b (.cE 0)),ar 12,ar 13,ar 14],[],[]⟩)]) [] (bN true [([0],[])])) b8 bF ak b7 Tryz.func55 (bj (eY e3 (eY e3 (eY e3 le_nil)))) h
def abP(n:Nat):aU 55 (HZ n):=by
 intro a r h;unfold HZ at h;split at h
 case h_2=>cases h
 split at h
 case h_2=>cases h
 split at h
 case h_2=>cases h
 split at h
 case h_2=>cases h
 exact abO n _ _ _ _ h
def abQ(n:Nat)(a0:D)(a:D)(c:D)(d:D){r:D}(h:OC n a0 a c d=some r):cC bR bS 35 [a0,(D.fn (.func B2) [] [a,c,d])] (·=r):=cV (bm n [aQ abP] (bB true [([3],⟨[(1,.b (.fd B2 3)),ba 5 10,ar 12,ar 13],[aH 10 1],[]⟩)]) [] (bB true [([0],⟨[ba 5 10],[aH 10 1],[]⟩)])) b8 cW ak b7 Tryz.func35 (bj (bj le_nil)) h
def abR(n:Nat):aU 35 (H0 n):=by
 intro b r h;unfold H0 at h;split at h
 case h_2=>cases h
 split at h
 case h_2=>cases h
 rename_i a;obtain rfl:=gB a;exact abQ n _ _ _ _ h
def abS(n:Nat):aU 15 (Ck n):=cM ⟨dn bR,bS,gh n [aQ IV,aQ IW,aQ DY,aQ abR],n,[],bD [],bD [],bD [],dG [],dr [],dL [15],dF []⟩ (S:=⟨b8,cW,ak,b7⟩)
def abT(n:Nat)(a0:D)(x1:lZ)(df:lZ){r:D}(h:H2 n a0 x1 df=some r):cC bR bS 56 [a0,.ref x1 0,.ref df 0] (·=r):=cV (iO n [] [] [] []) b8 bF ak b7 Tryz.func56 (bj (eY e3 (eY e3 le_nil))) h
def abU(n:Nat):aU 56 (Cl n):=by
 intro a r h;unfold Cl at h;split at h
 case h_2=>cases h
 split at h
 case h_2=>cases h
 split at h
 case h_2=>cases h
 exact abT n _ _ _ h
def abV(n:Nat)(a0:D)(a:D)(c:D){r:D}(h:H3 n a0 a c=some r):cC bR bS 35 [a0,(D.fn (.func xt) [] [a,c])] (·=r):=cV (bm n [aQ abU] (bB true [([3],⟨[(1,.b (.fd xt 2)),ba 5 10,ar 12,ar 13],[aH 10 1],[]⟩)]) [] (bB true [([0],⟨[ba 5 10],[aH 10 1],[]⟩)])) b8 cW ak b7 Tryz.func35 (bj (bj le_nil)) h
def abW(n:Nat):aU 35 (xJ n):=by
 intro b r h;unfold xJ at h;split at h
 case h_2=>cases h
 split at h
 case h_2=>cases h
 rename_i a;obtain rfl:=gB a;exact abV n _ _ _ h
def Qy(n:Nat):aU 17 (oL n):=gL ⟨dn bR,bS,gh n [aQ IV,aQ IW,aQ DY,aQ abW,aQ Qx],n,[],bD [],bD [],bD [],dG [],dr [],dL [],dF [(3,[[],[],[5,7]])]⟩ (S:=⟨b8,cW,ak,b7⟩)
def Qz(n:Nat):aU 20 (qd n):=cM (bm n [aQ DY] [] [] [])
def abX(n:Nat)(a0:D)(x1:lZ)(df:lZ){r:D}(h:OF n a0 x1 df=some r):cC bR bS 44 [a0,.ref x1 0,.ref df 0] (·=r):=cV (iO n [] [] [] []) b8 bF ak b7 Tryz.func44 (bj (eY e3 (eY e3 le_nil))) h
def abY(n:Nat):aU 44 (H4 n):=by
 intro a r h;unfold H4 at h;split at h
 case h_2=>cases h
 split at h
 case h_2=>cases h
 split at h
 case h_2=>cases h
 exact abX n _ _ _ h
def abZ(n:Nat)(a0:D)(a:D)(c:D){r:D}(h:OG n a0 a c=some r):cC bR bS 35 [a0,(D.fn (.func xq) [] [a,c])] (·=r):=cV (bm n [aQ abY] (bB true [([3],⟨[(1,.b (.fd xq 2)),ba 5 10,ar 12,ar 13],[aH 10 1],[]⟩)]) [] (bB true [([0],⟨[ba 5 10],[aH 10 1],[]⟩)])) b8 cW ak b7 Tryz.func35 (bj (bj le_nil)) h
def ab0(n:Nat):aU 35 (Cn n):=by
 intro b r h;unfold Cn at h;split at h
 case h_2=>cases h
 split at h
 case h_2=>cases h
 rename_i a;obtain rfl:=gB a;exact abZ n _ _ _ h
def ab1(n:Nat)(a0:D)(x1:lZ)(df:lZ){r:D}(h:OH n a0 x1 df=some r):cC bR bS 45 [a0,.ref x1 0,.ref df 0] (·=r):=cV (iO n [] [] [] []) b8 bF ak b7 Tryz.func45 (bj (eY e3 (eY e3 le_nil))) h
def ab2(n:Nat):aU 45 (H5 n):=by
 intro a r h;unfold H5 at h;split at h
 case h_2=>cases h
 split at h
 case h_2=>cases h
 split at h
 case h_2=>cases h
 exact ab1 n _ _ _ h
def ab3(n:Nat)(a0:D)(a:D)(c:D){r:D}(h:OI n a0 a c=some r):cC bR bS 35 [a0,(D.fn (.func xr) [] [a,c])] (·=r):=cV (bm n [aQ ab2] (bB true [([3],⟨[(1,.b (.fd xr 2)),ba 5 10,ar 12,ar 13],[aH 10 1],[]⟩)]) [] (bB true [([0],⟨[ba 5 10],[aH 10 1],[]⟩)])) b8 cW ak b7 Tryz.func35 (bj (bj le_nil)) h
def ab4(n:Nat):aU 35 (Co n):=by
 intro b r h;unfold Co at h;split at h
 case h_2=>cases h
 split at h
 case h_2=>cases h
 rename_i a;obtain rfl:=gB a;exact ab3 n _ _ _ h
def QA(n:Nat):aU 197 (xK n):=bT (bm n [] [] [] [])
def ab5(n:Nat):aU 232 (Cp n):=bT (bm n [] [] [] [])
def ab6(n:Nat):aU 198 (Cq n):=gL (bm n [aQ ab5,aQ QA] (bN true [([1],[0,1,2])]) [] (bN true [([0],[1])]))
def ab7(n:Nat):aU 200 (H6 n):=s9 (bm n [] [] [] [])
def ab8(n:Nat):aU 199 (xM n):=cM (bm n [] (bN true [([2],[0,1,5])]) [] (bN true [([0],[])]))
def IX(n:Nat):aU 140 (rM n):=bT (bm n [aQ QA,aQ ab6,aQ ab7,aQ ab8] [] [] [])
def ab9(n:Nat):aU 141 (xN n):=bT (bm n [] [] [] [])
def zB(n:Nat):aU 105 (oM n):=bT (bm n [] [] (bN true [([19000007],[3])]) [])
def aca(n:Nat):aU 99 (Cr n):=bT (bm n [aQ IX,aQ ab9,aQ zB] (bN true [([2],[0,4]),([7],[0,4,5])]) [] (bN true [([0],[]),([1,2],[0,4])]))
def acb(n:Nat):aU 142 (Ct n):=bT (bm n [] (bN true [([2],[0,3])]) [] (bN true [([0],[3])]))
def acd(n:Nat):aU 100 (Cv n):=bT (bm n [aQ zB,aQ acb] (bN true [([3],[1008,3,4])]) [] (bN true [([0],[3])]))
def QB(n:Nat):aU 143 (xQ n):=cM (bm n [] (bN true [([2],[1,2008,5])]) [] (bN true [([0],[])]))
def QC(n:Nat):aU 144 (xS n):=cM (bm n [] (bN true [([2],[1,2008,5])]) [] (bN true [([0],[])]))
def ace(n:Nat):aU 241 (Cw n):=cM (bm n [] (bN true [([2],[0,1,5])]) [] (bN true [([0],[])]))
def acf(n:Nat):aU 238 (uh n):=cM (bm n [aQ ace] (bB true [([6],⟨[ar 0,ar 1,ba 5 12,ar 6,ar 7],[aH 12 1],[]⟩)]) (bB true [([28000009],⟨[ar 0,ar 1,ba 5 32,ar 6,ar 7],[aH 32 1],[]⟩),([41000013],⟨[ba 5 45],[aH 45 1],[]⟩)]) (bB true [([0],⟨[ar 1,ba 5 12,ar 6],[aH 12 1],[]⟩)]))
def acg(a:lZ->oX)(n:Nat)(a0:D)(aE:D)(a2:D)(b:aU 221 a){r:D}(h:xU a n a0 aE a2=some r):cC bR bS 221 [a0,aE,a2] (·=r):=cV (bm n [aQ acf,lC b] (bN true [([4],[1,2,3004,7])]) (bN true [([11000002],[1,2,3004])]) (bN true [([0],[2])])) b8 cW ak b7 Tryz.func221 (bj (bj (bj le_nil))) h
def QD:∀n,aU 221 (nD n)
 |0=>(λ_ _ h=>by cases h)
 |n+1=>by
  have ih:=QD n;exact(by
   intro a r h;unfold nD at h;split at h
   case h_2=>cases h
   exact acg (nD n) n _ _ _ ih h)
def ach(n:Nat):aU 221 (nD n):=(QD n)
def IY(n:Nat):aU 172 (ui n):=bT (bm n [aQ ach] [] [] [])
def aci(n:Nat):aU 145 (CA n):=cM (bm n [aQ IY,aQ QC] (bB true [([4],⟨[sp 2,ba 5 15,ba 6 17,ar 7],[aW 2 8,aH 15 1,aH 17 1],[]⟩),([8],⟨[sp 2,ba 5 15,ba 6 17,ar 7,ar 8,ar 10],[aW 2 8,aH 15 1,aH 17 1],[]⟩)]) (bB true [([57000012],⟨[sp 2,ba 5 15,ba 6 64,ar 7,ar 8,ar 10],[aW 2 8,aH 15 1,aH 64 1],[]⟩)]) (bB true [([0],⟨[ba 5 15],[aH 15 1],[]⟩),([1,2],⟨[sp 2,ba 5 15,ba 6 17,ar 7],[aW 2 8,aH 15 1,aH 17 1],[]⟩),([3],⟨[sp 2,ba 5 15,ba 6 64,ar 7,ar 8,ar 10],[aW 2 8,aH 15 1,aH 64 1],[]⟩)]))
def acj(n:Nat):aU 233 (xV n):=bT (bm n [] [] (bN true [([5003,5004,5005],[0,4,5]),([12010],[0,4,12])]) (bN true [([0],[0])]))
def QE(n:Nat):aU 204 (xW n):=cM (bm n [aQ acj] [] (bN true [([22000008,25000010],[2004,5,6,7,8])]) [])
def ack(a:lZ->oX)(n:Nat)(a0:D)(aE:D)(a2:D)(b:aU 174 a){r:D}(h:Ia a n a0 aE a2=some r):cC bR bS 174 [a0,aE,a2] (·=r):=cV (bm n [aQ QE,lC b] (bN true [([8],[1,2,3004,9])]) [] (bN true [([0],[2])])) b8 cW ak b7 Tryz.func174 (bj (bj (bj le_nil))) h
def QF:∀n,aU 174 (oN n)
 |0=>(λ_ _ h=>by cases h)
 |n+1=>by
  have ih:=QF n;exact(by
   intro a r h;unfold oN at h;split at h
   case h_2=>cases h
   exact ack (oN n) n _ _ _ ih h)
def acm(n:Nat):aU 174 (oN n):=(QF n)
def IZ(n:Nat):aU 131 (uj n):=bT (bm n [aQ acm] [] [] [])
def QG(n:Nat):aU 203 (uk n):=cM (bm n [] (bN true [([2],[0,1,5])]) [] (bN true [([0],[])]))
def acn(n:Nat):aU 201 (xZ n):=cM (bm n [aQ IY,aQ QG] (bB true [([4],⟨[ar 1,ba 5 10,ar 6,ar 8],[aH 10 1],[]⟩)]) (bB true [([29000008],⟨[ar 1,ba 5 33,ar 6,ar 8],[aH 33 1],[]⟩)]) (bB true [([0],⟨[ba 5 10],[aH 10 1],[]⟩),([1],⟨[ar 1,ba 5 33,ar 6,ar 8],[aH 33 1],[]⟩)]))
def QH(n:Nat):aU 202 (rP n):=cM (bm n [] (bN true [([2],[0,1,5])]) [] (bN true [([0],[])]))
def aco(a:lZ->oX)(n:Nat)(a0:D)(aE:D)(a2:D)(b:aU 149 a){r:D}(h:CC a n a0 aE a2=some r):cC bR bS 149 [a0,aE,a2] (·=r):=cV ⟨(dn Tryz.prog).s6 [42],bS,fo [(201,xZ n),(202,rP n),(149,a)],n,[],bD (bN true [([3],[1,2,7,8])]),bD (bN true [([24000006],[1,2,7,8])]),bD (bN true [([0],[2]),([1],[1,2,7,8])]),dG [(6,[0,1,2,3,4,5,6,7,12,13,14,15,8,9,10,11,16,17,18,19])],dr [],dL [],dF []⟩ ((tok _).s6 _) (c8 (acn n) (c8 (QH n) (c8 b bF))) ak b7 Tryz.func149 (bj (bj (bj le_nil))) h
def QI:∀n,aU 149 (nE n)
 |0=>(λ_ _ h=>by cases h)
 |n+1=>by
  have ih:=QI n;exact(by
   intro a r h;unfold nE at h;split at h
   case h_2=>cases h
   exact aco (nE n) n _ _ _ ih h)
def QJ(n:Nat):aU 149 (nE n):=(QI n)
def acp(n:Nat):aU 150 (CD n):=cM (bm n [aQ QJ,aQ QH] [] [] [])
def acq(a:lZ->oX)(n:Nat)(a0:D)(aE:D)(a2:D)(a3:D)(b:aU 151 a){r:D}(h:mo a n a0 aE a2 a3=some r):cC bR bS 151 [a0,aE,a2,a3] (·=r):=cV (bm n [aQ QG,lC b,aQ QE] (bB true [([13],⟨[ar 1,ar 2,ar 3,sp 4,sp 8,ba 13 53,ar 14],[aW 4 4,aW 8 4,aH 53 4],[]⟩)]) (bN true [([20000002],[1,2,3,4004,8004])]) (bB true [([0],⟨[ar 3,sp 4,sp 8,ba 13 53],[aW 4 4,aW 8 4,aH 53 4],[]⟩)])) b8 cW ak b7 Tryz.func151 (bj (bj (bj (bj le_nil)))) h
def QK:∀n,aU 151 (nF n)
 |0=>(λ_ _ h=>by cases h)
 |n+1=>by
  have ih:=QK n;exact(by
   intro a r h;unfold nF at h;split at h
   case h_2=>cases h
   exact acq (nF n) n _ _ _ _ ih h)
def acr(n:Nat):aU 151 (nF n):=(QK n)
def DZ(n:Nat):aU 107 (ky n):=cM (bm n [aQ IZ,aQ QJ,aQ acp,aQ acr] (bN true [([6],[1,2004,4004,7,8])]) [] (bN true [([0],[1,2004,4004])]))
def QL(n:Nat):aU 175 (nG n):=cM (bm n [] [] [] [])
def I1(n:Nat):aU 113 (uo n):=cM (bm n [] (bN true [([2],[0,1,5])]) [] (bN true [([0],[])]))
def acs(n:Nat):aU 222 (CE n):=bT (bm n [] (bN true [([2],[0,3])]) [] (bN true [([0],[])]))
def acu(n:Nat):aU 223 (CG n):=cM (bm n [] (bB true [([4],⟨[ba 6 30,ar 7,ar 8,ar 9],[aH 30 1],[]⟩)]) [] (bN true [([0],[7,8])]))
def acv(n:Nat):aU 176 (uq n):=cM (bm n [aQ acs,aQ QL,aQ acu] [] (bN true [([13005,13006,13007,13008],[1,2004,4003,6003,7,12,13]),([25013],[1,2004,4003,6003,7,12,25])]) (bN true [([0],[1,2004,4003,6003,7])]))
def acw(a:lZ->oX)(n:Nat)(a0:D)(aE:D)(a2:D)(b:aU 132 a){r:D}(h:oO a n a0 aE a2=some r):cC bR bS 132 [a0,aE,a2] (·=r):=cV (bm n [aQ QL,aQ I1,lC b,aQ acv] (bB true [([18],⟨[ar 0,ar 2,sp 4,sp 6,ba 9 64,ar 10],[aW 4 4,aW 6 3,aH 64 3],[]⟩)]) (bN true [([27007],[0,2,4004,6003,27])]) (bB true [([1],⟨[sp 4,sp 6,ba 9 64],[aW 4 4,aW 6 3,aH 64 3],[]⟩)])) b8 cW ak b7 Tryz.func132 (bj (bj (bj le_nil))) h
def QM:∀n,aU 132 (jE n)
 |0=>(λ_ _ h=>by cases h)
 |n+1=>by
  have ih:=QM n;exact(by
   intro a r h;unfold jE at h;split at h
   case h_2=>cases h
   exact acw (jE n) n _ _ _ ih h)
def acx(n:Nat):aU 132 (jE n):=(QM n)
def QN(n:Nat):aU 87 (uu n):=gL (bm n [aQ IZ,aQ acx] [] [] [])
def I2(n:Nat):aU 146 (rQ n):=gL (bm n [aQ DZ,aQ QN] [] [] [])
def acy(n:Nat):aU 101 (rS n):=bT (bm n [aQ IX,aQ QB,aQ QC,aQ aci,aQ I2] (bN true [([2],[1008,4]),([9],[1008,5]),([14],[1008,6])]) [] (bN true [([0,2],[1008]),([4],[])]))
def QO(n:Nat):aU 147 (uv n):=gL (bm n [aQ I2] [] [] [])
def acz(n:Nat):aU 102 (qe n):=gL (bm n [aQ QO] (bN true [([2],[1,2,3008,8])]) [] (bN true [([0],[])]))
def acA(n:Nat):aU 103 (yb n):=bT (bm n [aQ QB,aQ I2] (bN true [([2],[1008,4]),([8],[1008,4,5,6])]) (bN true [([69000014],[1008,4,8])]) (bN true [([0],[]),([1],[1008,4]),([2],[1008,4,5])]))
def acB(n:Nat):aU 171 (yc n):=bT (bm n [] [] (bN true [([6005,6006,6007,6008,6009,6010],[3,6]),([14013,14014,14015,14016],[14])]) (bN true [([0],[])]))
def acC(n:Nat):aU 173 (CI n):=bT (bm n [] [] [] [])
def acD(n:Nat):aU 130 (qg n):=bT (bm n [aQ acB,aQ IZ,aQ IY,aQ acC] [] (bN true [([12000004],[1006])]) [])
def acE(a:lZ->oX)(n:Nat)(a0:D)(aE:D)(a2:D)(b:aU 86 a){r:D}(h:Ij a n a0 aE a2=some r):cC bR bS 86 [a0,aE,a2] (·=r):=cV (bm n [aQ acD,lC b] (bN true [([10],[1,2,3006,9])]) [] (bN true [([0],[2])])) b8 cW ak b7 Tryz.func86 (bj (bj (bj le_nil))) h
def QP:∀n,aU 86 (oP n)
 |0=>(λ_ _ h=>by cases h)
 |n+1=>by
  have ih:=QP n;exact(by
   intro a r h;unfold oP at h;split at h
   case h_2=>cases h
   exact acE (oP n) n _ _ _ ih h)
def acF(n:Nat):aU 86 (oP n):=(QP n)
def QQ(n:Nat):aU 46 (yd n):=bT (bm n [aQ acF] [] [] [])
def acG(a:lZ->oX)(n:Nat)(a0:D)(aE:D)(b:aU 148 a){r:D}(h:yf a n a0 aE=some r):cC bR bS 148 [a0,aE] (·=r):=cV (bm n [aQ QO,lC b] (bN true [([4],[2008,3006,5])]) [] (bN true [([0],[])])) b8 cW ak b7 Tryz.func148 (bj (bj le_nil)) h
def QR:∀n,aU 148 (oQ n)
 |0=>(λ_ _ h=>by cases h)
 |n+1=>by
  have ih:=QR n;exact(by
   intro a r h;unfold oQ at h;split at h
   case h_2=>cases h
   exact acG (oQ n) n _ _ ih h)
def acH(n:Nat):aU 148 (oQ n):=(QR n)
def acI(n:Nat):aU 104 (yg n):=bT (bm n [aQ IX,aQ QQ,aQ acH] (bN true [([2],[1008,4]),([7],[1008,4,5])]) (bN true [([50000013],[1008,4,6])]) (bN true [([0],[]),([1,2],[1008,4])]))
def QS(n:Nat):aU 57 (ly n):=bT (bm n [aQ aca,aQ acd,aQ acy,aQ acz,aQ acA,aQ acI] (bB true [([3],⟨[sp 1,sp 2,ba 4 33,ar 5],[aW 1 8,aW 2 2,aH 33 1],[]⟩),([13],kU [1008,2002,6,7,8])]) (bN true [([68018017,75020019,84022021,93024023,100026025,109028027,118000029],[1008,2002,6,7,8])]) (bN true [([0],[1008,2002]),([2],[2002]),([3,4],[1008,2002,6,7,8])]))
def QT(n:Nat):aU 58 (uz n):=cM (bm n [aQ zB] (bN true [([3],[0,1,5,6])]) [] (bN true [([0],[])]))
def acJ(n:Nat):aU 27 (qi n):=cM (bm n [aQ QS,aQ QT] [] [] [])
def acK(n:Nat):aU 106 (lz n):=cM (bm n [aQ DZ] (bB true [([3],⟨[ar 0,ar 1,ba 7 11,ar 8],[aH 11 4],[]⟩)]) [] (bB true [([0],⟨[ba 7 11],[aH 11 4],[]⟩)]))
def acL(a:lZ->oX)(n:Nat)(a0:D)(aE:D)(b:aU 152 a){r:D}(h:nH a n a0 aE=some r):cC bR bS 152 [a0,aE] (·=r):=cV (bm n [aQ DZ,lC b] (bB true [([9],⟨[ar 1,sp 2,sp 4,ba 8 29,ar 9],[aW 2 6,aW 4 6,aH 29 6],[]⟩)]) [] (bB true [([0],⟨[sp 2,sp 4,ba 8 29],[aW 2 6,aW 4 6,aH 29 6],[]⟩)])) b8 cW ak b7 Tryz.func152 (bj (bj le_nil)) h
def QU:∀n,aU 152 (kY n)
 |0=>(λ_ _ h=>by cases h)
 |n+1=>by
  have ih:=QU n;exact(by
   intro a r h;unfold kY at h;split at h
   case h_2=>cases h
   exact acL (kY n) n _ _ ih h)
def acM(n:Nat):aU 152 (kY n):=(QU n)
def acN(n:Nat):aU 108 (uC n):=cM (bm n [aQ QQ,aQ acM] [] [] [])
def QV(n:Nat):aU 59 (yi n):=bT ⟨dn bR,bS,gh n [aQ acK,aQ DZ,aQ acN],n,[],bD (bB true [([11],⟨[sp 1,sp 2,sp 3,sp 5,ar 9],[aW 1 8,aW 2 8,aW 3 2,(5,.box [.b (.d),.b (.d),.b (.d),.b (.d),.b (.row 5000),.b (.d),.b (.d),.b (.d)]),aH 5000 5],[.box 5 4 5000 5]⟩),([26],⟨[sp 1,sp 2,sp 3,sp 5,ar 12],[aW 1 8,aW 2 8,aW 3 2,(5,.box [.b (.d),.b (.d),.b (.d),.b (.d),.b (.row 5000),.b (.d),.b (.d),.b (.row 5001)]),aH 5000 5,aH 5001 7],[.box 5 7 5001 7]⟩)]),bD [],bD (bB true [([0],⟨[sp 1,sp 2,sp 3,sp 5],[aW 1 8,aW 2 8,aW 3 2,(5,.box [.b (.d),.b (.d),.b (.d),.b (.d),.b (.row 5000),.b (.d),.b (.d),.b (.d)]),aH 5000 5],[]⟩),([2],⟨[sp 2,sp 3,sp 5],[aW 2 8,aW 3 2,(5,.box [.b (.d),.b (.d),.b (.d),.b (.d),.b (.row 5000),.b (.d),.b (.d),.b (.row 5001)]),aH 5000 5,aH 5001 7],[]⟩)]),dG [],dr [],dL [20002],dF []⟩ (S:=⟨b8,cW,ak,b7⟩)
def D0(n:Nat):aU 109 (oR n):=bT (bm n [aQ QV] [] [] [])
def acO(n:Nat):aU 153 (uF n):=bT (bm n [aQ zB] (bN true [([3],[1008,4,5]),([8],[1008,4,6])]) [] (bN true [([0],[1008,4]),([2],[4])]))
def acP(n:Nat):aU 110 (CN n):=cM ⟨dn bR,bS,gh n [aQ acO,aQ zB],n,[],bD (bB true [([6],⟨[sp 2,ba 7 26,ar 8],[aW 2 8,aH 26 1],[]⟩),([13],⟨[sp 2,ba 7 26,ar 8,ar 9,ba 10 46,ar 11],[aW 2 8,aH 26 1,aH 46 1],[]⟩),([16],⟨[sp 2,ba 7 26,ar 8,ar 9,ba 10 46,ar 11,ar 12],[aW 2 8,aH 26 1,aH 46 1],[]⟩)]),bD (bB true [([45000010],⟨[sp 2,ba 7 26,ar 8,ar 9],[aW 2 8,aH 26 1],[]⟩)]),bD (bB true [([0],⟨[ba 7 26],[aH 26 1],[]⟩),([1],⟨[sp 2,ba 7 46,ar 8],[aW 2 8,aH 46 1],[]⟩),([2],⟨[sp 2,ar 8,ba 10 46],[aW 2 8,aH 46 1],[]⟩),([3,4],⟨[sp 2,ba 7 26,ar 8,ar 9,ba 10 46,ar 11],[aW 2 8,aH 26 1,aH 46 1],[]⟩)]),dG [],dr [],dL [26,75],dF []⟩ (S:=⟨b8,cW,ak,b7⟩)
def acQ(n:Nat):aU 154 (yo n):=cM (bm n [] (bN true [([4],[1,2008,5])]) [] (bN true [([0],[])]))
def acR(a:lZ->oX)(n:Nat)(a0:D)(b:aU 155 a){r:D}(h:CO a n a0=some r):cC bR bS 155 [a0] (·=r):=cV (bm n [lC b] (bN true [([4],[1004,3])]) [] (bN true [([0],[])])) b8 cW ak b7 Tryz.func155 (bj le_nil) h
def QW:∀n,aU 155 (nI n)
 |0=>(λ_ _ h=>by cases h)
 |n+1=>by
  have ih:=QW n;exact(by
   intro a r h;unfold nI at h;split at h
   case h_2=>cases h
   exact acR (nI n) n _ ih h)
def acS(n:Nat):aU 155 (nI n):=(QW n)
def acT(n:Nat):aU 205 (lA n):=bT (bm n [] [] [] [])
def acU(n:Nat):aU 206 (rU n):=bT (bm n [] [] [] [])
def acV(n:Nat):aU 207 (yq n):=bT (bm n [] [] [] [])
def acW(a:lZ->oX)(n:Nat)(a0:D)(aE:D)(a2:D)(a3:D)(b:aU 156 a){r:D}(h:ik a n a0 aE a2 a3=some r):cC bR bS 156 [a0,aE,a2,a3] (·=r):=cV (bm n [aQ I1,aQ acT,aQ acU,lC b,aQ acV] (bB true [([18],⟨[ar 0,ar 2,ar 3,sp 5,ba 12 55,ar 13,ar 14],[aW 5 4,aH 55 1],[]⟩)]) (bB true [([20003],kU [0,2,3,5004,19,20]),([25006],kU [0,2,3,5004,25]),([34011010],kU [0,10,11]),([88000025],⟨[ar 0,ar 2,ar 3,sp 5,ba 12 80,ar 13,ar 14],[aW 5 4,aH 80 1],[]⟩),([94030029,100032031,107034033,112036035,125039038,136041040,146043042,156045044,166047046,175049048,184053050,209055054,226000056,234000058],kU [17]),([125037],⟨[ba 12 55,ar 17,ar 93,ar 125],[aH 55 1],[]⟩)]) (bB true [([1],⟨[sp 5,ba 12 55,ar 13],[aW 5 4,aH 55 1],[]⟩),([2],⟨[ar 0,ar 2,ar 3,sp 5,ba 12 80,ar 13,ar 14],[aW 5 4,aH 80 1],[]⟩),([3],kU [17])])) b8 cW ak b7 Tryz.func156 (bj (bj (bj (bj le_nil)))) h
def QX:∀n,aU 156 (nJ n)
 |0=>(λ_ _ h=>by cases h)
 |n+1=>by
  have ih:=QX n;exact(by
   intro a r h;unfold nJ at h;split at h
   case h_2=>cases h
   exact acW (nJ n) n _ _ _ _ ih h)
def acX(n:Nat):aU 156 (nJ n):=(QX n)
def QY(n:Nat):aU 112 (mu n):=wZ (bm n [aQ QN,aQ acS,aQ acX] [] [] [])
def D1(n:Nat):aU 114 (qk n):=wZ (bm n [aQ QY] (bN true [([2],[0,1,2,3,9])]) [] (bN true [([0],[])]))
def I3(n:Nat):aU 111 (ql n):=cM (bm n [aQ acQ,aQ D1] [] [] [])
def acY(n:Nat):aU 60 (CQ n):=bT (bm n [aQ D0,aQ acP,aQ I3] (bB true [([5],⟨[sp 3,ba 4 9,ar 5,ar 6],[aW 3 8,aH 9 1],[]⟩)]) (bB true [([23000008],⟨[sp 3,ba 4 30,ar 5,ar 6],[aW 3 8,aH 30 1],[]⟩)]) (bB true [([0],⟨[ba 4 9],[aH 9 1],[]⟩),([1],⟨[sp 3,ba 4 30,ar 5,ar 6],[aW 3 8,aH 30 1],[]⟩)]))
def acZ(n:Nat):aU 61 (rV n):=gL (bm n [aQ D0,aQ I3,aQ QY,aQ I1,aQ D1] (bN true [([5],[1,2,7008,8])]) [] (bN true [([0],[1,2,7008])]))
def ac0(n:Nat):aU 62 (yu n):=cM (bm n [aQ D0,aQ I3,aQ D1] [] [] [])
def ac1(n:Nat):aU 63 (CS n):=cM (bm n [aQ D0,aQ D1] (bB true [([4],⟨[ar 1,sp 5,ba 6 10,ar 7],[aW 5 8,aH 10 1],[]⟩)]) [] (bB true [([0],⟨[ba 6 10],[aH 10 1],[]⟩)]))
def ac2(n:Nat):aU 28 (uK n):=bT ⟨dn bR,bS,gh n [aQ QS,aQ QT,aQ QV,aQ acY,aQ acZ,aQ ac0,aQ ac1],n,[],bD (bB true [([10],⟨[sp 1,sp 2,sp 6,ar 7],[aW 1 8,aW 2 4,(6,.box [.b (.d),.b (.row 5003),.b (.row 5004),.b (.row 5005)]),aH 5003 1,aH 5004 1,aH 5005 1],[.box 6 1 5003 1,.box 6 2 5004 1,.box 6 3 5005 1]⟩),([14],⟨[sp 1,sp 2,sp 6,ar 7,ba 8 5001,ar 9],[aW 1 8,aW 2 4,(6,.box [.b (.d),.b (.row 5003),.b (.row 5004),.b (.row 5005)]),aH 5001 1,aH 5003 1,aH 5004 1,aH 5005 1],[.slot 8 5001 1]⟩)]),bD (bB true [([58000017],⟨[sp 1,sp 2,sp 6,ar 7,ba 8 62,ar 9],[aW 1 8,aW 2 4,(6,.box [.b (.d),.b (.row 5003),.b (.row 5004),.b (.row 5005)]),aH 62 1,aH 5003 1,aH 5004 1,aH 5005 1],[.slot 8 5000 1]⟩),([75000020],⟨[sp 1,sp 2,sp 6,ar 7],[aW 1 8,aW 2 4,(6,.box [.b (.d),.b (.row 67),.b (.row 80),.b (.row 5005)]),aH 67 1,aH 80 1,aH 5005 1],[.box 6 2 5002 1]⟩)]),bD (bB true [([0],⟨[sp 2,sp 6],[aW 2 4,(6,.box [.b (.d),.b (.row 5003),.b (.row 5004),.b (.row 5005)]),aH 5003 1,aH 5004 1,aH 5005 1],[]⟩),([1],⟨[sp 1,sp 2,sp 6,ar 7],[aW 1 8,aW 2 4,(6,.box [.b (.d),.b (.row 67),.b (.row 80),.b (.row 92)]),aH 67 1,aH 80 1,aH 92 1],[]⟩),([2],⟨[sp 1,sp 2,sp 6,ar 7,ba 8 5001],[aW 1 8,aW 2 4,(6,.box [.b (.d),.b (.row 5003),.b (.row 5004),.b (.row 5005)]),aH 5001 1,aH 5003 1,aH 5004 1,aH 5005 1],[]⟩),([3],⟨[sp 1,sp 2,sp 6,ar 7,ba 8 62,ar 9],[aW 1 8,aW 2 4,(6,.box [.b (.d),.b (.row 5003),.b (.row 5004),.b (.row 5005)]),aH 62 1,aH 5003 1,aH 5004 1,aH 5005 1],[]⟩)]),dG [],dr [],dL [66],dF []⟩ (S:=⟨b8,cW,ak,b7⟩)
def QZ(n:Nat):aU 208 (yv n):=bT (bm n [] [] [] [])
def ac3(n:Nat):aU 234 (CT n):=bT (bm n [] [] [] [])
def ac4(n:Nat):aU 210 (CU n):=bT (bm n [aQ QZ,aQ ac3] [] [] [])
def ac5(n:Nat)(a0:D){r:D}(h:It n a0=some r):cC bR bS 209 [a0,(D.val (.func (.func xu) #[] #[]))] (·=r):=cV (bm n [aQ ac4] (bB true [([2],⟨[ar 0,(1,.b (.wO xu)),ar 5],[],[]⟩)]) [] (bN true [([0],[5])])) b8 cW ak b7 Tryz.func209 (bj (bj le_nil)) h
def ac6(n:Nat):aU 209 (yx n):=by
 intro b r h;unfold yx at h;split at h
 case h_2=>cases h
 obtain⟨a,h⟩:=gZ h;obtain rfl:=No a;exact ac5 n _ h
def ac7(n:Nat):aU 235 (yy n):=cM (bm n [] (bN true [([2],[0,1,7,8])]) [] (bN true [([0],[])]))
def ac8(n:Nat):aU 211 (CV n):=cM (bm n [aQ ac7] [] [] [])
def I4(n:Nat):aU 158 (rW n):=bT (bm n [aQ QZ,aQ ac6,aQ ac8] [] [] [])
def ac9(n:Nat)(a0:D)(x1:lZ){r:D}(h:Iw n a0 x1=some r):cC bR bS 157 [a0,.ref x1 0] (·=r):=cV (iO n [] [] [] []) b8 bF ak b7 Tryz.func157 (bj (eY e3 le_nil)) h
def ada(n:Nat):aU 157 (yz n):=by
 intro a r h;unfold yz at h;split at h
 case h_2=>cases h
 split at h
 case h_2=>cases h
 exact ac9 n _ _ h
def adb(n:Nat)(a0:D)(a:D){r:D}(h:Ix n a0 a=some r):cC bR bS 122 [a0,(D.fn (.func nz) [] [a])] (·=r):=cV (bm n [aQ ada] (bB true [([2],⟨[ar 0,(1,.b (.fd nz 1)),ar 7,ar 8],[],[]⟩)]) [] (bN true [([0],[])])) b8 cW ak b7 Tryz.func122 (bj (bj le_nil)) h
def ade(n:Nat):aU 122 (uM n):=by
 intro b r h;unfold uM at h;split at h
 case h_2=>cases h
 split at h
 case h_2=>cases h
 rename_i a;obtain rfl:=gB a;exact adb n _ _ h
def adf(n:Nat)(a0:D)(a:D){r:D}(h:Iy n a0 a=some r):cC bR bS 159 [a0,(D.fn (.func nz) [] [a])] (·=r):=cV (bm n [aQ ade] [] [] []) b8 cW ak b7 Tryz.func159 (bj (bj le_nil)) h
def adg(n:Nat):aU 159 (yA n):=by
 intro b r h;unfold yA at h;split at h
 case h_2=>cases h
 split at h
 case h_2=>cases h
 rename_i a;obtain rfl:=gB a;exact adf n _ _ h
def adh(n:Nat):aU 115 (uN n):=bT (bm n [aQ I4,aQ adg] (bN true [([2],[0,8,9,10])]) [] (bN true [([0],[])]))
def I5(n:Nat):aU 117 (uO n):=bT (bm n [] [] [] [])
def adi(n:Nat):aU 160 (CX n):=bT (bm n [] (bN true [([2],[0,4])]) [] (bN true [([0],[])]))
def adj(n:Nat):aU 116 (yB n):=bT (bm n [aQ I5,aQ adi] (bN true [([3],[3,7,8,9])]) [] (bN true [([0],[3])]))
def adk(n:Nat):aU 285 (yC n):=bT (bm n [] [] [] [])
def adl(n:Nat):aU 278 (yD n):=bT (bm n [] [] [] [])
def adm(n:Nat):aU 274 (mw n):=bT (bm n [] [] [] [])
def adn(n:Nat):aU 270 (yG n):=bT (bm n [] [] [] [])
def ado(n:Nat):aU 265 (yH n):=bT (bm n [] [] [] [])
def adp(n:Nat):aU 258 (yI n):=bT (bm n [] [] [] [])
def adq(n:Nat)(a0:D)(x1:lZ){r:D}(h:CZ n a0 x1=some r):cC bR bS 288 [a0,.ref x1 0] (·=r):=cV (iO n [] [] [] []) b8 bF ak b7 Tryz.func288 (bj (eY e3 le_nil)) h
def adr(n:Nat):aU 288 (C0 n):=by
 intro a r h;unfold C0 at h;split at h
 case h_2=>cases h
 split at h
 case h_2=>cases h
 exact adq n _ _ h
def ads(n:Nat)(a0:D)(a:D){r:D}(h:yK n a0 a=some r):cC bR bS 290 [a0,(D.fn (.func mm) [] [a])] (·=r):=cV (bm n [aQ adr] (bB true [([2],⟨[ar 0,(1,.b (.fd mm 1)),ar 7,ar 8],[],[]⟩)]) [] (bN true [([0],[])])) b8 cW ak b7 Tryz.func290 (bj (bj le_nil)) h
def adt(n:Nat):aU 290 (uP n):=by
 intro b r h;unfold uP at h;split at h
 case h_2=>cases h
 split at h
 case h_2=>cases h
 rename_i a;obtain rfl:=gB a;exact ads n _ _ h
def adu(n:Nat)(a0:D)(a:D){r:D}(h:C1 n a0 a=some r):cC bR bS 287 [a0,(D.fn (.func mm) [] [a])] (·=r):=cV (bm n [aQ adt] [] [] []) b8 cW ak b7 Tryz.func287 (bj (bj le_nil)) h
def adv(n:Nat):aU 287 (uQ n):=by
 intro b r h;unfold uQ at h;split at h
 case h_2=>cases h
 split at h
 case h_2=>cases h
 rename_i a;obtain rfl:=gB a;exact adu n _ _ h
def Q0(n:Nat):ew IN (qm n):=je ⟨dn bR,bS,fo [],n,[],bD (bB true [([2],⟨[ba 0 9000,ar 1,ar 5],[aH 9000 1],[]⟩)]),bD [],bD (bB true [([0],⟨[ba 0 9000,ar 1,ar 5],[aH 9000 1],[]⟩)]),dG [],dr [],dL [],dF []⟩ b8 bF ak b7 Tryz.func167 []
def adw(n:Nat):ew P9 (rZ n):=je ⟨dn bR,bS,fo [],n,[10000,10001],bD [],bD (bB true [([9004003],⟨[],[(10000,.box [.b (.row 6010)]),(10001,.box [.b (.row 9001)]),aH 6010 1,aH 9001 1],[]⟩),([15000005],⟨[],[(10000,.box [.b (.row 9000)]),(10001,.box [.b (.row 6020)]),aH 9000 1,aH 6020 1],[]⟩)]),bD (bB true [([0],⟨[],[(10000,.box [.b (.row 6010)]),(10001,.box [.b (.row 9001)]),aH 6010 1,aH 9001 1],[]⟩)]),dG [],dr [(14,⟨IN,qm n,6010,[]⟩),(20,⟨IN,qm n,6020,[]⟩)],dL [],dF []⟩ b8 bF (aY (Q0 n) (aY (Q0 n) ak)) b7 Tryz.func166 []
def adx(a:lZ->oY)(n:Nat)(b:ew se a):ew se (Iz a n):=je ⟨dn bR,bS,fo [],n,[10000,10001],bD (bB true [([4],⟨[ar 1,(2,.fn (.func N9) [] [.ptr 10000 0,.ptr 10001 0]),ar 15,ar 16,ar 17],[aW 10000 1,aW 10001 1],[]⟩)]),bD [],bD (bB true [([0],⟨[],[aW 10000 1,aW 10001 1],[]⟩)]),dG [],dr [(12,⟨P3,xv n,6010,[]⟩),(25,⟨se,a,6020,[]⟩)],dL [],dF []⟩ b8 bF (aY (aa7 n) (aY b ak)) b7 Tryz.func163 []
def Q1:∀n,ew se (oS n)
 |0=>rp (s:=se) (rv (T:=dn bR) (os:=λ_=>none) Tryz.func163) (λ_=>rfl)|n+1=>by have ih:=Q1 n;exact adx (oS n) n ih
def ady(n:Nat):ew se (oS n):=(Q1 n)
def I6(n:Nat):aU 125 (qn n):=bT ⟨dn bR,bS,fo [],n,[],bD [],bD [],bD [],dG [],dr [(7,⟨se,oS n,6010,[]⟩)],dL [],dF []⟩ (S:=⟨b8,bF,(aY (ady n) ak),b7⟩)
def adz(a:lZ->oY)(n:Nat)(c:ew sf a):ew sf (IA a n):=je ⟨dn bR,bS,fo [],n,[10000,10001],bD (bB true [([4],⟨[ar 1,(2,.fn (.func Oa) [] [.ptr 10000 0,.ptr 10001 0]),ar 15,ar 16,ar 17],[(10000,.box [.b (.row 6010)]),(10001,.box [.b (.row 6011)]),aH 6010 1,aH 6011 1],[]⟩)]),bD [],bD (bB true [([0],⟨[],[(10000,.box [.b (.row 6010)]),(10001,.box [.b (.row 6011)]),aH 6010 1,aH 6011 1],[]⟩)]),dG [],dr [(12,⟨P9,rZ n,6010,[]⟩),(25,⟨sf,a,6020,[]⟩)],dL [],dF []⟩ b8 bF (aY (adw n) (aY c ak)) b7 Tryz.func163 []
def Q2:∀n,ew sf (oT n)
 |0=>rp (s:=sf) (rv (T:=dn bR) (os:=λ_=>none) Tryz.func163) (λ_=>rfl)|n+1=>by have ih:=Q2 n;exact adz (oT n) n ih
def adA(n:Nat):ew sf (oT n):=(Q2 n)
def D2(n:Nat):aU 126 (qo n):=bT ⟨dn bR,bS,fo [],n,[],bD [],bD [],bD [],dG [(2,[0,1,2,3])],dr [(6,⟨sf,oT n,6010,[.box 3 0 5900 1,.box 2 0 5901 1]⟩)],dL [],dF []⟩ (S:=⟨b8,bF,(aY (adA n) ak),b7⟩)
def adB(n:Nat):aU 77 (uR n):=bT (bm n [aQ I6,aQ D2] [] [] [])
def adC(n:Nat):aU 78 (C5 n):=bT (bm n [] [] (bN true [([6005,6006,6007,6008],[3,6]),([12011,12012,12013,12014,12015,12016],[12])]) (bN true [([0],[])]))
def adD(n:Nat):ew Qa (yM n):=je ⟨dn bR,bS,gh n [aQ adB,aQ adC],n,[10000,10001],bD [],bD (bB true [([40007006,43009008,46011010,50013012,65000014],⟨[(3,.b (.ptr 10001 0))],[aW 10001 1,aW 10000 1],[]⟩)]),bD (bB true [([0],⟨[(3,.b (.ptr 10001 0))],[aW 10001 1,aW 10000 1],[]⟩)]),dG [],dr [],dL [],dF []⟩ b8 cW ak b7 Tryz.func76 []
def adE(a:lZ->oY)(n:Nat)(b:ew sg a):ew sg (IB a n):=je ⟨dn bR,bS,fo [],n,[10000,10001],bD (bB true [([4],⟨[ar 1,(2,.fn (.func N6) [] [.ptr 10000 0,.ptr 10001 0]),ar 15,ar 16,ar 17],[aW 10000 1,aW 10001 1],[]⟩)]),bD [],bD (bB true [([0],⟨[],[aW 10000 1,aW 10001 1],[]⟩)]),dG [],dr [(12,⟨Qa,yM n,6010,[]⟩),(25,⟨sg,a,6020,[]⟩)],dL [],dF []⟩ b8 bF (aY (adD n) (aY b ak)) b7 Tryz.func75 []
def Q3:∀n,ew sg (oU n)
 |0=>rp (s:=sg) (rv (T:=dn bR) (os:=λ_=>none) Tryz.func75) (λ_=>rfl)|n+1=>by have ih:=Q3 n;exact adE (oU n) n ih
def adF(n:Nat):ew sg (oU n):=(Q3 n)
def zC(n:Nat):aU 32 (oV n):=bT ⟨dn bR,bS,fo [],n,[],bD [],bD [],bD [],dG [],dr [(7,⟨sg,oU n,6010,[]⟩)],dL [],dF []⟩ (S:=⟨b8,bF,(aY (adF n) ak),b7⟩)
def I7(n:Nat):aU 212 (r0 n):=bT (bm n [] (bB true [([3],⟨[(3,.b (.map 8)),ar 9,ar 10,ar 11],[(8,.map)],[]⟩)]) (bB true [([24000007],⟨[(3,.b (.map 8)),ar 9,ar 10,ar 11],[(8,.map)],[]⟩)]) (bB true [([0],⟨[(3,.b (.map 8))],[(8,.map)],[]⟩),([1],⟨[(3,.b (.map 8)),ar 9,ar 10,ar 11],[(8,.map)],[]⟩)]))
def adG(n:Nat):aU 213 (yP n):=bT ⟨dn bR,bS,gh n [aQ I7,aQ D2],n,[],bD (bB true [([4],⟨[ar 3,ba 4 5002,ar 16,ar 17,ar 18],[aH 5002 1],[.slot 4 5002 1]⟩),([9],⟨[ar 3,ba 4 5002,ba 7 5001,ar 16,ar 17,ar 18,ar 28,ar 29,ar 30],[aH 5002 1,aH 5001 1],[.slot 7 5001 1]⟩)]),bD (bB true [([40000013],⟨[ar 3,ba 4 5002,ba 7 44,ar 16,ar 17,ar 18,ar 28,ar 29,ar 30],[aH 5002 1,aH 44 1],[.slot 7 5000 1]⟩)]),bD (bB true [([0],⟨[ba 4 5002],[aH 5002 1],[]⟩),([1],⟨[ar 3,ba 4 49,ar 16,ar 17,ar 18],[aH 49 1],[]⟩),([2],⟨[ar 3,ba 4 5002,ba 7 5001,ar 16,ar 17,ar 18],[aH 5002 1,aH 5001 1],[]⟩),([3],⟨[ar 3,ba 4 5002,ba 7 44,ar 16,ar 17,ar 18,ar 28,ar 29,ar 30],[aH 5002 1,aH 44 1],[]⟩)]),dG [],dr [],dL [48],dF []⟩ (S:=⟨b8,cW,ak,b7⟩)
def adH(a:lZ->oY)(n:Nat)(c:ew qt a):ew qt (C8 a n):=je ⟨dn bR,bS,fo [],n,[10000,10001,10002],bD (bB true [([1],⟨[(2,.b (.ptr 10001 0)),(3,.b (.ptr 10002 0)),ar 10,ar 11,ar 12],[(10001,.box [.b (.map 9000)]),(10002,.box [.fn (.func p7) [] [.ptr 10000 0,.ptr 10001 0,.ptr 10002 0]]),aW 10000 1,(9000,.map)],[]⟩)]),bD (bB true [([19000004],⟨[(2,.b (.ptr 10001 0)),(3,.b (.ptr 10002 0)),ar 10,ar 11,ar 12],[(10001,.box [.b (.map 6010)]),(10002,.box [.fn (.func p7) [] [.ptr 10000 0,.ptr 10001 0,.ptr 10002 0]]),aW 10000 1,(6010,.map)],[]⟩)]),bD (bB true [([0],⟨[],[aW 10000 1,(10001,.box [.b (.map 9000)]),(10002,.box [.fn (.func p7) [] [.ptr 10000 0,.ptr 10001 0,.ptr 10002 0]]),(9000,.map)],[]⟩),([1],⟨[(2,.b (.ptr 10001 0)),(3,.b (.ptr 10002 0)),ar 10,ar 11,ar 12],[(10001,.box [.b (.map 6010)]),(10002,.box [.fn (.func p7) [] [.ptr 10000 0,.ptr 10001 0,.ptr 10002 0]]),aW 10000 1,(6010,.map)],[]⟩)]),dG [],dr [(24,⟨qt,a,6010,[]⟩)],dL [],dF []⟩ b8 bF (aY c ak) b7 Tryz.func236 []
def Q4:∀n,ew qt (mx n)
 |0=>rp (s:=qt) (rv (T:=dn bR) (os:=λ_=>none) Tryz.func236) (λ_=>rfl)|n+1=>by have ih:=Q4 n;exact adH (mx n) n ih
def Q5(n:Nat):ew qt (mx n):=(Q4 n)
def adI(n:Nat):ew Qb (yR n):=je ⟨dn bR,bS,fo [],n,[],bD (bB true [([5],⟨[sp 5,sp 6,ar 11,ar 12,ar 13],[(5,.box [.b (.map 9)]),(6,.box [.fn (.func p7) [] [.ptr 2 0,.ptr 5 0,.ptr 6 0]]),(9,.map),aW 2 1],[]⟩)]),bD [],bD (bB true [([0],⟨[sp 5],[(5,.box [.b (.map 9)]),(9,.map)],[]⟩)]),dG [],dr [(19,⟨qt,mx n,6010,[]⟩)],dL [],dF []⟩ b8 bF (aY (Q5 n) ak) b7 Tryz.func214 []
def adJ(n:Nat):aU 214 (uS n):=cM ⟨dn bR,bS,fo [],n,[],bD (bB true [([5],⟨[sp 5,sp 6,ar 11,ar 12,ar 13],[(5,.box [.b (.map 9)]),(6,.box [.fn (.func p7) [] [.ptr 2 0,.ptr 5 0,.ptr 6 0]]),(9,.map),aW 2 1],[]⟩)]),bD [],bD (bB true [([0],⟨[sp 5],[(5,.box [.b (.map 9)]),(9,.map)],[]⟩)]),dG [],dr [(19,⟨qt,mx n,6010,[]⟩)],dL [],dF []⟩ (S:=⟨b8,bF,(aY (Q5 n) ak),b7⟩)
def adK(a:lZ->oY)(n:Nat)(c:ew sh a):ew sh (yU a n):=je ⟨dn bR,bS,fo [],n,[10000,10001,10002,10003],bD (bB true [([1],⟨[ar 1,(2,.b (.ptr 10000 0)),(3,.b (.ptr 10001 0)),(4,.b (.ptr 10002 0)),(5,.b (.ptr 10003 0)),sp 6,sp 8],[aW 10000 1,aW 10001 1,aW 10002 1,(10003,.box [.fn (.func p8) [] [.ptr 10000 0,.ptr 10001 0,.ptr 10002 0,.ptr 10003 0]]),aW 6 4,aW 8 4],[]⟩),([10],⟨[ar 1,(4,.b (.ptr 10002 0)),(5,.b (.ptr 10003 0)),sp 6,sp 8,ba 11 41,ar 43,ar 44,ar 45],[aW 10002 1,(10003,.box [.fn (.func p8) [] [.ptr 10000 0,.ptr 10001 0,.ptr 10002 0,.ptr 10003 0]]),aW 6 4,aW 8 4,aH 41 4,aW 10000 1,aW 10001 1],[]⟩)]),bD (bB true [([55000013],⟨[ar 1,(4,.b (.ptr 10002 0)),(5,.b (.ptr 10003 0)),sp 6,sp 8,ba 11 41,ar 43,ar 44,ar 45],[aW 10002 1,(10003,.box [.fn (.func p8) [] [.ptr 10000 0,.ptr 10001 0,.ptr 10002 0,.ptr 10003 0]]),aW 6 4,aW 8 4,aH 41 4,aW 10000 1,aW 10001 1],[]⟩)]),bD (bB true [([0],⟨[ar 1,(4,.b (.ptr 10002 0)),(5,.b (.ptr 10003 0)),sp 6,sp 8],[aW 10002 1,(10003,.box [.fn (.func p8) [] [.ptr 10000 0,.ptr 10001 0,.ptr 10002 0,.ptr 10003 0]]),aW 6 4,aW 8 4,aW 10000 1,aW 10001 1],[]⟩),([2],⟨[sp 6,sp 8,ba 11 41],[aW 6 4,aW 8 4,aH 41 4,aW 10000 1,aW 10001 1,aW 10002 1,(10003,.box [.fn (.func p8) [] [.ptr 10000 0,.ptr 10001 0,.ptr 10002 0,.ptr 10003 0]])],[]⟩),([3],⟨[ar 1,(4,.b (.ptr 10002 0)),(5,.b (.ptr 10003 0)),sp 6,sp 8,ba 11 41,ar 43,ar 44,ar 45],[aW 10002 1,(10003,.box [.fn (.func p8) [] [.ptr 10000 0,.ptr 10001 0,.ptr 10002 0,.ptr 10003 0]]),aW 6 4,aW 8 4,aH 41 4,aW 10000 1,aW 10001 1],[]⟩)]),dG [],dr [(62,⟨sh,a,6010,[]⟩)],dL [20066],dF []⟩ b8 bF (aY c ak) b7 Tryz.func237 []
def Q6:∀n,ew sh (nK n)
 |0=>rp (s:=sh) (rv (T:=dn bR) (os:=λ_=>none) Tryz.func237) (λ_=>rfl)|n+1=>by have ih:=Q6 n;exact adK (nK n) n ih
def adL(n:Nat):ew sh (nK n):=(Q6 n)
def adM(n:Nat):aU 215 (yV n):=cM ⟨dn bR,bS,gh n [aQ I7],n,[],bD [],bD [],bD [],dG [],dr [(13,⟨sh,nK n,6010,[]⟩)],dL [],dF []⟩ (S:=⟨b8,cW,(aY (adL n) ak),b7⟩)
def D3(n:Nat):aU 161 (kz n):=cM ⟨(dn Tryz.prog).s6 [77],bS,fo [(125,qn n),(212,r0 n),(213,yP n),(126,qo n),(214,uS n),(215,yV n)],n,[],bD (bB true [([8],⟨[ar 1,sp 2,sp 4,ar 7,ar 8,ba 9 5001,ar 36,ar 37,ar 38],[aW 2 4,aW 4 4,aH 5001 1],[.slot 9 5001 1]⟩),([16],⟨[ar 1,sp 2,sp 4,ar 8,(16,.b (.map 6010)),ar 57,ar 58,ar 59],[aW 2 4,aW 4 4,(6010,.map)],[]⟩),([21],⟨[ar 1,sp 2,sp 4,ar 8,(16,.b (.map 6010)),ar 67,ar 68],[aW 2 4,aW 4 4,(6010,.map)],[]⟩)]),bD (bB true [([48000012],⟨[ar 1,sp 2,sp 4,ar 7,ar 8,ba 9 52,ar 36,ar 37,ar 38],[aW 2 4,aW 4 4,aH 52 1],[.slot 9 5000 1]⟩)]),bD (bB true [([0],⟨[ar 1,sp 2,sp 4,ar 8,ba 9 5001],[aW 2 4,aW 4 4,aH 5001 1],[]⟩),([1],⟨[ar 1,sp 2,sp 4,ar 7,ar 8,ba 9 52,ar 36,ar 37,ar 38],[aW 2 4,aW 4 4,aH 52 1],[]⟩),([2],⟨[ar 1,sp 2,sp 4,ar 8,(16,.b (.map 6010))],[aW 2 4,aW 4 4,(6010,.map)],[]⟩),([4],kU [1,2004,4004])]),dG [],dr [(56,⟨Qb,yR n,6010,[]⟩)],dL [],dF [(14,[[5001],[],[]])]⟩ (S:=⟨(tok _).s6 _,(c8 (I6 n) (c8 (I7 n) (c8 (adG n) (c8 (D2 n) (c8 (adJ n) (c8 (adM n) bF)))))),(aY (adI n) ak),b7⟩)
def I8(n:Nat):aU 79 (r2 n):=gL (bm n [aQ I6,aQ Qp,aQ abc] [] [] [])
def I9(n:Nat):aU 272 (r3 n):=gL (bm n [aQ D3,aQ I8] [] [] [])
def Q7(n:Nat):aU 276 (uV n):=gL (bm n [aQ I9] [] [] [])
def adN(a:lZ->oX)(n:Nat)(a0:D)(aE:D)(b:aU 289 a){r:D}(h:yY a n a0 aE=some r):cC bR bS 289 [a0,aE] (·=r):=cV (bm n [aQ Q7,lC b] (bN true [([4],[2008,16,17,18])]) [] (bN true [([0],[])])) b8 cW ak b7 Tryz.func289 (bj (bj le_nil)) h
def Q8:∀n,aU 289 (oW n)
 |0=>(λ_ _ h=>by cases h)
 |n+1=>by
  have ih:=Q8 n;exact(by
   intro a r h;unfold oW at h;split at h
   case h_2=>cases h
   exact adN (oW n) n _ _ ih h)
def adO(n:Nat):aU 289 (oW n):=(Q8 n)
def adP(n:Nat):aU 286 (o0 n):=gL (bm n [aQ I4,aQ adv,aQ zC,aQ adO] [] [] [])
def adQ(n:Nat)(a0:D)(x1:lZ){r:D}(h:Dc n a0 x1=some r):cC bR bS 280 [a0,.ref x1 0] (·=r):=cV (iO n [] [] [] []) b8 bF ak b7 Tryz.func280 (bj (eY e3 le_nil)) h
def adR(n:Nat):aU 280 (Dd n):=by
 intro a r h;unfold Dd at h;split at h
 case h_2=>cases h
 split at h
 case h_2=>cases h
 exact adQ n _ _ h
def adS(n:Nat)(a0:D)(a:D){r:D}(h:y1 n a0 a=some r):cC bR bS 122 [a0,(D.fn (.func tR) [] [a])] (·=r):=cV (bm n [aQ adR] (bB true [([2],⟨[ar 0,(1,.b (.fd tR 1)),ar 7,ar 8],[],[]⟩)]) [] (bN true [([0],[])])) b8 cW ak b7 Tryz.func122 (bj (bj le_nil)) h
def adT(n:Nat):aU 122 (uW n):=by
 intro b r h;unfold uW at h;split at h
 case h_2=>cases h
 split at h
 case h_2=>cases h
 rename_i a;obtain rfl:=gB a;exact adS n _ _ h
def adU(n:Nat)(a0:D)(x1:lZ){r:D}(h:De n a0 x1=some r):cC bR bS 282 [a0,.ref x1 0] (·=r):=cV (iO n [] [] [] []) b8 bF ak b7 Tryz.func282 (bj (eY e3 le_nil)) h
def adV(n:Nat):aU 282 (Df n):=by
 intro a r h;unfold Df at h;split at h
 case h_2=>cases h
 split at h
 case h_2=>cases h
 exact adU n _ _ h
def adW(n:Nat)(a0:D)(a:D){r:D}(h:y3 n a0 a=some r):cC bR bS 283 [a0,(D.fn (.func ml) [] [a])] (·=r):=cV (bm n [aQ adV] (bB true [([2],⟨[ar 0,(1,.b (.fd ml 1)),ar 7,ar 8],[],[]⟩)]) [] (bN true [([0],[])])) b8 cW ak b7 Tryz.func283 (bj (bj le_nil)) h
def adX(n:Nat):aU 283 (uX n):=by
 intro b r h;unfold uX at h;split at h
 case h_2=>cases h
 split at h
 case h_2=>cases h
 rename_i a;obtain rfl:=gB a;exact adW n _ _ h
def adY(n:Nat)(a0:D)(a:D){r:D}(h:Dg n a0 a=some r):cC bR bS 281 [a0,(D.fn (.func ml) [] [a])] (·=r):=cV (bm n [aQ adX] [] [] []) b8 cW ak b7 Tryz.func281 (bj (bj le_nil)) h
def adZ(n:Nat):aU 281 (uY n):=by
 intro b r h;unfold uY at h;split at h
 case h_2=>cases h
 split at h
 case h_2=>cases h
 rename_i a;obtain rfl:=gB a;exact adY n _ _ h
def ad0(n:Nat):aU 279 (qp n):=gL (bm n [aQ adT,aQ adZ,aQ I9] [] [] [])
def ad1(n:Nat):aU 275 (u0 n):=gL (bm n [aQ Q7] [] [] [])
def ad2(n:Nat):aU 271 (u1 n):=gL (bm n [aQ I9] [] [] [])
def ad3(n:Nat)(a0:D)(x1:lZ){r:D}(h:Di n a0 x1=some r):cC bR bS 268 [a0,.ref x1 0] (·=r):=cV (iO n [] [] [] []) b8 bF ak b7 Tryz.func268 (bj (eY e3 le_nil)) h
def ad4(n:Nat):aU 268 (Dj n):=by
 intro a r h;unfold Dj at h;split at h
 case h_2=>cases h
 split at h
 case h_2=>cases h
 exact ad3 n _ _ h
def ad5(n:Nat)(a0:D)(a:D){r:D}(h:y5 n a0 a=some r):cC bR bS 267 [a0,(D.fn (.func tQ) [] [a])] (·=r):=cV (bm n [aQ ad4] (bB true [([2],⟨[ar 0,(1,.b (.fd tQ 1)),ar 7,ar 8],[],[]⟩)]) [] (bN true [([0],[])])) b8 cW ak b7 Tryz.func267 (bj (bj le_nil)) h
def ad6(n:Nat):aU 267 (u2 n):=by
 intro b r h;unfold u2 at h;split at h
 case h_2=>cases h
 split at h
 case h_2=>cases h
 rename_i a;obtain rfl:=gB a;exact ad5 n _ _ h
def ad7(n:Nat):aU 266 (u3 n):=gL ⟨dn bR,bS,gh n [aQ D2,aQ ad6],n,[],bD (bB true [([3],⟨[ar 0,ar 2,ba 7 16,ba 8 18],[aH 16 1,aH 18 1],[]⟩),([7],⟨[ar 0,ar 2,ba 7 16,ba 8 18,ar 35,ar 36,ar 37],[aH 16 1,aH 18 1],[]⟩)]),bD (bB true [([52000011],⟨[ar 0,ar 2,ba 7 16,ba 8 59,ar 35,ar 36,ar 37],[aH 16 1,aH 59 1],[]⟩)]),bD (bB true [([0],⟨[ar 2,ba 7 16],[aH 16 1],[]⟩),([1,2],⟨[ar 0,ar 2,ba 7 16,ba 8 18],[aH 16 1,aH 18 1],[]⟩),([3],⟨[ar 0,ar 2,ba 7 16,ba 8 59,ar 35,ar 36,ar 37],[aH 16 1,aH 59 1],[]⟩)]),dG [],dr [],dL [23],dF []⟩ (S:=⟨b8,cW,ak,b7⟩)
def ad8(n:Nat)(a0:D)(x1:lZ){r:D}(h:Dl n a0 x1=some r):cC bR bS 260 [a0,.ref x1 0] (·=r):=cV (iO n [] [] [] []) b8 bF ak b7 Tryz.func260 (bj (eY e3 le_nil)) h
def ad9(n:Nat):aU 260 (Dm n):=by
 intro a r h;unfold Dm at h;split at h
 case h_2=>cases h
 split at h
 case h_2=>cases h
 exact ad8 n _ _ h
def aea(n:Nat)(a0:D)(a:D){r:D}(h:y7 n a0 a=some r):cC bR bS 122 [a0,(D.fn (.func mi) [] [a])] (·=r):=cV (bm n [aQ ad9] (bB true [([2],⟨[ar 0,(1,.b (.fd mi 1)),ar 7,ar 8],[],[]⟩)]) [] (bN true [([0],[])])) b8 cW ak b7 Tryz.func122 (bj (bj le_nil)) h
def aeb(n:Nat):aU 122 (u4 n):=by
 intro b r h;unfold u4 at h;split at h
 case h_2=>cases h
 split at h
 case h_2=>cases h
 rename_i a;obtain rfl:=gB a;exact aea n _ _ h
def aec(n:Nat)(a0:D)(a:D){r:D}(h:Dn n a0 a=some r):cC bR bS 159 [a0,(D.fn (.func mi) [] [a])] (·=r):=cV (bm n [aQ aeb] [] [] []) b8 cW ak b7 Tryz.func159 (bj (bj le_nil)) h
def aed(n:Nat):aU 159 (u5 n):=by
 intro b r h;unfold u5 at h;split at h
 case h_2=>cases h
 split at h
 case h_2=>cases h
 rename_i a;obtain rfl:=gB a;exact aec n _ _ h
def aee(n:Nat)(a0:D)(x1:lZ){r:D}(h:Dp n a0 x1=some r):cC bR bS 262 [a0,.ref x1 0] (·=r):=cV (iO n [] [] [] []) b8 bF ak b7 Tryz.func262 (bj (eY e3 le_nil)) h
def aef(n:Nat):aU 262 (Dq n):=by
 intro a r h;unfold Dq at h;split at h
 case h_2=>cases h
 split at h
 case h_2=>cases h
 exact aee n _ _ h
def aeg(n:Nat)(a0:D)(a:D){r:D}(h:y9 n a0 a=some r):cC bR bS 263 [a0,(D.fn (.func mj) [] [a])] (·=r):=cV (bm n [aQ aef] (bB true [([2],⟨[ar 0,(1,.b (.fd mj 1)),ar 7,ar 8],[],[]⟩)]) [] (bN true [([0],[])])) b8 cW ak b7 Tryz.func263 (bj (bj le_nil)) h
def aeh(n:Nat):aU 263 (u6 n):=by
 intro b r h;unfold u6 at h;split at h
 case h_2=>cases h
 split at h
 case h_2=>cases h
 rename_i a;obtain rfl:=gB a;exact aeg n _ _ h
def aei(n:Nat)(a0:D)(a:D){r:D}(h:Dr n a0 a=some r):cC bR bS 261 [a0,(D.fn (.func mj) [] [a])] (·=r):=cV (bm n [aQ aeh] [] [] []) b8 cW ak b7 Tryz.func261 (bj (bj le_nil)) h
def aej(n:Nat):aU 261 (u7 n):=by
 intro b r h;unfold u7 at h;split at h
 case h_2=>cases h
 split at h
 case h_2=>cases h
 rename_i a;obtain rfl:=gB a;exact aei n _ _ h
def aek(n:Nat):aU 259 (o1 n):=gL (bm n [aQ I4,aQ aed,aQ aej] [] (bN true [([17005],[17])]) [])
def ael(n:Nat):aU 284 (Ds n):=bT (bm n [] [] [] [])
def aem(n:Nat):aU 277 (Dt n):=bT (bm n [] [] [] [])
def aen(n:Nat):aU 273 (Du n):=bT (bm n [] [] [] [])
def aeo(n:Nat):aU 269 (Dv n):=bT (bm n [] [] [] [])
def aep(n:Nat):aU 264 (Dw n):=bT (bm n [] [] [] [])
def aeq(n:Nat):aU 257 (Dx n):=bT (bm n [] [] [] [])
def aer(n:Nat):aU 64 (kA n):=bT ⟨((dn Tryz.prog).A3 [166,167,168,170,171,172]),bS,fo [(115,uN n),(116,yB n),(285,yC n),(278,yD n),(274,mw n),(270,yG n),(265,yH n),(258,yI n),(286,o0 n),(279,qp n),(275,u0 n),(271,u1 n),(266,u3 n),(259,o1 n),(284,Ds n),(277,Dt n),(273,Du n),(269,Dv n),(264,Dw n),(257,Dx n)],n,[],bD (bN true [([2],[1008,2002,36,37]),([13],[1008,2002,93,94]),([16],[1008,2002,9,93,94,98,99])]),bD [],bD (bN true [([0],[1008,2002]),([2],[2002]),([3,4],[1008,2002,93,94])]),dG [],dr [],dL [],dF []⟩ (S:=⟨(tok _).A3 _,(c8 (adh n) (c8 (adj n) (c8 (adk n) (c8 (adl n) (c8 (adm n) (c8 (adn n) (c8 (ado n) (c8 (adp n) (c8 (adP n) (c8 (ad0 n) (c8 (ad1 n) (c8 (ad2 n) (c8 (ad7 n) (c8 (aek n) (c8 (ael n) (c8 (aem n) (c8 (aen n) (c8 (aeo n) (c8 (aep n) (c8 (aeq n) bF)))))))))))))))))))),ak,b7⟩)
def aes(n:Nat):aU 65 (u9 n):=bT (bm n [aQ I5] (bN true [([3],[4,5,10,11,12])]) (bN true [([24000008],[4,5,10,11,12])]) (bN true [([0],[4,5]),([1],[4,5,10,11,12])]))
def aet(n:Nat):aU 118 (lB n):=cM (bm n [aQ D3] (bB true [([2],⟨[ar 1,ba 4 5000,ar 11,ar 12,ar 13],[aH 5000 4],[.slot 4 5000 4]⟩)]) [] (bB true [([0],⟨[ba 4 5000],[aH 5000 4],[]⟩)]))
def aeu(n:Nat):aU 119 (vb n):=cM (bm n [aQ D3] (bB true [([2],⟨[ar 1,ba 4 5000,ar 11,ar 12,ar 13],[aH 5000 5],[.slot 4 5000 5]⟩)]) [] (bB true [([0],⟨[ba 4 5000],[aH 5000 5],[]⟩)]))
def aev(a:lZ->oY)(n:Nat)(c:ew si a):ew si (nL a n):=je ⟨dn bR,bS,gh n [aQ D3],n,[10000,10001],bD (bB true [([8],⟨[(2,.b (.ptr 10001 0)),sp 3,sp 4,ba 8 5000,ar 32,ar 33,ar 34],[(10001,.box [.fn (.func B3) [] [.ptr 10000 0,.ptr 10001 0]]),aW 3 6,aW 4 6,aH 5000 6,aW 10000 1],[.slot 8 5000 6]⟩)]),bD [],bD (bB true [([0],⟨[sp 3,sp 4,ba 8 5000],[aW 3 6,aW 4 6,aH 5000 6,aW 10000 1,(10001,.box [.fn (.func B3) [] [.ptr 10000 0,.ptr 10001 0]])],[]⟩)]),dG [],dr [(41,⟨si,a,6020,[]⟩)],dL [20004],dF []⟩ b8 cW (aY c ak) b7 Tryz.func216 []
def Q9:∀n,ew si (kZ n)
 |0=>rp (s:=si) (rv (T:=dn bR) (os:=λ_=>none) Tryz.func216) (λ_=>rfl)|n+1=>by have ih:=Q9 n;exact aev (kZ n) n ih
def aew(n:Nat):ew si (kZ n):=(Q9 n)
def aex(n:Nat):aU 162 (vd n):=cM ⟨dn bR,bS,gh n [aQ zC],n,[],bD [],bD [],bD [],dG [],dr [(17,⟨si,kZ n,6010,[]⟩)],dL [],dF []⟩ (S:=⟨b8,cW,(aY (aew n) ak),b7⟩)
def aey(n:Nat):aU 120 (ve n):=cM (bm n [aQ aex] (bB true [([2],⟨[ar 1,ba 4 5000,ar 11,ar 12,ar 13],[aH 5000 7],[.slot 4 5000 7]⟩)]) [] (bB true [([0],⟨[ba 4 5000],[aH 5000 7],[]⟩)]))
def aez(n:Nat):aU 66 (DC n):=bT ⟨dn bR,bS,gh n [aQ aet,aQ aeu,aQ aey],n,[],bD [],bD [],bD [],dG [(4,[1,2,0,3,4,5,6,7]),(7,[1,2,0,3,4,5,6,7]),(10,[1,2,0,3,4,5,6,7]),(13,[1,2,0,3,4,5,6,7]),(16,[1,2,0,3,4,5,6,7]),(19,[1,2,0,3,4,5,6,7])],dr [],dL [],dF []⟩ (S:=⟨b8,cW,ak,b7⟩)
def aeA(n:Nat):ew Qc (zc n):=je ⟨dn bR,bS,fo [],n,[],bD [],bD [],bD [],dG [],dr [],dL [],dF []⟩ b8 bF ak b7 Tryz.func121 [.slot 0 5000 1]
def aeB(n:Nat):aU 67 (DD n):=bT ⟨dn bR,bS,gh n [aQ I5],n,[],bD (bB true [([3],⟨[ba 3 11,ar 12,ar 13,ar 14],[aH 11 1],[]⟩),([10],⟨[sp 5,ar 6,ba 7 5001,ar 12,ar 13,ar 14,ba 22 11,ar 23,ar 24],[aW 5 4,aH 5001 1,aH 11 1],[.slot 7 5001 1]⟩),([13],⟨[sp 5,ar 6,ba 7 5001,ar 9,ar 12,ar 13,ar 14,ba 22 11,ar 23,ar 24,ar 29,ar 30],[aW 5 4,aH 5001 1,aH 11 1],[.slot 7 5000 1]⟩)]),bD (bB true [([21000007],⟨[ba 3 11,sp 5,ar 6,ar 12,ar 13,ar 14],[aH 11 1,aW 5 4],[]⟩)]),bD (bB true [([0],⟨[ba 3 11],[aH 11 1],[]⟩),([1],⟨[ba 3 5001,ar 12,ar 13,ar 14],[aH 5001 1],[]⟩),([2],⟨[ba 7 5001,ar 12,ar 13,ar 14],[aH 5001 1],[]⟩),([3,4],⟨[sp 5,ar 6,ba 7 5001,ar 12,ar 13,ar 14,ba 22 11,ar 23,ar 24],[aW 5 4,aH 5001 1,aH 11 1],[]⟩)]),dG [],dr [(35,⟨Qc,zc n,6030,[]⟩)],dL [41],dF []⟩ (S:=⟨b8,cW,(aY (aeA n) ak),b7⟩)
def aeC(d:D):d.le (vf d):=by
 unfold vf;split;.exact D.nil_le 1
 exact D.le_refl _
def aeD{x r:D}(h:zg x=some r):x.le r:=by
 unfold zg at h;split at h
 case h_2=>cases h
 rename_i k es;split at h
 case isFalse=>cases h
 rename_i g;cases h;refine D.Vh sZ ?_;intro i x y d e;simp only[xag,d,xaH,xaD]at e;subst e;refine⟨by simp,xax.1 g x (xad d),?_⟩;intro j a b f c;simp only[xag,f,xaH,xaD]at c;subst c;exact aeC a
def aeE(n:Nat):aU 67 (zh n):=by
 intro b r h;unfold zh at h;split at h
 case h_2=>cases h
 rename_i x i;have H:=aeB n b x i;refine⟨H.fn,?_⟩;intro m fr w vs f g d;refine(H.run m fr w vs f g d).mono ?_;rintro e w' ⟨v,a,q,ab,rfl,ad,ai,c⟩;exact⟨v,a,r,ab,rfl,ad,ai,aeD h a v c⟩
def Ja(n:Nat):aU 39 (nM n):=wZ ⟨dn bR,bS,gh n [aQ I8,aQ Qp],n,[],bD [],bD [],bD [],dG [],dr [(34,⟨sd,oK n,6010,[]⟩)],dL [],dF []⟩ (S:=⟨b8,cW,(aY (abj n) ak),b7⟩)
def Ra(n:Nat):aU 69 (zi n):=wZ (bm n [aQ Ja] [] [] [])
def aeF(n:Nat):aU 68 (r6 n):=wZ (bm n [aQ Ra] (bN true [([2],[2,3,4008,11,12,13])]) [] (bN true [([0],[])]))
def aeG(n:Nat)(a0:D)(x1:lZ){r:D}(h:DF n a0 x1=some r):cC bR bS 123 [a0,.ref x1 0] (·=r):=cV (iO n [] [] [] []) b8 bF ak b7 Tryz.func123 (bj (eY e3 le_nil)) h
def aeH(n:Nat):aU 123 (DG n):=by
 intro a r h;unfold DG at h;split at h
 case h_2=>cases h
 split at h
 case h_2=>cases h
 exact aeG n _ _ h
def aeI(n:Nat)(a0:D)(a:D){r:D}(h:zl n a0 a=some r):cC bR bS 122 [a0,(D.fn (.func tP) [] [a])] (·=r):=cV (bm n [aQ aeH] (bB true [([2],⟨[ar 0,(1,.b (.fd tP 1)),ar 7,ar 8],[],[]⟩)]) [] (bN true [([0],[])])) b8 cW ak b7 Tryz.func122 (bj (bj le_nil)) h
def aeJ(n:Nat):aU 122 (vg n):=by
 intro b r h;unfold vg at h;split at h
 case h_2=>cases h
 split at h
 case h_2=>cases h
 rename_i a;obtain rfl:=gB a;exact aeI n _ _ h
def aeK(n:Nat):aU 70 (DI n):=cM (bm n [aQ Ja,aQ aeJ] (bB true [([3],⟨[ar 1,sp 2,ba 6 5000,ar 14,ar 15,ar 16],[aW 2 8,aH 5000 2],[.slot 6 5000 2]⟩)]) [] (bB true [([0],⟨[ba 6 5000],[aH 5000 2],[]⟩)]))
def aeL(n:Nat)(a0:D)(x1:lZ){r:D}(h:DJ n a0 x1=some r):cC bR bS 72 [a0,.ref x1 0] (·=r):=cV (iO n [] [] [] []) b8 bF ak b7 Tryz.func72 (bj (eY e3 le_nil)) h
def aeM(n:Nat):aU 72 (DK n):=by
 intro a r h;unfold DK at h;split at h
 case h_2=>cases h
 split at h
 case h_2=>cases h
 exact aeL n _ _ h
def aeN(n:Nat)(a0:D)(a:D){r:D}(h:zn n a0 a=some r):cC bR bS 124 [a0,(D.fn (.func ny) [] [a])] (·=r):=cV (bm n [aQ aeM] (bB true [([2],⟨[ar 0,(1,.b (.fd ny 1)),ar 7,ar 8],[],[]⟩)]) [] (bN true [([0],[])])) b8 cW ak b7 Tryz.func124 (bj (bj le_nil)) h
def aeO(n:Nat):aU 124 (zo n):=by
 intro b r h;unfold zo at h;split at h
 case h_2=>cases h
 split at h
 case h_2=>cases h
 rename_i a;obtain rfl:=gB a;exact aeN n _ _ h
def aeP(n:Nat)(a0:D)(a:D){r:D}(h:zp n a0 a=some r):cC bR bS 71 [a0,(D.fn (.func ny) [] [a])] (·=r):=cV (bm n [aQ aeO] [] [] []) b8 cW ak b7 Tryz.func71 (bj (bj le_nil)) h
def aeQ(n:Nat):aU 71 (vh n):=by
 intro b r h;unfold vh at h;split at h
 case h_2=>cases h
 split at h
 case h_2=>cases h
 rename_i a;obtain rfl:=gB a;exact aeP n _ _ h
def aeR(n:Nat):aU 29 (r7 n):=bT ⟨dn bR,bS,gh n [aQ aer,aQ aes,aQ aez,aQ aeE,aQ aeF,aQ Ra,aQ aeK,aQ aeQ],n,[],bD (bB true [([12],⟨[sp 2,sp 10,ar 59,ar 60,ar 61],[(2,.box [.b (.row 5001),.b (.d),.b (.d),.b (.d)]),aW 10 8,aH 5001 1],[.box 2 0 5001 1]⟩),([18],⟨[sp 2,sp 10,ba 79 5001,ar 80,ar 81],[(2,.box [.b (.row 5001),.b (.row 5006),.b (.row 5007),.b (.row 5008)]),aW 10 8,aH 5001 1,aH 5006 1,aH 5007 1,aH 5008 1],[.box 2 1 5006 1,.box 2 2 5007 1,.box 2 3 5008 1]⟩),([24],⟨[sp 2,sp 10,ar 14,ba 15 5003,ba 79 5001,ar 80,ar 81,ar 100,ar 101,ar 102],[(2,.box [.b (.row 5001),.b (.row 5006),.b (.row 96),.b (.row 5008)]),aW 10 8,aH 5003 1,aH 5001 1,aH 5006 1,aH 96 1,aH 5008 1],[.slot 15 5003 1]⟩),([32],⟨[sp 2,sp 10,ar 14,ba 18 5005,ar 19,ar 20,ba 79 5001,ar 80,ar 81,ba 127 5001,ar 128,ar 129],[(2,.box [.b (.row 5001),.b (.row 5006),.b (.row 96),.b (.row 118)]),aW 10 8,aH 5005 1,aH 5001 1,aH 5006 1,aH 96 1,aH 118 1],[.slot 18 5005 1]⟩)]),bD (bB true [([70000015],⟨[sp 2,sp 10,ar 59,ar 60,ar 61],[(2,.box [.b (.row 75),.b (.d),.b (.d),.b (.d)]),aW 10 8,aH 75 1],[.box 2 0 5000 1]⟩),([91000021],⟨[sp 2,sp 10,ar 14,ba 79 5001,ar 80,ar 81],[(2,.box [.b (.row 5001),.b (.row 5006),.b (.row 96),.b (.row 5008)]),aW 10 8,aH 5001 1,aH 5006 1,aH 96 1,aH 5008 1],[.box 2 2 5002 1]⟩),([149000035],⟨[sp 2,sp 10,ar 14,ba 18 153,ar 19,ar 20,ba 79 5001,ar 80,ar 81,ba 127 5001,ar 128,ar 129],[(2,.box [.b (.row 5001),.b (.row 5006),.b (.row 96),.b (.row 118)]),aW 10 8,aH 153 1,aH 5001 1,aH 5006 1,aH 96 1,aH 118 1],[.slot 18 5004 1]⟩)]),bD (bB true [([0],⟨[sp 2,sp 10],[(2,.box [.b (.row 5001),.b (.d),.b (.d),.b (.d)]),aW 10 8,aH 5001 1],[]⟩),([1],⟨[sp 2,sp 10,ar 59,ar 60,ar 61],[(2,.box [.b (.row 75),.b (.d),.b (.d),.b (.d)]),aW 10 8,aH 75 1],[]⟩),([2],⟨[sp 2],[(2,.box [.b (.row 5001),.b (.row 5006),.b (.row 5007),.b (.row 5008)]),aH 5001 1,aH 5006 1,aH 5007 1,aH 5008 1],[]⟩),([3],⟨[sp 2,sp 10,ba 79 5001,ar 80,ar 81],[(2,.box [.b (.row 5001),.b (.row 159),.b (.row 96),.b (.row 118)]),aW 10 8,aH 5001 1,aH 159 1,aH 96 1,aH 118 1],[]⟩),([4],⟨[sp 2,sp 10,ar 14,ba 15 5003,ba 79 5001,ar 80,ar 81],[(2,.box [.b (.row 5001),.b (.row 5006),.b (.row 96),.b (.row 5008)]),aW 10 8,aH 5003 1,aH 5001 1,aH 5006 1,aH 96 1,aH 5008 1],[]⟩),([6],⟨[sp 2,sp 10,ba 18 5005,ba 79 5001,ar 80,ar 81],[(2,.box [.b (.row 5001),.b (.row 5006),.b (.row 96),.b (.row 118)]),aW 10 8,aH 5005 1,aH 5001 1,aH 5006 1,aH 96 1,aH 118 1],[]⟩),([7],⟨[sp 2,sp 10,ar 14,ba 18 153,ar 19,ar 20,ba 79 5001,ar 80,ar 81,ba 127 5001,ar 128,ar 129],[(2,.box [.b (.row 5001),.b (.row 5006),.b (.row 96),.b (.row 118)]),aW 10 8,aH 153 1,aH 5001 1,aH 5006 1,aH 96 1,aH 118 1],[]⟩)]),dG [],dr [],dL [117,158],dF []⟩ (S:=⟨b8,cW,ak,b7⟩)
def qw(k:Nat)(d:D):d.le (nN k d):=by
 unfold nN;split;.exact D.nil_le k
 exact D.le_refl _
def aeS(d:D):d.le (IJ d):=by
 unfold IJ;split
 .refine D.Vg rfl ?_;intro i x y a b
  match i,a,b with
  |0,a,b=>cases a;cases b;exact qw _ _
  |1,a,b=>cases a;cases b;exact qw _ _
  |2,a,b=>cases a;cases b;exact qw _ _
  |3,a,b=>cases a;cases b;exact qw _ _
  |4,a,b=>cases a;cases b;exact qw _ _
  |5,a,b=>cases a;cases b;exact qw _ _
  |6,a,b=>cases a;cases b;exact qw _ _
  |7,a,b=>cases a;cases b;exact qw _ _
  |i+8,a,b=>cases a
 exact D.le_refl _
def Rb(n:Nat):aU 29 (o2 n):=by
 intro j r h;unfold o2 at h;split at h
 case h_2=>cases h
 rename_i a;have H:=aeR n _ r h;refine⟨H.fn,?_⟩;intro m fr w vs e f c;refine H.run m fr w vs e f ⟨c.1,?_⟩;intro i d v b g;cases i with|zero=>simp only[xbE,xaD]at b;subst b;exact aeS a m v (c.2 0 a v rfl g)|succ i=>simp at b
def Rc(n:Nat):aU 12 (r8 n):=cM (bm n [] (bN true [([4],[0,1,5])]) [] (bN true [([0],[])]))
def Re(n:Nat):aU 74 (r9 n):=cM (bm n [] (bN true [([4],[0,1,5])]) [] (bN true [([0],[])]))
def aeT(n:Nat):aU 73 (zs n):=cM (bm n [aQ Re] (bN true [([4],[0,1,5])]) [] (bN true [([0],[])]))
def aeU(n:Nat):aU 30 (vl n):=cM (bm n [aQ Rc,aQ aeT,aQ Re] (bN true [([4],[2004,3004,5])]) [] (bN true [([0],[2004,3004])]))
def aeV(n:Nat):aU 7 (sa n):=bT ⟨dn bR,bS,gh n [aQ acJ,aQ ac2,aQ Rb,aQ aeU],n,[],bD [],bD [],bD [],dG [(5,[0,1,2,3,4,5,6,7])],dr [],dL [],dF []⟩ (S:=⟨b8,cW,ak,b7⟩)
def aeW(n:Nat):aU 31 (PT n):=s9 ⟨dn bR,bS,fo [],n,[],bD [],bD [],bD [],dG [],dr [],dL [9],dF []⟩ (S:=⟨b8,bF,ak,b7⟩)
def aeX(n:Nat):aU 19 (sc n):=cM (bm n [] (bB true [([3],⟨[ar 1,ba 5 10,ar 6],[aH 10 1],[]⟩)]) [] (bB true [([0],⟨[ba 5 10],[aH 10 1],[]⟩)]))
def aeY(n:Nat):aU 26 (zw n):=bT (bm n [] (bB true [([3],⟨[ba 3 8,ar 4],[aH 8 1],[]⟩)]) [] (bB true [([0],⟨[ba 3 8],[aH 8 1],[]⟩)]))
def aeZ(a:lZ->oX)(n:Nat)(a0:D)(aE:D)(b:aU 33 a){r:D}(h:PU a n a0 aE=some r):cC bR bS 33 [a0,aE] (·=r):=cV (bm n [aQ I8,lC b] (bN true [([7],[0,29,30,31])]) (bN true [([26000004],[6])]) (bN true [([0],[])])) b8 cW ak b7 Tryz.func33 (bj (bj le_nil)) h
def Rf:∀n,aU 33 (qq n)
 |0=>(λ_ _ h=>by cases h)
 |n+1=>by
  have ih:=Rf n;exact(by
   intro a r h;unfold qq at h;split at h
   case h_2=>cases h
   exact aeZ (qq n) n _ _ ih h)
def Rg(n:Nat):aU 33 (qq n):=(Rf n)
def ae0(n:Nat)(a0:D)(x1:lZ)(df:lZ)(a:lZ){r:D}(h:PV n a0 x1 df a=some r):cC bR bS 38 [a0,.ref x1 0,.ref df 0,.ref a 0] (·=r):=cV (bm n [aQ Ja] [] [] []) b8 cW ak b7 Tryz.func38 (bj (eY e3 (eY e3 (eY e3 le_nil)))) h
def ae1(n:Nat):aU 38 (IK n):=by
 intro a r h;unfold IK at h;split at h
 case h_2=>cases h
 split at h
 case h_2=>cases h
 split at h
 case h_2=>cases h
 split at h
 case h_2=>cases h
 exact ae0 n _ _ _ _ h
def ae2(n:Nat)(a0:D)(a:D)(c:D)(d:D){r:D}(h:PW n a0 a c d=some r):cC bR bS 35 [a0,(D.fn (.func xm) [] [a,c,d])] (·=r):=cV (bm n [aQ ae1] (bB true [([3],⟨[(1,.b (.fd xm 3)),ba 5 10,ar 12,ar 13],[aH 10 1],[]⟩)]) [] (bB true [([0],⟨[ba 5 10],[aH 10 1],[]⟩)])) b8 cW ak b7 Tryz.func35 (bj (bj le_nil)) h
def ae3(n:Nat):aU 35 (DQ n):=by
 intro b r h;unfold DQ at h;split at h
 case h_2=>cases h
 split at h
 case h_2=>cases h
 rename_i a;obtain rfl:=gB a;exact ae2 n _ _ _ _ h
def ae4(a:lZ->oX)(n:Nat)(a0:D)(x1:lZ)(df:lZ)(d:lZ)(e:lZ)(c:aU 37 a){r:D}(h:PX a n a0 x1 df d e=some r):cC bR bS 37 [a0,.ref x1 0,.ref df 0,.ref d 0,.ref e 0] (·=r):=cV ⟨((dn bR).A4 [(22,[37,34]),(33,[37,34]),(40,[37,34]),(85,[37,34]),(87,[37,34]),(94,[37,34]),(96,[37,34]),(105,[37,34]),(107,[37,34]),(111,[37,34]),(116,[37,34])]),bS,fo [(35,tx 1 [(xm,DQ n),(xn,Ca n),(xo,Cb n),(xp,Cc n),(xq,Cn n),(xr,Co n)]),(37,a),(34,kx n),(15,Ck n),(43,qa n),(17,oL n),(20,qd n)],n,[],bD [],bD (bB true [([27000006],⟨[(1,.b (.cE 0)),(4,.b (.cE 0)),sp 5,sp 7,sp 8],[aW 5 6,aW 7 1,aW 8 1],[]⟩)]),bD [],dG [],dr [],dL [16,45,50,55,123],dF [(31,[[],[],[7,8]])]⟩ ((tok _).A4 _) (c8 (tz (ae3 n) (tz (abu n) (tz (aby n) (tz (abC n) (tz (ab0 n) (tz (ab4 n) Zo)))))) (c8 c (c8 (abp n) (c8 (abS n) (c8 (IW n) (c8 (Qy n) (c8 (Qz n) bF))))))) ak b7 Tryz.func37 (bj (eY e3 (eY e3 (eY e3 (eY e3 le_nil))))) h
def Rh:∀n,aU 37 (qs n)
 |0=>(λ_ _ h=>by cases h)
 |n+1=>by
  have ih:=Rh n;exact(by
   intro a r h;unfold qs at h;split at h
   case h_2=>cases h
   split at h
   case h_2=>cases h
   split at h
   case h_2=>cases h
   split at h
   case h_2=>cases h
   split at h
   case h_2=>cases h
   exact ae4 (qs n) n _ _ _ _ _ ih h)
def ae5(n:Nat):aU 37 (qs n):=(Rh n)
end Go.Am
