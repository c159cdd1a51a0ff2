/- That the functions of the program compute this. No condition. -/
import Derived.Test.YtbninlabhgbhcaaGreatDoorHand
import Derived.KernelRfl
set_option linter.all false
set_option linter.unnecessarySimpa false
namespace Go.Am
open Go.Proofs
set_option maxRecDepth 100000
def acx(n:Nat):b7 136 (zG n):=cS (cv n [] [] [] []) ca bf au b8 Tryz.func136
def aqQ(n:Nat):b7 174 (GF n):=cS (cv n [] [] [] []) ca bf au b8 Tryz.func174
def aqR(n:Nat):b7 137 (GH n):=lE (cv n [(174,GF n),(136,zG n)] [(1,⟨[aq 0,aq 1,aq 2],[],[]⟩)] [] [(0,⟨[aq 1],[],[]⟩)]) ca (bK (aqQ n) (bK (acx n) bf)) au b8 Tryz.func137
def aqS(n:Nat):b7 139 (L9 n):=Ch (cv n [] [] [] []) ca bf au b8 Tryz.func139
def aqT(n:Nat):b7 138 (CR n):=e2 (cv n [] [(2,⟨[aq 0,aq 1,aq 5],[],[]⟩)] [] [(0,⟨[],[],[]⟩)]) ca bf au b8 Tryz.func138
def Ub(n:Nat):b7 84 (tJ n):=cS (cv n [(136,zG n),(137,GH n),(139,L9 n),(138,CR n)] [] [] []) ca (bK (acx n) (bK (aqR n) (bK (aqS n) (bK (aqT n) bf)))) au b8 Tryz.func84
def aqU(n:Nat):b7 85 (CS n):=cS (cv n [] [] [] []) ca bf au b8 Tryz.func85
def Uc(n:Nat):b7 58 (qQ n):=cS (cv n [] [] [(19000007,⟨[aq 3],[],[]⟩)] []) ca bf au b8 Tryz.func58
def aqV(n:Nat):b7 52 (GL n):=cS (cv n [(84,tJ n),(85,CS n),(58,qQ n)] [(2,⟨[aq 0,aq 4],[],[]⟩),(7,⟨[aq 0,aq 4,aq 5],[],[]⟩)] [] [(0,⟨[],[],[]⟩),(1,⟨[aq 0,aq 4],[],[]⟩),(2,⟨[aq 0,aq 4],[],[]⟩)]) ca (bK (Ub n) (bK (aqU n) (bK (Uc n) bf))) au b8 Tryz.func52
def aqW(n:Nat):b7 86 (GM n):=cS (cv n [] [(2,⟨[aq 0,aq 3],[],[]⟩)] [] [(0,⟨[aq 3],[],[]⟩)]) ca bf au b8 Tryz.func86
def aqX(n:Nat):b7 53 (GN n):=cS (cv n [(58,qQ n),(86,GM n)] [(3,⟨[sp 1,aq 3,aq 4],[bm 1 8],[]⟩)] [] [(0,⟨[aq 3],[],[]⟩)]) ca (bK (Uc n) (bK (aqW n) bf)) au b8 Tryz.func53
def acy(n:Nat):b7 87 (zJ n):=e2 (cv n [] [(2,⟨[aq 1,sp 2,aq 5],[bm 2 8],[]⟩)] [] [(0,⟨[],[],[]⟩)]) ca bf au b8 Tryz.func87
def acz(n:Nat):b7 88 (zK n):=e2 (cv n [] [(2,⟨[aq 1,sp 2,aq 5],[bm 2 8],[]⟩)] [] [(0,⟨[],[],[]⟩)]) ca bf au b8 Tryz.func88
def aqY(n:Nat):b7 207 (GR n):=e2 (cv n [] [(2,⟨[aq 0,aq 1,aq 5],[],[]⟩)] [] [(0,⟨[],[],[]⟩)]) ca bf au b8 Tryz.func207
def aqZ(n:Nat):b7 198 (zL n):=e2 (cv n [(207,GR n)] [(6,⟨[aq 0,aq 1,cu 5 12,aq 6,aq 7],[bH 12 1],[]⟩)] [(28000009,⟨[aq 0,aq 1,cu 5 32,aq 6,aq 7],[bH 32 1],[]⟩),(41000013,⟨[cu 5 45],[bH 45 1],[]⟩)] [(0,⟨[aq 1,cu 5 12,aq 6],[bH 12 1],[]⟩)]) ca (bK (aqY n) bf) au b8 Tryz.func198
def aq0(zM:List D->Option D)(n:Nat)(a0:D)(aK:D)(a2:D)(aq1:b7 175 zM){r:D}(h:GS zM n a0 aK a2=some r):fz dh dj 175 [a0,aK,a2] (·=r):=gr (cv n [(198,zL n),(175,zM)] [(4,⟨[aq 1,aq 2,sp 3,aq 7],[bm 3 4],[]⟩)] [(11000002,⟨[aq 1,aq 2,sp 3],[bm 3 4],[]⟩)] [(0,⟨[aq 2],[],[]⟩)]) ca (bK (aqZ n) (bK aq1 bf)) au b8 Tryz.func175 (cE (cE (cE le_nil))) h
def acA:∀n,b7 175 (r1 n)
 |0=>(λ_ _ h=>by cases h)
 |n+1=>by
  have ih:=acA n;exact(by
   intro aR r h;unfold r1 at h;split at h
   case h_2=>cases h
   exact aq0 (r1 n) n _ _ _ ih h)
def aq2(n:Nat):b7 175 (r1 n):=(acA n)
def Ud(n:Nat):b7 140 (vq n):=cS (cv n [(175,r1 n)] [] [] []) ca (bK (aq2 n) bf) au b8 Tryz.func140
def aq3(n:Nat):b7 89 (GU n):=e2 (cv n [(140,vq n),(88,zK n)] [(4,⟨[sp 2,cu 5 15,cu 6 17,aq 7],[bm 2 8,bH 15 1,bH 17 1],[]⟩),(8,⟨[sp 2,cu 5 15,cu 6 17,aq 7,aq 8,aq 10],[bm 2 8,bH 15 1,bH 17 1],[]⟩)] [(57000012,⟨[sp 2,cu 5 15,cu 6 64,aq 7,aq 8,aq 10],[bm 2 8,bH 15 1,bH 64 1],[]⟩)] [(0,⟨[cu 5 15],[bH 15 1],[]⟩),(1,⟨[sp 2,cu 5 15,cu 6 17,aq 7],[bm 2 8,bH 15 1,bH 17 1],[]⟩),(2,⟨[sp 2,cu 5 15,cu 6 17,aq 7],[bm 2 8,bH 15 1,bH 17 1],[]⟩),(3,⟨[sp 2,cu 5 15,cu 6 64,aq 7,aq 8,aq 10],[bm 2 8,bH 15 1,bH 64 1],[]⟩)]) ca (bK (Ud n) (bK (acz n) bf)) au b8 Tryz.func89
def aq4(n:Nat):b7 193 (CU n):=cS (cv n [] [] [(5003000,⟨[aq 0,aq 4,aq 5],[],[]⟩),(5004000,⟨[aq 0,aq 4,aq 5],[],[]⟩),(5005000,⟨[aq 0,aq 4,aq 5],[],[]⟩),(12010000,⟨[aq 0,aq 4,aq 12],[],[]⟩)] [(0,⟨[aq 0],[],[]⟩)]) ca bf au b8 Tryz.func193
def acB(n:Nat):b7 161 (zO n):=e2 (cv n [(193,CU n)] [] [(22000008,⟨[sp 2,aq 5,aq 6,aq 7,aq 8],[bm 2 4],[]⟩),(25000010,⟨[sp 2,aq 5,aq 6,aq 7,aq 8],[bm 2 4],[]⟩)] []) ca (bK (aq4 n) bf) au b8 Tryz.func161
def aq5(zP:List D->Option D)(n:Nat)(a0:D)(aK:D)(a2:D)(aq6:b7 157 zP){r:D}(h:St zP n a0 aK a2=some r):fz dh dj 157 [a0,aK,a2] (·=r):=gr (cv n [(161,zO n),(157,zP)] [(8,⟨[aq 1,aq 2,sp 3,aq 9],[bm 3 4],[]⟩)] [] [(0,⟨[aq 2],[],[]⟩)]) ca (bK (acB n) (bK aq6 bf)) au b8 Tryz.func157 (cE (cE (cE le_nil))) h
def acC:∀n,b7 157 (tL n)
 |0=>(λ_ _ h=>by cases h)
 |n+1=>by
  have ih:=acC n;exact(by
   intro aR r h;unfold tL at h;split at h
   case h_2=>cases h
   exact aq5 (tL n) n _ _ _ ih h)
def aq7(n:Nat):b7 157 (tL n):=(acC n)
def Ue(n:Nat):b7 106 (vr n):=cS (cv n [(157,tL n)] [] [] []) ca (bK (aq7 n) bf) au b8 Tryz.func106
def acD(n:Nat):b7 160 (xw n):=e2 (cv n [] [(2,⟨[aq 0,aq 1,aq 5],[],[]⟩)] [] [(0,⟨[],[],[]⟩)]) ca bf au b8 Tryz.func160
def aq8(n:Nat):b7 158 (GY n):=e2 (cv n [(140,vq n),(160,xw n)] [(4,⟨[aq 1,cu 5 10,aq 6,aq 8],[bH 10 1],[]⟩)] [(29000008,⟨[aq 1,cu 5 33,aq 6,aq 8],[bH 33 1],[]⟩)] [(0,⟨[cu 5 10],[bH 10 1],[]⟩),(1,⟨[aq 1,cu 5 33,aq 6,aq 8],[bH 33 1],[]⟩)]) ca (bK (Ud n) (bK (acD n) bf)) au b8 Tryz.func158
def acE(n:Nat):b7 159 (xx n):=e2 (cv n [] [(2,⟨[aq 0,aq 1,aq 5],[],[]⟩)] [] [(0,⟨[],[],[]⟩)]) ca bf au b8 Tryz.func159
def aq9(zQ:List D->Option D)(n:Nat)(a0:D)(aK:D)(a2:D)(ara:b7 107 zQ){r:D}(h:Mg zQ n a0 aK a2=some r):fz dh dj 107 [a0,aK,a2] (·=r):=gr ⟨(fF Tryz.prog).tg [42],dj,fM [(158,GY n),(159,xx n),(107,zQ)],n,[],cO [(3,⟨[aq 1,aq 2,aq 7,aq 8],[],[]⟩)],cO [(24000006,⟨[aq 1,aq 2,aq 7,aq 8],[],[]⟩)],cO [(0,⟨[aq 2],[],[]⟩),(1,⟨[aq 1,aq 2,aq 7,aq 8],[],[]⟩)],gL [(6,[0,1,2,3,4,5,6,7,12,13,14,15,8,9,10,11,16,17,18,19])],fL [],gV [],gK []⟩ ((tok _).tg _) (bK (aq8 n) (bK (acE n) (bK ara bf))) au b8 Tryz.func107 (cE (cE (cE le_nil))) h
def acF:∀n,b7 107 (qR n)
 |0=>(λ_ _ h=>by cases h)
 |n+1=>by
  have ih:=acF n;exact(by
   intro aR r h;unfold qR at h;split at h
   case h_2=>cases h
   exact aq9 (qR n) n _ _ _ ih h)
def acG(n:Nat):b7 107 (qR n):=(acF n)
def arb(n:Nat):b7 108 (G1 n):=e2 (cv n [(107,qR n),(159,xx n)] [] [] []) ca (bK (acG n) (bK (acE n) bf)) au b8 Tryz.func108
def arc(xy:List D->Option D)(n:Nat)(a0:D)(aK:D)(a2:D)(a3:D)(ard:b7 109 xy){r:D}(h:r3 xy n a0 aK a2 a3=some r):fz dh dj 109 [a0,aK,a2,a3] (·=r):=gr (cv n [(160,xw n),(109,xy),(161,zO n)] [(13,⟨[aq 1,aq 2,aq 3,sp 4,sp 8,cu 13 53,aq 14],[bm 4 4,bm 8 4,bH 53 4],[]⟩)] [(20000002,⟨[aq 1,aq 2,aq 3,sp 4,sp 8],[bm 4 4,bm 8 4],[]⟩)] [(0,⟨[aq 3,sp 4,sp 8,cu 13 53],[bm 4 4,bm 8 4,bH 53 4],[]⟩)]) ca (bK (acD n) (bK ard (bK (acB n) bf))) au b8 Tryz.func109 (cE (cE (cE (cE le_nil)))) h
def acH:∀n,b7 109 (r4 n)
 |0=>(λ_ _ h=>by cases h)
 |n+1=>by
  have ih:=acH n;exact(by
   intro aR r h;unfold r4 at h;split at h
   case h_2=>cases h
   exact arc (r4 n) n _ _ _ _ ih h)
def are(n:Nat):b7 109 (r4 n):=(acH n)
def arf(n:Nat):b7 71 (oC n):=e2 (cv n [(106,vr n),(107,qR n),(108,G1 n),(109,r4 n)] [(6,⟨[aq 1,sp 2,sp 4,aq 7,aq 8],[bm 2 4,bm 4 4],[]⟩)] [] [(0,⟨[aq 1,sp 2,sp 4],[bm 2 4,bm 4 4],[]⟩)]) ca (bK (Ue n) (bK (acG n) (bK (arb n) (bK (are n) bf)))) au b8 Tryz.func71
def acI(n:Nat):b7 194 (qT n):=e2 (cv n [] [] [] []) ca bf au b8 Tryz.func194
def arh(n:Nat):b7 77 (zS n):=e2 (cv n [] [(2,⟨[aq 0,aq 1,aq 5],[],[]⟩)] [] [(0,⟨[],[],[]⟩)]) ca bf au b8 Tryz.func77
def ari(n:Nat):b7 205 (G7 n):=cS (cv n [] [(2,⟨[aq 0,aq 3],[],[]⟩)] [] [(0,⟨[],[],[]⟩)]) ca bf au b8 Tryz.func205
def arj(n:Nat):b7 206 (G8 n):=e2 (cv n [] [(4,⟨[cu 6 30,aq 7,aq 8,aq 9],[bH 30 1],[]⟩)] [] [(0,⟨[aq 7,aq 8],[],[]⟩)]) ca bf au b8 Tryz.func206
def ark(n:Nat):b7 195 (zT n):=e2 (cv n [(205,G7 n),(194,qT n),(206,G8 n)] [] [(13005000,⟨[aq 1,sp 2,sp 4,sp 6,aq 7,aq 12,aq 13],[bm 2 4,bm 4 3,bm 6 3],[]⟩),(13006000,⟨[aq 1,sp 2,sp 4,sp 6,aq 7,aq 12,aq 13],[bm 2 4,bm 4 3,bm 6 3],[]⟩),(13007000,⟨[aq 1,sp 2,sp 4,sp 6,aq 7,aq 12,aq 13],[bm 2 4,bm 4 3,bm 6 3],[]⟩),(13008000,⟨[aq 1,sp 2,sp 4,sp 6,aq 7,aq 12,aq 13],[bm 2 4,bm 4 3,bm 6 3],[]⟩),(25013000,⟨[aq 1,sp 2,sp 4,sp 6,aq 7,aq 12,aq 25],[bm 2 4,bm 4 3,bm 6 3],[]⟩)] [(0,⟨[aq 1,sp 2,sp 4,sp 6,aq 7],[bm 2 4,bm 4 3,bm 6 3],[]⟩)]) ca (bK (ari n) (bK (acI n) (bK (arj n) bf))) au b8 Tryz.func195
def arl(zU:List D->Option D)(n:Nat)(a0:D)(aK:D)(a2:D)(arn:b7 162 zU){r:D}(h:vv zU n a0 aK a2=some r):fz dh dj 162 [a0,aK,a2] (·=r):=gr (cv n [(194,qT n),(77,zS n),(162,zU),(195,zT n)] [(18,⟨[aq 0,aq 2,sp 4,sp 6,cu 9 64,aq 10],[bm 4 4,bm 6 3,bH 64 3],[]⟩)] [(27007000,⟨[aq 0,aq 2,sp 4,sp 6,aq 27],[bm 4 4,bm 6 3],[]⟩)] [(1,⟨[sp 4,sp 6,cu 9 64],[bm 4 4,bm 6 3,bH 64 3],[]⟩)]) ca (bK (acI n) (bK (arh n) (bK arn (bK (ark n) bf)))) au b8 Tryz.func162 (cE (cE (cE le_nil))) h
def acJ:∀n,b7 162 (ns n)
 |0=>(λ_ _ h=>by cases h)
 |n+1=>by
  have ih:=acJ n;exact(by
   intro aR r h;unfold ns at h;split at h
   case h_2=>cases h
   exact arl (ns n) n _ _ _ ih h)
def aro(n:Nat):b7 162 (ns n):=(acJ n)
def arp(n:Nat):b7 113 (zV n):=lE (cv n [(106,vr n),(162,ns n)] [] [] []) ca (bK (Ue n) (bK (aro n) bf)) au b8 Tryz.func113
def Uf(n:Nat):b7 90 (tP n):=lE (cv n [(71,oC n),(113,zV n)] [] [] []) ca (bK (arf n) (bK (arp n) bf)) au b8 Tryz.func90
def arq(n:Nat):b7 54 (xE n):=cS (cv n [(84,tJ n),(87,zJ n),(88,zK n),(89,GU n),(90,tP n)] [(2,⟨[sp 1,aq 4],[bm 1 8],[]⟩),(9,⟨[sp 1,aq 5],[bm 1 8],[]⟩),(14,⟨[sp 1,aq 6],[bm 1 8],[]⟩)] [] [(0,⟨[sp 1],[bm 1 8],[]⟩),(2,⟨[sp 1],[bm 1 8],[]⟩),(4,⟨[],[],[]⟩)]) ca (bK (Ub n) (bK (acy n) (bK (acz n) (bK (aq3 n) (bK (Uf n) bf))))) au b8 Tryz.func54
def acK(n:Nat):b7 91 (xF n):=lE (cv n [(90,tP n)] [] [] []) ca (bK (Uf n) bf) au b8 Tryz.func91
def ars(n:Nat):b7 55 (vx n):=lE (cv n [(91,xF n)] [(2,⟨[aq 1,aq 2,sp 3,aq 8],[bm 3 8],[]⟩)] [] [(0,⟨[],[],[]⟩)]) ca (bK (acK n) bf) au b8 Tryz.func55
def art(n:Nat):b7 56 (C0 n):=cS (cv n [(87,zJ n),(90,tP n)] [(2,⟨[sp 1,aq 4],[bm 1 8],[]⟩),(8,⟨[sp 1,aq 4,aq 5,aq 6],[bm 1 8],[]⟩)] [(69000014,⟨[sp 1,aq 4,aq 8],[bm 1 8],[]⟩)] [(0,⟨[],[],[]⟩),(1,⟨[sp 1,aq 4],[bm 1 8],[]⟩),(2,⟨[sp 1,aq 4,aq 5],[bm 1 8],[]⟩)]) ca (bK (acy n) (bK (Uf n) bf)) au b8 Tryz.func56
def aru(n:Nat):b7 199 (C1 n):=cS (cv n [] [] [(6005000,⟨[aq 3,aq 6],[],[]⟩),(6006000,⟨[aq 3,aq 6],[],[]⟩),(6007000,⟨[aq 3,aq 6],[],[]⟩),(6008000,⟨[aq 3,aq 6],[],[]⟩),(6009000,⟨[aq 3,aq 6],[],[]⟩),(6010000,⟨[aq 3,aq 6],[],[]⟩),(14013000,⟨[aq 14],[],[]⟩),(14014000,⟨[aq 14],[],[]⟩),(14015000,⟨[aq 14],[],[]⟩),(14016000,⟨[aq 14],[],[]⟩)] [(0,⟨[],[],[]⟩)]) ca bf au b8 Tryz.func199
def arv(n:Nat):b7 200 (Hi n):=cS (cv n [] [] [] []) ca bf au b8 Tryz.func200
def arw(n:Nat):b7 176 (vy n):=cS (cv n [(199,C1 n),(106,vr n),(140,vq n),(200,Hi n)] [] [(12000004,⟨[sp 1],[bm 1 6],[]⟩)] []) ca (bK (aru n) (bK (Ue n) (bK (Ud n) (bK (arv n) bf)))) au b8 Tryz.func176
def arx(zY:List D->Option D)(n:Nat)(a0:D)(aK:D)(a2:D)(ary:b7 141 zY){r:D}(h:SS zY n a0 aK a2=some r):fz dh dj 141 [a0,aK,a2] (·=r):=gr (cv n [(176,vy n),(141,zY)] [(10,⟨[aq 1,aq 2,sp 3,aq 9],[bm 3 6],[]⟩)] [] [(0,⟨[aq 2],[],[]⟩)]) ca (bK (arw n) (bK ary bf)) au b8 Tryz.func141 (cE (cE (cE le_nil))) h
def acL:∀n,b7 141 (tQ n)
 |0=>(λ_ _ h=>by cases h)
 |n+1=>by
  have ih:=acL n;exact(by
   intro aR r h;unfold tQ at h;split at h
   case h_2=>cases h
   exact arx (tQ n) n _ _ _ ih h)
def arz(n:Nat):b7 141 (tQ n):=(acL n)
def arA(n:Nat):b7 92 (C3 n):=cS (cv n [(141,tQ n)] [] [] []) ca (bK (arz n) bf) au b8 Tryz.func92
def arB(zZ:List D->Option D)(n:Nat)(a0:D)(aK:D)(arC:b7 93 zZ){r:D}(h:Hk zZ n a0 aK=some r):fz dh dj 93 [a0,aK] (·=r):=gr (cv n [(91,xF n),(93,zZ)] [(4,⟨[sp 2,sp 3,aq 5],[bm 2 8,bm 3 6],[]⟩)] [] [(0,⟨[],[],[]⟩)]) ca (bK (acK n) (bK arC bf)) au b8 Tryz.func93 (cE (cE le_nil)) h
def acM:∀n,b7 93 (tR n)
 |0=>(λ_ _ h=>by cases h)
 |n+1=>by
  have ih:=acM n;exact(by
   intro aR r h;unfold tR at h;split at h
   case h_2=>cases h
   exact arB (tR n) n _ _ ih h)
def arD(n:Nat):b7 93 (tR n):=(acM n)
def arE(n:Nat):b7 57 (C5 n):=cS (cv n [(84,tJ n),(92,C3 n),(93,tR n)] [(2,⟨[sp 1,aq 4],[bm 1 8],[]⟩),(7,⟨[sp 1,aq 4,aq 5],[bm 1 8],[]⟩)] [(50000013,⟨[sp 1,aq 4,aq 6],[bm 1 8],[]⟩)] [(0,⟨[],[],[]⟩),(1,⟨[sp 1,aq 4],[bm 1 8],[]⟩),(2,⟨[sp 1,aq 4],[bm 1 8],[]⟩)]) ca (bK (Ub n) (bK (arA n) (bK (arD n) bf))) au b8 Tryz.func57
def arF(n:Nat):b7 22 (qf n):=cS (cv n [(52,GL n),(53,GN n),(54,xE n),(55,vx n),(56,C0 n),(57,C5 n)] [(3,⟨[sp 1,sp 2,cu 4 33,aq 5],[bm 1 8,bm 2 2,bH 33 1],[]⟩),(13,⟨[sp 1,sp 2,aq 6,aq 7,aq 8],[bm 1 8,bm 2 2],[]⟩)] [(68018017,⟨[sp 1,sp 2,aq 6,aq 7,aq 8],[bm 1 8,bm 2 2],[]⟩),(75020019,⟨[sp 1,sp 2,aq 6,aq 7,aq 8],[bm 1 8,bm 2 2],[]⟩),(84022021,⟨[sp 1,sp 2,aq 6,aq 7,aq 8],[bm 1 8,bm 2 2],[]⟩),(93024023,⟨[sp 1,sp 2,aq 6,aq 7,aq 8],[bm 1 8,bm 2 2],[]⟩),(100026025,⟨[sp 1,sp 2,aq 6,aq 7,aq 8],[bm 1 8,bm 2 2],[]⟩),(109028027,⟨[sp 1,sp 2,aq 6,aq 7,aq 8],[bm 1 8,bm 2 2],[]⟩),(118000029,⟨[sp 1,sp 2,aq 6,aq 7,aq 8],[bm 1 8,bm 2 2],[]⟩)] [(0,⟨[sp 1,sp 2],[bm 1 8,bm 2 2],[]⟩),(2,⟨[sp 2],[bm 2 2],[]⟩),(3,⟨[sp 1,sp 2,aq 6,aq 7,aq 8],[bm 1 8,bm 2 2],[]⟩),(4,⟨[sp 1,sp 2,aq 6,aq 7,aq 8],[bm 1 8,bm 2 2],[]⟩)]) ca (bK (aqV n) (bK (aqX n) (bK (arq n) (bK (ars n) (bK (art n) (bK (arE n) bf)))))) au b8 Tryz.func22
def arG(n:Nat):b7 23 (z6 n):=e2 (cv n [(58,qQ n)] [(3,⟨[aq 0,aq 1,aq 5,aq 6],[],[]⟩)] [] [(0,⟨[],[],[]⟩)]) ca (bK (Uc n) bf) au b8 Tryz.func23
def arH(n:Nat):b7 7 (vB n):=e2 (cv n [(22,qf n),(23,z6 n)] [] [] []) ca (bK (arF n) (bK (arG n) bf)) au b8 Tryz.func7
def arI(n:Nat):b7 24 (SX n):=Ch ⟨fF dh,dj,fM [],n,[],cO [],cO [],cO [],gL [],fL [],gV [17,23,28],gK []⟩ ca bf au b8 Tryz.func24
def acN(n:Nat):b7 142 (z7 n):=cS (cv n [] [] [] []) ca bf au b8 Tryz.func142
def arJ(n:Nat):b7 177 (Hp n):=cS (cv n [] [] [] []) ca bf au b8 Tryz.func177
def arK(n:Nat):b7 144 (Hq n):=cS (cv n [(142,z7 n),(177,Hp n)] [] [] []) ca (bK (acN n) (bK (arJ n) bf)) au b8 Tryz.func144
def arL(n:Nat)(a0:D){r:D}(h:SY n a0=some r):fz dh dj 143 [a0,(D.val (.func (.func GD) #[] #[]))] (·=r):=gr (cv n [(144,Hq n)] [(2,⟨[aq 0,(1,.b (.Lo GD)),aq 5],[],[]⟩)] [] [(0,⟨[aq 5],[],[]⟩)]) ca (bK (arK n) bf) au b8 Tryz.func143 (cE (cE le_nil)) h
def arM(n:Nat):b7 143 (C7 n):=by
 intro aR r h;unfold C7 at h;split at h
 case h_2=>cases h
 obtain⟨ai,h⟩:=lW h;obtain rfl:=amu ai;exact arL n _ h
def arN(n:Nat):b7 178 (C9 n):=e2 (cv n [] [(2,⟨[aq 0,aq 1,aq 7,aq 8],[],[]⟩)] [] [(0,⟨[],[],[]⟩)]) ca bf au b8 Tryz.func178
def arO(n:Nat):b7 145 (Hs n):=e2 (cv n [(178,C9 n)] [] [] []) ca (bK (arN n) bf) au b8 Tryz.func145
def Ug(n:Nat):b7 95 (tS n):=cS (cv n [(142,z7 n),(143,C7 n),(145,Hs n)] [] [] []) ca (bK (acN n) (bK (arM n) (bK (arO n) bf))) au b8 Tryz.func95
def arP(n:Nat)(a0:D)(x1:List D){r:D}(h:S1 n a0 x1=some r):fz dh dj 94 [a0,.ref x1 0] (·=r):=gr (cv n [] [] [] []) ca bf au b8 Tryz.func94 (cE (rO tB le_nil)) h
def arQ(n:Nat):b7 94 (Da n):=by
 intro aR r h;unfold Da at h;split at h
 case h_2=>cases h
 split at h
 case h_2=>cases h
 exact arP n _ _ h
def arR(n:Nat)(a0:D)(cW:D){r:D}(h:S2 n a0 cW=some r):fz dh dj 67 [a0,(D.fn (.func tI) [] [cW])] (·=r):=gr (cv n [(94,Da n)] [(2,⟨[aq 0,(1,.b (.fd tI 1)),aq 7,aq 8],[],[]⟩)] [] [(0,⟨[],[],[]⟩)]) ca (bK (arQ n) bf) au b8 Tryz.func67 (cE (cE le_nil)) h
def arS(n:Nat):b7 67 (Aa n):=by
 intro aR r h;unfold Aa at h;split at h
 case h_2=>cases h
 split at h
 case h_2=>cases h
 rename_i ai;obtain rfl:=nT ai;exact arR n _ _ h
def arT(n:Nat)(a0:D)(cW:D){r:D}(h:S3 n a0 cW=some r):fz dh dj 96 [a0,(D.fn (.func tI) [] [cW])] (·=r):=gr (cv n [(67,Aa n)] [] [] []) ca (bK (arS n) bf) au b8 Tryz.func96 (cE (cE le_nil)) h
def arU(n:Nat):b7 96 (Db n):=by
 intro aR r h;unfold Db at h;split at h
 case h_2=>cases h
 split at h
 case h_2=>cases h
 rename_i ai;obtain rfl:=nT ai;exact arT n _ _ h
def arV(n:Nat):b7 59 (Dc n):=cS (cv n [(95,tS n),(96,Db n)] [(2,⟨[aq 0,aq 8,aq 9,aq 10],[],[]⟩)] [] [(0,⟨[],[],[]⟩)]) ca (bK (Ug n) (bK (arU n) bf)) au b8 Tryz.func59
def Uh(n:Nat):b7 61 (vC n):=cS (cv n [] [] [] []) ca bf au b8 Tryz.func61
def arW(n:Nat):b7 97 (Hu n):=cS (cv n [] [(2,⟨[aq 0,aq 4],[],[]⟩)] [] [(0,⟨[],[],[]⟩)]) ca bf au b8 Tryz.func97
def arX(n:Nat):b7 60 (Hw n):=cS (cv n [(61,vC n),(97,Hu n)] [(3,⟨[aq 3,aq 7,aq 8,aq 9],[],[]⟩)] [] [(0,⟨[aq 3],[],[]⟩)]) ca (bK (Uh n) (bK (arW n) bf)) au b8 Tryz.func60
def arY(n:Nat):b7 251 (Hx n):=cS (cv n [] [] [] []) ca bf au b8 Tryz.func251
def arZ(n:Nat):b7 244 (Hy n):=cS (cv n [] [] [] []) ca bf au b8 Tryz.func244
def ar0(n:Nat):b7 240 (sc n):=cS (cv n [] [] [] []) ca bf au b8 Tryz.func240
def ar1(n:Nat):b7 236 (HA n):=cS (cv n [] [] [] []) ca bf au b8 Tryz.func236
def ar2(n:Nat):b7 231 (HB n):=cS (cv n [] [] [] []) ca bf au b8 Tryz.func231
def ar3(n:Nat):b7 224 (HC n):=cS (cv n [] [] [] []) ca bf au b8 Tryz.func224
def ar4(n:Nat)(a0:D)(x1:List D){r:D}(h:Mo n a0 x1=some r):fz dh dj 254 [a0,.ref x1 0] (·=r):=gr (cv n [] [] [] []) ca bf au b8 Tryz.func254 (cE (rO tB le_nil)) h
def ar5(n:Nat):b7 254 (HD n):=by
 intro aR r h;unfold HD at h;split at h
 case h_2=>cases h
 split at h
 case h_2=>cases h
 exact ar4 n _ _ h
def ar6(n:Nat)(a0:D)(cW:D){r:D}(h:HF n a0 cW=some r):fz dh dj 256 [a0,(D.fn (.func rY) [] [cW])] (·=r):=gr (cv n [(254,HD n)] [(2,⟨[aq 0,(1,.b (.fd rY 1)),aq 7,aq 8],[],[]⟩)] [] [(0,⟨[],[],[]⟩)]) ca (bK (ar5 n) bf) au b8 Tryz.func256 (cE (cE le_nil)) h
def ar7(n:Nat):b7 256 (Ac n):=by
 intro aR r h;unfold Ac at h;split at h
 case h_2=>cases h
 split at h
 case h_2=>cases h
 rename_i ai;obtain rfl:=nT ai;exact ar6 n _ _ h
def ar8(n:Nat)(a0:D)(cW:D){r:D}(h:Mp n a0 cW=some r):fz dh dj 253 [a0,(D.fn (.func rY) [] [cW])] (·=r):=gr (cv n [(256,Ac n)] [] [] []) ca (bK (ar7 n) bf) au b8 Tryz.func253 (cE (cE le_nil)) h
def ar9(n:Nat):b7 253 (Ad n):=by
 intro aR r h;unfold Ad at h;split at h
 case h_2=>cases h
 split at h
 case h_2=>cases h
 rename_i ai;obtain rfl:=nT ai;exact ar8 n _ _ h
def asa(n:Nat):b7 201 (HG n):=cS (cv n [] [] [(5004000,⟨[aq 4,aq 5],[],[]⟩),(5005000,⟨[aq 4,aq 5],[],[]⟩),(5006000,⟨[aq 4,aq 5],[],[]⟩),(12011000,⟨[aq 4,aq 12],[],[]⟩),(15014000,⟨[aq 4,aq 15],[],[]⟩),(15015000,⟨[aq 4,aq 15],[],[]⟩),(15016000,⟨[aq 4,aq 15],[],[]⟩),(15017000,⟨[aq 4,aq 15],[],[]⟩),(15018000,⟨[aq 4,aq 15],[],[]⟩),(15019000,⟨[aq 4,aq 15],[],[]⟩),(15020000,⟨[aq 4,aq 15],[],[]⟩),(15021000,⟨[aq 4,aq 15],[],[]⟩),(15022000,⟨[aq 4,aq 15],[],[]⟩)] []) ca bf au b8 Tryz.func201
def asb(n:Nat):b7 181 (HH n):=cS (cv n [(201,HG n)] [] [(18008007,⟨[sp 1,aq 3,aq 4,aq 5,aq 6],[bm 1 4],[]⟩),(20000009,⟨[sp 1,aq 3,aq 4,aq 5,aq 6],[bm 1 4],[]⟩)] [(0,⟨[sp 1,aq 3,aq 4,aq 5,aq 6],[bm 1 4],[]⟩)]) ca (bK (asa n) bf) au b8 Tryz.func181
def asc(n:Nat):hg abX (HI n):=lC ⟨fF dh,dj,fM [(181,HH n)],n,[10000,10001],cO [],cO [(10004003,⟨[(3,.b (.ptr 10001 0))],[bm 10001 1,bm 10000 1],[]⟩),(18000006,⟨[(3,.b (.ptr 10001 0))],[bm 10001 1,bm 10000 1],[]⟩)],cO [],gL [],fL [],gV [],gK []⟩ ca (bK (asb n) bf) au b8 Tryz.func180 []
def acO(n:Nat):hg TW (xK n):=lC ⟨fF dh,dj,fM [],n,[],cO [(2,⟨[cu 0 9000,aq 1,aq 5],[bH 9000 1],[]⟩)],cO [],cO [(0,⟨[cu 0 9000,aq 1,aq 5],[bH 9000 1],[]⟩)],gL [],fL [],gV [],gK []⟩ ca bf au b8 Tryz.func183 []
def asd(n:Nat):hg abY (Ae n):=lC ⟨fF dh,dj,fM [],n,[10000,10001],cO [],cO [(9004003,⟨[],[(10000,.box [.b (.row 6010)]),(10001,.box [.b (.row 9001)]),bH 6010 1,bH 9001 1],[]⟩),(15000005,⟨[],[(10000,.box [.b (.row 9000)]),(10001,.box [.b (.row 6020)]),bH 9000 1,bH 6020 1],[]⟩)],cO [(0,⟨[],[(10000,.box [.b (.row 6010)]),(10001,.box [.b (.row 9001)]),bH 6010 1,bH 9001 1],[]⟩)],gL [],fL [(14,⟨TW,xK n,6010,[]⟩),(20,⟨TW,xK n,6020,[]⟩)],gV [],gK []⟩ ca bf (bS (acO n) (bS (acO n) au)) b8 Tryz.func182 []
def ase(Af:List D->Option (List D))(n:Nat)(asf:hg A3 Af):hg A3 (S4 Af n):=lC ⟨fF dh,dj,fM [],n,[10000,10001],cO [(4,⟨[aq 1,(2,.fn (.func aax) [] [.ptr 10000 0,.ptr 10001 0]),aq 15,aq 16,aq 17],[bm 10000 1,bm 10001 1],[]⟩)],cO [],cO [(0,⟨[],[bm 10000 1,bm 10001 1],[]⟩)],gL [],fL [(12,⟨abX,HI n,6010,[]⟩),(25,⟨A3,Af,6020,[]⟩)],gV [],gK []⟩ ca bf (bS (asc n) (bS asf au)) b8 Tryz.func179 []
def acP:∀n,hg A3 (vD n)
 |0=>zr (s:=A3) (zt (T:=fF dh) (os:=λ_=>none) Tryz.func179) (λ_=>rfl)|n+1=>by have ih:=acP n;exact ase (vD n) n ih
def asg(n:Nat):hg A3 (vD n):=(acP n)
def Ui(n:Nat):b7 146 (tT n):=cS ⟨fF dh,dj,fM [],n,[],cO [],cO [],cO [],gL [],fL [(7,⟨A3,vD n,6010,[]⟩)],gV [],gK []⟩ ca bf (bS (asg n) au) b8 Tryz.func146
def ash(Ag:List D->Option (List D))(n:Nat)(asi:hg A4 Ag):hg A4 (S5 Ag n):=lC ⟨fF dh,dj,fM [],n,[10000,10001],cO [(4,⟨[aq 1,(2,.fn (.func aay) [] [.ptr 10000 0,.ptr 10001 0]),aq 15,aq 16,aq 17],[(10000,.box [.b (.row 6010)]),(10001,.box [.b (.row 6011)]),bH 6010 1,bH 6011 1],[]⟩)],cO [],cO [(0,⟨[],[(10000,.box [.b (.row 6010)]),(10001,.box [.b (.row 6011)]),bH 6010 1,bH 6011 1],[]⟩)],gL [],fL [(12,⟨abY,Ae n,6010,[]⟩),(25,⟨A4,Ag,6020,[]⟩)],gV [],gK []⟩ ca bf (bS (asd n) (bS asi au)) b8 Tryz.func179 []
def acQ:∀n,hg A4 (vE n)
 |0=>zr (s:=A4) (zt (T:=fF dh) (os:=λ_=>none) Tryz.func179) (λ_=>rfl)|n+1=>by have ih:=acQ n;exact ash (vE n) n ih
def asj(n:Nat):hg A4 (vE n):=(acQ n)
def Ny(n:Nat):b7 149 (sd n):=cS ⟨fF dh,dj,fM [],n,[],cO [],cO [],cO [],gL [(2,[0,1,2,3])],fL [(6,⟨A4,vE n,6010,[.box 3 0 5900 1,.box 2 0 5901 1]⟩)],gV [],gK []⟩ ca bf (bS (asj n) au) b8 Tryz.func149
def asl(n:Nat):b7 188 (Ah n):=cS (cv n [(146,tT n),(149,sd n)] [] [] []) ca (bK (Ui n) (bK (Ny n) bf)) au b8 Tryz.func188
def asm(n:Nat):b7 189 (HL n):=cS (cv n [] [] [(6005000,⟨[aq 3,aq 6],[],[]⟩),(6006000,⟨[aq 3,aq 6],[],[]⟩),(6007000,⟨[aq 3,aq 6],[],[]⟩),(6008000,⟨[aq 3,aq 6],[],[]⟩),(12011000,⟨[aq 12],[],[]⟩),(12012000,⟨[aq 12],[],[]⟩),(12013000,⟨[aq 12],[],[]⟩),(12014000,⟨[aq 12],[],[]⟩),(12015000,⟨[aq 12],[],[]⟩),(12016000,⟨[aq 12],[],[]⟩)] [(0,⟨[],[],[]⟩)]) ca bf au b8 Tryz.func189
def asn(n:Nat):hg abZ (HM n):=lC ⟨fF dh,dj,fM [(188,Ah n),(189,HL n)],n,[10000,10001],cO [],cO [(40007006,⟨[(3,.b (.ptr 10001 0))],[bm 10001 1,bm 10000 1],[]⟩),(43009008,⟨[(3,.b (.ptr 10001 0))],[bm 10001 1,bm 10000 1],[]⟩),(46011010,⟨[(3,.b (.ptr 10001 0))],[bm 10001 1,bm 10000 1],[]⟩),(50013012,⟨[(3,.b (.ptr 10001 0))],[bm 10001 1,bm 10000 1],[]⟩),(65000014,⟨[(3,.b (.ptr 10001 0))],[bm 10001 1,bm 10000 1],[]⟩)],cO [(0,⟨[(3,.b (.ptr 10001 0))],[bm 10001 1,bm 10000 1],[]⟩)],gL [],fL [],gV [],gK []⟩ ca (bK (asl n) (bK (asm n) bf)) au b8 Tryz.func187 []
def aso(Ai:List D->Option (List D))(n:Nat)(asp:hg A5 Ai):hg A5 (S6 Ai n):=lC ⟨fF dh,dj,fM [],n,[10000,10001],cO [(4,⟨[aq 1,(2,.fn (.func aaz) [] [.ptr 10000 0,.ptr 10001 0]),aq 15,aq 16,aq 17],[bm 10000 1,bm 10001 1],[]⟩)],cO [],cO [(0,⟨[],[bm 10000 1,bm 10001 1],[]⟩)],gL [],fL [(12,⟨abZ,HM n,6010,[]⟩),(25,⟨A5,Ai,6020,[]⟩)],gV [],gK []⟩ ca bf (bS (asn n) (bS asp au)) b8 Tryz.func186 []
def acR:∀n,hg A5 (vF n)
 |0=>zr (s:=A5) (zt (T:=fF dh) (os:=λ_=>none) Tryz.func186) (λ_=>rfl)|n+1=>by have ih:=acR n;exact aso (vF n) n ih
def asq(n:Nat):hg A5 (vF n):=(acR n)
def acS(n:Nat):b7 152 (Aj n):=cS ⟨fF dh,dj,fM [],n,[],cO [],cO [],cO [],gL [],fL [(7,⟨A5,vF n,6010,[]⟩)],gV [],gK []⟩ ca bf (bS (asq n) au) b8 Tryz.func152
def Uj(n:Nat):b7 147 (vG n):=cS (cv n [] [(3,⟨[(3,.b (.map 8)),aq 9,aq 10,aq 11],[(8,.map)],[]⟩)] [(24000007,⟨[(3,.b (.map 8)),aq 9,aq 10,aq 11],[(8,.map)],[]⟩)] [(0,⟨[(3,.b (.map 8))],[(8,.map)],[]⟩),(1,⟨[(3,.b (.map 8)),aq 9,aq 10,aq 11],[(8,.map)],[]⟩)]) ca bf au b8 Tryz.func147
def asr(n:Nat):b7 148 (HP n):=cS ⟨fF dh,dj,fM [(147,vG n),(149,sd n)],n,[],cO [(4,⟨[aq 3,cu 4 5002,aq 16,aq 17,aq 18],[bH 5002 1],[.slot 4 5002 1]⟩),(9,⟨[aq 3,cu 4 5002,cu 7 5001,aq 16,aq 17,aq 18,aq 28,aq 29,aq 30],[bH 5002 1,bH 5001 1],[.slot 7 5001 1]⟩)],cO [(40000013,⟨[aq 3,cu 4 5002,cu 7 44,aq 16,aq 17,aq 18,aq 28,aq 29,aq 30],[bH 5002 1,bH 44 1],[.slot 7 5000 1]⟩)],cO [(0,⟨[cu 4 5002],[bH 5002 1],[]⟩),(1,⟨[aq 3,cu 4 49,aq 16,aq 17,aq 18],[bH 49 1],[]⟩),(2,⟨[aq 3,cu 4 5002,cu 7 5001,aq 16,aq 17,aq 18],[bH 5002 1,bH 5001 1],[]⟩),(3,⟨[aq 3,cu 4 5002,cu 7 44,aq 16,aq 17,aq 18,aq 28,aq 29,aq 30],[bH 5002 1,bH 44 1],[]⟩)],gL [],fL [],gV [48],gK []⟩ ca (bK (Uj n) (bK (Ny n) bf)) au b8 Tryz.func148
def ass(Ak:List D->Option (List D))(n:Nat)(ast:hg xU Ak):hg xU (Mv Ak n):=lC ⟨fF dh,dj,fM [],n,[10000,10001,10002],cO [(1,⟨[(2,.b (.ptr 10001 0)),(3,.b (.ptr 10002 0)),aq 10,aq 11,aq 12],[(10001,.box [.b (.map 9000)]),(10002,.box [.fn (.func xu) [] [.ptr 10000 0,.ptr 10001 0,.ptr 10002 0]]),bm 10000 1,(9000,.map)],[]⟩)],cO [(19000004,⟨[(2,.b (.ptr 10001 0)),(3,.b (.ptr 10002 0)),aq 10,aq 11,aq 12],[(10001,.box [.b (.map 6010)]),(10002,.box [.fn (.func xu) [] [.ptr 10000 0,.ptr 10001 0,.ptr 10002 0]]),bm 10000 1,(6010,.map)],[]⟩)],cO [(0,⟨[],[bm 10000 1,(10001,.box [.b (.map 9000)]),(10002,.box [.fn (.func xu) [] [.ptr 10000 0,.ptr 10001 0,.ptr 10002 0]]),(9000,.map)],[]⟩),(1,⟨[(2,.b (.ptr 10001 0)),(3,.b (.ptr 10002 0)),aq 10,aq 11,aq 12],[(10001,.box [.b (.map 6010)]),(10002,.box [.fn (.func xu) [] [.ptr 10000 0,.ptr 10001 0,.ptr 10002 0]]),bm 10000 1,(6010,.map)],[]⟩)],gL [],fL [(24,⟨xU,Ak,6010,[]⟩)],gV [],gK []⟩ ca bf (bS ast au) b8 Tryz.func184 []
def acT:∀n,hg xU (se n)
 |0=>zr (s:=xU) (zt (T:=fF dh) (os:=λ_=>none) Tryz.func184) (λ_=>rfl)|n+1=>by have ih:=acT n;exact ass (se n) n ih
def acU(n:Nat):hg xU (se n):=(acT n)
def asu(n:Nat):hg ab0 (HR n):=lC ⟨fF dh,dj,fM [],n,[],cO [(5,⟨[sp 5,sp 6,aq 11,aq 12,aq 13],[(5,.box [.b (.map 9)]),(6,.box [.fn (.func xu) [] [.ptr 2 0,.ptr 5 0,.ptr 6 0]]),(9,.map),bm 2 1],[]⟩)],cO [],cO [(0,⟨[sp 5],[(5,.box [.b (.map 9)]),(9,.map)],[]⟩)],gL [],fL [(19,⟨xU,se n,6010,[]⟩)],gV [],gK []⟩ ca bf (bS (acU n) au) b8 Tryz.func150 []
def asv(n:Nat):b7 150 (Dd n):=e2 ⟨fF dh,dj,fM [],n,[],cO [(5,⟨[sp 5,sp 6,aq 11,aq 12,aq 13],[(5,.box [.b (.map 9)]),(6,.box [.fn (.func xu) [] [.ptr 2 0,.ptr 5 0,.ptr 6 0]]),(9,.map),bm 2 1],[]⟩)],cO [],cO [(0,⟨[sp 5],[(5,.box [.b (.map 9)]),(9,.map)],[]⟩)],gL [],fL [(19,⟨xU,se n,6010,[]⟩)],gV [],gK []⟩ ca bf (bS (acU n) au) b8 Tryz.func150
def asw(vH:List D->Option (List D))(n:Nat)(asx:hg A6 vH):hg A6 (HT vH n):=lC ⟨fF dh,dj,fM [],n,[10000,10001,10002,10003],cO [(1,⟨[aq 1,(2,.b (.ptr 10000 0)),(3,.b (.ptr 10001 0)),(4,.b (.ptr 10002 0)),(5,.b (.ptr 10003 0)),sp 6,sp 8],[bm 10000 1,bm 10001 1,bm 10002 1,(10003,.box [.fn (.func xv) [] [.ptr 10000 0,.ptr 10001 0,.ptr 10002 0,.ptr 10003 0]]),bm 6 4,bm 8 4],[]⟩),(10,⟨[aq 1,(4,.b (.ptr 10002 0)),(5,.b (.ptr 10003 0)),sp 6,sp 8,cu 11 41,aq 43,aq 44,aq 45],[bm 10002 1,(10003,.box [.fn (.func xv) [] [.ptr 10000 0,.ptr 10001 0,.ptr 10002 0,.ptr 10003 0]]),bm 6 4,bm 8 4,bH 41 4,bm 10000 1,bm 10001 1],[]⟩)],cO [(55000013,⟨[aq 1,(4,.b (.ptr 10002 0)),(5,.b (.ptr 10003 0)),sp 6,sp 8,cu 11 41,aq 43,aq 44,aq 45],[bm 10002 1,(10003,.box [.fn (.func xv) [] [.ptr 10000 0,.ptr 10001 0,.ptr 10002 0,.ptr 10003 0]]),bm 6 4,bm 8 4,bH 41 4,bm 10000 1,bm 10001 1],[]⟩)],cO [(0,⟨[aq 1,(4,.b (.ptr 10002 0)),(5,.b (.ptr 10003 0)),sp 6,sp 8],[bm 10002 1,(10003,.box [.fn (.func xv) [] [.ptr 10000 0,.ptr 10001 0,.ptr 10002 0,.ptr 10003 0]]),bm 6 4,bm 8 4,bm 10000 1,bm 10001 1],[]⟩),(2,⟨[sp 6,sp 8,cu 11 41],[bm 6 4,bm 8 4,bH 41 4,bm 10000 1,bm 10001 1,bm 10002 1,(10003,.box [.fn (.func xv) [] [.ptr 10000 0,.ptr 10001 0,.ptr 10002 0,.ptr 10003 0]])],[]⟩),(3,⟨[aq 1,(4,.b (.ptr 10002 0)),(5,.b (.ptr 10003 0)),sp 6,sp 8,cu 11 41,aq 43,aq 44,aq 45],[bm 10002 1,(10003,.box [.fn (.func xv) [] [.ptr 10000 0,.ptr 10001 0,.ptr 10002 0,.ptr 10003 0]]),bm 6 4,bm 8 4,bH 41 4,bm 10000 1,bm 10001 1],[]⟩)],gL [],fL [(62,⟨A6,vH,6010,[]⟩)],gV [20066],gK []⟩ ca bf (bS asx au) b8 Tryz.func185 []
def acV:∀n,hg A6 (tU n)
 |0=>zr (s:=A6) (zt (T:=fF dh) (os:=λ_=>none) Tryz.func185) (λ_=>rfl)|n+1=>by have ih:=acV n;exact asw (tU n) n ih
def asy(n:Nat):hg A6 (tU n):=(acV n)
def asz(n:Nat):b7 151 (HU n):=e2 ⟨fF dh,dj,fM [(147,vG n)],n,[],cO [],cO [],cO [],gL [],fL [(13,⟨A6,tU n,6010,[]⟩)],gV [],gK []⟩ ca (bK (Uj n) bf) (bS (asy n) au) b8 Tryz.func151
def Nz(n:Nat):b7 98 (mM n):=e2 ⟨(fF Tryz.prog).tg [77],dj,fM [(146,tT n),(147,vG n),(148,HP n),(149,sd n),(150,Dd n),(151,HU n)],n,[],cO [(8,⟨[aq 1,sp 2,sp 4,aq 7,aq 8,cu 9 5001,aq 36,aq 37,aq 38],[bm 2 4,bm 4 4,bH 5001 1],[.slot 9 5001 1]⟩),(16,⟨[aq 1,sp 2,sp 4,aq 8,(16,.b (.map 6010)),aq 57,aq 58,aq 59],[bm 2 4,bm 4 4,(6010,.map)],[]⟩),(21,⟨[aq 1,sp 2,sp 4,aq 8,(16,.b (.map 6010)),aq 67,aq 68],[bm 2 4,bm 4 4,(6010,.map)],[]⟩)],cO [(48000012,⟨[aq 1,sp 2,sp 4,aq 7,aq 8,cu 9 52,aq 36,aq 37,aq 38],[bm 2 4,bm 4 4,bH 52 1],[.slot 9 5000 1]⟩)],cO [(0,⟨[aq 1,sp 2,sp 4,aq 8,cu 9 5001],[bm 2 4,bm 4 4,bH 5001 1],[]⟩),(1,⟨[aq 1,sp 2,sp 4,aq 7,aq 8,cu 9 52,aq 36,aq 37,aq 38],[bm 2 4,bm 4 4,bH 52 1],[]⟩),(2,⟨[aq 1,sp 2,sp 4,aq 8,(16,.b (.map 6010))],[bm 2 4,bm 4 4,(6010,.map)],[]⟩),(4,⟨[aq 1,sp 2,sp 4],[bm 2 4,bm 4 4],[]⟩)],gL [],fL [(56,⟨ab0,HR n,6010,[]⟩)],gV [],gK [(14,[[5001],[],[]])]⟩ ((tok _).tg _) (bK (Ui n) (bK (Uj n) (bK (asr n) (bK (Ny n) (bK (asv n) (bK (asz n) bf)))))) (bS (asu n) au) b8 Tryz.func98
def acW(n:Nat):b7 101 (An n):=cS (cv n [] [(3,⟨[(3,.b (.map 8)),aq 9,aq 10,aq 11],[(8,.map)],[]⟩)] [(24000007,⟨[(3,.b (.map 8)),aq 9,aq 10,aq 11],[(8,.map)],[]⟩)] [(0,⟨[(3,.b (.map 8))],[(8,.map)],[]⟩),(1,⟨[(3,.b (.map 8)),aq 9,aq 10,aq 11],[(8,.map)],[]⟩)]) ca bf au b8 Tryz.func101
def acX(n:Nat):b7 202 (sg n):=e2 (cv n [] [] [] []) ca bf au b8 Tryz.func202
def asA(n:Nat):b7 203 (HY n):=cS (cv n [] [(2,⟨[sp 2,aq 6,aq 7,aq 8],[bm 2 3],[]⟩)] [] [(0,⟨[sp 2],[bm 2 3],[]⟩)]) ca bf au b8 Tryz.func203
def asB(n:Nat):b7 204 (Ao n):=lE (cv n [(202,sg n)] [] [(13000002,⟨[aq 0,sp 4,sp 5,sp 6],[bm 4 3,bm 5 3,bm 6 3],[]⟩)] []) ca (bK (acX n) bf) au b8 Tryz.func204
def asC(n:Nat):b7 190 (pE n):=amB (cv n [(202,sg n),(203,HY n),(204,Ao n)] [] [(29007000,⟨[aq 0,aq 1,aq 3,aq 4,sp 7,sp 10,aq 16,aq 29],[bm 7 4,bm 10 3],[]⟩),(69017000,⟨[aq 4,sp 7,sp 10,aq 16,aq 69],[bm 7 4,bm 10 3],[]⟩),(69018000,⟨[aq 4,sp 7,sp 10,aq 16,aq 69],[bm 7 4,bm 10 3],[]⟩),(69019000,⟨[aq 4,sp 7,sp 10,aq 16,aq 69],[bm 7 4,bm 10 3],[]⟩),(69020000,⟨[aq 4,sp 7,sp 10,aq 16,aq 69],[bm 7 4,bm 10 3],[]⟩),(126029000,⟨[aq 4,sp 7,sp 10,aq 126],[bm 7 4,bm 10 3],[]⟩),(164038000,⟨[aq 4,sp 7,sp 10,aq 152,aq 164],[bm 7 4,bm 10 3],[]⟩)] [(0,⟨[aq 4,sp 7,sp 10],[bm 7 4,bm 10 3],[]⟩)]) ca (bK (acX n) (bK (asA n) (bK (asB n) bf))) au b8 Tryz.func190
def asD(Ar:List D->Option D)(n:Nat)(a0:D)(aK:D)(a2:D)(a3:D)(asE:b7 154 Ar){r:D}(h:Tg Ar n a0 aK a2 a3=some r):fz dh dj 154 [a0,aK,a2,a3] (·=r):=gr (cv n [(154,Ar),(190,pE n)] [(3,⟨[aq 0,aq 1,aq 3,sp 6,sp 8,cu 10 5000,aq 16,aq 17,aq 18],[bm 6 4,bm 8 3,bH 5000 3],[.slot 10 5000 3]⟩)] [] [(0,⟨[aq 0,aq 1,aq 3,sp 6,sp 8,cu 10 5000],[bm 6 4,bm 8 3,bH 5000 3],[]⟩)]) ca (bK asE (bK (asC n) bf)) au b8 Tryz.func154 (cE (cE (cE (cE le_nil)))) h
def acY:∀n,b7 154 (si n)
 |0=>(λ_ _ h=>by cases h)
 |n+1=>by
  have ih:=acY n;exact(by
   intro aR r h;unfold si at h;split at h
   case h_2=>cases h
   exact asD (si n) n _ _ _ _ ih h)
def asF(n:Nat):b7 154 (si n):=(acY n)
def acZ(n:Nat):b7 100 (xL n):=lE (cv n [(146,tT n),(101,An n),(154,si n)] [] [] []) ca (bK (Ui n) (bK (acW n) (bK (asF n) bf))) au b8 Tryz.func100
def Uk(n:Nat):b7 238 (tW n):=lE (cv n [(98,mM n),(100,xL n)] [] [] []) ca (bK (Nz n) (bK (acZ n) bf)) au b8 Tryz.func238
def ac0(n:Nat):b7 242 (xM n):=lE (cv n [(238,tW n)] [] [] []) ca (bK (Uk n) bf) au b8 Tryz.func242
def asG(As:List D->Option D)(n:Nat)(a0:D)(aK:D)(asH:b7 255 As){r:D}(h:H3 As n a0 aK=some r):fz dh dj 255 [a0,aK] (·=r):=gr (cv n [(242,xM n),(255,As)] [(4,⟨[sp 2,aq 16,aq 17,aq 18],[bm 2 8],[]⟩)] [] [(0,⟨[],[],[]⟩)]) ca (bK (ac0 n) (bK asH bf)) au b8 Tryz.func255 (cE (cE le_nil)) h
def ac1:∀n,b7 255 (tX n)
 |0=>(λ_ _ h=>by cases h)
 |n+1=>by
  have ih:=ac1 n;exact(by
   intro aR r h;unfold tX at h;split at h
   case h_2=>cases h
   exact asG (tX n) n _ _ ih h)
def asI(n:Nat):b7 255 (tX n):=(ac1 n)
def asJ(n:Nat):b7 252 (vI n):=lE (cv n [(95,tS n),(253,Ad n),(152,Aj n),(255,tX n)] [] [] []) ca (bK (Ug n) (bK (ar9 n) (bK (acS n) (bK (asI n) bf)))) au b8 Tryz.func252
def asK(n:Nat)(a0:D)(x1:List D){r:D}(h:MC n a0 x1=some r):fz dh dj 246 [a0,.ref x1 0] (·=r):=gr (cv n [] [] [] []) ca bf au b8 Tryz.func246 (cE (rO tB le_nil)) h
def asL(n:Nat):b7 246 (H5 n):=by
 intro aR r h;unfold H5 at h;split at h
 case h_2=>cases h
 split at h
 case h_2=>cases h
 exact asK n _ _ h
def asM(n:Nat)(a0:D)(cW:D){r:D}(h:H7 n a0 cW=some r):fz dh dj 67 [a0,(D.fn (.func CP) [] [cW])] (·=r):=gr (cv n [(246,H5 n)] [(2,⟨[aq 0,(1,.b (.fd CP 1)),aq 7,aq 8],[],[]⟩)] [] [(0,⟨[],[],[]⟩)]) ca (bK (asL n) bf) au b8 Tryz.func67 (cE (cE le_nil)) h
def asN(n:Nat):b7 67 (Au n):=by
 intro aR r h;unfold Au at h;split at h
 case h_2=>cases h
 split at h
 case h_2=>cases h
 rename_i ai;obtain rfl:=nT ai;exact asM n _ _ h
def asO(n:Nat)(a0:D)(x1:List D){r:D}(h:MD n a0 x1=some r):fz dh dj 248 [a0,.ref x1 0] (·=r):=gr (cv n [] [] [] []) ca bf au b8 Tryz.func248 (cE (rO tB le_nil)) h
def asP(n:Nat):b7 248 (H8 n):=by
 intro aR r h;unfold H8 at h;split at h
 case h_2=>cases h
 split at h
 case h_2=>cases h
 exact asO n _ _ h
def asQ(n:Nat)(a0:D)(cW:D){r:D}(h:Ia n a0 cW=some r):fz dh dj 249 [a0,(D.fn (.func rX) [] [cW])] (·=r):=gr (cv n [(248,H8 n)] [(2,⟨[aq 0,(1,.b (.fd rX 1)),aq 7,aq 8],[],[]⟩)] [] [(0,⟨[],[],[]⟩)]) ca (bK (asP n) bf) au b8 Tryz.func249 (cE (cE le_nil)) h
def asR(n:Nat):b7 249 (Av n):=by
 intro aR r h;unfold Av at h;split at h
 case h_2=>cases h
 split at h
 case h_2=>cases h
 rename_i ai;obtain rfl:=nT ai;exact asQ n _ _ h
def asS(n:Nat)(a0:D)(cW:D){r:D}(h:ME n a0 cW=some r):fz dh dj 247 [a0,(D.fn (.func rX) [] [cW])] (·=r):=gr (cv n [(249,Av n)] [] [] []) ca (bK (asR n) bf) au b8 Tryz.func247 (cE (cE le_nil)) h
def asT(n:Nat):b7 247 (Aw n):=by
 intro aR r h;unfold Aw at h;split at h
 case h_2=>cases h
 split at h
 case h_2=>cases h
 rename_i ai;obtain rfl:=nT ai;exact asS n _ _ h
def asU(n:Nat):b7 245 (xN n):=lE (cv n [(67,Au n),(247,Aw n),(238,tW n)] [] [] []) ca (bK (asN n) (bK (asT n) (bK (Uk n) bf))) au b8 Tryz.func245
def asV(n:Nat):b7 241 (Di n):=lE (cv n [(242,xM n)] [] [] []) ca (bK (ac0 n) bf) au b8 Tryz.func241
def asW(n:Nat):b7 237 (Dj n):=lE (cv n [(238,tW n)] [] [] []) ca (bK (Uk n) bf) au b8 Tryz.func237
def asX(n:Nat)(a0:D)(x1:List D){r:D}(h:MG n a0 x1=some r):fz dh dj 234 [a0,.ref x1 0] (·=r):=gr (cv n [] [] [] []) ca bf au b8 Tryz.func234 (cE (rO tB le_nil)) h
def asY(n:Nat):b7 234 (Ib n):=by
 intro aR r h;unfold Ib at h;split at h
 case h_2=>cases h
 split at h
 case h_2=>cases h
 exact asX n _ _ h
def asZ(n:Nat)(a0:D)(cW:D){r:D}(h:Ie n a0 cW=some r):fz dh dj 233 [a0,(D.fn (.func CO) [] [cW])] (·=r):=gr (cv n [(234,Ib n)] [(2,⟨[aq 0,(1,.b (.fd CO 1)),aq 7,aq 8],[],[]⟩)] [] [(0,⟨[],[],[]⟩)]) ca (bK (asY n) bf) au b8 Tryz.func233 (cE (cE le_nil)) h
def as0(n:Nat):b7 233 (Ax n):=by
 intro aR r h;unfold Ax at h;split at h
 case h_2=>cases h
 split at h
 case h_2=>cases h
 rename_i ai;obtain rfl:=nT ai;exact asZ n _ _ h
def as1(n:Nat):b7 232 (Dk n):=lE ⟨fF dh,dj,fM [(149,sd n),(233,Ax n)],n,[],cO [(3,⟨[aq 0,aq 2,cu 7 16,cu 8 18],[bH 16 1,bH 18 1],[]⟩),(7,⟨[aq 0,aq 2,cu 7 16,cu 8 18,aq 35,aq 36,aq 37],[bH 16 1,bH 18 1],[]⟩)],cO [(52000011,⟨[aq 0,aq 2,cu 7 16,cu 8 59,aq 35,aq 36,aq 37],[bH 16 1,bH 59 1],[]⟩)],cO [(0,⟨[aq 2,cu 7 16],[bH 16 1],[]⟩),(1,⟨[aq 0,aq 2,cu 7 16,cu 8 18],[bH 16 1,bH 18 1],[]⟩),(2,⟨[aq 0,aq 2,cu 7 16,cu 8 18],[bH 16 1,bH 18 1],[]⟩),(3,⟨[aq 0,aq 2,cu 7 16,cu 8 59,aq 35,aq 36,aq 37],[bH 16 1,bH 59 1],[]⟩)],gL [],fL [],gV [23],gK []⟩ ca (bK (Ny n) (bK (as0 n) bf)) au b8 Tryz.func232
def as2(n:Nat)(a0:D)(x1:List D){r:D}(h:MJ n a0 x1=some r):fz dh dj 226 [a0,.ref x1 0] (·=r):=gr (cv n [] [] [] []) ca bf au b8 Tryz.func226 (cE (rO tB le_nil)) h
def as3(n:Nat):b7 226 (Ig n):=by
 intro aR r h;unfold Ig at h;split at h
 case h_2=>cases h
 split at h
 case h_2=>cases h
 exact as2 n _ _ h
def as4(n:Nat)(a0:D)(cW:D){r:D}(h:Ii n a0 cW=some r):fz dh dj 67 [a0,(D.fn (.func rV) [] [cW])] (·=r):=gr (cv n [(226,Ig n)] [(2,⟨[aq 0,(1,.b (.fd rV 1)),aq 7,aq 8],[],[]⟩)] [] [(0,⟨[],[],[]⟩)]) ca (bK (as3 n) bf) au b8 Tryz.func67 (cE (cE le_nil)) h
def as5(n:Nat):b7 67 (Az n):=by
 intro aR r h;unfold Az at h;split at h
 case h_2=>cases h
 split at h
 case h_2=>cases h
 rename_i ai;obtain rfl:=nT ai;exact as4 n _ _ h
def as6(n:Nat)(a0:D)(cW:D){r:D}(h:MK n a0 cW=some r):fz dh dj 96 [a0,(D.fn (.func rV) [] [cW])] (·=r):=gr (cv n [(67,Az n)] [] [] []) ca (bK (as5 n) bf) au b8 Tryz.func96 (cE (cE le_nil)) h
def as7(n:Nat):b7 96 (AA n):=by
 intro aR r h;unfold AA at h;split at h
 case h_2=>cases h
 split at h
 case h_2=>cases h
 rename_i ai;obtain rfl:=nT ai;exact as6 n _ _ h
def as8(n:Nat)(a0:D)(x1:List D){r:D}(h:ML n a0 x1=some r):fz dh dj 228 [a0,.ref x1 0] (·=r):=gr (cv n [] [] [] []) ca bf au b8 Tryz.func228 (cE (rO tB le_nil)) h
def as9(n:Nat):b7 228 (Ij n):=by
 intro aR r h;unfold Ij at h;split at h
 case h_2=>cases h
 split at h
 case h_2=>cases h
 exact as8 n _ _ h
def ata(n:Nat)(a0:D)(cW:D){r:D}(h:Il n a0 cW=some r):fz dh dj 229 [a0,(D.fn (.func rW) [] [cW])] (·=r):=gr (cv n [(228,Ij n)] [(2,⟨[aq 0,(1,.b (.fd rW 1)),aq 7,aq 8],[],[]⟩)] [] [(0,⟨[],[],[]⟩)]) ca (bK (as9 n) bf) au b8 Tryz.func229 (cE (cE le_nil)) h
def atb(n:Nat):b7 229 (AB n):=by
 intro aR r h;unfold AB at h;split at h
 case h_2=>cases h
 split at h
 case h_2=>cases h
 rename_i ai;obtain rfl:=nT ai;exact ata n _ _ h
def atc(n:Nat)(a0:D)(cW:D){r:D}(h:MM n a0 cW=some r):fz dh dj 227 [a0,(D.fn (.func rW) [] [cW])] (·=r):=gr (cv n [(229,AB n)] [] [] []) ca (bK (atb n) bf) au b8 Tryz.func227 (cE (cE le_nil)) h
def atd(n:Nat):b7 227 (AD n):=by
 intro aR r h;unfold AD at h;split at h
 case h_2=>cases h
 split at h
 case h_2=>cases h
 rename_i ai;obtain rfl:=nT ai;exact atc n _ _ h
def ate(n:Nat):b7 225 (vJ n):=lE (cv n [(95,tS n),(96,AA n),(227,AD n)] [] [(17005000,⟨[aq 17],[],[]⟩)] []) ca (bK (Ug n) (bK (as7 n) (bK (atd n) bf))) au b8 Tryz.func225
def atf(n:Nat):b7 250 (MN n):=cS (cv n [] [] [] []) ca bf au b8 Tryz.func250
def atg(n:Nat):b7 243 (MO n):=cS (cv n [] [] [] []) ca bf au b8 Tryz.func243
def ath(n:Nat):b7 239 (MP n):=cS (cv n [] [] [] []) ca bf au b8 Tryz.func239
def ati(n:Nat):b7 235 (MQ n):=cS (cv n [] [] [] []) ca bf au b8 Tryz.func235
def atj(n:Nat):b7 230 (MR n):=cS (cv n [] [] [] []) ca bf au b8 Tryz.func230
def atk(n:Nat):b7 223 (MS n):=cS (cv n [] [] [] []) ca bf au b8 Tryz.func223
def atl(n:Nat):b7 26 (oD n):=cS ⟨((fF Tryz.prog).K6 [117,118,119,121,122,123]),dj,fM [(59,Dc n),(60,Hw n),(251,Hx n),(244,Hy n),(240,sc n),(236,HA n),(231,HB n),(224,HC n),(252,vI n),(245,xN n),(241,Di n),(237,Dj n),(232,Dk n),(225,vJ n),(250,MN n),(243,MO n),(239,MP n),(235,MQ n),(230,MR n),(223,MS n)],n,[],cO [(2,⟨[sp 1,sp 2,aq 36,aq 37],[bm 1 8,bm 2 2],[]⟩),(13,⟨[sp 1,sp 2,aq 93,aq 94],[bm 1 8,bm 2 2],[]⟩),(16,⟨[sp 1,sp 2,aq 9,aq 93,aq 94,aq 98,aq 99],[bm 1 8,bm 2 2],[]⟩)],cO [],cO [(0,⟨[sp 1,sp 2],[bm 1 8,bm 2 2],[]⟩),(2,⟨[sp 2],[bm 2 2],[]⟩),(3,⟨[sp 1,sp 2,aq 93,aq 94],[bm 1 8,bm 2 2],[]⟩),(4,⟨[sp 1,sp 2,aq 93,aq 94],[bm 1 8,bm 2 2],[]⟩)],gL [],fL [],gV [],gK []⟩ ((tok _).K6 _) (bK (arV n) (bK (arX n) (bK (arY n) (bK (arZ n) (bK (ar0 n) (bK (ar1 n) (bK (ar2 n) (bK (ar3 n) (bK (asJ n) (bK (asU n) (bK (asV n) (bK (asW n) (bK (as1 n) (bK (ate n) (bK (atf n) (bK (atg n) (bK (ath n) (bK (ati n) (bK (atj n) (bK (atk n) bf)))))))))))))))))))) au b8 Tryz.func26
def atm(n:Nat):b7 27 (AF n):=cS (cv n [(61,vC n)] [(3,⟨[aq 4,aq 5,aq 10,aq 11,aq 12],[],[]⟩)] [(24000008,⟨[aq 4,aq 5,aq 10,aq 11,aq 12],[],[]⟩)] [(0,⟨[aq 4,aq 5],[],[]⟩),(1,⟨[aq 4,aq 5,aq 10,aq 11,aq 12],[],[]⟩)]) ca (bK (Uh n) bf) au b8 Tryz.func27
def atn(n:Nat):b7 62 (qg n):=e2 (cv n [(98,mM n)] [(2,⟨[aq 1,cu 4 5000,aq 11,aq 12,aq 13],[bH 5000 4],[.slot 4 5000 4]⟩)] [] [(0,⟨[cu 4 5000],[bH 5000 4],[]⟩)]) ca (bK (Nz n) bf) au b8 Tryz.func62
def ato(n:Nat):b7 63 (AG n):=e2 (cv n [(98,mM n)] [(2,⟨[aq 1,cu 4 5000,aq 11,aq 12,aq 13],[bH 5000 5],[.slot 4 5000 5]⟩)] [] [(0,⟨[cu 4 5000],[bH 5000 5],[]⟩)]) ca (bK (Nz n) bf) au b8 Tryz.func63
def atp(AH:List D->Option (List D))(n:Nat)(atq:hg A7 AH):hg A7 (tY AH n):=lC ⟨fF dh,dj,fM [(98,mM n)],n,[10000,10001],cO [(8,⟨[(2,.b (.ptr 10001 0)),sp 3,sp 4,cu 8 5000,aq 32,aq 33,aq 34],[(10001,.box [.fn (.func L8) [] [.ptr 10000 0,.ptr 10001 0]]),bm 3 6,bm 4 6,bH 5000 6,bm 10000 1],[.slot 8 5000 6]⟩)],cO [],cO [(0,⟨[sp 3,sp 4,cu 8 5000],[bm 3 6,bm 4 6,bH 5000 6,bm 10000 1,(10001,.box [.fn (.func L8) [] [.ptr 10000 0,.ptr 10001 0]])],[]⟩)],gL [],fL [(41,⟨A7,AH,6020,[]⟩)],gV [20004],gK []⟩ ca (bK (Nz n) bf) (bS atq au) b8 Tryz.func153 []
def ac2:∀n,hg A7 (qh n)
 |0=>zr (s:=A7) (zt (T:=fF dh) (os:=λ_=>none) Tryz.func153) (λ_=>rfl)|n+1=>by have ih:=ac2 n;exact atp (qh n) n ih
def atr(n:Nat):hg A7 (qh n):=(ac2 n)
def ats(n:Nat):b7 99 (AI n):=e2 ⟨fF dh,dj,fM [(152,Aj n)],n,[],cO [],cO [],cO [],gL [],fL [(17,⟨A7,qh n,6010,[]⟩)],gV [],gK []⟩ ca (bK (acS n) bf) (bS (atr n) au) b8 Tryz.func99
def att(n:Nat):b7 64 (AJ n):=e2 (cv n [(99,AI n)] [(2,⟨[aq 1,cu 4 5000,aq 11,aq 12,aq 13],[bH 5000 7],[.slot 4 5000 7]⟩)] [] [(0,⟨[cu 4 5000],[bH 5000 7],[]⟩)]) ca (bK (ats n) bf) au b8 Tryz.func64
def atu(n:Nat):b7 28 (Ip n):=cS ⟨fF dh,dj,fM [(62,qg n),(63,AG n),(64,AJ n)],n,[],cO [],cO [],cO [],gL [(4,[1,2,0,3,4,5,6,7]),(7,[1,2,0,3,4,5,6,7]),(10,[1,2,0,3,4,5,6,7]),(13,[1,2,0,3,4,5,6,7]),(16,[1,2,0,3,4,5,6,7]),(19,[1,2,0,3,4,5,6,7])],fL [],gV [],gK []⟩ ca (bK (atn n) (bK (ato n) (bK (att n) bf))) au b8 Tryz.func28
def atv(n:Nat):hg ab1 (Iq n):=lC ⟨fF dh,dj,fM [],n,[],cO [],cO [],cO [],gL [],fL [],gV [],gK []⟩ ca bf au b8 Tryz.func65 [.slot 0 5000 1]
def atw(n:Nat):b7 29 (MX n):=cS ⟨fF dh,dj,fM [(61,vC n)],n,[],cO [(3,⟨[cu 3 11,aq 12,aq 13,aq 14],[bH 11 1],[]⟩),(10,⟨[sp 5,aq 6,cu 7 5001,aq 12,aq 13,aq 14,cu 22 11,aq 23,aq 24],[bm 5 4,bH 5001 1,bH 11 1],[.slot 7 5001 1]⟩),(13,⟨[sp 5,aq 6,cu 7 5001,aq 9,aq 12,aq 13,aq 14,cu 22 11,aq 23,aq 24,aq 29,aq 30],[bm 5 4,bH 5001 1,bH 11 1],[.slot 7 5000 1]⟩)],cO [(21000007,⟨[cu 3 11,sp 5,aq 6,aq 12,aq 13,aq 14],[bH 11 1,bm 5 4],[]⟩)],cO [(0,⟨[cu 3 11],[bH 11 1],[]⟩),(1,⟨[cu 3 5001,aq 12,aq 13,aq 14],[bH 5001 1],[]⟩),(2,⟨[cu 7 5001,aq 12,aq 13,aq 14],[bH 5001 1],[]⟩),(3,⟨[sp 5,aq 6,cu 7 5001,aq 12,aq 13,aq 14,cu 22 11,aq 23,aq 24],[bm 5 4,bH 5001 1,bH 11 1],[]⟩),(4,⟨[sp 5,aq 6,cu 7 5001,aq 12,aq 13,aq 14,cu 22 11,aq 23,aq 24],[bm 5 4,bH 5001 1,bH 11 1],[]⟩)],gL [],fL [(35,⟨ab1,Iq n,6030,[]⟩)],gV [41],gK []⟩ ca (bK (Uh n) bf) (bS (atv n) au) b8 Tryz.func29
def atx(d:D):d.le (Dm d):=by
 unfold Dm;split;.exact D.nil_le 1
 exact D.le_refl _
def aty{x r:D}(h:Iu x=some r):x.le r:=by
 unfold Iu at h;split at h
 case h_2=>cases h
 rename_i k es;split at h
 case isFalse=>cases h
 rename_i ai;cases h;refine D.ahB (by simp) ?_;intro i x y ad aE;simp only[xah,ad,xaI,xaE]at aE;subst aE;refine⟨by simp,xax.1 ai x (xad ad),?_⟩;intro j a b aH aj;simp only[xah,aH,xaI,xaE]at aj;subst aj;exact atx a
def atz(n:Nat):b7 29 (Dn n):=by
 intro aR r h;unfold Dn at h;split at h
 case h_2=>cases h
 rename_i x ad;have H:=atw n aR x ad;refine⟨H.fn,?_⟩;intro m fr w vs cY cM cH;refine(H.run m fr w vs cY cM cH).mono ?_;rintro e w' ⟨v,cz,q,J,rfl,aa,ax,bh⟩;exact⟨v,cz,r,J,rfl,aa,ax,aty h cz v bh⟩
def ac3(n:Nat):b7 103 (qi n):=cS (cv n [] [] [] []) ca bf au b8 Tryz.func103
def atA(n:Nat):b7 155 (Iv n):=e2 (cv n [] [] [] []) ca bf au b8 Tryz.func155
def ac4(n:Nat):b7 104 (tZ n):=e2 (cv n [(155,Iv n)] [] [] []) ca (bK (atA n) bf) au b8 Tryz.func104
def atB(n:Nat):b7 192 (AK n):=cS (cv n [] [] [] []) ca bf au b8 Tryz.func192
def atC(n:Nat):b7 191 (MZ n):=e2 (cv n [] [] [] []) ca bf au b8 Tryz.func191
def atD(n:Nat):b7 156 (xO n):=e2 (cv n [(192,AK n),(191,MZ n)] [] [] []) ca (bK (atB n) (bK (atC n) bf)) au b8 Tryz.func156
def atE(n:Nat):b7 105 (ku n):=e2 (cv n [(103,qi n),(104,tZ n),(156,xO n)] [(29,⟨[aq 1,sp 2,aq 6,aq 147,aq 148,aq 149],[bm 2 4],[]⟩)] [(35007000,⟨[aq 1,sp 2,aq 10,aq 35],[bm 2 4],[]⟩)] [(1,⟨[aq 1,sp 2,aq 6],[bm 2 4],[]⟩)]) ca (bK (ac3 n) (bK (ac4 n) (bK (atD n) bf))) au b8 Tryz.func105
def atF(AL:List D->Option (List D))(n:Nat)(atG:hg A8 AL):hg A8 (vK AL n):=lC ⟨fF dh,dj,fM [(103,qi n),(104,tZ n),(105,ku n)],n,[10000,10001,10002,10003,10004],cO [(3,⟨[(1,.b (.ptr 10000 0)),(2,.b (.ptr 10001 0)),(3,.b (.ptr 10002 0)),(4,.b (.ptr 10003 0)),(5,.b (.ptr 10004 0)),sp 6,cu 9 5000,aq 17,aq 18,aq 19],[(10000,.box [.fn (.func zF) [] [.ptr 10000 0,.ptr 10001 0,.ptr 10002 0,.ptr 10003 0,.ptr 10004 0]]),bm 10001 1,bm 10002 1,bm 10003 1,bm 10004 1,bm 6 4,bH 5000 1],[.slot 9 5000 1]⟩)],cO [(43013000,⟨[(2,.b (.ptr 10001 0)),(3,.b (.ptr 10002 0)),(4,.b (.ptr 10003 0)),(5,.b (.ptr 10004 0)),sp 6,cu 9 5000,aq 37,aq 43],[bm 10001 1,bm 10002 1,bm 10003 1,bm 10004 1,bm 6 4,bH 5000 1,(10000,.box [.fn (.func zF) [] [.ptr 10000 0,.ptr 10001 0,.ptr 10002 0,.ptr 10003 0,.ptr 10004 0]])],[]⟩),(48016000,⟨[(2,.b (.ptr 10001 0)),(3,.b (.ptr 10002 0)),(4,.b (.ptr 10003 0)),(5,.b (.ptr 10004 0)),sp 6,cu 9 5000,aq 48],[bm 10001 1,bm 10002 1,bm 10003 1,bm 10004 1,bm 6 4,bH 5000 1,(10000,.box [.fn (.func zF) [] [.ptr 10000 0,.ptr 10001 0,.ptr 10002 0,.ptr 10003 0,.ptr 10004 0]])],[]⟩),(58000019,⟨[(5,.b (.ptr 10004 0)),aq 14,aq 15],[bm 10004 1,(10000,.box [.fn (.func zF) [] [.ptr 10000 0,.ptr 10001 0,.ptr 10002 0,.ptr 10003 0,.ptr 10004 0]]),bm 10001 1,bm 10002 1,bm 10003 1],[]⟩)],cO [(0,⟨[(2,.b (.ptr 10001 0)),(3,.b (.ptr 10002 0)),(4,.b (.ptr 10003 0)),(5,.b (.ptr 10004 0)),sp 6,cu 9 5000],[bm 10001 1,bm 10002 1,bm 10003 1,bm 10004 1,bm 6 4,bH 5000 1,(10000,.box [.fn (.func zF) [] [.ptr 10000 0,.ptr 10001 0,.ptr 10002 0,.ptr 10003 0,.ptr 10004 0]])],[]⟩)],gL [],fL [(26,⟨A8,AL,6020,[]⟩)],gV [],gK []⟩ ca (bK (ac3 n) (bK (ac4 n) (bK (atE n) bf))) (bS atG au) b8 Tryz.func102 []
def ac5:∀n,hg A8 (vL n)
 |0=>zr (s:=A8) (zt (T:=fF dh) (os:=λ_=>none) Tryz.func102) (λ_=>rfl)|n+1=>by have ih:=ac5 n;exact atF (vL n) n ih
def atH(n:Nat):hg A8 (vL n):=(ac5 n)
def ac6(n:Nat):b7 66 (sk n):=RI ⟨fF dh,dj,fM [(100,xL n),(101,An n)],n,[],cO [],cO [],cO [],gL [],fL [(34,⟨A8,vL n,6010,[]⟩)],gV [],gK []⟩ ca (bK (acZ n) (bK (acW n) bf)) (bS (atH n) au) b8 Tryz.func66
def ac7(n:Nat):b7 31 (AM n):=RI (cv n [(66,sk n)] [] [] []) ca (bK (ac6 n) bf) au b8 Tryz.func31
def atI(n:Nat):b7 30 (xQ n):=RI (cv n [(31,AM n)] [(2,⟨[aq 2,aq 3,sp 4,aq 11,aq 12,aq 13],[bm 4 8],[]⟩)] [] [(0,⟨[],[],[]⟩)]) ca (bK (ac7 n) bf) au b8 Tryz.func30
def atJ(n:Nat)(a0:D)(x1:List D){r:D}(h:M1 n a0 x1=some r):fz dh dj 68 [a0,.ref x1 0] (·=r):=gr (cv n [] [] [] []) ca bf au b8 Tryz.func68 (cE (rO tB le_nil)) h
def atK(n:Nat):b7 68 (IB n):=by
 intro aR r h;unfold IB at h;split at h
 case h_2=>cases h
 split at h
 case h_2=>cases h
 exact atJ n _ _ h
def atL(n:Nat)(a0:D)(cW:D){r:D}(h:ID n a0 cW=some r):fz dh dj 67 [a0,(D.fn (.func CN) [] [cW])] (·=r):=gr (cv n [(68,IB n)] [(2,⟨[aq 0,(1,.b (.fd CN 1)),aq 7,aq 8],[],[]⟩)] [] [(0,⟨[],[],[]⟩)]) ca (bK (atK n) bf) au b8 Tryz.func67 (cE (cE le_nil)) h
def atM(n:Nat):b7 67 (AN n):=by
 intro aR r h;unfold AN at h;split at h
 case h_2=>cases h
 split at h
 case h_2=>cases h
 rename_i ai;obtain rfl:=nT ai;exact atL n _ _ h
def atN(n:Nat):b7 32 (IE n):=e2 (cv n [(66,sk n),(67,AN n)] [(3,⟨[aq 1,sp 2,cu 6 5000,aq 14,aq 15,aq 16],[bm 2 8,bH 5000 2],[.slot 6 5000 2]⟩)] [] [(0,⟨[cu 6 5000],[bH 5000 2],[]⟩)]) ca (bK (ac6 n) (bK (atM n) bf)) au b8 Tryz.func32
def atO(n:Nat)(a0:D)(x1:List D){r:D}(h:M4 n a0 x1=some r):fz dh dj 34 [a0,.ref x1 0] (·=r):=gr (cv n [] [] [] []) ca bf au b8 Tryz.func34 (cE (rO tB le_nil)) h
def atP(n:Nat):b7 34 (IF n):=by
 intro aR r h;unfold IF at h;split at h
 case h_2=>cases h
 split at h
 case h_2=>cases h
 exact atO n _ _ h
def atQ(n:Nat)(a0:D)(cW:D){r:D}(h:IH n a0 cW=some r):fz dh dj 69 [a0,(D.fn (.func tH) [] [cW])] (·=r):=gr (cv n [(34,IF n)] [(2,⟨[aq 0,(1,.b (.fd tH 1)),aq 7,aq 8],[],[]⟩)] [] [(0,⟨[],[],[]⟩)]) ca (bK (atP n) bf) au b8 Tryz.func69 (cE (cE le_nil)) h
def atS(n:Nat):b7 69 (Dp n):=by
 intro aR r h;unfold Dp at h;split at h
 case h_2=>cases h
 split at h
 case h_2=>cases h
 rename_i ai;obtain rfl:=nT ai;exact atQ n _ _ h
def atT(n:Nat)(a0:D)(cW:D){r:D}(h:II n a0 cW=some r):fz dh dj 33 [a0,(D.fn (.func tH) [] [cW])] (·=r):=gr (cv n [(69,Dp n)] [] [] []) ca (bK (atS n) bf) au b8 Tryz.func33 (cE (cE le_nil)) h
def atU(n:Nat):b7 33 (AO n):=by
 intro aR r h;unfold AO at h;split at h
 case h_2=>cases h
 split at h
 case h_2=>cases h
 rename_i ai;obtain rfl:=nT ai;exact atT n _ _ h
def atV(n:Nat):b7 9 (AP n):=cS ⟨fF dh,dj,fM [(26,oD n),(27,AF n),(28,Ip n),(29,Dn n),(30,xQ n),(31,AM n),(32,IE n),(33,AO n)],n,[],cO [(12,⟨[sp 2,sp 10,aq 59,aq 60,aq 61],[(2,.box [.b (.row 5001),.b (.d),.b (.d),.b (.d)]),bm 10 8,bH 5001 1],[.box 2 0 5001 1]⟩),(18,⟨[sp 2,sp 10,cu 79 5001,aq 80,aq 81],[(2,.box [.b (.row 5001),.b (.row 5006),.b (.row 5007),.b (.row 5008)]),bm 10 8,bH 5001 1,bH 5006 1,bH 5007 1,bH 5008 1],[.box 2 1 5006 1,.box 2 2 5007 1,.box 2 3 5008 1]⟩),(24,⟨[sp 2,sp 10,aq 14,cu 15 5003,cu 79 5001,aq 80,aq 81,aq 100,aq 101,aq 102],[(2,.box [.b (.row 5001),.b (.row 5006),.b (.row 96),.b (.row 5008)]),bm 10 8,bH 5003 1,bH 5001 1,bH 5006 1,bH 96 1,bH 5008 1],[.slot 15 5003 1]⟩),(32,⟨[sp 2,sp 10,aq 14,cu 18 5005,aq 19,aq 20,cu 79 5001,aq 80,aq 81,cu 127 5001,aq 128,aq 129],[(2,.box [.b (.row 5001),.b (.row 5006),.b (.row 96),.b (.row 118)]),bm 10 8,bH 5005 1,bH 5001 1,bH 5006 1,bH 96 1,bH 118 1],[.slot 18 5005 1]⟩)],cO [(70000015,⟨[sp 2,sp 10,aq 59,aq 60,aq 61],[(2,.box [.b (.row 75),.b (.d),.b (.d),.b (.d)]),bm 10 8,bH 75 1],[.box 2 0 5000 1]⟩),(91000021,⟨[sp 2,sp 10,aq 14,cu 79 5001,aq 80,aq 81],[(2,.box [.b (.row 5001),.b (.row 5006),.b (.row 96),.b (.row 5008)]),bm 10 8,bH 5001 1,bH 5006 1,bH 96 1,bH 5008 1],[.box 2 2 5002 1]⟩),(149000035,⟨[sp 2,sp 10,aq 14,cu 18 153,aq 19,aq 20,cu 79 5001,aq 80,aq 81,cu 127 5001,aq 128,aq 129],[(2,.box [.b (.row 5001),.b (.row 5006),.b (.row 96),.b (.row 118)]),bm 10 8,bH 153 1,bH 5001 1,bH 5006 1,bH 96 1,bH 118 1],[.slot 18 5004 1]⟩)],cO [(0,⟨[sp 2,sp 10],[(2,.box [.b (.row 5001),.b (.d),.b (.d),.b (.d)]),bm 10 8,bH 5001 1],[]⟩),(1,⟨[sp 2,sp 10,aq 59,aq 60,aq 61],[(2,.box [.b (.row 75),.b (.d),.b (.d),.b (.d)]),bm 10 8,bH 75 1],[]⟩),(2,⟨[sp 2],[(2,.box [.b (.row 5001),.b (.row 5006),.b (.row 5007),.b (.row 5008)]),bH 5001 1,bH 5006 1,bH 5007 1,bH 5008 1],[]⟩),(3,⟨[sp 2,sp 10,cu 79 5001,aq 80,aq 81],[(2,.box [.b (.row 5001),.b (.row 159),.b (.row 96),.b (.row 118)]),bm 10 8,bH 5001 1,bH 159 1,bH 96 1,bH 118 1],[]⟩),(4,⟨[sp 2,sp 10,aq 14,cu 15 5003,cu 79 5001,aq 80,aq 81],[(2,.box [.b (.row 5001),.b (.row 5006),.b (.row 96),.b (.row 5008)]),bm 10 8,bH 5003 1,bH 5001 1,bH 5006 1,bH 96 1,bH 5008 1],[]⟩),(6,⟨[sp 2,sp 10,cu 18 5005,cu 79 5001,aq 80,aq 81],[(2,.box [.b (.row 5001),.b (.row 5006),.b (.row 96),.b (.row 118)]),bm 10 8,bH 5005 1,bH 5001 1,bH 5006 1,bH 96 1,bH 118 1],[]⟩),(7,⟨[sp 2,sp 10,aq 14,cu 18 153,aq 19,aq 20,cu 79 5001,aq 80,aq 81,cu 127 5001,aq 128,aq 129],[(2,.box [.b (.row 5001),.b (.row 5006),.b (.row 96),.b (.row 118)]),bm 10 8,bH 153 1,bH 5001 1,bH 5006 1,bH 96 1,bH 118 1],[]⟩)],gL [],fL [],gV [117,158],gK []⟩ ca (bK (atl n) (bK (atm n) (bK (atu n) (bK (atz n) (bK (atI n) (bK (ac7 n) (bK (atN n) (bK (atU n) bf)))))))) au b8 Tryz.func9
def xW(k:Nat)(d:D):d.le (ua k d):=by
 unfold ua;split;.exact D.nil_le k
 exact D.le_refl _
def atW(d:D):d.le (Tx d):=by
 unfold Tx;split
 .refine D.ahA rfl ?_;intro i x y ad aE
  match i,ad,aE with
  |0,ad,aE=>cases ad;cases aE;exact xW _ _
  |1,ad,aE=>cases ad;cases aE;exact xW _ _
  |2,ad,aE=>cases ad;cases aE;exact xW _ _
  |3,ad,aE=>cases ad;cases aE;exact xW _ _
  |4,ad,aE=>cases ad;cases aE;exact xW _ _
  |5,ad,aE=>cases ad;cases aE;exact xW _ _
  |6,ad,aE=>cases ad;cases aE;exact xW _ _
  |7,ad,aE=>cases ad;cases aE;exact xW _ _
  |i+8,ad,aE=>cases ad
 exact D.le_refl _
def ac8(n:Nat):b7 9 (sl n):=by
 intro aR r h;unfold sl at h;split at h
 case h_2=>cases h
 rename_i a;have H:=atV n _ r h;refine⟨H.fn,?_⟩;intro m fr w vs cY cM cH;refine H.run m fr w vs cY cM ⟨cH.1,?_⟩;intro i d v ay aS;cases i with|zero=>simp only[xbA,xaE]at ay;subst ay;exact atW a m v (cH.2 0 a v rfl aS)|succ i=>simp at ay
def ac9(n:Nat):b7 25 (AQ n):=e2 (cv n [] [(4,⟨[aq 0,aq 1,aq 5],[],[]⟩)] [] [(0,⟨[],[],[]⟩)]) ca bf au b8 Tryz.func25
def Ul(n:Nat):hg No (qZ n):=lC ⟨fF dh,dj,fM [],n,[10000],cO [],cO [(24000001,⟨[],[(10000,.box [.b (.row 9000),.b (.row 38)]),bH 9000 1,bH 38 1],[]⟩)],cO [],gL [],fL [],gV [],gK []⟩ ca bf au b8 Tryz.func40 []
def ada(n:Nat):hg TX (AR n):=lC ⟨fF dh,dj,fM [],n,[10000],cO [(1,⟨[(1,.fn (.func Sg) [.ptr 10000 0] []),aq 6,aq 7,aq 8],[(10000,.box [.b (.row 9000),.b (.row 9001)]),bH 9000 1,bH 9001 1],[]⟩)],cO [],cO [(0,⟨[],[(10000,.box [.b (.row 9000),.b (.row 9001)]),bH 9000 1,bH 9001 1],[]⟩)],gL [],fL [(14,⟨No,qZ n,6010,[]⟩)],gV [],gK []⟩ ca bf (bS (Ul n) au) b8 Tryz.func41 []
def adb(n:Nat):b7 12 (vM n):=e2 ⟨fF dh,dj,fM [],n,[],cO [(4,⟨[sp 2,(5,.b (.ptr 13 0)),(6,.fn (.func Sg) [.ptr 13 0] [])],[bm 2 4,(13,.box [.b (.row 6010),.b (.row 6011)]),bH 6010 1,bH 6011 1],[]⟩)],cO [],cO [(0,⟨[(5,.b (.ptr 13 0))],[(13,.box [.b (.row 6010),.b (.row 6011)]),bH 6010 1,bH 6011 1],[]⟩)],gL [(6,[1,2,3,4,5,6,7,8,0,9,10,11,12,13])],fL [(18,⟨TX,AR n,6010,[.box 13 1 5900 1]⟩),(57,⟨TX,AR n,6020,[]⟩)],gV [40048],gK []⟩ ca bf (bS (ada n) (bS (ada n) au)) b8 Tryz.func12
def atX(n:Nat):b7 19 (Ty n):=e2 (cv n [] [(4,⟨[aq 0,aq 1,aq 5],[],[]⟩)] [] [(0,⟨[],[],[]⟩)]) ca bf au b8 Tryz.func19
def atY(n:Nat)(a0:D)(x1:List D){r:D}(h:M7 n a0 x1=some r):fz dh dj 42 [a0,.ref x1 0] (·=r):=gr (cv n [] [] [] []) ca bf au b8 Tryz.func42 (cE (rO tB le_nil)) h
def ade(n:Nat):b7 42 (ub n):=by
 intro aR r h;unfold ub at h;split at h
 case h_2=>cases h
 split at h
 case h_2=>cases h
 exact atY n _ _ h
def atZ(n:Nat)(a0:D)(cW:D){r:D}(h:TA n a0 cW=some r):fz dh dj 43 [a0,(D.fn (.func kr) [] [cW])] (·=r):=gr ⟨fF dh,dj,fM [(42,ub n)],n,[],cO [(4,⟨[aq 0,(1,.b (.fd kr 1)),cu 5 5003,cu 6 13,aq 15,aq 16],[bH 5003 1,bH 13 1],[.slot 5 5003 1]⟩),(9,⟨[aq 0,(1,.b (.fd kr 1)),cu 5 5003,cu 6 13,cu 8 34,aq 15,aq 16],[bH 5003 1,bH 13 1,bH 34 2],[.slot 5 5001 1]⟩)],cO [(97000017,⟨[aq 0,(1,.b (.fd kr 1)),cu 5 5003,cu 6 13,cu 8 105,aq 15,aq 16],[bH 5003 1,bH 13 1,bH 105 2],[]⟩)],cO [(0,⟨[cu 5 5003],[bH 5003 1],[]⟩),(1,⟨[aq 0,(1,.b (.fd kr 1)),cu 5 5003,cu 6 13,aq 15,aq 16],[bH 5003 1,bH 13 1],[.slot 5 5002 1]⟩),(2,⟨[aq 0,(1,.b (.fd kr 1)),cu 5 5003,cu 6 13,aq 15,aq 16],[bH 5003 1,bH 13 1],[]⟩),(3,⟨[aq 0,(1,.b (.fd kr 1)),cu 5 62,cu 6 13,cu 8 67,aq 15,aq 16],[bH 62 1,bH 13 1,bH 67 2],[.slot 5 5000 1]⟩)],gL [],fL [],gV [67],gK []⟩ ca (bK (ade n) bf) au b8 Tryz.func43 (cE (cE le_nil)) h
def at0(n:Nat):b7 43 (Du n):=by
 intro aR r h;unfold Du at h;split at h
 case h_2=>cases h
 split at h
 case h_2=>cases h
 rename_i ai;obtain rfl:=nT ai;exact atZ n _ _ h
def at1(n:Nat):hg ab2 (Dv n):=lC ⟨fF dh,dj,fM [(42,ub n)],n,[10000,10001,10002],cO [],cO [(6000001,⟨[],[(10000,.box [.fn (.func kr) [] [.ed 0]]),(10001,.box [.b (.ptr 10002 0)]),(10002,.box [.b (.row 6010),.b (.row 6011)]),bH 6010 1,bH 6011 1],[]⟩)],cO [],gL [],fL [(9,⟨No,qZ n,6010,[]⟩)],gV [],gK []⟩ ca (bK (ade n) bf) (bS (Ul n) au) b8 Tryz.func44 []
def at2(n:Nat):hg ab3 (IL n):=lC ⟨fF dh,dj,fM [],n,[10000,10001,10002],cO [(1,⟨[(1,.fn (.func aav) [] [.ptr 10000 0,.ptr 10001 0]),aq 6,aq 7,aq 8],[(10000,.box [.fn (.func kr) [] [.ed 0]]),(10001,.box [.b (.ptr 10002 0)]),(10002,.box [.b (.row 9000),.b (.row 9001)]),bH 9000 1,bH 9001 1],[]⟩)],cO [],cO [(0,⟨[],[(10000,.box [.fn (.func kr) [] [.ed 0]]),(10001,.box [.b (.ptr 10002 0)]),(10002,.box [.b (.row 9000),.b (.row 9001)]),bH 9000 1,bH 9001 1],[]⟩)],gL [],fL [(14,⟨ab2,Dv n,6010,[]⟩)],gV [],gK []⟩ ca bf (bS (at1 n) au) b8 Tryz.func41 []
def adf(n:Nat):b7 13 (AS n):=e2 ⟨fF dh,dj,fM [(43,Du n),(17,L6 n)],n,[],cO [(7,⟨[sp 5,aq 6,aq 7,sp 8,cu 9 5003,aq 10],[(5,.box [.fn (.func kr) [] [.ed 0]]),(8,.box [.b (.ptr 25 0)]),bH 5003 1,(25,.box [.b (.row 23),.b (.row 5004)]),bH 23 1,bH 5004 1],[.slot 9 5003 1,.box 25 1 5004 1]⟩),(12,⟨[sp 5,aq 6,aq 7,sp 8,cu 9 5003,aq 10,cu 11 5000],[(5,.box [.fn (.func kr) [] [.ed 0]]),(8,.box [.b (.ptr 25 0)]),bH 5003 1,bH 5000 1,(25,.box [.b (.row 6140),.b (.row 6141)]),bH 6140 1,bH 6141 1],[.slot 11 5000 1]⟩)],cO [],cO [(0,⟨[cu 9 5003],[bH 5003 1],[]⟩),(1,⟨[sp 5,aq 6,aq 7,sp 8,cu 9 5003,aq 10],[(5,.box [.fn (.func kr) [] [.ed 0]]),(8,.box [.b (.ptr 25 0)]),bH 5003 1,(25,.box [.b (.row 23),.b (.row 5004)]),bH 23 1,bH 5004 1],[.slot 9 5001 1,.box 25 1 5002 1]⟩),(2,⟨[sp 5,aq 6,aq 7,sp 8,cu 9 5003,aq 10,cu 11 5000],[(5,.box [.fn (.func kr) [] [.ed 0]]),(8,.box [.b (.ptr 25 0)]),bH 5003 1,bH 5000 1,(25,.box [.b (.row 6140),.b (.row 6141)]),bH 6140 1,bH 6141 1],[]⟩)],gL [(11,[0,1,2,3,4]),(14,[0,1,2,3,4,5,6,7])],fL [(48,⟨No,qZ n,6140,[]⟩),(78,⟨ab3,IL n,6150,[]⟩),(80,⟨ab4,Gz n,6160,[]⟩),(86,⟨ab5,CM n,6170,[]⟩)],gV [17,40066,83],gK []⟩ ca (bK (at0 n) (bK (aqr n) bf)) (bS (Ul n) (bS (at2 n) (bS (aqx n) (bS (aqN n) au)))) b8 Tryz.func13
def at3(n:Nat):b7 16 (TB n):=e2 (cv n [(25,AQ n)] [(4,⟨[aq 0,aq 1,aq 5],[],[]⟩)] [] [(0,⟨[],[],[]⟩)]) ca (bK (ac9 n) bf) au b8 Tryz.func16
def at4(n:Nat):b7 8 (Dx n):=Ch ⟨(fF Tryz.prog).tg [54,56],dj,fM [(24,SX n),(9,sl n),(25,AQ n),(12,vM n),(19,Ty n),(13,AS n),(16,TB n)],n,[],cO [],cO [],cO [],gL [],fL [],gV [49],gK []⟩ ((tok _).tg _) (bK (arI n) (bK (ac8 n) (bK (ac9 n) (bK (adb n) (bK (atX n) (bK (adf n) (bK (at3 n) bf))))))) au b8 Tryz.func8
def at5(n:Nat):b7 5 (A2 n):=lE ⟨(fF Tryz.prog).tg [146],dj,fM [(7,vB n),(8,Dx n),(9,sl n),(12,vM n),(13,AS n)],n,[],cO [(10,⟨[aq 2,sp 7,aq 9,aq 78,aq 79,aq 80],[bm 7 4],[]⟩),(13,⟨[aq 2,sp 7,aq 9,aq 10,aq 78,aq 79,aq 80,aq 85,aq 86,aq 87],[bm 7 4],[]⟩),(21,⟨[aq 2,sp 7,aq 9,cu 14 116,aq 119,aq 120,aq 121],[bm 7 4,bH 116 1],[]⟩),(27,⟨[aq 2,sp 7,aq 9,cu 14 116,aq 16,aq 17,aq 119,aq 120,aq 121,aq 148,aq 149,aq 150],[bm 7 4,bH 116 1],[]⟩),(38,⟨[aq 2,cu 202 116,aq 203,aq 204],[bH 116 1],[]⟩)],cO [],cO [(0,⟨[aq 2,sp 7,aq 9],[bm 7 4],[]⟩),(1,⟨[aq 2,sp 7,aq 9,aq 78,aq 79,aq 80],[bm 7 4],[]⟩),(2,⟨[aq 2,sp 7,aq 9,aq 78,aq 79,aq 80],[bm 7 4],[]⟩),(4,⟨[aq 2,cu 14 116],[bH 116 1],[]⟩),(5,⟨[aq 2,sp 7,aq 9,cu 14 116,aq 119,aq 120,aq 121],[bm 7 4,bH 116 1],[]⟩),(6,⟨[aq 2,sp 7,aq 9,cu 14 116,aq 119,aq 120,aq 121],[bm 7 4,bH 116 1],[]⟩),(8,⟨[],[],[]⟩)],gL [],fL [],gV [44,179],gK []⟩ ((tok _).tg _) (bK (arH n) (bK (at4 n) (bK (ac8 n) (bK (adb n) (bK (adf n) bf))))) au b8 Tryz.func5
end Go.Am
