/- That the functions of the program compute this. No condition. -/
import Derived.Test.YtbninlabhgbhcaaGreatDoorHand
import Derived.KernelRfl
set_option linter.all false
set_option linter.unnecessarySimpa false
namespace Go.Am
open Go.Proofs
set_option maxRecDepth 100000
def adM(n:Nat):bP 136 (As n):=cN (ch n [] [] [] []) b2 bc ar bY Tryz.func136
def ar8(n:Nat):bP 174 (Hz n):=cN (ch n [] [] [] []) b2 bc ar bY Tryz.func174
def ar9(n:Nat):bP 137 (HB n):=lv (ch n [(174,Hz n),(136,As n)] [(1,⟨[an 0,an 1,an 2],[],[]⟩)] [] [(0,⟨[an 1],[],[]⟩)]) b2 (bs (ar8 n) (bs (adM n) bc)) ar bY Tryz.func137
def asa(n:Nat):bP 139 (Ni n):=C6 (ch n [] [] [] []) b2 bc ar bY Tryz.func139
def asb(n:Nat):bP 138 (DH n):=ea (ch n [] [(2,⟨[an 0,an 1,an 5],[],[]⟩)] [] [(0,⟨[],[],[]⟩)]) b2 bc ar bY Tryz.func138
def Vc(n:Nat):bP 84 (um n):=cN (ch n [(136,As n),(137,HB n),(139,Ni n),(138,DH n)] [] [] []) b2 (bs (adM n) (bs (ar9 n) (bs (asa n) (bs (asb n) bc)))) ar bY Tryz.func84
def asc(n:Nat):bP 85 (DI n):=cN (ch n [] [] [] []) b2 bc ar bY Tryz.func85
def J9(n:Nat):bP 58 (pW n):=cN (ch n [] [] [(19000007,⟨[an 3],[],[]⟩)] []) b2 bc ar bY Tryz.func58
def asd(n:Nat):bP 52 (HF n):=cN (ch n [(84,um n),(85,DI n),(58,pW n)] [(2,⟨[an 0,an 4],[],[]⟩),(7,⟨[an 0,an 4,an 5],[],[]⟩)] [] [(0,⟨[],[],[]⟩),(1,⟨[an 0,an 4],[],[]⟩),(2,⟨[an 0,an 4],[],[]⟩)]) b2 (bs (Vc n) (bs (asc n) (bs (J9 n) bc))) ar bY Tryz.func52
def ase(n:Nat):bP 86 (HG n):=cN (ch n [] [(2,⟨[an 0,an 3],[],[]⟩)] [] [(0,⟨[an 3],[],[]⟩)]) b2 bc ar bY Tryz.func86
def asf(n:Nat):bP 53 (HH n):=cN (ch n [(58,pW n),(86,HG n)] [(3,⟨[sp 1,an 3,an 4],[bg 1 8],[]⟩)] [] [(0,⟨[an 3],[],[]⟩)]) b2 (bs (J9 n) (bs (ase n) bc)) ar bY Tryz.func53
def adN(n:Nat):bP 87 (Aw n):=ea (ch n [] [(2,⟨[an 1,sp 2,an 5],[bg 2 8],[]⟩)] [] [(0,⟨[],[],[]⟩)]) b2 bc ar bY Tryz.func87
def adO(n:Nat):bP 88 (Ax n):=ea (ch n [] [(2,⟨[an 1,sp 2,an 5],[bg 2 8],[]⟩)] [] [(0,⟨[],[],[]⟩)]) b2 bc ar bY Tryz.func88
def asg(n:Nat):bP 207 (HL n):=ea (ch n [] [(2,⟨[an 0,an 1,an 5],[],[]⟩)] [] [(0,⟨[],[],[]⟩)]) b2 bc ar bY Tryz.func207
def ash(n:Nat):bP 198 (Ay n):=ea (ch n [(207,HL n)] [(6,⟨[an 0,an 1,bW 5 12,an 6,an 7],[bl 12 1],[]⟩)] [(28000009,⟨[an 0,an 1,bW 5 32,an 6,an 7],[bl 32 1],[]⟩),(41000013,⟨[bW 5 45],[bl 45 1],[]⟩)] [(0,⟨[an 1,bW 5 12,an 6],[bl 12 1],[]⟩)]) b2 (bs (asg n) bc) ar bY Tryz.func198
def asi(Az:List D->Option D)(n:Nat)(a0:D)(aI:D)(a2:D)(asj:bP 175 Az){r:D}(h:HM Az n a0 aI a2=some r):fv c9 db 175 [a0,aI,a2] (·=r):=gf (ch n [(198,Ay n),(175,Az)] [(4,⟨[an 1,an 2,sp 3,an 7],[bg 3 4],[]⟩)] [(11000002,⟨[an 1,an 2,sp 3],[bg 3 4],[]⟩)] [(0,⟨[an 2],[],[]⟩)]) b2 (bs (ash n) (bs asj bc)) ar bY Tryz.func175 (cz (cz (cz le_nil))) h
def adP:∀n,bP 175 (sG n)
 |0=>(λ_ _ h=>by cases h)
 |n+1=>by
  have ih:=adP n;exact(by
   intro aR r h;unfold sG at h;split at h
   case h_2=>cases h
   exact asi (sG n) n _ _ _ ih h)
def asl(n:Nat):bP 175 (sG n):=(adP n)
def Vd(n:Nat):bP 140 (vV n):=cN (ch n [(175,sG n)] [] [] []) b2 (bs (asl n) bc) ar bY Tryz.func140
def asm(n:Nat):bP 89 (HN n):=ea (ch n [(140,vV n),(88,Ax n)] [(4,⟨[sp 2,bW 5 15,bW 6 17,an 7],[bg 2 8,bl 15 1,bl 17 1],[]⟩),(8,⟨[sp 2,bW 5 15,bW 6 17,an 7,an 8,an 10],[bg 2 8,bl 15 1,bl 17 1],[]⟩)] [(57000012,⟨[sp 2,bW 5 15,bW 6 64,an 7,an 8,an 10],[bg 2 8,bl 15 1,bl 64 1],[]⟩)] [(0,⟨[bW 5 15],[bl 15 1],[]⟩),(1,⟨[sp 2,bW 5 15,bW 6 17,an 7],[bg 2 8,bl 15 1,bl 17 1],[]⟩),(2,⟨[sp 2,bW 5 15,bW 6 17,an 7],[bg 2 8,bl 15 1,bl 17 1],[]⟩),(3,⟨[sp 2,bW 5 15,bW 6 64,an 7,an 8,an 10],[bg 2 8,bl 15 1,bl 64 1],[]⟩)]) b2 (bs (Vd n) (bs (adO n) bc)) ar bY Tryz.func89
def asn(n:Nat):bP 193 (DK n):=cN (ch n [] [] [(5003000,⟨[an 0,an 4,an 5],[],[]⟩),(5004000,⟨[an 0,an 4,an 5],[],[]⟩),(5005000,⟨[an 0,an 4,an 5],[],[]⟩),(12010000,⟨[an 0,an 4,an 12],[],[]⟩)] [(0,⟨[an 0],[],[]⟩)]) b2 bc ar bY Tryz.func193
def adQ(n:Nat):bP 161 (AB n):=ea (ch n [(193,DK n)] [] [(22000008,⟨[sp 2,an 5,an 6,an 7,an 8],[bg 2 4],[]⟩),(25000010,⟨[sp 2,an 5,an 6,an 7,an 8],[bg 2 4],[]⟩)] []) b2 (bs (asn n) bc) ar bY Tryz.func161
def aso(AD:List D->Option D)(n:Nat)(a0:D)(aI:D)(a2:D)(asp:bP 157 AD){r:D}(h:Ty AD n a0 aI a2=some r):fv c9 db 157 [a0,aI,a2] (·=r):=gf (ch n [(161,AB n),(157,AD)] [(8,⟨[an 1,an 2,sp 3,an 9],[bg 3 4],[]⟩)] [] [(0,⟨[an 2],[],[]⟩)]) b2 (bs (adQ n) (bs asp bc)) ar bY Tryz.func157 (cz (cz (cz le_nil))) h
def adR:∀n,bP 157 (uo n)
 |0=>(λ_ _ h=>by cases h)
 |n+1=>by
  have ih:=adR n;exact(by
   intro aR r h;unfold uo at h;split at h
   case h_2=>cases h
   exact aso (uo n) n _ _ _ ih h)
def asq(n:Nat):bP 157 (uo n):=(adR n)
def Ve(n:Nat):bP 106 (vW n):=cN (ch n [(157,uo n)] [] [] []) b2 (bs (asq n) bc) ar bY Tryz.func106
def adS(n:Nat):bP 160 (xY n):=ea (ch n [] [(2,⟨[an 0,an 1,an 5],[],[]⟩)] [] [(0,⟨[],[],[]⟩)]) b2 bc ar bY Tryz.func160
def asr(n:Nat):bP 158 (HR n):=ea (ch n [(140,vV n),(160,xY n)] [(4,⟨[an 1,bW 5 10,an 6,an 8],[bl 10 1],[]⟩)] [(29000008,⟨[an 1,bW 5 33,an 6,an 8],[bl 33 1],[]⟩)] [(0,⟨[bW 5 10],[bl 10 1],[]⟩),(1,⟨[an 1,bW 5 33,an 6,an 8],[bl 33 1],[]⟩)]) b2 (bs (Vd n) (bs (adS n) bc)) ar bY Tryz.func158
def adT(n:Nat):bP 159 (xZ n):=ea (ch n [] [(2,⟨[an 0,an 1,an 5],[],[]⟩)] [] [(0,⟨[],[],[]⟩)]) b2 bc ar bY Tryz.func159
def ass(AE:List D->Option D)(n:Nat)(a0:D)(aI:D)(a2:D)(ast:bP 107 AE){r:D}(h:Nr AE n a0 aI a2=some r):fv c9 db 107 [a0,aI,a2] (·=r):=gf ⟨(fu Tryz.prog).xy [42],db,fy [(158,HR n),(159,xZ n),(107,AE)],n,[],cG [(3,⟨[an 1,an 2,an 7,an 8],[],[]⟩)],cG [(24000006,⟨[an 1,an 2,an 7,an 8],[],[]⟩)],cG [(0,⟨[an 2],[],[]⟩),(1,⟨[an 1,an 2,an 7,an 8],[],[]⟩)],gd [(6,[0,1,2,3,4,5,6,7,12,13,14,15,8,9,10,11,16,17,18,19])],fx [],gr [],gb []⟩ ((tok _).xy _) (bs (asr n) (bs (adT n) (bs ast bc))) ar bY Tryz.func107 (cz (cz (cz le_nil))) h
def adU:∀n,bP 107 (ru n)
 |0=>(λ_ _ h=>by cases h)
 |n+1=>by
  have ih:=adU n;exact(by
   intro aR r h;unfold ru at h;split at h
   case h_2=>cases h
   exact ass (ru n) n _ _ _ ih h)
def adV(n:Nat):bP 107 (ru n):=(adU n)
def asu(n:Nat):bP 108 (HU n):=ea (ch n [(107,ru n),(159,xZ n)] [] [] []) b2 (bs (adV n) (bs (adT n) bc)) ar bY Tryz.func108
def asv(x0:List D->Option D)(n:Nat)(a0:D)(aI:D)(a2:D)(a3:D)(asw:bP 109 x0){r:D}(h:sH x0 n a0 aI a2 a3=some r):fv c9 db 109 [a0,aI,a2,a3] (·=r):=gf (ch n [(160,xY n),(109,x0),(161,AB n)] [(13,⟨[an 1,an 2,an 3,sp 4,sp 8,bW 13 53,an 14],[bg 4 4,bg 8 4,bl 53 4],[]⟩)] [(20000002,⟨[an 1,an 2,an 3,sp 4,sp 8],[bg 4 4,bg 8 4],[]⟩)] [(0,⟨[an 3,sp 4,sp 8,bW 13 53],[bg 4 4,bg 8 4,bl 53 4],[]⟩)]) b2 (bs (adS n) (bs asw (bs (adQ n) bc))) ar bY Tryz.func109 (cz (cz (cz (cz le_nil)))) h
def adW:∀n,bP 109 (sI n)
 |0=>(λ_ _ h=>by cases h)
 |n+1=>by
  have ih:=adW n;exact(by
   intro aR r h;unfold sI at h;split at h
   case h_2=>cases h
   exact asv (sI n) n _ _ _ _ ih h)
def asx(n:Nat):bP 109 (sI n):=(adW n)
def OP(n:Nat):bP 71 (nm n):=ea (ch n [(106,vW n),(107,ru n),(108,HU n),(109,sI n)] [(6,⟨[an 1,sp 2,sp 4,an 7,an 8],[bg 2 4,bg 4 4],[]⟩)] [] [(0,⟨[an 1,sp 2,sp 4],[bg 2 4,bg 4 4],[]⟩)]) b2 (bs (Ve n) (bs (adV n) (bs (asu n) (bs (asx n) bc)))) ar bY Tryz.func71
def adX(n:Nat):bP 194 (ry n):=ea (ch n [] [] [] []) b2 bc ar bY Tryz.func194
def Vf(n:Nat):bP 77 (vX n):=ea (ch n [] [(2,⟨[an 0,an 1,an 5],[],[]⟩)] [] [(0,⟨[],[],[]⟩)]) b2 bc ar bY Tryz.func77
def asy(n:Nat):bP 205 (H0 n):=cN (ch n [] [(2,⟨[an 0,an 3],[],[]⟩)] [] [(0,⟨[],[],[]⟩)]) b2 bc ar bY Tryz.func205
def asz(n:Nat):bP 206 (H2 n):=ea (ch n [] [(4,⟨[bW 6 30,an 7,an 8,an 9],[bl 30 1],[]⟩)] [] [(0,⟨[an 7,an 8],[],[]⟩)]) b2 bc ar bY Tryz.func206
def asA(n:Nat):bP 195 (AH n):=ea (ch n [(205,H0 n),(194,ry n),(206,H2 n)] [] [(13005000,⟨[an 1,sp 2,sp 4,sp 6,an 7,an 12,an 13],[bg 2 4,bg 4 3,bg 6 3],[]⟩),(13006000,⟨[an 1,sp 2,sp 4,sp 6,an 7,an 12,an 13],[bg 2 4,bg 4 3,bg 6 3],[]⟩),(13007000,⟨[an 1,sp 2,sp 4,sp 6,an 7,an 12,an 13],[bg 2 4,bg 4 3,bg 6 3],[]⟩),(13008000,⟨[an 1,sp 2,sp 4,sp 6,an 7,an 12,an 13],[bg 2 4,bg 4 3,bg 6 3],[]⟩),(25013000,⟨[an 1,sp 2,sp 4,sp 6,an 7,an 12,an 25],[bg 2 4,bg 4 3,bg 6 3],[]⟩)] [(0,⟨[an 1,sp 2,sp 4,sp 6,an 7],[bg 2 4,bg 4 3,bg 6 3],[]⟩)]) b2 (bs (asy n) (bs (adX n) (bs (asz n) bc))) ar bY Tryz.func195
def asB(AI:List D->Option D)(n:Nat)(a0:D)(aI:D)(a2:D)(asC:bP 162 AI){r:D}(h:v8 AI n a0 aI a2=some r):fv c9 db 162 [a0,aI,a2] (·=r):=gf (ch n [(194,ry n),(77,vX n),(162,AI),(195,AH n)] [(18,⟨[an 0,an 2,sp 4,sp 6,bW 9 64,an 10],[bg 4 4,bg 6 3,bl 64 3],[]⟩)] [(27007000,⟨[an 0,an 2,sp 4,sp 6,an 27],[bg 4 4,bg 6 3],[]⟩)] [(1,⟨[sp 4,sp 6,bW 9 64],[bg 4 4,bg 6 3,bl 64 3],[]⟩)]) b2 (bs (adX n) (bs (Vf n) (bs asC (bs (asA n) bc)))) ar bY Tryz.func162 (cz (cz (cz le_nil))) h
def adY:∀n,bP 162 (nT n)
 |0=>(λ_ _ h=>by cases h)
 |n+1=>by
  have ih:=adY n;exact(by
   intro aR r h;unfold nT at h;split at h
   case h_2=>cases h
   exact asB (nT n) n _ _ _ ih h)
def asD(n:Nat):bP 162 (nT n):=(adY n)
def adZ(n:Nat):bP 113 (x6 n):=lv (ch n [(106,vW n),(162,nT n)] [] [] []) b2 (bs (Ve n) (bs (asD n) bc)) ar bY Tryz.func113
def Vg(n:Nat):bP 90 (uu n):=lv (ch n [(71,nm n),(113,x6 n)] [] [] []) b2 (bs (OP n) (bs (adZ n) bc)) ar bY Tryz.func90
def asE(n:Nat):bP 54 (x7 n):=cN (ch n [(84,um n),(87,Aw n),(88,Ax n),(89,HN n),(90,uu n)] [(2,⟨[sp 1,an 4],[bg 1 8],[]⟩),(9,⟨[sp 1,an 5],[bg 1 8],[]⟩),(14,⟨[sp 1,an 6],[bg 1 8],[]⟩)] [] [(0,⟨[sp 1],[bg 1 8],[]⟩),(2,⟨[sp 1],[bg 1 8],[]⟩),(4,⟨[],[],[]⟩)]) b2 (bs (Vc n) (bs (adN n) (bs (adO n) (bs (asm n) (bs (Vg n) bc))))) ar bY Tryz.func54
def ad0(n:Nat):bP 91 (x8 n):=lv (ch n [(90,uu n)] [] [] []) b2 (bs (Vg n) bc) ar bY Tryz.func91
def asF(n:Nat):bP 55 (wb n):=lv (ch n [(91,x8 n)] [(2,⟨[an 1,an 2,sp 3,an 8],[bg 3 8],[]⟩)] [] [(0,⟨[],[],[]⟩)]) b2 (bs (ad0 n) bc) ar bY Tryz.func55
def asG(n:Nat):bP 56 (DR n):=cN (ch n [(87,Aw n),(90,uu n)] [(2,⟨[sp 1,an 4],[bg 1 8],[]⟩),(8,⟨[sp 1,an 4,an 5,an 6],[bg 1 8],[]⟩)] [(69000014,⟨[sp 1,an 4,an 8],[bg 1 8],[]⟩)] [(0,⟨[],[],[]⟩),(1,⟨[sp 1,an 4],[bg 1 8],[]⟩),(2,⟨[sp 1,an 4,an 5],[bg 1 8],[]⟩)]) b2 (bs (adN n) (bs (Vg n) bc)) ar bY Tryz.func56
def asH(n:Nat):bP 199 (DS n):=cN (ch n [] [] [(6005000,⟨[an 3,an 6],[],[]⟩),(6006000,⟨[an 3,an 6],[],[]⟩),(6007000,⟨[an 3,an 6],[],[]⟩),(6008000,⟨[an 3,an 6],[],[]⟩),(6009000,⟨[an 3,an 6],[],[]⟩),(6010000,⟨[an 3,an 6],[],[]⟩),(14013000,⟨[an 14],[],[]⟩),(14014000,⟨[an 14],[],[]⟩),(14015000,⟨[an 14],[],[]⟩),(14016000,⟨[an 14],[],[]⟩)] [(0,⟨[],[],[]⟩)]) b2 bc ar bY Tryz.func199
def asI(n:Nat):bP 200 (Ic n):=cN (ch n [] [] [] []) b2 bc ar bY Tryz.func200
def asJ(n:Nat):bP 176 (wc n):=cN (ch n [(199,DS n),(106,vW n),(140,vV n),(200,Ic n)] [] [(12000004,⟨[sp 1],[bg 1 6],[]⟩)] []) b2 (bs (asH n) (bs (Ve n) (bs (Vd n) (bs (asI n) bc)))) ar bY Tryz.func176
def asK(AL:List D->Option D)(n:Nat)(a0:D)(aI:D)(a2:D)(asL:bP 141 AL){r:D}(h:TW AL n a0 aI a2=some r):fv c9 db 141 [a0,aI,a2] (·=r):=gf (ch n [(176,wc n),(141,AL)] [(10,⟨[an 1,an 2,sp 3,an 9],[bg 3 6],[]⟩)] [] [(0,⟨[an 2],[],[]⟩)]) b2 (bs (asJ n) (bs asL bc)) ar bY Tryz.func141 (cz (cz (cz le_nil))) h
def ad1:∀n,bP 141 (uv n)
 |0=>(λ_ _ h=>by cases h)
 |n+1=>by
  have ih:=ad1 n;exact(by
   intro aR r h;unfold uv at h;split at h
   case h_2=>cases h
   exact asK (uv n) n _ _ _ ih h)
def asM(n:Nat):bP 141 (uv n):=(ad1 n)
def ad2(n:Nat):bP 92 (AM n):=cN (ch n [(141,uv n)] [] [] []) b2 (bs (asM n) bc) ar bY Tryz.func92
def asN(AN:List D->Option D)(n:Nat)(a0:D)(aI:D)(asO:bP 93 AN){r:D}(h:Ig AN n a0 aI=some r):fv c9 db 93 [a0,aI] (·=r):=gf (ch n [(91,x8 n),(93,AN)] [(4,⟨[sp 2,sp 3,an 5],[bg 2 8,bg 3 6],[]⟩)] [] [(0,⟨[],[],[]⟩)]) b2 (bs (ad0 n) (bs asO bc)) ar bY Tryz.func93 (cz (cz le_nil)) h
def ad3:∀n,bP 93 (uw n)
 |0=>(λ_ _ h=>by cases h)
 |n+1=>by
  have ih:=ad3 n;exact(by
   intro aR r h;unfold uw at h;split at h
   case h_2=>cases h
   exact asN (uw n) n _ _ ih h)
def asP(n:Nat):bP 93 (uw n):=(ad3 n)
def asQ(n:Nat):bP 57 (DV n):=cN (ch n [(84,um n),(92,AM n),(93,uw n)] [(2,⟨[sp 1,an 4],[bg 1 8],[]⟩),(7,⟨[sp 1,an 4,an 5],[bg 1 8],[]⟩)] [(50000013,⟨[sp 1,an 4,an 6],[bg 1 8],[]⟩)] [(0,⟨[],[],[]⟩),(1,⟨[sp 1,an 4],[bg 1 8],[]⟩),(2,⟨[sp 1,an 4],[bg 1 8],[]⟩)]) b2 (bs (Vc n) (bs (ad2 n) (bs (asP n) bc))) ar bY Tryz.func57
def ad4(n:Nat):bP 22 (pX n):=cN (ch n [(52,HF n),(53,HH n),(54,x7 n),(55,wb n),(56,DR n),(57,DV n)] [(3,⟨[sp 1,sp 2,bW 4 33,an 5],[bg 1 8,bg 2 2,bl 33 1],[]⟩),(13,⟨[sp 1,sp 2,an 6,an 7,an 8],[bg 1 8,bg 2 2],[]⟩)] [(68018017,⟨[sp 1,sp 2,an 6,an 7,an 8],[bg 1 8,bg 2 2],[]⟩),(75020019,⟨[sp 1,sp 2,an 6,an 7,an 8],[bg 1 8,bg 2 2],[]⟩),(84022021,⟨[sp 1,sp 2,an 6,an 7,an 8],[bg 1 8,bg 2 2],[]⟩),(93024023,⟨[sp 1,sp 2,an 6,an 7,an 8],[bg 1 8,bg 2 2],[]⟩),(100026025,⟨[sp 1,sp 2,an 6,an 7,an 8],[bg 1 8,bg 2 2],[]⟩),(109028027,⟨[sp 1,sp 2,an 6,an 7,an 8],[bg 1 8,bg 2 2],[]⟩),(118000029,⟨[sp 1,sp 2,an 6,an 7,an 8],[bg 1 8,bg 2 2],[]⟩)] [(0,⟨[sp 1,sp 2],[bg 1 8,bg 2 2],[]⟩),(2,⟨[sp 2],[bg 2 2],[]⟩),(3,⟨[sp 1,sp 2,an 6,an 7,an 8],[bg 1 8,bg 2 2],[]⟩),(4,⟨[sp 1,sp 2,an 6,an 7,an 8],[bg 1 8,bg 2 2],[]⟩)]) b2 (bs (asd n) (bs (asf n) (bs (asE n) (bs (asF n) (bs (asG n) (bs (asQ n) bc)))))) ar bY Tryz.func22
def ad5(n:Nat):bP 23 (ye n):=ea (ch n [(58,pW n)] [(3,⟨[an 0,an 1,an 5,an 6],[],[]⟩)] [] [(0,⟨[],[],[]⟩)]) b2 (bs (J9 n) bc) ar bY Tryz.func23
def asR(n:Nat):bP 7 (wg n):=ea (ch n [(22,pX n),(23,ye n)] [] [] []) b2 (bs (ad4 n) (bs (ad5 n) bc)) ar bY Tryz.func7
def asS(n:Nat):bP 24 (TZ n):=C6 ⟨fu c9,db,fy [],n,[],cG [],cG [],cG [],gd [],fx [],gr [17,23,28],gb []⟩ b2 bc ar bY Tryz.func24
def ad6(n:Nat):bP 142 (AQ n):=cN (ch n [] [] [] []) b2 bc ar bY Tryz.func142
def asT(n:Nat):bP 177 (Il n):=cN (ch n [] [] [] []) b2 bc ar bY Tryz.func177
def asU(n:Nat):bP 144 (Im n):=cN (ch n [(142,AQ n),(177,Il n)] [] [] []) b2 (bs (ad6 n) (bs (asT n) bc)) ar bY Tryz.func144
def asV(n:Nat)(a0:D){r:D}(h:T0 n a0=some r):fv c9 db 143 [a0,(D.val (.func (.func Hy) #[] #[]))] (·=r):=gf (ch n [(144,Im n)] [(2,⟨[an 0,(1,.b (.Mw Hy)),an 5],[],[]⟩)] [] [(0,⟨[an 5],[],[]⟩)]) b2 (bs (asU n) bc) ar bY Tryz.func143 (cz (cz le_nil)) h
def asW(n:Nat):bP 143 (DY n):=by
 intro aR r h;unfold DY at h;split at h
 case h_2=>cases h
 obtain⟨ah,h⟩:=mi h;obtain rfl:=anX ah;exact asV n _ h
def asX(n:Nat):bP 178 (D0 n):=ea (ch n [] [(2,⟨[an 0,an 1,an 7,an 8],[],[]⟩)] [] [(0,⟨[],[],[]⟩)]) b2 bc ar bY Tryz.func178
def asY(n:Nat):bP 145 (Ip n):=ea (ch n [(178,D0 n)] [] [] []) b2 (bs (asX n) bc) ar bY Tryz.func145
def Vh(n:Nat):bP 95 (ux n):=cN (ch n [(142,AQ n),(143,DY n),(145,Ip n)] [] [] []) b2 (bs (ad6 n) (bs (asW n) (bs (asY n) bc))) ar bY Tryz.func95
def asZ(n:Nat)(a0:D)(x1:List D){r:D}(h:T3 n a0 x1=some r):fv c9 db 94 [a0,.ref x1 0] (·=r):=gf (ch n [] [] [] []) b2 bc ar bY Tryz.func94 (cz (sq ud le_nil)) h
def as0(n:Nat):bP 94 (D1 n):=by
 intro aR r h;unfold D1 at h;split at h
 case h_2=>cases h
 split at h
 case h_2=>cases h
 exact asZ n _ _ h
def as1(n:Nat)(a0:D)(cZ:D){r:D}(h:T4 n a0 cZ=some r):fv c9 db 67 [a0,(D.fn (.func uk) [] [cZ])] (·=r):=gf (ch n [(94,D1 n)] [(2,⟨[an 0,(1,.b (.fd uk 1)),an 7,an 8],[],[]⟩)] [] [(0,⟨[],[],[]⟩)]) b2 (bs (as0 n) bc) ar bY Tryz.func67 (cz (cz le_nil)) h
def as2(n:Nat):bP 67 (AS n):=by
 intro aR r h;unfold AS at h;split at h
 case h_2=>cases h
 split at h
 case h_2=>cases h
 rename_i ah;obtain rfl:=om ah;exact as1 n _ _ h
def as3(n:Nat)(a0:D)(cZ:D){r:D}(h:T5 n a0 cZ=some r):fv c9 db 96 [a0,(D.fn (.func uk) [] [cZ])] (·=r):=gf (ch n [(67,AS n)] [] [] []) b2 (bs (as2 n) bc) ar bY Tryz.func96 (cz (cz le_nil)) h
def as4(n:Nat):bP 96 (D2 n):=by
 intro aR r h;unfold D2 at h;split at h
 case h_2=>cases h
 split at h
 case h_2=>cases h
 rename_i ah;obtain rfl:=om ah;exact as3 n _ _ h
def as5(n:Nat):bP 59 (D3 n):=cN (ch n [(95,ux n),(96,D2 n)] [(2,⟨[an 0,an 8,an 9,an 10],[],[]⟩)] [] [(0,⟨[],[],[]⟩)]) b2 (bs (Vh n) (bs (as4 n) bc)) ar bY Tryz.func59
def Vi(n:Nat):bP 61 (wh n):=cN (ch n [] [] [] []) b2 bc ar bY Tryz.func61
def as6(n:Nat):bP 97 (Ir n):=cN (ch n [] [(2,⟨[an 0,an 4],[],[]⟩)] [] [(0,⟨[],[],[]⟩)]) b2 bc ar bY Tryz.func97
def as7(n:Nat):bP 60 (It n):=cN (ch n [(61,wh n),(97,Ir n)] [(3,⟨[an 3,an 7,an 8,an 9],[],[]⟩)] [] [(0,⟨[an 3],[],[]⟩)]) b2 (bs (Vi n) (bs (as6 n) bc)) ar bY Tryz.func60
def as8(n:Nat):bP 251 (Iu n):=cN (ch n [] [] [] []) b2 bc ar bY Tryz.func251
def as9(n:Nat):bP 244 (Iv n):=cN (ch n [] [] [] []) b2 bc ar bY Tryz.func244
def ata(n:Nat):bP 240 (sM n):=cN (ch n [] [] [] []) b2 bc ar bY Tryz.func240
def atb(n:Nat):bP 236 (Ix n):=cN (ch n [] [] [] []) b2 bc ar bY Tryz.func236
def atc(n:Nat):bP 231 (Iy n):=cN (ch n [] [] [] []) b2 bc ar bY Tryz.func231
def atd(n:Nat):bP 224 (Iz n):=cN (ch n [] [] [] []) b2 bc ar bY Tryz.func224
def ate(n:Nat)(a0:D)(x1:List D){r:D}(h:Ny n a0 x1=some r):fv c9 db 254 [a0,.ref x1 0] (·=r):=gf (ch n [] [] [] []) b2 bc ar bY Tryz.func254 (cz (sq ud le_nil)) h
def atf(n:Nat):bP 254 (IA n):=by
 intro aR r h;unfold IA at h;split at h
 case h_2=>cases h
 split at h
 case h_2=>cases h
 exact ate n _ _ h
def atg(n:Nat)(a0:D)(cZ:D){r:D}(h:IC n a0 cZ=some r):fv c9 db 256 [a0,(D.fn (.func sD) [] [cZ])] (·=r):=gf (ch n [(254,IA n)] [(2,⟨[an 0,(1,.b (.fd sD 1)),an 7,an 8],[],[]⟩)] [] [(0,⟨[],[],[]⟩)]) b2 (bs (atf n) bc) ar bY Tryz.func256 (cz (cz le_nil)) h
def ath(n:Nat):bP 256 (AU n):=by
 intro aR r h;unfold AU at h;split at h
 case h_2=>cases h
 split at h
 case h_2=>cases h
 rename_i ah;obtain rfl:=om ah;exact atg n _ _ h
def ati(n:Nat)(a0:D)(cZ:D){r:D}(h:Nz n a0 cZ=some r):fv c9 db 253 [a0,(D.fn (.func sD) [] [cZ])] (·=r):=gf (ch n [(256,AU n)] [] [] []) b2 (bs (ath n) bc) ar bY Tryz.func253 (cz (cz le_nil)) h
def atj(n:Nat):bP 253 (AV n):=by
 intro aR r h;unfold AV at h;split at h
 case h_2=>cases h
 split at h
 case h_2=>cases h
 rename_i ah;obtain rfl:=om ah;exact ati n _ _ h
def atk(n:Nat):bP 201 (ID n):=cN (ch n [] [] [(5004000,⟨[an 4,an 5],[],[]⟩),(5005000,⟨[an 4,an 5],[],[]⟩),(5006000,⟨[an 4,an 5],[],[]⟩),(12011000,⟨[an 4,an 12],[],[]⟩),(15014000,⟨[an 4,an 15],[],[]⟩),(15015000,⟨[an 4,an 15],[],[]⟩),(15016000,⟨[an 4,an 15],[],[]⟩),(15017000,⟨[an 4,an 15],[],[]⟩),(15018000,⟨[an 4,an 15],[],[]⟩),(15019000,⟨[an 4,an 15],[],[]⟩),(15020000,⟨[an 4,an 15],[],[]⟩),(15021000,⟨[an 4,an 15],[],[]⟩),(15022000,⟨[an 4,an 15],[],[]⟩)] []) b2 bc ar bY Tryz.func201
def atl(n:Nat):bP 181 (IE n):=cN (ch n [(201,ID n)] [] [(18008007,⟨[sp 1,an 3,an 4,an 5,an 6],[bg 1 4],[]⟩),(20000009,⟨[sp 1,an 3,an 4,an 5,an 6],[bg 1 4],[]⟩)] [(0,⟨[sp 1,an 3,an 4,an 5,an 6],[bg 1 4],[]⟩)]) b2 (bs (atk n) bc) ar bY Tryz.func181
def atm(n:Nat):hh ac8 (IF n):=nM ⟨fu c9,db,fy [(181,IE n)],n,[10000,10001],cG [],cG [(10004003,⟨[(3,.b (.ptr 10001 0))],[bg 10001 1,bg 10000 1],[]⟩),(18000006,⟨[(3,.b (.ptr 10001 0))],[bg 10001 1,bg 10000 1],[]⟩)],cG [],gd [],fx [],gr [],gb []⟩ b2 (bs (atl n) bc) ar bY Tryz.func180 []
def ad7(n:Nat):hh UM (yf n):=nM ⟨fu c9,db,fy [],n,[],cG [(2,⟨[bW 0 9000,an 1,an 5],[bl 9000 1],[]⟩)],cG [],cG [(0,⟨[bW 0 9000,an 1,an 5],[bl 9000 1],[]⟩)],gd [],fx [],gr [],gb []⟩ b2 bc ar bY Tryz.func183 []
def atn(n:Nat):hh ac9 (AW n):=nM ⟨fu c9,db,fy [],n,[10000,10001],cG [],cG [(9004003,⟨[],[(10000,.box [.b (.row 6010)]),(10001,.box [.b (.row 9001)]),bl 6010 1,bl 9001 1],[]⟩),(15000005,⟨[],[(10000,.box [.b (.row 9000)]),(10001,.box [.b (.row 6020)]),bl 9000 1,bl 6020 1],[]⟩)],cG [(0,⟨[],[(10000,.box [.b (.row 6010)]),(10001,.box [.b (.row 9001)]),bl 6010 1,bl 9001 1],[]⟩)],gd [],fx [(14,⟨UM,yf n,6010,[]⟩),(20,⟨UM,yf n,6020,[]⟩)],gr [],gb []⟩ b2 bc (bQ (ad7 n) (bQ (ad7 n) ar)) bY Tryz.func182 []
def ato(AX:List D->Option (List D))(n:Nat)(atp:hh BM AX):hh BM (T6 AX n):=nM ⟨fu c9,db,fy [],n,[10000,10001],cG [(4,⟨[an 1,(2,.fn (.func abw) [] [.ptr 10000 0,.ptr 10001 0]),an 15,an 16,an 17],[bg 10000 1,bg 10001 1],[]⟩)],cG [],cG [(0,⟨[],[bg 10000 1,bg 10001 1],[]⟩)],gd [],fx [(12,⟨ac8,IF n,6010,[]⟩),(25,⟨BM,AX,6020,[]⟩)],gr [],gb []⟩ b2 bc (bQ (atm n) (bQ atp ar)) bY Tryz.func179 []
def ad8:∀n,hh BM (wi n)
 |0=>z7 (s:=BM) (Aa (T:=fu c9) (os:=λ_=>none) Tryz.func179) (λ_=>rfl)|n+1=>by have ih:=ad8 n;exact ato (wi n) n ih
def atq(n:Nat):hh BM (wi n):=(ad8 n)
def Vj(n:Nat):bP 146 (uy n):=cN ⟨fu c9,db,fy [],n,[],cG [],cG [],cG [],gd [],fx [(7,⟨BM,wi n,6010,[]⟩)],gr [],gb []⟩ b2 bc (bQ (atq n) ar) bY Tryz.func146
def atr(AY:List D->Option (List D))(n:Nat)(ats:hh BN AY):hh BN (T7 AY n):=nM ⟨fu c9,db,fy [],n,[10000,10001],cG [(4,⟨[an 1,(2,.fn (.func abx) [] [.ptr 10000 0,.ptr 10001 0]),an 15,an 16,an 17],[(10000,.box [.b (.row 6010)]),(10001,.box [.b (.row 6011)]),bl 6010 1,bl 6011 1],[]⟩)],cG [],cG [(0,⟨[],[(10000,.box [.b (.row 6010)]),(10001,.box [.b (.row 6011)]),bl 6010 1,bl 6011 1],[]⟩)],gd [],fx [(12,⟨ac9,AW n,6010,[]⟩),(25,⟨BN,AY,6020,[]⟩)],gr [],gb []⟩ b2 bc (bQ (atn n) (bQ ats ar)) bY Tryz.func179 []
def ad9:∀n,hh BN (wj n)
 |0=>z7 (s:=BN) (Aa (T:=fu c9) (os:=λ_=>none) Tryz.func179) (λ_=>rfl)|n+1=>by have ih:=ad9 n;exact atr (wj n) n ih
def att(n:Nat):hh BN (wj n):=(ad9 n)
def OQ(n:Nat):bP 149 (sN n):=cN ⟨fu c9,db,fy [],n,[],cG [],cG [],cG [],gd [(2,[0,1,2,3])],fx [(6,⟨BN,wj n,6010,[.box 3 0 5900 1,.box 2 0 5901 1]⟩)],gr [],gb []⟩ b2 bc (bQ (att n) ar) bY Tryz.func149
def atu(n:Nat):bP 188 (AZ n):=cN (ch n [(146,uy n),(149,sN n)] [] [] []) b2 (bs (Vj n) (bs (OQ n) bc)) ar bY Tryz.func188
def atv(n:Nat):bP 189 (II n):=cN (ch n [] [] [(6005000,⟨[an 3,an 6],[],[]⟩),(6006000,⟨[an 3,an 6],[],[]⟩),(6007000,⟨[an 3,an 6],[],[]⟩),(6008000,⟨[an 3,an 6],[],[]⟩),(12011000,⟨[an 12],[],[]⟩),(12012000,⟨[an 12],[],[]⟩),(12013000,⟨[an 12],[],[]⟩),(12014000,⟨[an 12],[],[]⟩),(12015000,⟨[an 12],[],[]⟩),(12016000,⟨[an 12],[],[]⟩)] [(0,⟨[],[],[]⟩)]) b2 bc ar bY Tryz.func189
def atw(n:Nat):hh ada (IJ n):=nM ⟨fu c9,db,fy [(188,AZ n),(189,II n)],n,[10000,10001],cG [],cG [(40007006,⟨[(3,.b (.ptr 10001 0))],[bg 10001 1,bg 10000 1],[]⟩),(43009008,⟨[(3,.b (.ptr 10001 0))],[bg 10001 1,bg 10000 1],[]⟩),(46011010,⟨[(3,.b (.ptr 10001 0))],[bg 10001 1,bg 10000 1],[]⟩),(50013012,⟨[(3,.b (.ptr 10001 0))],[bg 10001 1,bg 10000 1],[]⟩),(65000014,⟨[(3,.b (.ptr 10001 0))],[bg 10001 1,bg 10000 1],[]⟩)],cG [(0,⟨[(3,.b (.ptr 10001 0))],[bg 10001 1,bg 10000 1],[]⟩)],gd [],fx [],gr [],gb []⟩ b2 (bs (atu n) (bs (atv n) bc)) ar bY Tryz.func187 []
def atx(A0:List D->Option (List D))(n:Nat)(aty:hh BO A0):hh BO (T8 A0 n):=nM ⟨fu c9,db,fy [],n,[10000,10001],cG [(4,⟨[an 1,(2,.fn (.func aby) [] [.ptr 10000 0,.ptr 10001 0]),an 15,an 16,an 17],[bg 10000 1,bg 10001 1],[]⟩)],cG [],cG [(0,⟨[],[bg 10000 1,bg 10001 1],[]⟩)],gd [],fx [(12,⟨ada,IJ n,6010,[]⟩),(25,⟨BO,A0,6020,[]⟩)],gr [],gb []⟩ b2 bc (bQ (atw n) (bQ aty ar)) bY Tryz.func186 []
def aea:∀n,hh BO (wk n)
 |0=>z7 (s:=BO) (Aa (T:=fu c9) (os:=λ_=>none) Tryz.func186) (λ_=>rfl)|n+1=>by have ih:=aea n;exact atx (wk n) n ih
def atz(n:Nat):hh BO (wk n):=(aea n)
def aeb(n:Nat):bP 152 (A1 n):=cN ⟨fu c9,db,fy [],n,[],cG [],cG [],cG [],gd [],fx [(7,⟨BO,wk n,6010,[]⟩)],gr [],gb []⟩ b2 bc (bQ (atz n) ar) bY Tryz.func152
def Vk(n:Nat):bP 147 (wm n):=cN (ch n [] [(3,⟨[(3,.b (.map 8)),an 9,an 10,an 11],[(8,.map)],[]⟩)] [(24000007,⟨[(3,.b (.map 8)),an 9,an 10,an 11],[(8,.map)],[]⟩)] [(0,⟨[(3,.b (.map 8))],[(8,.map)],[]⟩),(1,⟨[(3,.b (.map 8)),an 9,an 10,an 11],[(8,.map)],[]⟩)]) b2 bc ar bY Tryz.func147
def atA(n:Nat):bP 148 (IM n):=cN ⟨fu c9,db,fy [(147,wm n),(149,sN n)],n,[],cG [(4,⟨[an 3,bW 4 5002,an 16,an 17,an 18],[bl 5002 1],[.slot 4 5002 1]⟩),(9,⟨[an 3,bW 4 5002,bW 7 5001,an 16,an 17,an 18,an 28,an 29,an 30],[bl 5002 1,bl 5001 1],[.slot 7 5001 1]⟩)],cG [(40000013,⟨[an 3,bW 4 5002,bW 7 44,an 16,an 17,an 18,an 28,an 29,an 30],[bl 5002 1,bl 44 1],[.slot 7 5000 1]⟩)],cG [(0,⟨[bW 4 5002],[bl 5002 1],[]⟩),(1,⟨[an 3,bW 4 49,an 16,an 17,an 18],[bl 49 1],[]⟩),(2,⟨[an 3,bW 4 5002,bW 7 5001,an 16,an 17,an 18],[bl 5002 1,bl 5001 1],[]⟩),(3,⟨[an 3,bW 4 5002,bW 7 44,an 16,an 17,an 18,an 28,an 29,an 30],[bl 5002 1,bl 44 1],[]⟩)],gd [],fx [],gr [48],gb []⟩ b2 (bs (Vk n) (bs (OQ n) bc)) ar bY Tryz.func148
def atB(A2:List D->Option (List D))(n:Nat)(atC:hh yw A2):hh yw (NG A2 n):=nM ⟨fu c9,db,fy [],n,[10000,10001,10002],cG [(1,⟨[(2,.b (.ptr 10001 0)),(3,.b (.ptr 10002 0)),an 10,an 11,an 12],[(10001,.box [.b (.map 9000)]),(10002,.box [.fn (.func xV) [] [.ptr 10000 0,.ptr 10001 0,.ptr 10002 0]]),bg 10000 1,(9000,.map)],[]⟩)],cG [(19000004,⟨[(2,.b (.ptr 10001 0)),(3,.b (.ptr 10002 0)),an 10,an 11,an 12],[(10001,.box [.b (.map 6010)]),(10002,.box [.fn (.func xV) [] [.ptr 10000 0,.ptr 10001 0,.ptr 10002 0]]),bg 10000 1,(6010,.map)],[]⟩)],cG [(0,⟨[],[bg 10000 1,(10001,.box [.b (.map 9000)]),(10002,.box [.fn (.func xV) [] [.ptr 10000 0,.ptr 10001 0,.ptr 10002 0]]),(9000,.map)],[]⟩),(1,⟨[(2,.b (.ptr 10001 0)),(3,.b (.ptr 10002 0)),an 10,an 11,an 12],[(10001,.box [.b (.map 6010)]),(10002,.box [.fn (.func xV) [] [.ptr 10000 0,.ptr 10001 0,.ptr 10002 0]]),bg 10000 1,(6010,.map)],[]⟩)],gd [],fx [(24,⟨yw,A2,6010,[]⟩)],gr [],gb []⟩ b2 bc (bQ atC ar) bY Tryz.func184 []
def aec:∀n,hh yw (sO n)
 |0=>z7 (s:=yw) (Aa (T:=fu c9) (os:=λ_=>none) Tryz.func184) (λ_=>rfl)|n+1=>by have ih:=aec n;exact atB (sO n) n ih
def aed(n:Nat):hh yw (sO n):=(aec n)
def atD(n:Nat):hh adb (IP n):=nM ⟨fu c9,db,fy [],n,[],cG [(5,⟨[sp 5,sp 6,an 11,an 12,an 13],[(5,.box [.b (.map 9)]),(6,.box [.fn (.func xV) [] [.ptr 2 0,.ptr 5 0,.ptr 6 0]]),(9,.map),bg 2 1],[]⟩)],cG [],cG [(0,⟨[sp 5],[(5,.box [.b (.map 9)]),(9,.map)],[]⟩)],gd [],fx [(19,⟨yw,sO n,6010,[]⟩)],gr [],gb []⟩ b2 bc (bQ (aed n) ar) bY Tryz.func150 []
def atE(n:Nat):bP 150 (D4 n):=ea ⟨fu c9,db,fy [],n,[],cG [(5,⟨[sp 5,sp 6,an 11,an 12,an 13],[(5,.box [.b (.map 9)]),(6,.box [.fn (.func xV) [] [.ptr 2 0,.ptr 5 0,.ptr 6 0]]),(9,.map),bg 2 1],[]⟩)],cG [],cG [(0,⟨[sp 5],[(5,.box [.b (.map 9)]),(9,.map)],[]⟩)],gd [],fx [(19,⟨yw,sO n,6010,[]⟩)],gr [],gb []⟩ b2 bc (bQ (aed n) ar) bY Tryz.func150
def atF(wo:List D->Option (List D))(n:Nat)(atG:hh BP wo):hh BP (IS wo n):=nM ⟨fu c9,db,fy [],n,[10000,10001,10002,10003],cG [(1,⟨[an 1,(2,.b (.ptr 10000 0)),(3,.b (.ptr 10001 0)),(4,.b (.ptr 10002 0)),(5,.b (.ptr 10003 0)),sp 6,sp 8],[bg 10000 1,bg 10001 1,bg 10002 1,(10003,.box [.fn (.func xW) [] [.ptr 10000 0,.ptr 10001 0,.ptr 10002 0,.ptr 10003 0]]),bg 6 4,bg 8 4],[]⟩),(10,⟨[an 1,(4,.b (.ptr 10002 0)),(5,.b (.ptr 10003 0)),sp 6,sp 8,bW 11 41,an 43,an 44,an 45],[bg 10002 1,(10003,.box [.fn (.func xW) [] [.ptr 10000 0,.ptr 10001 0,.ptr 10002 0,.ptr 10003 0]]),bg 6 4,bg 8 4,bl 41 4,bg 10000 1,bg 10001 1],[]⟩)],cG [(55000013,⟨[an 1,(4,.b (.ptr 10002 0)),(5,.b (.ptr 10003 0)),sp 6,sp 8,bW 11 41,an 43,an 44,an 45],[bg 10002 1,(10003,.box [.fn (.func xW) [] [.ptr 10000 0,.ptr 10001 0,.ptr 10002 0,.ptr 10003 0]]),bg 6 4,bg 8 4,bl 41 4,bg 10000 1,bg 10001 1],[]⟩)],cG [(0,⟨[an 1,(4,.b (.ptr 10002 0)),(5,.b (.ptr 10003 0)),sp 6,sp 8],[bg 10002 1,(10003,.box [.fn (.func xW) [] [.ptr 10000 0,.ptr 10001 0,.ptr 10002 0,.ptr 10003 0]]),bg 6 4,bg 8 4,bg 10000 1,bg 10001 1],[]⟩),(2,⟨[sp 6,sp 8,bW 11 41],[bg 6 4,bg 8 4,bl 41 4,bg 10000 1,bg 10001 1,bg 10002 1,(10003,.box [.fn (.func xW) [] [.ptr 10000 0,.ptr 10001 0,.ptr 10002 0,.ptr 10003 0]])],[]⟩),(3,⟨[an 1,(4,.b (.ptr 10002 0)),(5,.b (.ptr 10003 0)),sp 6,sp 8,bW 11 41,an 43,an 44,an 45],[bg 10002 1,(10003,.box [.fn (.func xW) [] [.ptr 10000 0,.ptr 10001 0,.ptr 10002 0,.ptr 10003 0]]),bg 6 4,bg 8 4,bl 41 4,bg 10000 1,bg 10001 1],[]⟩)],gd [],fx [(62,⟨BP,wo,6010,[]⟩)],gr [20066],gb []⟩ b2 bc (bQ atG ar) bY Tryz.func185 []
def aee:∀n,hh BP (uz n)
 |0=>z7 (s:=BP) (Aa (T:=fu c9) (os:=λ_=>none) Tryz.func185) (λ_=>rfl)|n+1=>by have ih:=aee n;exact atF (uz n) n ih
def atH(n:Nat):hh BP (uz n):=(aee n)
def atI(n:Nat):bP 151 (IT n):=ea ⟨fu c9,db,fy [(147,wm n)],n,[],cG [],cG [],cG [],gd [],fx [(13,⟨BP,uz n,6010,[]⟩)],gr [],gb []⟩ b2 (bs (Vk n) bc) (bQ (atH n) ar) bY Tryz.func151
def OR(n:Nat):bP 98 (np n):=ea ⟨(fu Tryz.prog).xy [77],db,fy [(146,uy n),(147,wm n),(148,IM n),(149,sN n),(150,D4 n),(151,IT n)],n,[],cG [(8,⟨[an 1,sp 2,sp 4,an 7,an 8,bW 9 5001,an 36,an 37,an 38],[bg 2 4,bg 4 4,bl 5001 1],[.slot 9 5001 1]⟩),(16,⟨[an 1,sp 2,sp 4,an 8,(16,.b (.map 6010)),an 57,an 58,an 59],[bg 2 4,bg 4 4,(6010,.map)],[]⟩),(21,⟨[an 1,sp 2,sp 4,an 8,(16,.b (.map 6010)),an 67,an 68],[bg 2 4,bg 4 4,(6010,.map)],[]⟩)],cG [(48000012,⟨[an 1,sp 2,sp 4,an 7,an 8,bW 9 52,an 36,an 37,an 38],[bg 2 4,bg 4 4,bl 52 1],[.slot 9 5000 1]⟩)],cG [(0,⟨[an 1,sp 2,sp 4,an 8,bW 9 5001],[bg 2 4,bg 4 4,bl 5001 1],[]⟩),(1,⟨[an 1,sp 2,sp 4,an 7,an 8,bW 9 52,an 36,an 37,an 38],[bg 2 4,bg 4 4,bl 52 1],[]⟩),(2,⟨[an 1,sp 2,sp 4,an 8,(16,.b (.map 6010))],[bg 2 4,bg 4 4,(6010,.map)],[]⟩),(4,⟨[an 1,sp 2,sp 4],[bg 2 4,bg 4 4],[]⟩)],gd [],fx [(56,⟨adb,IP n,6010,[]⟩)],gr [],gb [(14,[[5001],[],[]])]⟩ ((tok _).xy _) (bs (Vj n) (bs (Vk n) (bs (atA n) (bs (OQ n) (bs (atE n) (bs (atI n) bc)))))) (bQ (atD n) ar) bY Tryz.func98
def aef(n:Nat):bP 101 (A4 n):=cN (ch n [] [(3,⟨[(3,.b (.map 8)),an 9,an 10,an 11],[(8,.map)],[]⟩)] [(24000007,⟨[(3,.b (.map 8)),an 9,an 10,an 11],[(8,.map)],[]⟩)] [(0,⟨[(3,.b (.map 8))],[(8,.map)],[]⟩),(1,⟨[(3,.b (.map 8)),an 9,an 10,an 11],[(8,.map)],[]⟩)]) b2 bc ar bY Tryz.func101
def aeg(n:Nat):bP 202 (sP n):=ea (ch n [] [] [] []) b2 bc ar bY Tryz.func202
def atJ(n:Nat):bP 203 (IX n):=cN (ch n [] [(2,⟨[sp 2,an 6,an 7,an 8],[bg 2 3],[]⟩)] [] [(0,⟨[sp 2],[bg 2 3],[]⟩)]) b2 bc ar bY Tryz.func203
def atK(n:Nat):bP 204 (A5 n):=lv (ch n [(202,sP n)] [] [(13000002,⟨[an 0,sp 4,sp 5,sp 6],[bg 4 3,bg 5 3,bg 6 3],[]⟩)] []) b2 (bs (aeg n) bc) ar bY Tryz.func204
def atL(n:Nat):bP 190 (pZ n):=an4 (ch n [(202,sP n),(203,IX n),(204,A5 n)] [] [(29007000,⟨[an 0,an 1,an 3,an 4,sp 7,sp 10,an 16,an 29],[bg 7 4,bg 10 3],[]⟩),(69017000,⟨[an 4,sp 7,sp 10,an 16,an 69],[bg 7 4,bg 10 3],[]⟩),(69018000,⟨[an 4,sp 7,sp 10,an 16,an 69],[bg 7 4,bg 10 3],[]⟩),(69019000,⟨[an 4,sp 7,sp 10,an 16,an 69],[bg 7 4,bg 10 3],[]⟩),(69020000,⟨[an 4,sp 7,sp 10,an 16,an 69],[bg 7 4,bg 10 3],[]⟩),(126029000,⟨[an 4,sp 7,sp 10,an 126],[bg 7 4,bg 10 3],[]⟩),(164038000,⟨[an 4,sp 7,sp 10,an 152,an 164],[bg 7 4,bg 10 3],[]⟩)] [(0,⟨[an 4,sp 7,sp 10],[bg 7 4,bg 10 3],[]⟩)]) b2 (bs (aeg n) (bs (atJ n) (bs (atK n) bc))) ar bY Tryz.func190
def atM(A7:List D->Option D)(n:Nat)(a0:D)(aI:D)(a2:D)(a3:D)(atN:bP 154 A7){r:D}(h:Ug A7 n a0 aI a2 a3=some r):fv c9 db 154 [a0,aI,a2,a3] (·=r):=gf (ch n [(154,A7),(190,pZ n)] [(3,⟨[an 0,an 1,an 3,sp 6,sp 8,bW 10 5000,an 16,an 17,an 18],[bg 6 4,bg 8 3,bl 5000 3],[.slot 10 5000 3]⟩)] [] [(0,⟨[an 0,an 1,an 3,sp 6,sp 8,bW 10 5000],[bg 6 4,bg 8 3,bl 5000 3],[]⟩)]) b2 (bs atN (bs (atL n) bc)) ar bY Tryz.func154 (cz (cz (cz (cz le_nil)))) h
def aeh:∀n,bP 154 (sR n)
 |0=>(λ_ _ h=>by cases h)
 |n+1=>by
  have ih:=aeh n;exact(by
   intro aR r h;unfold sR at h;split at h
   case h_2=>cases h
   exact atM (sR n) n _ _ _ _ ih h)
def atO(n:Nat):bP 154 (sR n):=(aeh n)
def aei(n:Nat):bP 100 (yg n):=lv (ch n [(146,uy n),(101,A4 n),(154,sR n)] [] [] []) b2 (bs (Vj n) (bs (aef n) (bs (atO n) bc))) ar bY Tryz.func100
def Vl(n:Nat):bP 238 (uC n):=lv (ch n [(98,np n),(100,yg n)] [] [] []) b2 (bs (OR n) (bs (aei n) bc)) ar bY Tryz.func238
def aej(n:Nat):bP 242 (yh n):=lv (ch n [(238,uC n)] [] [] []) b2 (bs (Vl n) bc) ar bY Tryz.func242
def atP(A8:List D->Option D)(n:Nat)(a0:D)(aI:D)(atQ:bP 255 A8){r:D}(h:I1 A8 n a0 aI=some r):fv c9 db 255 [a0,aI] (·=r):=gf (ch n [(242,yh n),(255,A8)] [(4,⟨[sp 2,an 16,an 17,an 18],[bg 2 8],[]⟩)] [] [(0,⟨[],[],[]⟩)]) b2 (bs (aej n) (bs atQ bc)) ar bY Tryz.func255 (cz (cz le_nil)) h
def aek:∀n,bP 255 (uD n)
 |0=>(λ_ _ h=>by cases h)
 |n+1=>by
  have ih:=aek n;exact(by
   intro aR r h;unfold uD at h;split at h
   case h_2=>cases h
   exact atP (uD n) n _ _ ih h)
def atS(n:Nat):bP 255 (uD n):=(aek n)
def atT(n:Nat):bP 252 (wv n):=lv (ch n [(95,ux n),(253,AV n),(152,A1 n),(255,uD n)] [] [] []) b2 (bs (Vh n) (bs (atj n) (bs (aeb n) (bs (atS n) bc)))) ar bY Tryz.func252
def atU(n:Nat)(a0:D)(x1:List D){r:D}(h:NO n a0 x1=some r):fv c9 db 246 [a0,.ref x1 0] (·=r):=gf (ch n [] [] [] []) b2 bc ar bY Tryz.func246 (cz (sq ud le_nil)) h
def atV(n:Nat):bP 246 (I3 n):=by
 intro aR r h;unfold I3 at h;split at h
 case h_2=>cases h
 split at h
 case h_2=>cases h
 exact atU n _ _ h
def atW(n:Nat)(a0:D)(cZ:D){r:D}(h:I5 n a0 cZ=some r):fv c9 db 67 [a0,(D.fn (.func DF) [] [cZ])] (·=r):=gf (ch n [(246,I3 n)] [(2,⟨[an 0,(1,.b (.fd DF 1)),an 7,an 8],[],[]⟩)] [] [(0,⟨[],[],[]⟩)]) b2 (bs (atV n) bc) ar bY Tryz.func67 (cz (cz le_nil)) h
def atX(n:Nat):bP 67 (A9 n):=by
 intro aR r h;unfold A9 at h;split at h
 case h_2=>cases h
 split at h
 case h_2=>cases h
 rename_i ah;obtain rfl:=om ah;exact atW n _ _ h
def atY(n:Nat)(a0:D)(x1:List D){r:D}(h:NP n a0 x1=some r):fv c9 db 248 [a0,.ref x1 0] (·=r):=gf (ch n [] [] [] []) b2 bc ar bY Tryz.func248 (cz (sq ud le_nil)) h
def atZ(n:Nat):bP 248 (I6 n):=by
 intro aR r h;unfold I6 at h;split at h
 case h_2=>cases h
 split at h
 case h_2=>cases h
 exact atY n _ _ h
def at0(n:Nat)(a0:D)(cZ:D){r:D}(h:I8 n a0 cZ=some r):fv c9 db 249 [a0,(D.fn (.func sC) [] [cZ])] (·=r):=gf (ch n [(248,I6 n)] [(2,⟨[an 0,(1,.b (.fd sC 1)),an 7,an 8],[],[]⟩)] [] [(0,⟨[],[],[]⟩)]) b2 (bs (atZ n) bc) ar bY Tryz.func249 (cz (cz le_nil)) h
def at1(n:Nat):bP 249 (Ba n):=by
 intro aR r h;unfold Ba at h;split at h
 case h_2=>cases h
 split at h
 case h_2=>cases h
 rename_i ah;obtain rfl:=om ah;exact at0 n _ _ h
def at2(n:Nat)(a0:D)(cZ:D){r:D}(h:NQ n a0 cZ=some r):fv c9 db 247 [a0,(D.fn (.func sC) [] [cZ])] (·=r):=gf (ch n [(249,Ba n)] [] [] []) b2 (bs (at1 n) bc) ar bY Tryz.func247 (cz (cz le_nil)) h
def at3(n:Nat):bP 247 (Bb n):=by
 intro aR r h;unfold Bb at h;split at h
 case h_2=>cases h
 split at h
 case h_2=>cases h
 rename_i ah;obtain rfl:=om ah;exact at2 n _ _ h
def at4(n:Nat):bP 245 (yi n):=lv (ch n [(67,A9 n),(247,Bb n),(238,uC n)] [] [] []) b2 (bs (atX n) (bs (at3 n) (bs (Vl n) bc))) ar bY Tryz.func245
def at5(n:Nat):bP 241 (D8 n):=lv (ch n [(242,yh n)] [] [] []) b2 (bs (aej n) bc) ar bY Tryz.func241
def at6(n:Nat):bP 237 (D9 n):=lv (ch n [(238,uC n)] [] [] []) b2 (bs (Vl n) bc) ar bY Tryz.func237
def at7(n:Nat)(a0:D)(x1:List D){r:D}(h:NS n a0 x1=some r):fv c9 db 234 [a0,.ref x1 0] (·=r):=gf (ch n [] [] [] []) b2 bc ar bY Tryz.func234 (cz (sq ud le_nil)) h
def aua(n:Nat):bP 234 (I9 n):=by
 intro aR r h;unfold I9 at h;split at h
 case h_2=>cases h
 split at h
 case h_2=>cases h
 exact at7 n _ _ h
def aub(n:Nat)(a0:D)(cZ:D){r:D}(h:Jb n a0 cZ=some r):fv c9 db 233 [a0,(D.fn (.func DE) [] [cZ])] (·=r):=gf (ch n [(234,I9 n)] [(2,⟨[an 0,(1,.b (.fd DE 1)),an 7,an 8],[],[]⟩)] [] [(0,⟨[],[],[]⟩)]) b2 (bs (aua n) bc) ar bY Tryz.func233 (cz (cz le_nil)) h
def auc(n:Nat):bP 233 (Bc n):=by
 intro aR r h;unfold Bc at h;split at h
 case h_2=>cases h
 split at h
 case h_2=>cases h
 rename_i ah;obtain rfl:=om ah;exact aub n _ _ h
def aud(n:Nat):bP 232 (Ea n):=lv ⟨fu c9,db,fy [(149,sN n),(233,Bc n)],n,[],cG [(3,⟨[an 0,an 2,bW 7 16,bW 8 18],[bl 16 1,bl 18 1],[]⟩),(7,⟨[an 0,an 2,bW 7 16,bW 8 18,an 35,an 36,an 37],[bl 16 1,bl 18 1],[]⟩)],cG [(52000011,⟨[an 0,an 2,bW 7 16,bW 8 59,an 35,an 36,an 37],[bl 16 1,bl 59 1],[]⟩)],cG [(0,⟨[an 2,bW 7 16],[bl 16 1],[]⟩),(1,⟨[an 0,an 2,bW 7 16,bW 8 18],[bl 16 1,bl 18 1],[]⟩),(2,⟨[an 0,an 2,bW 7 16,bW 8 18],[bl 16 1,bl 18 1],[]⟩),(3,⟨[an 0,an 2,bW 7 16,bW 8 59,an 35,an 36,an 37],[bl 16 1,bl 59 1],[]⟩)],gd [],fx [],gr [23],gb []⟩ b2 (bs (OQ n) (bs (auc n) bc)) ar bY Tryz.func232
def aue(n:Nat)(a0:D)(x1:List D){r:D}(h:NV n a0 x1=some r):fv c9 db 226 [a0,.ref x1 0] (·=r):=gf (ch n [] [] [] []) b2 bc ar bY Tryz.func226 (cz (sq ud le_nil)) h
def auf(n:Nat):bP 226 (Jc n):=by
 intro aR r h;unfold Jc at h;split at h
 case h_2=>cases h
 split at h
 case h_2=>cases h
 exact aue n _ _ h
def aug(n:Nat)(a0:D)(cZ:D){r:D}(h:Je n a0 cZ=some r):fv c9 db 67 [a0,(D.fn (.func sA) [] [cZ])] (·=r):=gf (ch n [(226,Jc n)] [(2,⟨[an 0,(1,.b (.fd sA 1)),an 7,an 8],[],[]⟩)] [] [(0,⟨[],[],[]⟩)]) b2 (bs (auf n) bc) ar bY Tryz.func67 (cz (cz le_nil)) h
def auh(n:Nat):bP 67 (Be n):=by
 intro aR r h;unfold Be at h;split at h
 case h_2=>cases h
 split at h
 case h_2=>cases h
 rename_i ah;obtain rfl:=om ah;exact aug n _ _ h
def aui(n:Nat)(a0:D)(cZ:D){r:D}(h:NW n a0 cZ=some r):fv c9 db 96 [a0,(D.fn (.func sA) [] [cZ])] (·=r):=gf (ch n [(67,Be n)] [] [] []) b2 (bs (auh n) bc) ar bY Tryz.func96 (cz (cz le_nil)) h
def auj(n:Nat):bP 96 (Bf n):=by
 intro aR r h;unfold Bf at h;split at h
 case h_2=>cases h
 split at h
 case h_2=>cases h
 rename_i ah;obtain rfl:=om ah;exact aui n _ _ h
def auk(n:Nat)(a0:D)(x1:List D){r:D}(h:NX n a0 x1=some r):fv c9 db 228 [a0,.ref x1 0] (·=r):=gf (ch n [] [] [] []) b2 bc ar bY Tryz.func228 (cz (sq ud le_nil)) h
def aul(n:Nat):bP 228 (Jf n):=by
 intro aR r h;unfold Jf at h;split at h
 case h_2=>cases h
 split at h
 case h_2=>cases h
 exact auk n _ _ h
def aum(n:Nat)(a0:D)(cZ:D){r:D}(h:Jh n a0 cZ=some r):fv c9 db 229 [a0,(D.fn (.func sB) [] [cZ])] (·=r):=gf (ch n [(228,Jf n)] [(2,⟨[an 0,(1,.b (.fd sB 1)),an 7,an 8],[],[]⟩)] [] [(0,⟨[],[],[]⟩)]) b2 (bs (aul n) bc) ar bY Tryz.func229 (cz (cz le_nil)) h
def aun(n:Nat):bP 229 (Bg n):=by
 intro aR r h;unfold Bg at h;split at h
 case h_2=>cases h
 split at h
 case h_2=>cases h
 rename_i ah;obtain rfl:=om ah;exact aum n _ _ h
def auo(n:Nat)(a0:D)(cZ:D){r:D}(h:NY n a0 cZ=some r):fv c9 db 227 [a0,(D.fn (.func sB) [] [cZ])] (·=r):=gf (ch n [(229,Bg n)] [] [] []) b2 (bs (aun n) bc) ar bY Tryz.func227 (cz (cz le_nil)) h
def aup(n:Nat):bP 227 (Bh n):=by
 intro aR r h;unfold Bh at h;split at h
 case h_2=>cases h
 split at h
 case h_2=>cases h
 rename_i ah;obtain rfl:=om ah;exact auo n _ _ h
def auq(n:Nat):bP 225 (wx n):=lv (ch n [(95,ux n),(96,Bf n),(227,Bh n)] [] [(17005000,⟨[an 17],[],[]⟩)] []) b2 (bs (Vh n) (bs (auj n) (bs (aup n) bc))) ar bY Tryz.func225
def aur(n:Nat):bP 250 (NZ n):=cN (ch n [] [] [] []) b2 bc ar bY Tryz.func250
def aus(n:Nat):bP 243 (N0 n):=cN (ch n [] [] [] []) b2 bc ar bY Tryz.func243
def aut(n:Nat):bP 239 (N1 n):=cN (ch n [] [] [] []) b2 bc ar bY Tryz.func239
def auu(n:Nat):bP 235 (N2 n):=cN (ch n [] [] [] []) b2 bc ar bY Tryz.func235
def auv(n:Nat):bP 230 (N3 n):=cN (ch n [] [] [] []) b2 bc ar bY Tryz.func230
def auw(n:Nat):bP 223 (N4 n):=cN (ch n [] [] [] []) b2 bc ar bY Tryz.func223
def auy(n:Nat):bP 26 (oY n):=cN ⟨((fu Tryz.prog).Md [117,118,119,121,122,123]),db,fy [(59,D3 n),(60,It n),(251,Iu n),(244,Iv n),(240,sM n),(236,Ix n),(231,Iy n),(224,Iz n),(252,wv n),(245,yi n),(241,D8 n),(237,D9 n),(232,Ea n),(225,wx n),(250,NZ n),(243,N0 n),(239,N1 n),(235,N2 n),(230,N3 n),(223,N4 n)],n,[],cG [(2,⟨[sp 1,sp 2,an 36,an 37],[bg 1 8,bg 2 2],[]⟩),(13,⟨[sp 1,sp 2,an 93,an 94],[bg 1 8,bg 2 2],[]⟩),(16,⟨[sp 1,sp 2,an 9,an 93,an 94,an 98,an 99],[bg 1 8,bg 2 2],[]⟩)],cG [],cG [(0,⟨[sp 1,sp 2],[bg 1 8,bg 2 2],[]⟩),(2,⟨[sp 2],[bg 2 2],[]⟩),(3,⟨[sp 1,sp 2,an 93,an 94],[bg 1 8,bg 2 2],[]⟩),(4,⟨[sp 1,sp 2,an 93,an 94],[bg 1 8,bg 2 2],[]⟩)],gd [],fx [],gr [],gb []⟩ ((tok _).Md _) (bs (as5 n) (bs (as7 n) (bs (as8 n) (bs (as9 n) (bs (ata n) (bs (atb n) (bs (atc n) (bs (atd n) (bs (atT n) (bs (at4 n) (bs (at5 n) (bs (at6 n) (bs (aud n) (bs (auq n) (bs (aur n) (bs (aus n) (bs (aut n) (bs (auu n) (bs (auv n) (bs (auw n) bc)))))))))))))))))))) ar bY Tryz.func26
def auz(n:Nat):bP 27 (Bj n):=cN (ch n [(61,wh n)] [(3,⟨[an 4,an 5,an 10,an 11,an 12],[],[]⟩)] [(24000008,⟨[an 4,an 5,an 10,an 11,an 12],[],[]⟩)] [(0,⟨[an 4,an 5],[],[]⟩),(1,⟨[an 4,an 5,an 10,an 11,an 12],[],[]⟩)]) b2 (bs (Vi n) bc) ar bY Tryz.func27
def auA(n:Nat):bP 62 (qG n):=ea (ch n [(98,np n)] [(2,⟨[an 1,bW 4 5000,an 11,an 12,an 13],[bl 5000 4],[.slot 4 5000 4]⟩)] [] [(0,⟨[bW 4 5000],[bl 5000 4],[]⟩)]) b2 (bs (OR n) bc) ar bY Tryz.func62
def auB(n:Nat):bP 63 (Bk n):=ea (ch n [(98,np n)] [(2,⟨[an 1,bW 4 5000,an 11,an 12,an 13],[bl 5000 5],[.slot 4 5000 5]⟩)] [] [(0,⟨[bW 4 5000],[bl 5000 5],[]⟩)]) b2 (bs (OR n) bc) ar bY Tryz.func63
def auC(Bl:List D->Option (List D))(n:Nat)(auD:hh BQ Bl):hh BQ (uE Bl n):=nM ⟨fu c9,db,fy [(98,np n)],n,[10000,10001],cG [(8,⟨[(2,.b (.ptr 10001 0)),sp 3,sp 4,bW 8 5000,an 32,an 33,an 34],[(10001,.box [.fn (.func Nh) [] [.ptr 10000 0,.ptr 10001 0]]),bg 3 6,bg 4 6,bl 5000 6,bg 10000 1],[.slot 8 5000 6]⟩)],cG [],cG [(0,⟨[sp 3,sp 4,bW 8 5000],[bg 3 6,bg 4 6,bl 5000 6,bg 10000 1,(10001,.box [.fn (.func Nh) [] [.ptr 10000 0,.ptr 10001 0]])],[]⟩)],gd [],fx [(41,⟨BQ,Bl,6020,[]⟩)],gr [20004],gb []⟩ b2 (bs (OR n) bc) (bQ auD ar) bY Tryz.func153 []
def ael:∀n,hh BQ (qH n)
 |0=>z7 (s:=BQ) (Aa (T:=fu c9) (os:=λ_=>none) Tryz.func153) (λ_=>rfl)|n+1=>by have ih:=ael n;exact auC (qH n) n ih
def auE(n:Nat):hh BQ (qH n):=(ael n)
def auF(n:Nat):bP 99 (Bm n):=ea ⟨fu c9,db,fy [(152,A1 n)],n,[],cG [],cG [],cG [],gd [],fx [(17,⟨BQ,qH n,6010,[]⟩)],gr [],gb []⟩ b2 (bs (aeb n) bc) (bQ (auE n) ar) bY Tryz.func99
def auG(n:Nat):bP 64 (Bn n):=ea (ch n [(99,Bm n)] [(2,⟨[an 1,bW 4 5000,an 11,an 12,an 13],[bl 5000 7],[.slot 4 5000 7]⟩)] [] [(0,⟨[bW 4 5000],[bl 5000 7],[]⟩)]) b2 (bs (auF n) bc) ar bY Tryz.func64
def auH(n:Nat):bP 28 (Jk n):=cN ⟨fu c9,db,fy [(62,qG n),(63,Bk n),(64,Bn n)],n,[],cG [],cG [],cG [],gd [(4,[1,2,0,3,4,5,6,7]),(7,[1,2,0,3,4,5,6,7]),(10,[1,2,0,3,4,5,6,7]),(13,[1,2,0,3,4,5,6,7]),(16,[1,2,0,3,4,5,6,7]),(19,[1,2,0,3,4,5,6,7])],fx [],gr [],gb []⟩ b2 (bs (auA n) (bs (auB n) (bs (auG n) bc))) ar bY Tryz.func28
def auI(n:Nat):hh ade (Jl n):=nM ⟨fu c9,db,fy [],n,[],cG [],cG [],cG [],gd [],fx [],gr [],gb []⟩ b2 bc ar bY Tryz.func65 [.slot 0 5000 1]
def auJ(n:Nat):bP 29 (N9 n):=cN ⟨fu c9,db,fy [(61,wh n)],n,[],cG [(3,⟨[bW 3 11,an 12,an 13,an 14],[bl 11 1],[]⟩),(10,⟨[sp 5,an 6,bW 7 5001,an 12,an 13,an 14,bW 22 11,an 23,an 24],[bg 5 4,bl 5001 1,bl 11 1],[.slot 7 5001 1]⟩),(13,⟨[sp 5,an 6,bW 7 5001,an 9,an 12,an 13,an 14,bW 22 11,an 23,an 24,an 29,an 30],[bg 5 4,bl 5001 1,bl 11 1],[.slot 7 5000 1]⟩)],cG [(21000007,⟨[bW 3 11,sp 5,an 6,an 12,an 13,an 14],[bl 11 1,bg 5 4],[]⟩)],cG [(0,⟨[bW 3 11],[bl 11 1],[]⟩),(1,⟨[bW 3 5001,an 12,an 13,an 14],[bl 5001 1],[]⟩),(2,⟨[bW 7 5001,an 12,an 13,an 14],[bl 5001 1],[]⟩),(3,⟨[sp 5,an 6,bW 7 5001,an 12,an 13,an 14,bW 22 11,an 23,an 24],[bg 5 4,bl 5001 1,bl 11 1],[]⟩),(4,⟨[sp 5,an 6,bW 7 5001,an 12,an 13,an 14,bW 22 11,an 23,an 24],[bg 5 4,bl 5001 1,bl 11 1],[]⟩)],gd [],fx [(35,⟨ade,Jl n,6030,[]⟩)],gr [41],gb []⟩ b2 (bs (Vi n) bc) (bQ (auI n) ar) bY Tryz.func29
def auK(d:D):d.le (Ec d):=by
 unfold Ec;split;.exact D.nil_le 1
 exact D.le_refl _
def auL{x r:D}(h:Jp x=some r):x.le r:=by
 unfold Jp at h;split at h
 case h_2=>cases h
 rename_i k es;split at h
 case isFalse=>cases h
 rename_i ah;cases h;refine D.ai5 (by simp) ?_;intro i x y ad aH;simp only[xah,ad,xaJ,xaE]at aH;subst aH;refine⟨by simp,xaB.1 ah x (xad ad),?_⟩;intro j a b aG aj;simp only[xah,aG,xaJ,xaE]at aj;subst aj;exact auK a
def auM(n:Nat):bP 29 (Ed n):=by
 intro aR r h;unfold Ed at h;split at h
 case h_2=>cases h
 rename_i x ad;have H:=auJ n aR x ad;refine⟨H.fn,?_⟩;intro m fr w vs c0 cQ hD;refine(H.run m fr w vs c0 cQ hD).mono ?_;rintro e w' ⟨v,cB,q,J,rfl,aa,ax,bj⟩;exact⟨v,cB,r,J,rfl,aa,ax,auL h cB v bj⟩
def aem(n:Nat):bP 103 (qI n):=cN (ch n [] [] [] []) b2 bc ar bY Tryz.func103
def auN(n:Nat):bP 155 (Jq n):=ea (ch n [] [] [] []) b2 bc ar bY Tryz.func155
def aen(n:Nat):bP 104 (uF n):=ea (ch n [(155,Jq n)] [] [] []) b2 (bs (auN n) bc) ar bY Tryz.func104
def auO(n:Nat):bP 192 (Bo n):=cN (ch n [] [] [] []) b2 bc ar bY Tryz.func192
def auP(n:Nat):bP 191 (Ob n):=ea (ch n [] [] [] []) b2 bc ar bY Tryz.func191
def auQ(n:Nat):bP 156 (yj n):=ea (ch n [(192,Bo n),(191,Ob n)] [] [] []) b2 (bs (auO n) (bs (auP n) bc)) ar bY Tryz.func156
def auR(n:Nat):bP 105 (kL n):=ea (ch n [(103,qI n),(104,uF n),(156,yj n)] [(29,⟨[an 1,sp 2,an 6,an 147,an 148,an 149],[bg 2 4],[]⟩)] [(35007000,⟨[an 1,sp 2,an 10,an 35],[bg 2 4],[]⟩)] [(1,⟨[an 1,sp 2,an 6],[bg 2 4],[]⟩)]) b2 (bs (aem n) (bs (aen n) (bs (auQ n) bc))) ar bY Tryz.func105
def auS(Bp:List D->Option (List D))(n:Nat)(auT:hh BR Bp):hh BR (wy Bp n):=nM ⟨fu c9,db,fy [(103,qI n),(104,uF n),(105,kL n)],n,[10000,10001,10002,10003,10004],cG [(3,⟨[(1,.b (.ptr 10000 0)),(2,.b (.ptr 10001 0)),(3,.b (.ptr 10002 0)),(4,.b (.ptr 10003 0)),(5,.b (.ptr 10004 0)),sp 6,bW 9 5000,an 17,an 18,an 19],[(10000,.box [.fn (.func Ar) [] [.ptr 10000 0,.ptr 10001 0,.ptr 10002 0,.ptr 10003 0,.ptr 10004 0]]),bg 10001 1,bg 10002 1,bg 10003 1,bg 10004 1,bg 6 4,bl 5000 1],[.slot 9 5000 1]⟩)],cG [(43013000,⟨[(2,.b (.ptr 10001 0)),(3,.b (.ptr 10002 0)),(4,.b (.ptr 10003 0)),(5,.b (.ptr 10004 0)),sp 6,bW 9 5000,an 37,an 43],[bg 10001 1,bg 10002 1,bg 10003 1,bg 10004 1,bg 6 4,bl 5000 1,(10000,.box [.fn (.func Ar) [] [.ptr 10000 0,.ptr 10001 0,.ptr 10002 0,.ptr 10003 0,.ptr 10004 0]])],[]⟩),(48016000,⟨[(2,.b (.ptr 10001 0)),(3,.b (.ptr 10002 0)),(4,.b (.ptr 10003 0)),(5,.b (.ptr 10004 0)),sp 6,bW 9 5000,an 48],[bg 10001 1,bg 10002 1,bg 10003 1,bg 10004 1,bg 6 4,bl 5000 1,(10000,.box [.fn (.func Ar) [] [.ptr 10000 0,.ptr 10001 0,.ptr 10002 0,.ptr 10003 0,.ptr 10004 0]])],[]⟩),(58000019,⟨[(5,.b (.ptr 10004 0)),an 14,an 15],[bg 10004 1,(10000,.box [.fn (.func Ar) [] [.ptr 10000 0,.ptr 10001 0,.ptr 10002 0,.ptr 10003 0,.ptr 10004 0]]),bg 10001 1,bg 10002 1,bg 10003 1],[]⟩)],cG [(0,⟨[(2,.b (.ptr 10001 0)),(3,.b (.ptr 10002 0)),(4,.b (.ptr 10003 0)),(5,.b (.ptr 10004 0)),sp 6,bW 9 5000],[bg 10001 1,bg 10002 1,bg 10003 1,bg 10004 1,bg 6 4,bl 5000 1,(10000,.box [.fn (.func Ar) [] [.ptr 10000 0,.ptr 10001 0,.ptr 10002 0,.ptr 10003 0,.ptr 10004 0]])],[]⟩)],gd [],fx [(26,⟨BR,Bp,6020,[]⟩)],gr [],gb []⟩ b2 (bs (aem n) (bs (aen n) (bs (auR n) bc))) (bQ auT ar) bY Tryz.func102 []
def aeo:∀n,hh BR (wz n)
 |0=>z7 (s:=BR) (Aa (T:=fu c9) (os:=λ_=>none) Tryz.func102) (λ_=>rfl)|n+1=>by have ih:=aeo n;exact auS (wz n) n ih
def auU(n:Nat):hh BR (wz n):=(aeo n)
def aep(n:Nat):bP 66 (sT n):=G7 ⟨fu c9,db,fy [(100,yg n),(101,A4 n)],n,[],cG [],cG [],cG [],gd [],fx [(34,⟨BR,wz n,6010,[]⟩)],gr [],gb []⟩ b2 (bs (aei n) (bs (aef n) bc)) (bQ (auU n) ar) bY Tryz.func66
def aeq(n:Nat):bP 31 (Bq n):=G7 (ch n [(66,sT n)] [] [] []) b2 (bs (aep n) bc) ar bY Tryz.func31
def auV(n:Nat):bP 30 (yl n):=G7 (ch n [(31,Bq n)] [(2,⟨[an 2,an 3,sp 4,an 11,an 12,an 13],[bg 4 8],[]⟩)] [] [(0,⟨[],[],[]⟩)]) b2 (bs (aeq n) bc) ar bY Tryz.func30
def auW(n:Nat)(a0:D)(x1:List D){r:D}(h:Od n a0 x1=some r):fv c9 db 68 [a0,.ref x1 0] (·=r):=gf (ch n [] [] [] []) b2 bc ar bY Tryz.func68 (cz (sq ud le_nil)) h
def auX(n:Nat):bP 68 (Jv n):=by
 intro aR r h;unfold Jv at h;split at h
 case h_2=>cases h
 split at h
 case h_2=>cases h
 exact auW n _ _ h
def auY(n:Nat)(a0:D)(cZ:D){r:D}(h:Jx n a0 cZ=some r):fv c9 db 67 [a0,(D.fn (.func DD) [] [cZ])] (·=r):=gf (ch n [(68,Jv n)] [(2,⟨[an 0,(1,.b (.fd DD 1)),an 7,an 8],[],[]⟩)] [] [(0,⟨[],[],[]⟩)]) b2 (bs (auX n) bc) ar bY Tryz.func67 (cz (cz le_nil)) h
def auZ(n:Nat):bP 67 (Br n):=by
 intro aR r h;unfold Br at h;split at h
 case h_2=>cases h
 split at h
 case h_2=>cases h
 rename_i ah;obtain rfl:=om ah;exact auY n _ _ h
def au0(n:Nat):bP 32 (Jy n):=ea (ch n [(66,sT n),(67,Br n)] [(3,⟨[an 1,sp 2,bW 6 5000,an 14,an 15,an 16],[bg 2 8,bl 5000 2],[.slot 6 5000 2]⟩)] [] [(0,⟨[bW 6 5000],[bl 5000 2],[]⟩)]) b2 (bs (aep n) (bs (auZ n) bc)) ar bY Tryz.func32
def au1(n:Nat)(a0:D)(x1:List D){r:D}(h:Of n a0 x1=some r):fv c9 db 34 [a0,.ref x1 0] (·=r):=gf (ch n [] [] [] []) b2 bc ar bY Tryz.func34 (cz (sq ud le_nil)) h
def au2(n:Nat):bP 34 (Jz n):=by
 intro aR r h;unfold Jz at h;split at h
 case h_2=>cases h
 split at h
 case h_2=>cases h
 exact au1 n _ _ h
def au3(n:Nat)(a0:D)(cZ:D){r:D}(h:JB n a0 cZ=some r):fv c9 db 69 [a0,(D.fn (.func uj) [] [cZ])] (·=r):=gf (ch n [(34,Jz n)] [(2,⟨[an 0,(1,.b (.fd uj 1)),an 7,an 8],[],[]⟩)] [] [(0,⟨[],[],[]⟩)]) b2 (bs (au2 n) bc) ar bY Tryz.func69 (cz (cz le_nil)) h
def au4(n:Nat):bP 69 (Ee n):=by
 intro aR r h;unfold Ee at h;split at h
 case h_2=>cases h
 split at h
 case h_2=>cases h
 rename_i ah;obtain rfl:=om ah;exact au3 n _ _ h
def au5(n:Nat)(a0:D)(cZ:D){r:D}(h:JC n a0 cZ=some r):fv c9 db 33 [a0,(D.fn (.func uj) [] [cZ])] (·=r):=gf (ch n [(69,Ee n)] [] [] []) b2 (bs (au4 n) bc) ar bY Tryz.func33 (cz (cz le_nil)) h
def au6(n:Nat):bP 33 (Bs n):=by
 intro aR r h;unfold Bs at h;split at h
 case h_2=>cases h
 split at h
 case h_2=>cases h
 rename_i ah;obtain rfl:=om ah;exact au5 n _ _ h
def au7(n:Nat):bP 9 (Bt n):=cN ⟨fu c9,db,fy [(26,oY n),(27,Bj n),(28,Jk n),(29,Ed n),(30,yl n),(31,Bq n),(32,Jy n),(33,Bs n)],n,[],cG [(12,⟨[sp 2,sp 10,an 59,an 60,an 61],[(2,.box [.b (.row 5001),.b (.d),.b (.d),.b (.d)]),bg 10 8,bl 5001 1],[.box 2 0 5001 1]⟩),(18,⟨[sp 2,sp 10,bW 79 5001,an 80,an 81],[(2,.box [.b (.row 5001),.b (.row 5006),.b (.row 5007),.b (.row 5008)]),bg 10 8,bl 5001 1,bl 5006 1,bl 5007 1,bl 5008 1],[.box 2 1 5006 1,.box 2 2 5007 1,.box 2 3 5008 1]⟩),(24,⟨[sp 2,sp 10,an 14,bW 15 5003,bW 79 5001,an 80,an 81,an 100,an 101,an 102],[(2,.box [.b (.row 5001),.b (.row 5006),.b (.row 96),.b (.row 5008)]),bg 10 8,bl 5003 1,bl 5001 1,bl 5006 1,bl 96 1,bl 5008 1],[.slot 15 5003 1]⟩),(32,⟨[sp 2,sp 10,an 14,bW 18 5005,an 19,an 20,bW 79 5001,an 80,an 81,bW 127 5001,an 128,an 129],[(2,.box [.b (.row 5001),.b (.row 5006),.b (.row 96),.b (.row 118)]),bg 10 8,bl 5005 1,bl 5001 1,bl 5006 1,bl 96 1,bl 118 1],[.slot 18 5005 1]⟩)],cG [(70000015,⟨[sp 2,sp 10,an 59,an 60,an 61],[(2,.box [.b (.row 75),.b (.d),.b (.d),.b (.d)]),bg 10 8,bl 75 1],[.box 2 0 5000 1]⟩),(91000021,⟨[sp 2,sp 10,an 14,bW 79 5001,an 80,an 81],[(2,.box [.b (.row 5001),.b (.row 5006),.b (.row 96),.b (.row 5008)]),bg 10 8,bl 5001 1,bl 5006 1,bl 96 1,bl 5008 1],[.box 2 2 5002 1]⟩),(149000035,⟨[sp 2,sp 10,an 14,bW 18 153,an 19,an 20,bW 79 5001,an 80,an 81,bW 127 5001,an 128,an 129],[(2,.box [.b (.row 5001),.b (.row 5006),.b (.row 96),.b (.row 118)]),bg 10 8,bl 153 1,bl 5001 1,bl 5006 1,bl 96 1,bl 118 1],[.slot 18 5004 1]⟩)],cG [(0,⟨[sp 2,sp 10],[(2,.box [.b (.row 5001),.b (.d),.b (.d),.b (.d)]),bg 10 8,bl 5001 1],[]⟩),(1,⟨[sp 2,sp 10,an 59,an 60,an 61],[(2,.box [.b (.row 75),.b (.d),.b (.d),.b (.d)]),bg 10 8,bl 75 1],[]⟩),(2,⟨[sp 2],[(2,.box [.b (.row 5001),.b (.row 5006),.b (.row 5007),.b (.row 5008)]),bl 5001 1,bl 5006 1,bl 5007 1,bl 5008 1],[]⟩),(3,⟨[sp 2,sp 10,bW 79 5001,an 80,an 81],[(2,.box [.b (.row 5001),.b (.row 159),.b (.row 96),.b (.row 118)]),bg 10 8,bl 5001 1,bl 159 1,bl 96 1,bl 118 1],[]⟩),(4,⟨[sp 2,sp 10,an 14,bW 15 5003,bW 79 5001,an 80,an 81],[(2,.box [.b (.row 5001),.b (.row 5006),.b (.row 96),.b (.row 5008)]),bg 10 8,bl 5003 1,bl 5001 1,bl 5006 1,bl 96 1,bl 5008 1],[]⟩),(6,⟨[sp 2,sp 10,bW 18 5005,bW 79 5001,an 80,an 81],[(2,.box [.b (.row 5001),.b (.row 5006),.b (.row 96),.b (.row 118)]),bg 10 8,bl 5005 1,bl 5001 1,bl 5006 1,bl 96 1,bl 118 1],[]⟩),(7,⟨[sp 2,sp 10,an 14,bW 18 153,an 19,an 20,bW 79 5001,an 80,an 81,bW 127 5001,an 128,an 129],[(2,.box [.b (.row 5001),.b (.row 5006),.b (.row 96),.b (.row 118)]),bg 10 8,bl 153 1,bl 5001 1,bl 5006 1,bl 96 1,bl 118 1],[]⟩)],gd [],fx [],gr [117,158],gb []⟩ b2 (bs (auy n) (bs (auz n) (bs (auH n) (bs (auM n) (bs (auV n) (bs (aeq n) (bs (au0 n) (bs (au6 n) bc)))))))) ar bY Tryz.func9
def yC(k:Nat)(d:D):d.le (uG k d):=by
 unfold uG;split;.exact D.nil_le k
 exact D.le_refl _
def au8(d:D):d.le (Ux d):=by
 unfold Ux;split
 .refine D.ai4 rfl ?_;intro i x y ad aH
  match i,ad,aH with
  |0,ad,aH=>cases ad;cases aH;exact yC _ _
  |1,ad,aH=>cases ad;cases aH;exact yC _ _
  |2,ad,aH=>cases ad;cases aH;exact yC _ _
  |3,ad,aH=>cases ad;cases aH;exact yC _ _
  |4,ad,aH=>cases ad;cases aH;exact yC _ _
  |5,ad,aH=>cases ad;cases aH;exact yC _ _
  |6,ad,aH=>cases ad;cases aH;exact yC _ _
  |7,ad,aH=>cases ad;cases aH;exact yC _ _
  |i+8,ad,aH=>cases ad
 exact D.le_refl _
def aer(n:Nat):bP 9 (sU n):=by
 intro aR r h;unfold sU at h;split at h
 case h_2=>cases h
 rename_i a;have H:=au7 n _ r h;refine⟨H.fn,?_⟩;intro m fr w vs c0 cQ hD;refine H.run m fr w vs c0 cQ ⟨hD.1,?_⟩;intro i d v ay aS;cases i with|zero=>simp only[xbC,xaE]at ay;subst ay;exact au8 a m v (hD.2 0 a v rfl aS)|succ i=>simp at ay
def Vm(n:Nat):bP 25 (qJ n):=ea (ch n [] [(4,⟨[an 0,an 1,an 5],[],[]⟩)] [] [(0,⟨[],[],[]⟩)]) b2 bc ar bY Tryz.func25
def Vn(n:Nat):hh OG (rE n):=nM ⟨fu c9,db,fy [],n,[10000],cG [],cG [(24000001,⟨[],[(10000,.box [.b (.row 9000),.b (.row 38)]),bl 9000 1,bl 38 1],[]⟩)],cG [],gd [],fx [],gr [],gb []⟩ b2 bc ar bY Tryz.func40 []
def aes(n:Nat):hh UN (Bu n):=nM ⟨fu c9,db,fy [],n,[10000],cG [(1,⟨[(1,.fn (.func Tl) [.ptr 10000 0] []),an 6,an 7,an 8],[(10000,.box [.b (.row 9000),.b (.row 9001)]),bl 9000 1,bl 9001 1],[]⟩)],cG [],cG [(0,⟨[],[(10000,.box [.b (.row 9000),.b (.row 9001)]),bl 9000 1,bl 9001 1],[]⟩)],gd [],fx [(14,⟨OG,rE n,6010,[]⟩)],gr [],gb []⟩ b2 bc (bQ (Vn n) ar) bY Tryz.func41 []
def aet(n:Nat):bP 12 (ym n):=ea ⟨fu c9,db,fy [],n,[],cG [(4,⟨[sp 2,(5,.b (.ptr 13 0)),(6,.fn (.func Tl) [.ptr 13 0] [])],[bg 2 4,(13,.box [.b (.row 6010),.b (.row 6011)]),bl 6010 1,bl 6011 1],[]⟩)],cG [],cG [(0,⟨[(5,.b (.ptr 13 0))],[(13,.box [.b (.row 6010),.b (.row 6011)]),bl 6010 1,bl 6011 1],[]⟩)],gd [(6,[1,2,3,4,5,6,7,8,0,9,10,11,12,13])],fx [(18,⟨UN,Bu n,6010,[.box 13 1 5900 1]⟩),(57,⟨UN,Bu n,6020,[]⟩)],gr [40048],gb []⟩ b2 bc (bQ (aes n) (bQ (aes n) ar)) bY Tryz.func12
def aeu(n:Nat):bP 19 (Bv n):=ea (ch n [] [(4,⟨[an 0,an 1,an 5],[],[]⟩)] [] [(0,⟨[],[],[]⟩)]) b2 bc ar bY Tryz.func19
def au9(n:Nat)(a0:D)(x1:List D){r:D}(h:Om n a0 x1=some r):fv c9 db 42 [a0,.ref x1 0] (·=r):=gf (ch n [] [] [] []) b2 bc ar bY Tryz.func42 (cz (sq ud le_nil)) h
def aev(n:Nat):bP 42 (uH n):=by
 intro aR r h;unfold uH at h;split at h
 case h_2=>cases h
 split at h
 case h_2=>cases h
 exact au9 n _ _ h
def ava(n:Nat)(a0:D)(cZ:D){r:D}(h:Uz n a0 cZ=some r):fv c9 db 43 [a0,(D.fn (.func kJ) [] [cZ])] (·=r):=gf ⟨fu c9,db,fy [(42,uH n)],n,[],cG [(4,⟨[an 0,(1,.b (.fd kJ 1)),bW 5 5003,bW 6 13,an 15,an 16],[bl 5003 1,bl 13 1],[.slot 5 5003 1]⟩),(9,⟨[an 0,(1,.b (.fd kJ 1)),bW 5 5003,bW 6 13,bW 8 34,an 15,an 16],[bl 5003 1,bl 13 1,bl 34 2],[.slot 5 5001 1]⟩)],cG [(97000017,⟨[an 0,(1,.b (.fd kJ 1)),bW 5 5003,bW 6 13,bW 8 105,an 15,an 16],[bl 5003 1,bl 13 1,bl 105 2],[]⟩)],cG [(0,⟨[bW 5 5003],[bl 5003 1],[]⟩),(1,⟨[an 0,(1,.b (.fd kJ 1)),bW 5 5003,bW 6 13,an 15,an 16],[bl 5003 1,bl 13 1],[.slot 5 5002 1]⟩),(2,⟨[an 0,(1,.b (.fd kJ 1)),bW 5 5003,bW 6 13,an 15,an 16],[bl 5003 1,bl 13 1],[]⟩),(3,⟨[an 0,(1,.b (.fd kJ 1)),bW 5 62,bW 6 13,bW 8 67,an 15,an 16],[bl 62 1,bl 13 1,bl 67 2],[.slot 5 5000 1]⟩)],gd [],fx [],gr [67],gb []⟩ b2 (bs (aev n) bc) ar bY Tryz.func43 (cz (cz le_nil)) h
def avb(n:Nat):bP 43 (Ej n):=by
 intro aR r h;unfold Ej at h;split at h
 case h_2=>cases h
 split at h
 case h_2=>cases h
 rename_i ah;obtain rfl:=om ah;exact ava n _ _ h
def avc(n:Nat):hh adf (Ek n):=nM ⟨fu c9,db,fy [(42,uH n)],n,[10000,10001,10002],cG [],cG [(6000001,⟨[],[(10000,.box [.fn (.func kJ) [] [.dV 0]]),(10001,.box [.b (.ptr 10002 0)]),(10002,.box [.b (.row 6010),.b (.row 6011)]),bl 6010 1,bl 6011 1],[]⟩)],cG [],gd [],fx [(9,⟨OG,rE n,6010,[]⟩)],gr [],gb []⟩ b2 (bs (aev n) bc) (bQ (Vn n) ar) bY Tryz.func44 []
def avd(n:Nat):hh adg (JG n):=nM ⟨fu c9,db,fy [],n,[10000,10001,10002],cG [(1,⟨[(1,.fn (.func abv) [] [.ptr 10000 0,.ptr 10001 0]),an 6,an 7,an 8],[(10000,.box [.fn (.func kJ) [] [.dV 0]]),(10001,.box [.b (.ptr 10002 0)]),(10002,.box [.b (.row 9000),.b (.row 9001)]),bl 9000 1,bl 9001 1],[]⟩)],cG [],cG [(0,⟨[],[(10000,.box [.fn (.func kJ) [] [.dV 0]]),(10001,.box [.b (.ptr 10002 0)]),(10002,.box [.b (.row 9000),.b (.row 9001)]),bl 9000 1,bl 9001 1],[]⟩)],gd [],fx [(14,⟨adf,Ek n,6010,[]⟩)],gr [],gb []⟩ b2 bc (bQ (avc n) ar) bY Tryz.func41 []
def ave(n:Nat):bP 135 (El n):=cN (ch n [] [] [] []) b2 bc ar bY Tryz.func135
def avf(n:Nat):bP 82 (Bw n):=ea (ch n [(135,El n)] [] [] []) b2 (bs (ave n) bc) ar bY Tryz.func82
def avg(n:Nat):bP 47 (sV n):=ea (ch n [(82,Bw n)] [(2,⟨[an 0,an 1,an 9,an 10,an 11],[],[]⟩)] [] [(0,⟨[an 0,an 1],[],[]⟩)]) b2 (bs (avf n) bc) ar bY Tryz.func47
def aew(n:Nat):bP 13 (yo n):=ea ⟨fu c9,db,fy [(43,Ej n),(17,Aq n)],n,[],cG [(7,⟨[sp 5,an 6,an 7,sp 8,bW 9 5003,an 10],[(5,.box [.fn (.func kJ) [] [.dV 0]]),(8,.box [.b (.ptr 25 0)]),bl 5003 1,(25,.box [.b (.row 23),.b (.row 5004)]),bl 23 1,bl 5004 1],[.slot 9 5003 1,.box 25 1 5004 1]⟩),(12,⟨[sp 5,an 6,an 7,sp 8,bW 9 5003,an 10,bW 11 5000],[(5,.box [.fn (.func kJ) [] [.dV 0]]),(8,.box [.b (.ptr 25 0)]),bl 5003 1,bl 5000 1,(25,.box [.b (.row 6140),.b (.row 6141)]),bl 6140 1,bl 6141 1],[.slot 11 5000 1]⟩)],cG [],cG [(0,⟨[bW 9 5003],[bl 5003 1],[]⟩),(1,⟨[sp 5,an 6,an 7,sp 8,bW 9 5003,an 10],[(5,.box [.fn (.func kJ) [] [.dV 0]]),(8,.box [.b (.ptr 25 0)]),bl 5003 1,(25,.box [.b (.row 23),.b (.row 5004)]),bl 23 1,bl 5004 1],[.slot 9 5001 1,.box 25 1 5002 1]⟩),(2,⟨[sp 5,an 6,an 7,sp 8,bW 9 5003,an 10,bW 11 5000],[(5,.box [.fn (.func kJ) [] [.dV 0]]),(8,.box [.b (.ptr 25 0)]),bl 5003 1,bl 5000 1,(25,.box [.b (.row 6140),.b (.row 6141)]),bl 6140 1,bl 6141 1],[]⟩)],gd [(11,[0,1,2,3,4]),(14,[0,1,2,3,4,5,6,7])],fx [(48,⟨OG,rE n,6140,[]⟩),(78,⟨adg,JG n,6150,[]⟩),(80,⟨adh,Hu n,6160,[]⟩),(86,⟨adi,DC n,6170,[]⟩)],gr [17,40066,83],gb []⟩ b2 (bs (avb n) (bs (adC n) bc)) (bQ (Vn n) (bQ (avd n) (bQ (arP n) (bQ (ar5 n) ar)))) bY Tryz.func13
def aex(n:Nat):bP 16 (wB n):=ea (ch n [(25,qJ n)] [(4,⟨[an 0,an 1,an 5],[],[]⟩)] [] [(0,⟨[],[],[]⟩)]) b2 (bs (Vm n) bc) ar bY Tryz.func16
def avh(n:Nat):bP 8 (En n):=C6 ⟨(fu Tryz.prog).xy [54,56],db,fy [(24,TZ n),(9,sU n),(25,qJ n),(12,ym n),(19,Bv n),(13,yo n),(16,wB n)],n,[],cG [],cG [],cG [],gd [],fx [],gr [49],gb []⟩ ((tok _).xy _) (bs (asS n) (bs (aer n) (bs (Vm n) (bs (aet n) (bs (aeu n) (bs (aew n) (bs (aex n) bc))))))) ar bY Tryz.func8
def avi(n:Nat):bP 70 (qK n):=ea (ch n [(71,nm n)] [(3,⟨[an 0,an 1,bW 7 11,an 8],[bl 11 4],[]⟩)] [] [(0,⟨[bW 7 11],[bl 11 4],[]⟩)]) b2 (bs (OP n) bc) ar bY Tryz.func70
def avj(By:List D->Option D)(n:Nat)(a0:D)(aI:D)(avk:bP 110 By){r:D}(h:uI By n a0 aI=some r):fv c9 db 110 [a0,aI] (·=r):=gf (ch n [(71,nm n),(110,By)] [(9,⟨[an 1,sp 2,sp 4,bW 8 29,an 9],[bg 2 6,bg 4 6,bl 29 6],[]⟩)] [] [(0,⟨[sp 2,sp 4,bW 8 29],[bg 2 6,bg 4 6,bl 29 6],[]⟩)]) b2 (bs (OP n) (bs avk bc)) ar bY Tryz.func110 (cz (cz le_nil)) h
def aey:∀n,bP 110 (p0 n)
 |0=>(λ_ _ h=>by cases h)
 |n+1=>by
  have ih:=aey n;exact(by
   intro aR r h;unfold p0 at h;split at h
   case h_2=>cases h
   exact avj (p0 n) n _ _ ih h)
def avl(n:Nat):bP 110 (p0 n):=(aey n)
def avm(n:Nat):bP 72 (Bz n):=ea (ch n [(92,AM n),(110,p0 n)] [] [] []) b2 (bs (ad2 n) (bs (avl n) bc)) ar bY Tryz.func72
def aez(n:Nat):bP 35 (BF n):=cN ⟨fu c9,db,fy [(70,qK n),(71,nm n),(72,Bz n)],n,[],cG [(11,⟨[sp 1,sp 2,sp 3,sp 5,an 9],[bg 1 8,bg 2 8,bg 3 2,(5,.box [.b (.d),.b (.d),.b (.d),.b (.d),.b (.row 5000),.b (.d),.b (.d),.b (.d)]),bl 5000 5],[.box 5 4 5000 5]⟩),(26,⟨[sp 1,sp 2,sp 3,sp 5,an 12],[bg 1 8,bg 2 8,bg 3 2,(5,.box [.b (.d),.b (.d),.b (.d),.b (.d),.b (.row 5000),.b (.d),.b (.d),.b (.row 5001)]),bl 5000 5,bl 5001 7],[.box 5 7 5001 7]⟩)],cG [],cG [(0,⟨[sp 1,sp 2,sp 3,sp 5],[bg 1 8,bg 2 8,bg 3 2,(5,.box [.b (.d),.b (.d),.b (.d),.b (.d),.b (.row 5000),.b (.d),.b (.d),.b (.d)]),bl 5000 5],[]⟩),(2,⟨[sp 2,sp 3,sp 5],[bg 2 8,bg 3 2,(5,.box [.b (.d),.b (.d),.b (.d),.b (.d),.b (.row 5000),.b (.d),.b (.d),.b (.row 5001)]),bl 5000 5,bl 5001 7],[]⟩)],gd [],fx [],gr [20002],gb []⟩ b2 (bs (avi n) (bs (OP n) (bs (avm n) bc))) ar bY Tryz.func35
def OS(n:Nat):bP 73 (qL n):=cN (ch n [(35,BF n)] [] [] []) b2 (bs (aez n) bc) ar bY Tryz.func73
def avn(n:Nat):bP 111 (BG n):=cN (ch n [(58,pW n)] [(3,⟨[sp 1,an 4,an 5],[bg 1 8],[]⟩),(8,⟨[sp 1,an 4,an 6],[bg 1 8],[]⟩)] [] [(0,⟨[sp 1,an 4],[bg 1 8],[]⟩),(2,⟨[an 4],[],[]⟩)]) b2 (bs (J9 n) bc) ar bY Tryz.func111
def avo(n:Nat):bP 74 (JN n):=ea ⟨fu c9,db,fy [(111,BG n),(58,pW n)],n,[],cG [(6,⟨[sp 2,bW 7 26,an 8],[bg 2 8,bl 26 1],[]⟩),(13,⟨[sp 2,bW 7 26,an 8,an 9,bW 10 46,an 11],[bg 2 8,bl 26 1,bl 46 1],[]⟩),(16,⟨[sp 2,bW 7 26,an 8,an 9,bW 10 46,an 11,an 12],[bg 2 8,bl 26 1,bl 46 1],[]⟩)],cG [(45000010,⟨[sp 2,bW 7 26,an 8,an 9],[bg 2 8,bl 26 1],[]⟩)],cG [(0,⟨[bW 7 26],[bl 26 1],[]⟩),(1,⟨[sp 2,bW 7 46,an 8],[bg 2 8,bl 46 1],[]⟩),(2,⟨[sp 2,an 8,bW 10 46],[bg 2 8,bl 46 1],[]⟩),(3,⟨[sp 2,bW 7 26,an 8,an 9,bW 10 46,an 11],[bg 2 8,bl 26 1,bl 46 1],[]⟩),(4,⟨[sp 2,bW 7 26,an 8,an 9,bW 10 46,an 11],[bg 2 8,bl 26 1,bl 46 1],[]⟩)],gd [],fx [],gr [26,75],gb []⟩ b2 (bs (avn n) (bs (J9 n) bc)) ar bY Tryz.func74
def avp(n:Nat):bP 112 (Eu n):=ea (ch n [] [(4,⟨[an 1,sp 2,an 5],[bg 2 8],[]⟩)] [] [(0,⟨[],[],[]⟩)]) b2 bc ar bY Tryz.func112
def avq(BI:List D->Option D)(n:Nat)(a0:D)(avr:bP 114 BI){r:D}(h:Oz BI n a0=some r):fv c9 db 114 [a0] (·=r):=gf (ch n [(114,BI)] [(4,⟨[sp 1,an 3],[bg 1 4],[]⟩)] [] [(0,⟨[],[],[]⟩)]) b2 (bs avr bc) ar bY Tryz.func114 (cz le_nil) h
def aeA:∀n,bP 114 (sX n)
 |0=>(λ_ _ h=>by cases h)
 |n+1=>by
  have ih:=aeA n;exact(by
   intro aR r h;unfold sX at h;split at h
   case h_2=>cases h
   exact avq (sX n) n _ ih h)
def avs(n:Nat):bP 114 (sX n):=(aeA n)
def avt(n:Nat):bP 163 (qM n):=cN (ch n [] [] [] []) b2 bc ar bY Tryz.func163
def avu(n:Nat):bP 164 (yp n):=cN (ch n [] [] [] []) b2 bc ar bY Tryz.func164
def avv(n:Nat):bP 165 (Ev n):=cN (ch n [] [] [] []) b2 bc ar bY Tryz.func165
def avw(BJ:List D->Option D)(n:Nat)(a0:D)(aI:D)(a2:D)(a3:D)(avx:bP 115 BJ){r:D}(h:mA BJ n a0 aI a2 a3=some r):fv c9 db 115 [a0,aI,a2,a3] (·=r):=gf (ch n [(77,vX n),(163,qM n),(164,yp n),(115,BJ),(165,Ev n)] [(18,⟨[an 0,an 2,an 3,sp 5,bW 12 55,an 13,an 14],[bg 5 4,bl 55 1],[]⟩)] [(20003000,⟨[an 0,an 2,an 3,sp 5,an 19,an 20],[bg 5 4],[]⟩),(25006000,⟨[an 0,an 2,an 3,sp 5,an 25],[bg 5 4],[]⟩),(34011010,⟨[an 0,an 10,an 11],[],[]⟩),(88000025,⟨[an 0,an 2,an 3,sp 5,bW 12 80,an 13,an 14],[bg 5 4,bl 80 1],[]⟩),(94030029,⟨[an 17],[],[]⟩),(100032031,⟨[an 17],[],[]⟩),(107034033,⟨[an 17],[],[]⟩),(112036035,⟨[an 17],[],[]⟩),(125037000,⟨[bW 12 55,an 17,an 93,an 125],[bl 55 1],[]⟩),(125039038,⟨[an 17],[],[]⟩),(136041040,⟨[an 17],[],[]⟩),(146043042,⟨[an 17],[],[]⟩),(156045044,⟨[an 17],[],[]⟩),(166047046,⟨[an 17],[],[]⟩),(175049048,⟨[an 17],[],[]⟩),(184053050,⟨[an 17],[],[]⟩),(209055054,⟨[an 17],[],[]⟩),(226000056,⟨[an 17],[],[]⟩),(234000058,⟨[an 17],[],[]⟩)] [(1,⟨[sp 5,bW 12 55,an 13],[bg 5 4,bl 55 1],[]⟩),(2,⟨[an 0,an 2,an 3,sp 5,bW 12 80,an 13,an 14],[bg 5 4,bl 80 1],[]⟩),(3,⟨[an 17],[],[]⟩)]) b2 (bs (Vf n) (bs (avt n) (bs (avu n) (bs avx (bs (avv n) bc))))) ar bY Tryz.func115 (cz (cz (cz (cz le_nil)))) h
def aeB:∀n,bP 115 (sY n)
 |0=>(λ_ _ h=>by cases h)
 |n+1=>by
  have ih:=aeB n;exact(by
   intro aR r h;unfold sY at h;split at h
   case h_2=>cases h
   exact avw (sY n) n _ _ _ _ ih h)
def avy(n:Nat):bP 115 (sY n):=(aeB n)
def aeC(n:Nat):bP 76 (qN n):=G7 (ch n [(113,x6 n),(114,sX n),(115,sY n)] [] [] []) b2 (bs (adZ n) (bs (avs n) (bs (avy n) bc))) ar bY Tryz.func76
def OT(n:Nat):bP 78 (rF n):=G7 (ch n [(76,qN n)] [(2,⟨[an 0,an 1,an 2,an 3,an 9],[],[]⟩)] [] [(0,⟨[],[],[]⟩)]) b2 (bs (aeC n) bc) ar bY Tryz.func78
def Vo(n:Nat):bP 75 (sZ n):=ea (ch n [(112,Eu n),(78,rF n)] [] [] []) b2 (bs (avp n) (bs (OT n) bc)) ar bY Tryz.func75
def avz(n:Nat):bP 36 (JR n):=cN (ch n [(73,qL n),(74,JN n),(75,sZ n)] [(5,⟨[sp 3,bW 4 9,an 5,an 6],[bg 3 8,bl 9 1],[]⟩)] [(23000008,⟨[sp 3,bW 4 30,an 5,an 6],[bg 3 8,bl 30 1],[]⟩)] [(0,⟨[bW 4 9],[bl 9 1],[]⟩),(1,⟨[sp 3,bW 4 30,an 5,an 6],[bg 3 8,bl 30 1],[]⟩)]) b2 (bs (OS n) (bs (avo n) (bs (Vo n) bc))) ar bY Tryz.func36
def avA(n:Nat):bP 37 (yr n):=lv (ch n [(73,qL n),(75,sZ n),(76,qN n),(77,vX n),(78,rF n)] [(5,⟨[an 1,an 2,sp 7,an 8],[bg 7 8],[]⟩)] [] [(0,⟨[an 1,an 2,sp 7],[bg 7 8],[]⟩)]) b2 (bs (OS n) (bs (Vo n) (bs (aeC n) (bs (Vf n) (bs (OT n) bc))))) ar bY Tryz.func37
def avB(n:Nat):bP 38 (Ey n):=ea (ch n [(73,qL n),(75,sZ n),(78,rF n)] [] [] []) b2 (bs (OS n) (bs (Vo n) (bs (OT n) bc))) ar bY Tryz.func38
def avC(n:Nat):bP 39 (JT n):=ea (ch n [(73,qL n),(78,rF n)] [(4,⟨[an 1,sp 5,bW 6 10,an 7],[bg 5 8,bl 10 1],[]⟩)] [] [(0,⟨[bW 6 10],[bl 10 1],[]⟩)]) b2 (bs (OS n) (bs (OT n) bc)) ar bY Tryz.func39
def avD(n:Nat):bP 10 (BK n):=cN ⟨fu c9,db,fy [(22,pX n),(23,ye n),(35,BF n),(36,JR n),(37,yr n),(38,Ey n),(39,JT n)],n,[],cG [(10,⟨[sp 1,sp 2,sp 6,an 7],[bg 1 8,bg 2 4,(6,.box [.b (.d),.b (.row 5003),.b (.row 5004),.b (.row 5005)]),bl 5003 1,bl 5004 1,bl 5005 1],[.box 6 1 5003 1,.box 6 2 5004 1,.box 6 3 5005 1]⟩),(14,⟨[sp 1,sp 2,sp 6,an 7,bW 8 5001,an 9],[bg 1 8,bg 2 4,(6,.box [.b (.d),.b (.row 5003),.b (.row 5004),.b (.row 5005)]),bl 5001 1,bl 5003 1,bl 5004 1,bl 5005 1],[.slot 8 5001 1]⟩)],cG [(58000017,⟨[sp 1,sp 2,sp 6,an 7,bW 8 62,an 9],[bg 1 8,bg 2 4,(6,.box [.b (.d),.b (.row 5003),.b (.row 5004),.b (.row 5005)]),bl 62 1,bl 5003 1,bl 5004 1,bl 5005 1],[.slot 8 5000 1]⟩),(75000020,⟨[sp 1,sp 2,sp 6,an 7],[bg 1 8,bg 2 4,(6,.box [.b (.d),.b (.row 67),.b (.row 80),.b (.row 5005)]),bl 67 1,bl 80 1,bl 5005 1],[.box 6 2 5002 1]⟩)],cG [(0,⟨[sp 2,sp 6],[bg 2 4,(6,.box [.b (.d),.b (.row 5003),.b (.row 5004),.b (.row 5005)]),bl 5003 1,bl 5004 1,bl 5005 1],[]⟩),(1,⟨[sp 1,sp 2,sp 6,an 7],[bg 1 8,bg 2 4,(6,.box [.b (.d),.b (.row 67),.b (.row 80),.b (.row 92)]),bl 67 1,bl 80 1,bl 92 1],[]⟩),(2,⟨[sp 1,sp 2,sp 6,an 7,bW 8 5001],[bg 1 8,bg 2 4,(6,.box [.b (.d),.b (.row 5003),.b (.row 5004),.b (.row 5005)]),bl 5001 1,bl 5003 1,bl 5004 1,bl 5005 1],[]⟩),(3,⟨[sp 1,sp 2,sp 6,an 7,bW 8 62,an 9],[bg 1 8,bg 2 4,(6,.box [.b (.d),.b (.row 5003),.b (.row 5004),.b (.row 5005)]),bl 62 1,bl 5003 1,bl 5004 1,bl 5005 1],[]⟩)],gd [],fx [],gr [66],gb []⟩ b2 (bs (ad4 n) (bs (ad5 n) (bs (aez n) (bs (avz n) (bs (avA n) (bs (avB n) (bs (avC n) bc))))))) ar bY Tryz.func10
def avE(n:Nat):bP 83 (EB n):=lv ⟨((fu c9).Me [(30,[47]),(46,[47])]),db,fy [(47,sV n)],n,[],cG [(3,⟨[an 0,an 1,an 2,an 8,an 9,an 10],[],[]⟩)],cG [(31007006,⟨[an 0,an 1,an 2,an 8,an 9,an 10],[],[]⟩)],cG [(0,⟨[an 0,an 1,an 2,an 8,an 9],[],[]⟩),(1,⟨[an 0,an 1,an 2,an 8,an 9,an 10],[],[]⟩)],gd [],fx [],gr [],gb []⟩ ((tok _).Me _) (bs (avg n) bc) ar bY Tryz.func83
def avF(n:Nat):bP 48 (JV n):=ea (ch n [(83,EB n)] [] [] []) b2 (bs (avE n) bc) ar bY Tryz.func48
def avG(n:Nat):bP 14 (ys n):=ea (ch n [(48,JV n)] [] [] []) b2 (bs (avF n) bc) ar bY Tryz.func14
def avH(n:Nat):bP 15 (yt n):=ea (ch n [(25,qJ n)] [(2,⟨[an 1,sp 2,an 5],[bg 2 4],[]⟩)] [] [(0,⟨[],[],[]⟩)]) b2 (bs (Vm n) bc) ar bY Tryz.func15
def avI(n:Nat):bP 50 (JX n):=cN (ch n [] [(3,⟨[bW 3 8,an 4],[bl 8 1],[]⟩)] [] [(0,⟨[bW 3 8],[bl 8 1],[]⟩)]) b2 bc ar bY Tryz.func50
def aeD(n:Nat):bP 49 (yu n):=lv ⟨fu c9,db,fy [],n,[],cG [(3,⟨[an 2,sp 3,bW 7 15,bW 8 17],[bg 3 4,bl 15 1,bl 17 1],[]⟩),(7,⟨[an 2,sp 3,bW 7 15,bW 8 25,an 9,an 10],[bg 3 4,bl 15 1,bl 25 1],[]⟩)],cG [(54000011,⟨[an 2,sp 3,bW 7 15,bW 8 61,an 9,an 10],[bg 3 4,bl 15 1,bl 61 1],[]⟩)],cG [(0,⟨[bW 7 15],[bl 15 1],[]⟩),(1,⟨[an 2,sp 3,bW 7 15,bW 8 25],[bg 3 4,bl 15 1,bl 25 1],[]⟩),(2,⟨[an 2,sp 3,bW 7 15,bW 8 25],[bg 3 4,bl 15 1,bl 25 1],[]⟩),(3,⟨[an 2,sp 3,bW 7 15,bW 8 61,an 9,an 10],[bg 3 4,bl 15 1,bl 61 1],[]⟩)],gd [],fx [],gr [25],gb []⟩ b2 bc ar bY Tryz.func49
def avJ(n:Nat):bP 20 (EE n):=ea (ch n [(50,JX n),(49,yu n)] [(3,⟨[an 1,sp 2,bW 5 12,an 6],[bg 2 4,bl 12 1],[]⟩),(9,⟨[an 1,sp 2,bW 5 12,an 6,an 7,an 8],[bg 2 4,bl 12 1],[]⟩)] [] [(0,⟨[bW 5 12],[bl 12 1],[]⟩),(1,⟨[an 1,sp 2,bW 5 12,an 6],[bg 2 4,bl 12 1],[]⟩),(2,⟨[an 1,sp 2,bW 5 12,an 6],[bg 2 4,bl 12 1],[]⟩)]) b2 (bs (avI n) (bs (aeD n) bc)) ar bY Tryz.func20
def avK(n:Nat):bP 51 (JZ n):=ea (ch n [] [(3,⟨[an 1,bW 5 10,an 6],[bl 10 1],[]⟩)] [] [(0,⟨[bW 5 10],[bl 10 1],[]⟩)]) b2 bc ar bY Tryz.func51
def avL(n:Nat):bP 21 (EG n):=ea ⟨fu c9,db,fy [(51,JZ n),(49,yu n)],n,[],cG [(5,⟨[sp 2,an 5,bW 6 18,bW 7 5001,an 8],[bg 2 4,bl 18 1,bl 5001 1],[.slot 7 5001 1]⟩),(11,⟨[sp 2,an 5,bW 6 18,bW 7 5001,an 8,an 9,bW 10 41,an 11],[bg 2 4,bl 18 1,bl 5001 1,bl 41 1],[]⟩),(16,⟨[sp 2,an 5,bW 6 18,bW 7 5001,an 8,bW 10 41,an 12],[bg 2 4,bl 18 1,bl 5001 1,bl 41 1],[]⟩)],cG [(68000014,⟨[sp 2,an 5,bW 6 18,bW 7 5001,an 8,an 9,bW 10 72,an 11],[bg 2 4,bl 18 1,bl 5001 1,bl 72 1],[]⟩)],cG [(0,⟨[bW 7 5001],[bl 5001 1],[]⟩),(1,⟨[sp 2,an 5,bW 6 18,bW 7 5001,an 8],[bg 2 4,bl 18 1,bl 5001 1],[.slot 7 5000 1]⟩),(2,⟨[sp 2,an 5,bW 6 18,bW 7 5001,an 8,bW 10 41],[bg 2 4,bl 18 1,bl 5001 1,bl 41 1],[]⟩),(3,⟨[sp 2,an 5,bW 6 18,bW 7 5001,an 8,an 9,bW 10 72,an 11],[bg 2 4,bl 18 1,bl 5001 1,bl 72 1],[]⟩),(4,⟨[sp 2,an 5,bW 6 18,bW 7 5001,an 8,bW 10 41],[bg 2 4,bl 18 1,bl 5001 1,bl 41 1],[]⟩)],gd [],fx [],gr [87],gb []⟩ b2 (bs (avK n) (bs (aeD n) bc)) ar bY Tryz.func21
def avM(n:Nat):bP 6 (EH n):=lv (ch n [(7,wg n),(8,En n),(9,sU n),(10,BK n),(14,ys n),(15,yt n),(17,Aq n),(18,Nf n),(16,wB n),(12,ym n),(20,EE n),(19,Bv n),(13,yo n),(21,EG n)] [] [] []) b2 (bs (asR n) (bs (avh n) (bs (aer n) (bs (avD n) (bs (avG n) (bs (avH n) (bs (adC n) (bs (arJ n) (bs (aex n) (bs (aet n) (bs (avJ n) (bs (aeu n) (bs (aew n) (bs (avL n) bc)))))))))))))) ar bY Tryz.func6
end Go.Am
