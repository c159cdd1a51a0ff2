/- That the functions of the program compute this. No condition. -/
import Derived.Test.YtknmgdnhongcnaaGreatDoorCode
import Derived.Test.YtknmgdnhongcnaaGreatDoorProg
import Derived.KernelRfl
set_option linter.all false
set_option linter.unnecessarySimpa false
namespace Go.Am
open Go.Proofs
set_option maxRecDepth 100000
set_option linter.unusedVariables false
noncomputable abbrev aN:Program:=Tryz.prog
theorem mixed:aN.follows .mixedOrders=true:=by kernel_rfl
def aO:cT:=fun g=>if g=0 then some BP else none
noncomputable abbrev bw(n:Nat):=ad9 aN aO n
theorem aP:fI aN aO (tabC []):=ad6
theorem aq:iE aN aO (tabH []):=ad4
theorem a1{f:FuncId}{F:List D→Option D}{l:List (FuncId×(List D→Option D))}(h:a5 aN aO f F)(bh:fI aN aO (tabC l)):fI aN aO (tabC ((f,F)::l)):=ad7 h bh
theorem bp{t:Tmp}{e:yH}{l:List (Tmp×yH)}(h:eP aN aO e.s e.F)(bh:iE aN aO (tabH l)):iE aN aO (tabH ((t,e)::l)):=ad5 h bh
def UJ:gf:=⟨177,[.b (.d),.b (.d),.b (.ptr 10000 0),.b (.ptr 10001 0)],[aY 10000 1,aY 10001 1],.b (.d),[aY 10000 1,aY 10001 1]⟩
def Nx:gf:=⟨180,[.b (.row 9000),.b (.d)],[b8 9000 1],.b (.row 9000),[b8 9000 1]⟩
def UK:gf:=⟨179,[.b (.d),.b (.d),.b (.ptr 10000 0),.b (.ptr 10001 0)],[(10000,.box [.b (.row 9000)]),(10001,.box [.b (.row 9001)]),b8 9000 1,b8 9001 1],.b (.d),[(10000,.box [.b (.row 9000)]),(10001,.box [.b (.row 9001)]),b8 9000 1,b8 9001 1]⟩
def xA:gf:=⟨176,[.b (.d),.b (.d),.fn (.func Te) [] [.ptr 10000 0,.ptr 10001 0]],[aY 10000 1,aY 10001 1],.b (.d),[aY 10000 1,aY 10001 1]⟩
def xB:gf:=⟨176,[.b (.d),.b (.d),.fn (.func Tf) [] [.ptr 10000 0,.ptr 10001 0]],[(10000,.box [.b (.row 9000)]),(10001,.box [.b (.row 9001)]),b8 9000 1,b8 9001 1],.b (.d),[(10000,.box [.b (.row 9000)]),(10001,.box [.b (.row 9001)]),b8 9000 1,b8 9001 1]⟩
def UL:gf:=⟨77,[.b (.d),.b (.d),.b (.ptr 10000 0),.b (.ptr 10001 0)],[aY 10000 1,aY 10001 1],.b (.d),[aY 10000 1,aY 10001 1]⟩
def xC:gf:=⟨76,[.b (.d),.b (.d),.fn (.func Td) [] [.ptr 10000 0,.ptr 10001 0]],[aY 10000 1,aY 10001 1],.b (.d),[aY 10000 1,aY 10001 1]⟩
def um:gf:=⟨192,[.b (.d),.b (.ptr 10000 0),.b (.ptr 10001 0),.b (.ptr 10002 0)],[aY 10000 1,(10001,.box [.b (.map 9000)]),(10002,.box [.fn (.func tO) [] [.ptr 10000 0,.ptr 10001 0,.ptr 10002 0]]),(9000,.map)],.b (.d),[aY 10000 1,(10001,.box [.b (.map 9000)]),(10002,.box [.fn (.func tO) [] [.ptr 10000 0,.ptr 10001 0,.ptr 10002 0]]),(9000,.map)]⟩
def UM:gf:=⟨162,[.b (.d),.b (.d)],[],.b (.map 9000),[(9000,.map)]⟩
def xD:gf:=⟨193,[.b (.d),.b (.d),.b (.ptr 10000 0),.b (.ptr 10001 0),.b (.ptr 10002 0),.b (.ptr 10003 0)],[aY 10000 1,aY 10001 1,aY 10002 1,(10003,.box [.fn (.func tP) [] [.ptr 10000 0,.ptr 10001 0,.ptr 10002 0,.ptr 10003 0]])],.b (.d),[aY 10000 1,aY 10001 1,aY 10002 1,(10003,.box [.fn (.func tP) [] [.ptr 10000 0,.ptr 10001 0,.ptr 10002 0,.ptr 10003 0]])]⟩
def xE:gf:=⟨113,[.b (.d),.b (.ptr 10000 0),.b (.ptr 10001 0)],[aY 10000 1,(10001,.box [.fn (.func GP) [] [.ptr 10000 0,.ptr 10001 0]])],.b (.d),[aY 10000 1,(10001,.box [.fn (.func GP) [] [.ptr 10000 0,.ptr 10001 0]])]⟩
def xF:gf:=⟨148,[.b (.d),.b (.ptr 10000 0),.b (.ptr 10001 0),.b (.ptr 10002 0),.b (.ptr 10003 0),.b (.ptr 10004 0)],[(10000,.box [.fn (.func vJ) [] [.ptr 10000 0,.ptr 10001 0,.ptr 10002 0,.ptr 10003 0,.ptr 10004 0]]),aY 10001 1,aY 10002 1,aY 10003 1,aY 10004 1],.b (.d),[(10000,.box [.fn (.func vJ) [] [.ptr 10000 0,.ptr 10001 0,.ptr 10002 0,.ptr 10003 0,.ptr 10004 0]]),aY 10001 1,aY 10002 1,aY 10003 1,aY 10004 1]⟩
def D9:gf:=⟨181,[.b (.d),.b (.d),.b (.ptr 10000 0),.b (.ptr 10001 0)],[aY 10000 12,(10001,.box [.b (.row 9000)]),b8 9000 7],.b (.d),[aY 10000 12,(10001,.box [.b (.row 9000)]),b8 9000 7]⟩
def xG:gf:=⟨44,[.b (.d),.b (.d),.b (.d),.b (.ptr 10000 0)],[(10000,.box [.b (.row 9000)]),b8 9000 7],.b (.d),[(10000,.box [.b (.row 9000)]),b8 9000 7]⟩
theorem aiT(vK:List D→Option D)(n:Nat)(ab:D)(ag:D)(aiU:a5 aN aO 59 vK){r:D}(h:GQ vK n ab ag=some r):dq aN aO 59 [ab,ag] (·=r):=
 dz (bw n [(59,vK)] [(3,⟨[ao 1,sp 2,ao 5,ao 6],[aY 2 4],[]⟩)] [] [(0,⟨[ao 5],[],[]⟩)]) (tok _) (a1 aiU aP) aq mixed rfl Tryz.func59 (by kernel_rfl) (bu (bu le_nil)) (by kernel_rfl) (by kernel_rfl) h
theorem UN:∀n,a5 aN aO 59 (oi n)
 |0=>(fun _ _ h=>by cases h)
 |n+1=>by
  have ih:=UN n
  exact (by
   intro aD r h
   unfold oi at h
   split at h
   case h_2=>cases h
   exact aiT (oi n) n _ _ ih h)
theorem UO(n:Nat):a5 aN aO 59 (oi n):=(UN n)
theorem aiV(vL:List D→Option D)(n:Nat)(ab:D)(ag:D)(aiW:a5 aN aO 60 vL){r:D}(h:GR vL n ab ag=some r):dq aN aO 60 [ab,ag] (·=r):=
 dz (bw n [(59,oi n),(60,vL)] [(3,⟨[ao 1,sp 2,ao 5,ao 6],[aY 2 6],[]⟩)] [] [(0,⟨[ao 5],[],[]⟩)]) (tok _) (a1 (UO n) (a1 aiW aP)) aq mixed rfl Tryz.func60 (by kernel_rfl) (bu (bu le_nil)) (by kernel_rfl) (by kernel_rfl) h
theorem UP:∀n,a5 aN aO 60 (qH n)
 |0=>(fun _ _ h=>by cases h)
 |n+1=>by
  have ih:=UP n
  exact (by
   intro aD r h
   unfold qH at h
   split at h
   case h_2=>cases h
   exact aiV (qH n) n _ _ ih h)
theorem aiX(n:Nat):a5 aN aO 60 (qH n):=(UP n)
theorem aiY(n:Nat):a5 aN aO 28 (y1 n):=
 dx ⟨eK aN,aO,tabC [(59,oi n),(60,qH n)],n,[],ck [(6,⟨[ao 1,sp 2,ao 5,cI 6 5000,ao 7],[aY 2 8,b8 5000 4],[.slot 6 5000 4]⟩),(10,⟨[ao 1,sp 2,ao 5,cI 6 5000,ao 8],[aY 2 8,b8 5000 4],[]⟩),(15,⟨[ao 1,sp 2,ao 5,cI 6 89,ao 9],[aY 2 8,b8 89 4],[]⟩),(19,⟨[ao 1,sp 2,ao 5,ao 10],[aY 2 8],[]⟩)],ck [],ck [(0,⟨[ao 1,sp 2,ao 5,cI 6 5000],[aY 2 8,b8 5000 4],[]⟩),(2,⟨[ao 1,sp 2,ao 5,cI 6 5000],[aY 2 8,b8 5000 4],[]⟩),(4,⟨[ao 1,sp 2,ao 5],[aY 2 8],[]⟩),(6,⟨[ao 1,ao 5],[],[]⟩)],fs [(13,[1,2,4,5,7,8,10,11,0,3,6,9,12,13])],tabH [],fz [],ft []⟩ (tok _) (a1 (UO n) (a1 (aiX n) aP)) aq mixed rfl Tryz.func28 (by kernel_rfl) (by kernel_rfl) (fun _ _=>by kernel_rfl)
theorem aiZ(n:Nat):a5 aN aO 7 (vS n):=
 dx (bw n [(28,y1 n)] [(2,⟨[ao 1,sp 2,ao 7,ao 8,ao 9],[aY 2 8],[]⟩)] [] [(0,⟨[ao 1,sp 2],[aY 2 8],[]⟩)]) (tok _) (a1 (aiY n) aP) aq mixed rfl Tryz.func7 (by kernel_rfl) (by kernel_rfl) (fun _ _=>by kernel_rfl)
theorem ai0(vT:List D→Option D)(n:Nat)(ab:D)(ag:D)(ai1:a5 aN aO 61 vT){r:D}(h:L4 vT n ab ag=some r):dq aN aO 61 [ab,ag] (·=r):=
 dz (bw n [(61,vT)] [(2,⟨[ao 1,sp 2,ao 5],[aY 2 4],[]⟩)] [] [(0,⟨[ao 1],[],[]⟩)]) (tok _) (a1 ai1 aP) aq mixed rfl Tryz.func61 (by kernel_rfl) (bu (bu le_nil)) (by kernel_rfl) (by kernel_rfl) h
theorem UQ:∀n,a5 aN aO 61 (qK n)
 |0=>(fun _ _ h=>by cases h)
 |n+1=>by
  have ih:=UQ n
  exact (by
   intro aD r h
   unfold qK at h
   split at h
   case h_2=>cases h
   exact ai0 (qK n) n _ _ ih h)
theorem ai2(n:Nat):a5 aN aO 61 (qK n):=(UQ n)
theorem ai3(vU:List D→Option D)(n:Nat)(ab:D)(ag:D)(ai4:a5 aN aO 29 vU){r:D}(h:L5 vU n ab ag=some r):dq aN aO 29 [ab,ag] (·=r):=
 dz (bw n [(61,qK n),(29,vU)] [(3,⟨[ao 1,sp 2,ao 5],[aY 2 6],[]⟩)] [] [(0,⟨[ao 1],[],[]⟩)]) (tok _) (a1 (ai2 n) (a1 ai4 aP)) aq mixed rfl Tryz.func29 (by kernel_rfl) (bu (bu le_nil)) (by kernel_rfl) (by kernel_rfl) h
theorem UR:∀n,a5 aN aO 29 (qL n)
 |0=>(fun _ _ h=>by cases h)
 |n+1=>by
  have ih:=UR n
  exact (by
   intro aD r h
   unfold qL at h
   split at h
   case h_2=>cases h
   exact ai3 (qL n) n _ _ ih h)
theorem ai5(n:Nat):a5 aN aO 29 (qL n):=(UR n)
theorem ai6(n:Nat):a5 aN aO 8 (B1 n):=
 dx (bw n [(29,qL n)] [] [] []) (tok _) (a1 (ai5 n) aP) aq mixed rfl Tryz.func8 (by kernel_rfl) (by kernel_rfl) (fun _ _=>by kernel_rfl)
theorem ai7(n:Nat):a5 aN aO 62 (vV n):=
 cb (bw n [] [] [] []) (tok _) aP aq mixed rfl Tryz.func62 (by kernel_rfl) (by kernel_rfl) (fun _=>by kernel_rfl)
theorem ai8(n:Nat):a5 aN aO 63 (vW n):=
 dx (bw n [] [] [] []) (tok _) aP aq mixed rfl Tryz.func63 (by kernel_rfl) (by kernel_rfl) (fun _ _=>by kernel_rfl)
theorem ai9(n:Nat):a5 aN aO 30 (L6 n):=
 yB ⟨(eK Tryz.prog).qt [11,19,21,29,39],aO,tabC [(62,vV n),(63,vW n)],n,[],ck [],ck [],ck [],fs [(4,[2,10,0,1,3,4,5,6,7,8,9,11,12,13,14,15,16,17,18]),(5,[3,9,13,0,2,4,10,12,14,5,6,7,15,16,17,1,8,11,18,19,20])],tabH [],fz [],ft []⟩ ((tok _).qt _) (a1 (ai7 n) (a1 (ai8 n) aP)) aq mixed rfl Tryz.func30 (by kernel_rfl) (by kernel_rfl) (by kernel_rfl)
theorem US(n:Nat):a5 aN aO 188 (vX n):=
 cb (bw n [] [] [] []) (tok _) aP aq mixed rfl Tryz.func188 (by kernel_rfl) (by kernel_rfl) (fun _=>by kernel_rfl)
theorem aja(n:Nat):a5 aN aO 203 (B2 n):=
 cb (bw n [] [] [] []) (tok _) aP aq mixed rfl Tryz.func203 (by kernel_rfl) (by kernel_rfl) (fun _=>by kernel_rfl)
theorem ajb(n:Nat):a5 aN aO 190 (B3 n):=
 cb (bw n [(188,vX n),(203,B2 n)] [] [] []) (tok _) (a1 (US n) (a1 (aja n) aP)) aq mixed rfl Tryz.func190 (by kernel_rfl) (by kernel_rfl) (fun _=>by kernel_rfl)
theorem ajc(n:Nat)(ab:D){r:D}(h:L7 n ab=some r):dq aN aO 189 [ab,(D.val (.func (.func BQ) #[] #[]))] (·=r):=
 dz (bw n [(190,B3 n)] [(2,⟨[ao 0,(1,.b (.Bk BQ)),ao 5],[],[]⟩)] [] [(0,⟨[ao 5],[],[]⟩)]) (tok _) (a1 (ajb n) aP) aq mixed rfl Tryz.func189 (by kernel_rfl) (bu (bu le_nil)) (by kernel_rfl) (by kernel_rfl) h
theorem ajd(n:Nat):a5 aN aO 189 (y2 n):=by
 intro aD r h
 unfold y2 at h
 split at h
 case h_2=>cases h
 obtain ⟨aj,h⟩:=kr h
 obtain rfl:=Ls aj
 exact ajc n _ h
theorem aje(n:Nat):a5 aN aO 204 (y4 n):=
 dx (bw n [] [(2,⟨[ao 0,ao 1,ao 7,ao 8],[],[]⟩)] [] [(0,⟨[],[],[]⟩)]) (tok _) aP aq mixed rfl Tryz.func204 (by kernel_rfl) (by kernel_rfl) (fun _ _=>by kernel_rfl)
theorem ajf(n:Nat):a5 aN aO 191 (B5 n):=
 dx (bw n [(204,y4 n)] [] [] []) (tok _) (a1 (aje n) aP) aq mixed rfl Tryz.func191 (by kernel_rfl) (by kernel_rfl) (fun _ _=>by kernel_rfl)
theorem Ny(n:Nat):a5 aN aO 156 (qM n):=
 cb (bw n [(188,vX n),(189,y2 n),(191,B5 n)] [] [] []) (tok _) (a1 (US n) (a1 (ajd n) (a1 (ajf n) aP))) aq mixed rfl Tryz.func156 (by kernel_rfl) (by kernel_rfl) (fun _=>by kernel_rfl)
theorem ajg(n:Nat)(ab:D)(cJ:List D){r:D}(h:Ma n ab cJ=some r):dq aN aO 155 [ab,.ref cJ 0] (·=r):=
 dz (bw n [] [] [] []) (tok _) aP aq mixed rfl Tryz.func155 (by kernel_rfl) (bu (lS mJ le_nil)) (by kernel_rfl) (by kernel_rfl) h
theorem ajh(n:Nat):a5 aN aO 155 (y5 n):=by
 intro aD r h
 unfold y5 at h
 split at h
 case h_2=>cases h
 split at h
 case h_2=>cases h
 exact ajg n _ _ h
theorem aji(n:Nat)(ab:D)(b5:D){r:D}(h:Mb n ab b5=some r):dq aN aO 103 [ab,(D.fn (.func qG) [] [b5])] (·=r):=
 dz (bw n [(155,y5 n)] [(2,⟨[ao 0,(1,.b (.fd qG 1)),ao 7,ao 8],[],[]⟩)] [] [(0,⟨[],[],[]⟩)]) (tok _) (a1 (ajh n) aP) aq mixed rfl Tryz.func103 (by kernel_rfl) (bu (bu le_nil)) (by kernel_rfl) (by kernel_rfl) h
theorem ajj(n:Nat):a5 aN aO 103 (vZ n):=by
 intro aD r h
 unfold vZ at h
 split at h
 case h_2=>cases h
 split at h
 case h_2=>cases h
 rename_i aj
 obtain rfl:=jY aj
 exact aji n _ _ h
theorem ajk(n:Nat)(ab:D)(b5:D){r:D}(h:Mc n ab b5=some r):dq aN aO 157 [ab,(D.fn (.func qG) [] [b5])] (·=r):=
 dz (bw n [(103,vZ n)] [] [] []) (tok _) (a1 (ajj n) aP) aq mixed rfl Tryz.func157 (by kernel_rfl) (bu (bu le_nil)) (by kernel_rfl) (by kernel_rfl) h
theorem ajl(n:Nat):a5 aN aO 157 (y6 n):=by
 intro aD r h
 unfold y6 at h
 split at h
 case h_2=>cases h
 split at h
 case h_2=>cases h
 rename_i aj
 obtain rfl:=jY aj
 exact ajk n _ _ h
theorem ajm(n:Nat):a5 aN aO 107 (y7 n):=
 cb (bw n [(156,qM n),(157,y6 n)] [(2,⟨[ao 0,ao 8,ao 9,ao 10],[],[]⟩)] [] [(0,⟨[],[],[]⟩)]) (tok _) (a1 (Ny n) (a1 (ajl n) aP)) aq mixed rfl Tryz.func107 (by kernel_rfl) (by kernel_rfl) (fun _=>by kernel_rfl)
theorem ajn(n:Nat):a5 aN aO 159 (B7 n):=
 cb (bw n [] [] [] []) (tok _) aP aq mixed rfl Tryz.func159 (by kernel_rfl) (by kernel_rfl) (fun _=>by kernel_rfl)
theorem ajo(n:Nat):a5 aN aO 158 (B8 n):=
 cb (bw n [] [(2,⟨[ao 0,ao 4],[],[]⟩)] [] [(0,⟨[],[],[]⟩)]) (tok _) aP aq mixed rfl Tryz.func158 (by kernel_rfl) (by kernel_rfl) (fun _=>by kernel_rfl)
theorem ajp(n:Nat):a5 aN aO 108 (B9 n):=
 cb (bw n [(159,B7 n),(158,B8 n)] [(3,⟨[ao 3,ao 7,ao 8,ao 9],[],[]⟩)] [] [(0,⟨[ao 3],[],[]⟩)]) (tok _) (a1 (ajn n) (a1 (ajo n) aP)) aq mixed rfl Tryz.func108 (by kernel_rfl) (by kernel_rfl) (fun _=>by kernel_rfl)
theorem ajq(n:Nat):a5 aN aO 253 (Ca n):=
 cb (bw n [] [] [] []) (tok _) aP aq mixed rfl Tryz.func253 (by kernel_rfl) (by kernel_rfl) (fun _=>by kernel_rfl)
theorem ajr(n:Nat):a5 aN aO 246 (Cb n):=
 cb (bw n [] [] [] []) (tok _) aP aq mixed rfl Tryz.func246 (by kernel_rfl) (by kernel_rfl) (fun _=>by kernel_rfl)
theorem ajs(n:Nat):a5 aN aO 242 (px n):=
 cb (bw n [] [] [] []) (tok _) aP aq mixed rfl Tryz.func242 (by kernel_rfl) (by kernel_rfl) (fun _=>by kernel_rfl)
theorem ajt(n:Nat):a5 aN aO 238 (Cd n):=
 cb (bw n [] [] [] []) (tok _) aP aq mixed rfl Tryz.func238 (by kernel_rfl) (by kernel_rfl) (fun _=>by kernel_rfl)
theorem aju(n:Nat):a5 aN aO 233 (Ce n):=
 cb (bw n [] [] [] []) (tok _) aP aq mixed rfl Tryz.func233 (by kernel_rfl) (by kernel_rfl) (fun _=>by kernel_rfl)
theorem ajv(n:Nat):a5 aN aO 226 (Cf n):=
 cb (bw n [] [] [] []) (tok _) aP aq mixed rfl Tryz.func226 (by kernel_rfl) (by kernel_rfl) (fun _=>by kernel_rfl)
theorem ajw(n:Nat)(ab:D)(cJ:List D){r:D}(h:GX n ab cJ=some r):dq aN aO 256 [ab,.ref cJ 0] (·=r):=
 dz (bw n [] [] [] []) (tok _) aP aq mixed rfl Tryz.func256 (by kernel_rfl) (bu (lS mJ le_nil)) (by kernel_rfl) (by kernel_rfl) h
theorem ajx(n:Nat):a5 aN aO 256 (Cg n):=by
 intro aD r h
 unfold Cg at h
 split at h
 case h_2=>cases h
 split at h
 case h_2=>cases h
 exact ajw n _ _ h
theorem ajy(n:Nat)(ab:D)(b5:D){r:D}(h:Ci n ab b5=some r):dq aN aO 258 [ab,(D.fn (.func ps) [] [b5])] (·=r):=
 dz (bw n [(256,Cg n)] [(2,⟨[ao 0,(1,.b (.fd ps 1)),ao 7,ao 8],[],[]⟩)] [] [(0,⟨[],[],[]⟩)]) (tok _) (a1 (ajx n) aP) aq mixed rfl Tryz.func258 (by kernel_rfl) (bu (bu le_nil)) (by kernel_rfl) (by kernel_rfl) h
theorem ajz(n:Nat):a5 aN aO 258 (v5 n):=by
 intro aD r h
 unfold v5 at h
 split at h
 case h_2=>cases h
 split at h
 case h_2=>cases h
 rename_i aj
 obtain rfl:=jY aj
 exact ajy n _ _ h
theorem ajA(n:Nat)(ab:D)(b5:D){r:D}(h:GY n ab b5=some r):dq aN aO 255 [ab,(D.fn (.func ps) [] [b5])] (·=r):=
 dz (bw n [(258,v5 n)] [] [] []) (tok _) (a1 (ajz n) aP) aq mixed rfl Tryz.func255 (by kernel_rfl) (bu (bu le_nil)) (by kernel_rfl) (by kernel_rfl) h
theorem ajB(n:Nat):a5 aN aO 255 (v7 n):=by
 intro aD r h
 unfold v7 at h
 split at h
 case h_2=>cases h
 split at h
 case h_2=>cases h
 rename_i aj
 obtain rfl:=jY aj
 exact ajA n _ _ h
theorem ajC(n:Nat):a5 aN aO 199 (Cj n):=
 cb (bw n [] [] [(5004000,⟨[ao 4,ao 5],[],[]⟩),(5005000,⟨[ao 4,ao 5],[],[]⟩),(5006000,⟨[ao 4,ao 5],[],[]⟩),(12011000,⟨[ao 4,ao 12],[],[]⟩),(15014000,⟨[ao 4,ao 15],[],[]⟩),(15015000,⟨[ao 4,ao 15],[],[]⟩),(15016000,⟨[ao 4,ao 15],[],[]⟩),(15017000,⟨[ao 4,ao 15],[],[]⟩),(15018000,⟨[ao 4,ao 15],[],[]⟩),(15019000,⟨[ao 4,ao 15],[],[]⟩),(15020000,⟨[ao 4,ao 15],[],[]⟩),(15021000,⟨[ao 4,ao 15],[],[]⟩),(15022000,⟨[ao 4,ao 15],[],[]⟩)] []) (tok _) aP aq mixed rfl Tryz.func199 (by kernel_rfl) (by kernel_rfl) (fun _=>by kernel_rfl)
theorem ajD(n:Nat):a5 aN aO 178 (Ck n):=
 cb (bw n [(199,Cj n)] [] [(18008007,⟨[sp 1,ao 3,ao 4,ao 5,ao 6],[aY 1 4],[]⟩),(20000009,⟨[sp 1,ao 3,ao 4,ao 5,ao 6],[aY 1 4],[]⟩)] [(0,⟨[sp 1,ao 3,ao 4,ao 5,ao 6],[aY 1 4],[]⟩)]) (tok _) (a1 (ajC n) aP) aq mixed rfl Tryz.func178 (by kernel_rfl) (by kernel_rfl) (fun _=>by kernel_rfl)
theorem ajE(n:Nat):eP aN aO UJ (Cl n):=
 mK ⟨eK aN,aO,tabC [(178,Ck n)],n,[10000,10001],ck [],ck [(10004003,⟨[(3,.b (.ptr 10001 0))],[aY 10001 1,aY 10000 1],[]⟩),(18000006,⟨[(3,.b (.ptr 10001 0))],[aY 10001 1,aY 10000 1],[]⟩)],ck [],fs [],tabH [],fz [],ft []⟩ (tok _) (a1 (ajD n) aP) aq mixed Tryz.func177 (by kernel_rfl) (by kernel_rfl) (by kernel_rfl) [] fun _=>by kernel_rfl
theorem UT(n:Nat):eP aN aO Nx (tQ n):=
 mK ⟨eK aN,aO,tabC [],n,[],ck [(2,⟨[cI 0 9000,ao 1,ao 5],[b8 9000 1],[]⟩)],ck [],ck [(0,⟨[cI 0 9000,ao 1,ao 5],[b8 9000 1],[]⟩)],fs [],tabH [],fz [],ft []⟩ (tok _) aP aq mixed Tryz.func180 (by kernel_rfl) (by kernel_rfl) (by kernel_rfl) [] fun _=>by kernel_rfl
theorem ajF(n:Nat):eP aN aO UK (v8 n):=
 mK ⟨eK aN,aO,tabC [],n,[10000,10001],ck [],ck [(9004003,⟨[],[(10000,.box [.b (.row 6010)]),(10001,.box [.b (.row 9001)]),b8 6010 1,b8 9001 1],[]⟩),(15000005,⟨[],[(10000,.box [.b (.row 9000)]),(10001,.box [.b (.row 6020)]),b8 9000 1,b8 6020 1],[]⟩)],ck [(0,⟨[],[(10000,.box [.b (.row 6010)]),(10001,.box [.b (.row 9001)]),b8 6010 1,b8 9001 1],[]⟩)],fs [],tabH [(14,⟨Nx,tQ n,6010,[]⟩),(20,⟨Nx,tQ n,6020,[]⟩)],fz [],ft []⟩ (tok _) aP (bp (UT n) (bp (UT n) aq)) mixed Tryz.func179 (by kernel_rfl) (by kernel_rfl) (by kernel_rfl) [] fun _=>by kernel_rfl
theorem ajG(v9:List D→Option (List D))(n:Nat)(ajH:eP aN aO xA v9):eP aN aO xA (Me v9 n):=
 mK ⟨eK aN,aO,tabC [],n,[10000,10001],ck [(4,⟨[ao 1,(2,.fn (.func Te) [] [.ptr 10000 0,.ptr 10001 0]),ao 15,ao 16,ao 17],[aY 10000 1,aY 10001 1],[]⟩)],ck [],ck [(0,⟨[],[aY 10000 1,aY 10001 1],[]⟩)],fs [],tabH [(12,⟨UJ,Cl n,6010,[]⟩),(25,⟨xA,v9,6020,[]⟩)],fz [],ft []⟩ (tok _) aP (bp (ajE n) (bp ajH aq)) mixed Tryz.func176 (by kernel_rfl) (by kernel_rfl) (by kernel_rfl) [] fun _=>by kernel_rfl
theorem UU:∀n,eP aN aO xA (r8 n)
 |0=>tJ (s:=xA) (tI (T:=eK aN) (os:=fun _=>none) Tryz.func176 (by kernel_rfl)) (fun _=>rfl)
 |n+1=>by
  have ih:=UU n
  exact ajG (r8 n) n ih
theorem ajI(n:Nat):eP aN aO xA (r8 n):=(UU n)
theorem Nz(n:Nat):a5 aN aO 124 (qN n):=
 cb ⟨eK aN,aO,tabC [],n,[],ck [],ck [],ck [],fs [],tabH [(7,⟨xA,r8 n,6010,[]⟩)],fz [],ft []⟩ (tok _) aP (bp (ajI n) aq) mixed rfl Tryz.func124 (by kernel_rfl) (by kernel_rfl) (fun _=>by kernel_rfl)
theorem ajJ(wa:List D→Option (List D))(n:Nat)(ajK:eP aN aO xB wa):eP aN aO xB (Mf wa n):=
 mK ⟨eK aN,aO,tabC [],n,[10000,10001],ck [(4,⟨[ao 1,(2,.fn (.func Tf) [] [.ptr 10000 0,.ptr 10001 0]),ao 15,ao 16,ao 17],[(10000,.box [.b (.row 6010)]),(10001,.box [.b (.row 6011)]),b8 6010 1,b8 6011 1],[]⟩)],ck [],ck [(0,⟨[],[(10000,.box [.b (.row 6010)]),(10001,.box [.b (.row 6011)]),b8 6010 1,b8 6011 1],[]⟩)],fs [],tabH [(12,⟨UK,v8 n,6010,[]⟩),(25,⟨xB,wa,6020,[]⟩)],fz [],ft []⟩ (tok _) aP (bp (ajF n) (bp ajK aq)) mixed Tryz.func176 (by kernel_rfl) (by kernel_rfl) (by kernel_rfl) [] fun _=>by kernel_rfl
theorem UW:∀n,eP aN aO xB (r9 n)
 |0=>tJ (s:=xB) (tI (T:=eK aN) (os:=fun _=>none) Tryz.func176 (by kernel_rfl)) (fun _=>rfl)
 |n+1=>by
  have ih:=UW n
  exact ajJ (r9 n) n ih
theorem ajL(n:Nat):eP aN aO xB (r9 n):=(UW n)
theorem H3(n:Nat):a5 aN aO 125 (pz n):=
 cb ⟨eK aN,aO,tabC [],n,[],ck [],ck [],ck [],fs [(2,[0,1,2,3])],tabH [(6,⟨xB,r9 n,6010,[.box 3 0 5900 1,.box 2 0 5901 1]⟩)],fz [],ft []⟩ (tok _) aP (bp (ajL n) aq) mixed rfl Tryz.func125 (by kernel_rfl) (by kernel_rfl) (fun _=>by kernel_rfl)
theorem ajM(n:Nat):a5 aN aO 78 (wb n):=
 cb (bw n [(124,qN n),(125,pz n)] [] [] []) (tok _) (a1 (Nz n) (a1 (H3 n) aP)) aq mixed rfl Tryz.func78 (by kernel_rfl) (by kernel_rfl) (fun _=>by kernel_rfl)
theorem ajN(n:Nat):a5 aN aO 79 (Cp n):=
 cb (bw n [] [] [(6005000,⟨[ao 3,ao 6],[],[]⟩),(6006000,⟨[ao 3,ao 6],[],[]⟩),(6007000,⟨[ao 3,ao 6],[],[]⟩),(6008000,⟨[ao 3,ao 6],[],[]⟩),(12011000,⟨[ao 12],[],[]⟩),(12012000,⟨[ao 12],[],[]⟩),(12013000,⟨[ao 12],[],[]⟩),(12014000,⟨[ao 12],[],[]⟩),(12015000,⟨[ao 12],[],[]⟩),(12016000,⟨[ao 12],[],[]⟩)] [(0,⟨[],[],[]⟩)]) (tok _) aP aq mixed rfl Tryz.func79 (by kernel_rfl) (by kernel_rfl) (fun _=>by kernel_rfl)
theorem ajO(n:Nat):eP aN aO UL (Cq n):=
 mK ⟨eK aN,aO,tabC [(78,wb n),(79,Cp n)],n,[10000,10001],ck [],ck [(40007006,⟨[(3,.b (.ptr 10001 0))],[aY 10001 1,aY 10000 1],[]⟩),(43009008,⟨[(3,.b (.ptr 10001 0))],[aY 10001 1,aY 10000 1],[]⟩),(46011010,⟨[(3,.b (.ptr 10001 0))],[aY 10001 1,aY 10000 1],[]⟩),(50013012,⟨[(3,.b (.ptr 10001 0))],[aY 10001 1,aY 10000 1],[]⟩),(65000014,⟨[(3,.b (.ptr 10001 0))],[aY 10001 1,aY 10000 1],[]⟩)],ck [(0,⟨[(3,.b (.ptr 10001 0))],[aY 10001 1,aY 10000 1],[]⟩)],fs [],tabH [],fz [],ft []⟩ (tok _) (a1 (ajM n) (a1 (ajN n) aP)) aq mixed Tryz.func77 (by kernel_rfl) (by kernel_rfl) (by kernel_rfl) [] fun _=>by kernel_rfl
theorem ajP(wc:List D→Option (List D))(n:Nat)(ajQ:eP aN aO xC wc):eP aN aO xC (Mg wc n):=
 mK ⟨eK aN,aO,tabC [],n,[10000,10001],ck [(4,⟨[ao 1,(2,.fn (.func Td) [] [.ptr 10000 0,.ptr 10001 0]),ao 15,ao 16,ao 17],[aY 10000 1,aY 10001 1],[]⟩)],ck [],ck [(0,⟨[],[aY 10000 1,aY 10001 1],[]⟩)],fs [],tabH [(12,⟨UL,Cq n,6010,[]⟩),(25,⟨xC,wc,6020,[]⟩)],fz [],ft []⟩ (tok _) aP (bp (ajO n) (bp ajQ aq)) mixed Tryz.func76 (by kernel_rfl) (by kernel_rfl) (by kernel_rfl) [] fun _=>by kernel_rfl
theorem UX:∀n,eP aN aO xC (sa n)
 |0=>tJ (s:=xC) (tI (T:=eK aN) (os:=fun _=>none) Tryz.func76 (by kernel_rfl)) (fun _=>rfl)
 |n+1=>by
  have ih:=UX n
  exact ajP (sa n) n ih
theorem ajR(n:Nat):eP aN aO xC (sa n):=(UX n)
theorem Ea(n:Nat):a5 aN aO 42 (nB n):=
 cb ⟨eK aN,aO,tabC [],n,[],ck [],ck [],ck [],fs [],tabH [(7,⟨xC,sa n,6010,[]⟩)],fz [],ft []⟩ (tok _) aP (bp (ajR n) aq) mixed rfl Tryz.func42 (by kernel_rfl) (by kernel_rfl) (fun _=>by kernel_rfl)
theorem NA(n:Nat):a5 aN aO 160 (sb n):=
 cb (bw n [] [(3,⟨[(3,.b (.map 8)),ao 9,ao 10,ao 11],[(8,.map)],[]⟩)] [(24000007,⟨[(3,.b (.map 8)),ao 9,ao 10,ao 11],[(8,.map)],[]⟩)] [(0,⟨[(3,.b (.map 8))],[(8,.map)],[]⟩),(1,⟨[(3,.b (.map 8)),ao 9,ao 10,ao 11],[(8,.map)],[]⟩)]) (tok _) aP aq mixed rfl Tryz.func160 (by kernel_rfl) (by kernel_rfl) (fun _=>by kernel_rfl)
theorem ajS(n:Nat):a5 aN aO 161 (Ct n):=
 cb ⟨eK aN,aO,tabC [(160,sb n),(125,pz n)],n,[],ck [(4,⟨[ao 3,cI 4 5002,ao 16,ao 17,ao 18],[b8 5002 1],[.slot 4 5002 1]⟩),(9,⟨[ao 3,cI 4 5002,cI 7 5001,ao 16,ao 17,ao 18,ao 28,ao 29,ao 30],[b8 5002 1,b8 5001 1],[.slot 7 5001 1]⟩)],ck [(40000013,⟨[ao 3,cI 4 5002,cI 7 44,ao 16,ao 17,ao 18,ao 28,ao 29,ao 30],[b8 5002 1,b8 44 1],[.slot 7 5000 1]⟩)],ck [(0,⟨[cI 4 5002],[b8 5002 1],[]⟩),(1,⟨[ao 3,cI 4 49,ao 16,ao 17,ao 18],[b8 49 1],[]⟩),(2,⟨[ao 3,cI 4 5002,cI 7 5001,ao 16,ao 17,ao 18],[b8 5002 1,b8 5001 1],[]⟩),(3,⟨[ao 3,cI 4 5002,cI 7 44,ao 16,ao 17,ao 18,ao 28,ao 29,ao 30],[b8 5002 1,b8 44 1],[]⟩)],fs [],tabH [],fz [48],ft []⟩ (tok _) (a1 (NA n) (a1 (H3 n) aP)) aq mixed rfl Tryz.func161 (by kernel_rfl) (by kernel_rfl) (fun _=>by kernel_rfl)
theorem ajT(we:List D→Option (List D))(n:Nat)(ajU:eP aN aO um we):eP aN aO um (G4 we n):=
 mK ⟨eK aN,aO,tabC [],n,[10000,10001,10002],ck [(1,⟨[(2,.b (.ptr 10001 0)),(3,.b (.ptr 10002 0)),ao 10,ao 11,ao 12],[(10001,.box [.b (.map 9000)]),(10002,.box [.fn (.func tO) [] [.ptr 10000 0,.ptr 10001 0,.ptr 10002 0]]),aY 10000 1,(9000,.map)],[]⟩)],ck [(19000004,⟨[(2,.b (.ptr 10001 0)),(3,.b (.ptr 10002 0)),ao 10,ao 11,ao 12],[(10001,.box [.b (.map 6010)]),(10002,.box [.fn (.func tO) [] [.ptr 10000 0,.ptr 10001 0,.ptr 10002 0]]),aY 10000 1,(6010,.map)],[]⟩)],ck [(0,⟨[],[aY 10000 1,(10001,.box [.b (.map 9000)]),(10002,.box [.fn (.func tO) [] [.ptr 10000 0,.ptr 10001 0,.ptr 10002 0]]),(9000,.map)],[]⟩),(1,⟨[(2,.b (.ptr 10001 0)),(3,.b (.ptr 10002 0)),ao 10,ao 11,ao 12],[(10001,.box [.b (.map 6010)]),(10002,.box [.fn (.func tO) [] [.ptr 10000 0,.ptr 10001 0,.ptr 10002 0]]),aY 10000 1,(6010,.map)],[]⟩)],fs [],tabH [(24,⟨um,we,6010,[]⟩)],fz [],ft []⟩ (tok _) aP (bp ajU aq) mixed Tryz.func192 (by kernel_rfl) (by kernel_rfl) (by kernel_rfl) [] fun _=>by kernel_rfl
theorem UY:∀n,eP aN aO um (pA n)
 |0=>tJ (s:=um) (tI (T:=eK aN) (os:=fun _=>none) Tryz.func192 (by kernel_rfl)) (fun _=>rfl)
 |n+1=>by
  have ih:=UY n
  exact ajT (pA n) n ih
theorem UZ(n:Nat):eP aN aO um (pA n):=(UY n)
theorem ajV(n:Nat):eP aN aO UM (Cw n):=
 mK ⟨eK aN,aO,tabC [],n,[],ck [(5,⟨[sp 5,sp 6,ao 11,ao 12,ao 13],[(5,.box [.b (.map 9)]),(6,.box [.fn (.func tO) [] [.ptr 2 0,.ptr 5 0,.ptr 6 0]]),(9,.map),aY 2 1],[]⟩)],ck [],ck [(0,⟨[sp 5],[(5,.box [.b (.map 9)]),(9,.map)],[]⟩)],fs [],tabH [(19,⟨um,pA n,6010,[]⟩)],fz [],ft []⟩ (tok _) aP (bp (UZ n) aq) mixed Tryz.func162 (by kernel_rfl) (by kernel_rfl) (by kernel_rfl) [] fun _=>by kernel_rfl
theorem ajW(n:Nat):a5 aN aO 162 (y8 n):=
 dx ⟨eK aN,aO,tabC [],n,[],ck [(5,⟨[sp 5,sp 6,ao 11,ao 12,ao 13],[(5,.box [.b (.map 9)]),(6,.box [.fn (.func tO) [] [.ptr 2 0,.ptr 5 0,.ptr 6 0]]),(9,.map),aY 2 1],[]⟩)],ck [],ck [(0,⟨[sp 5],[(5,.box [.b (.map 9)]),(9,.map)],[]⟩)],fs [],tabH [(19,⟨um,pA n,6010,[]⟩)],fz [],ft []⟩ (tok _) aP (bp (UZ n) aq) mixed rfl Tryz.func162 (by kernel_rfl) (by kernel_rfl) (fun _ _=>by kernel_rfl)
theorem ajX(sc:List D→Option (List D))(n:Nat)(ajY:eP aN aO xD sc):eP aN aO xD (Cy sc n):=
 mK ⟨eK aN,aO,tabC [],n,[10000,10001,10002,10003],ck [(1,⟨[ao 1,(2,.b (.ptr 10000 0)),(3,.b (.ptr 10001 0)),(4,.b (.ptr 10002 0)),(5,.b (.ptr 10003 0)),sp 6,sp 8],[aY 10000 1,aY 10001 1,aY 10002 1,(10003,.box [.fn (.func tP) [] [.ptr 10000 0,.ptr 10001 0,.ptr 10002 0,.ptr 10003 0]]),aY 6 4,aY 8 4],[]⟩),(10,⟨[ao 1,(4,.b (.ptr 10002 0)),(5,.b (.ptr 10003 0)),sp 6,sp 8,cI 11 41,ao 43,ao 44,ao 45],[aY 10002 1,(10003,.box [.fn (.func tP) [] [.ptr 10000 0,.ptr 10001 0,.ptr 10002 0,.ptr 10003 0]]),aY 6 4,aY 8 4,b8 41 4,aY 10000 1,aY 10001 1],[]⟩)],ck [(55000013,⟨[ao 1,(4,.b (.ptr 10002 0)),(5,.b (.ptr 10003 0)),sp 6,sp 8,cI 11 41,ao 43,ao 44,ao 45],[aY 10002 1,(10003,.box [.fn (.func tP) [] [.ptr 10000 0,.ptr 10001 0,.ptr 10002 0,.ptr 10003 0]]),aY 6 4,aY 8 4,b8 41 4,aY 10000 1,aY 10001 1],[]⟩)],ck [(0,⟨[ao 1,(4,.b (.ptr 10002 0)),(5,.b (.ptr 10003 0)),sp 6,sp 8],[aY 10002 1,(10003,.box [.fn (.func tP) [] [.ptr 10000 0,.ptr 10001 0,.ptr 10002 0,.ptr 10003 0]]),aY 6 4,aY 8 4,aY 10000 1,aY 10001 1],[]⟩),(2,⟨[sp 6,sp 8,cI 11 41],[aY 6 4,aY 8 4,b8 41 4,aY 10000 1,aY 10001 1,aY 10002 1,(10003,.box [.fn (.func tP) [] [.ptr 10000 0,.ptr 10001 0,.ptr 10002 0,.ptr 10003 0]])],[]⟩),(3,⟨[ao 1,(4,.b (.ptr 10002 0)),(5,.b (.ptr 10003 0)),sp 6,sp 8,cI 11 41,ao 43,ao 44,ao 45],[aY 10002 1,(10003,.box [.fn (.func tP) [] [.ptr 10000 0,.ptr 10001 0,.ptr 10002 0,.ptr 10003 0]]),aY 6 4,aY 8 4,b8 41 4,aY 10000 1,aY 10001 1],[]⟩)],fs [],tabH [(62,⟨xD,sc,6010,[]⟩)],fz [20066],ft []⟩ (tok _) aP (bp ajY aq) mixed Tryz.func193 (by kernel_rfl) (by kernel_rfl) (by kernel_rfl) [] fun _=>by kernel_rfl
theorem U0:∀n,eP aN aO xD (qO n)
 |0=>tJ (s:=xD) (tI (T:=eK aN) (os:=fun _=>none) Tryz.func193 (by kernel_rfl)) (fun _=>rfl)
 |n+1=>by
  have ih:=U0 n
  exact ajX (qO n) n ih
theorem ajZ(n:Nat):eP aN aO xD (qO n):=(U0 n)
theorem aj0(n:Nat):a5 aN aO 163 (Cz n):=
 dx ⟨eK aN,aO,tabC [(160,sb n)],n,[],ck [],ck [],ck [],fs [],tabH [(13,⟨xD,qO n,6010,[]⟩)],fz [],ft []⟩ (tok _) (a1 (NA n) aP) (bp (ajZ n) aq) mixed rfl Tryz.func163 (by kernel_rfl) (by kernel_rfl) (fun _ _=>by kernel_rfl)
theorem H4(n:Nat):a5 aN aO 114 (kz n):=
 dx ⟨(eK Tryz.prog).qt [77],aO,tabC [(124,qN n),(160,sb n),(161,Ct n),(125,pz n),(162,y8 n),(163,Cz n)],n,[],ck [(8,⟨[ao 1,sp 2,sp 4,ao 7,ao 8,cI 9 5001,ao 36,ao 37,ao 38],[aY 2 4,aY 4 4,b8 5001 1],[.slot 9 5001 1]⟩),(16,⟨[ao 1,sp 2,sp 4,ao 8,(16,.b (.map 6010)),ao 57,ao 58,ao 59],[aY 2 4,aY 4 4,(6010,.map)],[]⟩),(21,⟨[ao 1,sp 2,sp 4,ao 8,(16,.b (.map 6010)),ao 67,ao 68],[aY 2 4,aY 4 4,(6010,.map)],[]⟩)],ck [(48000012,⟨[ao 1,sp 2,sp 4,ao 7,ao 8,cI 9 52,ao 36,ao 37,ao 38],[aY 2 4,aY 4 4,b8 52 1],[.slot 9 5000 1]⟩)],ck [(0,⟨[ao 1,sp 2,sp 4,ao 8,cI 9 5001],[aY 2 4,aY 4 4,b8 5001 1],[]⟩),(1,⟨[ao 1,sp 2,sp 4,ao 7,ao 8,cI 9 52,ao 36,ao 37,ao 38],[aY 2 4,aY 4 4,b8 52 1],[]⟩),(2,⟨[ao 1,sp 2,sp 4,ao 8,(16,.b (.map 6010))],[aY 2 4,aY 4 4,(6010,.map)],[]⟩),(4,⟨[ao 1,sp 2,sp 4],[aY 2 4,aY 4 4],[]⟩)],fs [],tabH [(56,⟨UM,Cw n,6010,[]⟩)],fz [],ft [(14,[[5001],[],[]])]⟩ ((tok _).qt _) (a1 (Nz n) (a1 (NA n) (a1 (ajS n) (a1 (H3 n) (a1 (ajW n) (a1 (aj0 n) aP)))))) (bp (ajV n) aq) mixed rfl Tryz.func114 (by kernel_rfl) (by kernel_rfl) (fun _ _=>by kernel_rfl)
theorem U1(n:Nat):a5 aN aO 147 (wh n):=
 cb (bw n [] [(3,⟨[(3,.b (.map 8)),ao 9,ao 10,ao 11],[(8,.map)],[]⟩)] [(24000007,⟨[(3,.b (.map 8)),ao 9,ao 10,ao 11],[(8,.map)],[]⟩)] [(0,⟨[(3,.b (.map 8))],[(8,.map)],[]⟩),(1,⟨[(3,.b (.map 8)),ao 9,ao 10,ao 11],[(8,.map)],[]⟩)]) (tok _) aP aq mixed rfl Tryz.func147 (by kernel_rfl) (by kernel_rfl) (fun _=>by kernel_rfl)
theorem U2(n:Nat):a5 aN aO 205 (pB n):=
 dx (bw n [] [] [] []) (tok _) aP aq mixed rfl Tryz.func205 (by kernel_rfl) (by kernel_rfl) (fun _ _=>by kernel_rfl)
theorem aj1(n:Nat):a5 aN aO 206 (CE n):=
 cb (bw n [] [(2,⟨[sp 2,ao 6,ao 7,ao 8],[aY 2 3],[]⟩)] [] [(0,⟨[sp 2],[aY 2 3],[]⟩)]) (tok _) aP aq mixed rfl Tryz.func206 (by kernel_rfl) (by kernel_rfl) (fun _=>by kernel_rfl)
theorem aj2(n:Nat):a5 aN aO 207 (wi n):=
 g2 (bw n [(205,pB n)] [] [(13000002,⟨[ao 0,sp 4,sp 5,sp 6],[aY 4 3,aY 5 3,aY 6 3],[]⟩)] []) (tok _) (a1 (U2 n) aP) aq mixed rfl Tryz.func207 (by kernel_rfl) (by kernel_rfl) (fun _ _ _=>by kernel_rfl)
theorem aj3(n:Nat):a5 aN aO 194 (mU n):=
 Lt (bw n [(205,pB n),(206,CE n),(207,wi n)] [] [(29007000,⟨[ao 0,ao 1,ao 3,ao 4,sp 7,sp 10,ao 16,ao 29],[aY 7 4,aY 10 3],[]⟩),(69017000,⟨[ao 4,sp 7,sp 10,ao 16,ao 69],[aY 7 4,aY 10 3],[]⟩),(69018000,⟨[ao 4,sp 7,sp 10,ao 16,ao 69],[aY 7 4,aY 10 3],[]⟩),(69019000,⟨[ao 4,sp 7,sp 10,ao 16,ao 69],[aY 7 4,aY 10 3],[]⟩),(69020000,⟨[ao 4,sp 7,sp 10,ao 16,ao 69],[aY 7 4,aY 10 3],[]⟩),(126029000,⟨[ao 4,sp 7,sp 10,ao 126],[aY 7 4,aY 10 3],[]⟩),(164038000,⟨[ao 4,sp 7,sp 10,ao 152,ao 164],[aY 7 4,aY 10 3],[]⟩)] [(0,⟨[ao 4,sp 7,sp 10],[aY 7 4,aY 10 3],[]⟩)]) (tok _) (a1 (U2 n) (a1 (aj1 n) (a1 (aj2 n) aP))) aq mixed rfl Tryz.func194 (by kernel_rfl) (by kernel_rfl) (fun _ _ _ _ _=>by kernel_rfl)
theorem aj4(wu:List D→Option D)(n:Nat)(ab:D)(ag:D)(aS:D)(bN:D)(aj5:a5 aN aO 164 wu){r:D}(h:Mt wu n ab ag aS bN=some r):dq aN aO 164 [ab,ag,aS,bN] (·=r):=
 dz (bw n [(164,wu),(194,mU n)] [(3,⟨[ao 0,ao 1,ao 3,sp 6,sp 8,cI 10 5000,ao 16,ao 17,ao 18],[aY 6 4,aY 8 3,b8 5000 3],[.slot 10 5000 3]⟩)] [] [(0,⟨[ao 0,ao 1,ao 3,sp 6,sp 8,cI 10 5000],[aY 6 4,aY 8 3,b8 5000 3],[]⟩)]) (tok _) (a1 aj5 (a1 (aj3 n) aP)) aq mixed rfl Tryz.func164 (by kernel_rfl) (bu (bu (bu (bu le_nil)))) (by kernel_rfl) (by kernel_rfl) h
theorem U3:∀n,a5 aN aO 164 (pD n)
 |0=>(fun _ _ h=>by cases h)
 |n+1=>by
  have ih:=U3 n
  exact (by
   intro aD r h
   unfold pD at h
   split at h
   case h_2=>cases h
   exact aj4 (pD n) n _ _ _ _ ih h)
theorem aj6(n:Nat):a5 aN aO 164 (pD n):=(U3 n)
theorem NB(n:Nat):a5 aN aO 115 (qT n):=
 g2 (bw n [(124,qN n),(147,wh n),(164,pD n)] [] [] []) (tok _) (a1 (Nz n) (a1 (U1 n) (a1 (aj6 n) aP))) aq mixed rfl Tryz.func115 (by kernel_rfl) (by kernel_rfl) (fun _ _ _=>by kernel_rfl)
theorem NC(n:Nat):a5 aN aO 240 (qU n):=
 g2 (bw n [(114,kz n),(115,qT n)] [] [] []) (tok _) (a1 (H4 n) (a1 (NB n) aP)) aq mixed rfl Tryz.func240 (by kernel_rfl) (by kernel_rfl) (fun _ _ _=>by kernel_rfl)
theorem U4(n:Nat):a5 aN aO 244 (tR n):=
 g2 (bw n [(240,qU n)] [] [] []) (tok _) (a1 (NC n) aP) aq mixed rfl Tryz.func244 (by kernel_rfl) (by kernel_rfl) (fun _ _ _=>by kernel_rfl)
theorem aj7(wv:List D→Option D)(n:Nat)(ab:D)(ag:D)(aj8:a5 aN aO 257 wv){r:D}(h:CP wv n ab ag=some r):dq aN aO 257 [ab,ag] (·=r):=
 dz (bw n [(244,tR n),(257,wv)] [(4,⟨[sp 2,ao 16,ao 17,ao 18],[aY 2 8],[]⟩)] [] [(0,⟨[],[],[]⟩)]) (tok _) (a1 (U4 n) (a1 aj8 aP)) aq mixed rfl Tryz.func257 (by kernel_rfl) (bu (bu le_nil)) (by kernel_rfl) (by kernel_rfl) h
theorem U5:∀n,a5 aN aO 257 (qV n)
 |0=>(fun _ _ h=>by cases h)
 |n+1=>by
  have ih:=U5 n
  exact (by
   intro aD r h
   unfold qV at h
   split at h
   case h_2=>cases h
   exact aj7 (qV n) n _ _ ih h)
theorem aj9(n:Nat):a5 aN aO 257 (qV n):=(U5 n)
theorem aka(n:Nat):a5 aN aO 254 (sf n):=
 g2 (bw n [(156,qM n),(255,v7 n),(42,nB n),(257,qV n)] [] [] []) (tok _) (a1 (Ny n) (a1 (ajB n) (a1 (Ea n) (a1 (aj9 n) aP)))) aq mixed rfl Tryz.func254 (by kernel_rfl) (by kernel_rfl) (fun _ _ _=>by kernel_rfl)
theorem akb(n:Nat)(ab:D)(cJ:List D){r:D}(h:Hb n ab cJ=some r):dq aN aO 248 [ab,.ref cJ 0] (·=r):=
 dz (bw n [] [] [] []) (tok _) aP aq mixed rfl Tryz.func248 (by kernel_rfl) (bu (lS mJ le_nil)) (by kernel_rfl) (by kernel_rfl) h
theorem akc(n:Nat):a5 aN aO 248 (CR n):=by
 intro aD r h
 unfold CR at h
 split at h
 case h_2=>cases h
 split at h
 case h_2=>cases h
 exact akb n _ _ h
theorem akd(n:Nat)(ab:D)(b5:D){r:D}(h:CT n ab b5=some r):dq aN aO 103 [ab,(D.fn (.func yW) [] [b5])] (·=r):=
 dz (bw n [(248,CR n)] [(2,⟨[ao 0,(1,.b (.fd yW 1)),ao 7,ao 8],[],[]⟩)] [] [(0,⟨[],[],[]⟩)]) (tok _) (a1 (akc n) aP) aq mixed rfl Tryz.func103 (by kernel_rfl) (bu (bu le_nil)) (by kernel_rfl) (by kernel_rfl) h
theorem ake(n:Nat):a5 aN aO 103 (wy n):=by
 intro aD r h
 unfold wy at h
 split at h
 case h_2=>cases h
 split at h
 case h_2=>cases h
 rename_i aj
 obtain rfl:=jY aj
 exact akd n _ _ h
theorem akf(n:Nat)(ab:D)(cJ:List D){r:D}(h:Hc n ab cJ=some r):dq aN aO 250 [ab,.ref cJ 0] (·=r):=
 dz (bw n [] [] [] []) (tok _) aP aq mixed rfl Tryz.func250 (by kernel_rfl) (bu (lS mJ le_nil)) (by kernel_rfl) (by kernel_rfl) h
theorem akg(n:Nat):a5 aN aO 250 (CU n):=by
 intro aD r h
 unfold CU at h
 split at h
 case h_2=>cases h
 split at h
 case h_2=>cases h
 exact akf n _ _ h
theorem akh(n:Nat)(ab:D)(b5:D){r:D}(h:CW n ab b5=some r):dq aN aO 251 [ab,(D.fn (.func pr) [] [b5])] (·=r):=
 dz (bw n [(250,CU n)] [(2,⟨[ao 0,(1,.b (.fd pr 1)),ao 7,ao 8],[],[]⟩)] [] [(0,⟨[],[],[]⟩)]) (tok _) (a1 (akg n) aP) aq mixed rfl Tryz.func251 (by kernel_rfl) (bu (bu le_nil)) (by kernel_rfl) (by kernel_rfl) h
theorem aki(n:Nat):a5 aN aO 251 (wz n):=by
 intro aD r h
 unfold wz at h
 split at h
 case h_2=>cases h
 split at h
 case h_2=>cases h
 rename_i aj
 obtain rfl:=jY aj
 exact akh n _ _ h
theorem akj(n:Nat)(ab:D)(b5:D){r:D}(h:Hd n ab b5=some r):dq aN aO 249 [ab,(D.fn (.func pr) [] [b5])] (·=r):=
 dz (bw n [(251,wz n)] [] [] []) (tok _) (a1 (aki n) aP) aq mixed rfl Tryz.func249 (by kernel_rfl) (bu (bu le_nil)) (by kernel_rfl) (by kernel_rfl) h
theorem akk(n:Nat):a5 aN aO 249 (wA n):=by
 intro aD r h
 unfold wA at h
 split at h
 case h_2=>cases h
 split at h
 case h_2=>cases h
 rename_i aj
 obtain rfl:=jY aj
 exact akj n _ _ h
theorem akl(n:Nat):a5 aN aO 247 (tS n):=
 g2 (bw n [(103,wy n),(249,wA n),(240,qU n)] [] [] []) (tok _) (a1 (ake n) (a1 (akk n) (a1 (NC n) aP))) aq mixed rfl Tryz.func247 (by kernel_rfl) (by kernel_rfl) (fun _ _ _=>by kernel_rfl)
theorem akm(n:Nat):a5 aN aO 243 (zg n):=
 g2 (bw n [(244,tR n)] [] [] []) (tok _) (a1 (U4 n) aP) aq mixed rfl Tryz.func243 (by kernel_rfl) (by kernel_rfl) (fun _ _ _=>by kernel_rfl)
theorem akn(n:Nat):a5 aN aO 239 (zh n):=
 g2 (bw n [(240,qU n)] [] [] []) (tok _) (a1 (NC n) aP) aq mixed rfl Tryz.func239 (by kernel_rfl) (by kernel_rfl) (fun _ _ _=>by kernel_rfl)
theorem ako(n:Nat)(ab:D)(cJ:List D){r:D}(h:Hf n ab cJ=some r):dq aN aO 236 [ab,.ref cJ 0] (·=r):=
 dz (bw n [] [] [] []) (tok _) aP aq mixed rfl Tryz.func236 (by kernel_rfl) (bu (lS mJ le_nil)) (by kernel_rfl) (by kernel_rfl) h
theorem akp(n:Nat):a5 aN aO 236 (CX n):=by
 intro aD r h
 unfold CX at h
 split at h
 case h_2=>cases h
 split at h
 case h_2=>cases h
 exact ako n _ _ h
theorem akq(n:Nat)(ab:D)(b5:D){r:D}(h:CZ n ab b5=some r):dq aN aO 235 [ab,(D.fn (.func yV) [] [b5])] (·=r):=
 dz (bw n [(236,CX n)] [(2,⟨[ao 0,(1,.b (.fd yV 1)),ao 7,ao 8],[],[]⟩)] [] [(0,⟨[],[],[]⟩)]) (tok _) (a1 (akp n) aP) aq mixed rfl Tryz.func235 (by kernel_rfl) (bu (bu le_nil)) (by kernel_rfl) (by kernel_rfl) h
theorem akr(n:Nat):a5 aN aO 235 (wC n):=by
 intro aD r h
 unfold wC at h
 split at h
 case h_2=>cases h
 split at h
 case h_2=>cases h
 rename_i aj
 obtain rfl:=jY aj
 exact akq n _ _ h
theorem aks(n:Nat):a5 aN aO 234 (zi n):=
 g2 ⟨eK aN,aO,tabC [(125,pz n),(235,wC n)],n,[],ck [(3,⟨[ao 0,ao 2,cI 7 16,cI 8 18],[b8 16 1,b8 18 1],[]⟩),(7,⟨[ao 0,ao 2,cI 7 16,cI 8 18,ao 35,ao 36,ao 37],[b8 16 1,b8 18 1],[]⟩)],ck [(52000011,⟨[ao 0,ao 2,cI 7 16,cI 8 59,ao 35,ao 36,ao 37],[b8 16 1,b8 59 1],[]⟩)],ck [(0,⟨[ao 2,cI 7 16],[b8 16 1],[]⟩),(1,⟨[ao 0,ao 2,cI 7 16,cI 8 18],[b8 16 1,b8 18 1],[]⟩),(2,⟨[ao 0,ao 2,cI 7 16,cI 8 18],[b8 16 1,b8 18 1],[]⟩),(3,⟨[ao 0,ao 2,cI 7 16,cI 8 59,ao 35,ao 36,ao 37],[b8 16 1,b8 59 1],[]⟩)],fs [],tabH [],fz [23],ft []⟩ (tok _) (a1 (H3 n) (a1 (akr n) aP)) aq mixed rfl Tryz.func234 (by kernel_rfl) (by kernel_rfl) (fun _ _ _=>by kernel_rfl)
theorem akt(n:Nat)(ab:D)(cJ:List D){r:D}(h:Hi n ab cJ=some r):dq aN aO 228 [ab,.ref cJ 0] (·=r):=
 dz (bw n [] [] [] []) (tok _) aP aq mixed rfl Tryz.func228 (by kernel_rfl) (bu (lS mJ le_nil)) (by kernel_rfl) (by kernel_rfl) h
theorem aku(n:Nat):a5 aN aO 228 (C0 n):=by
 intro aD r h
 unfold C0 at h
 split at h
 case h_2=>cases h
 split at h
 case h_2=>cases h
 exact akt n _ _ h
theorem akv(n:Nat)(ab:D)(b5:D){r:D}(h:C2 n ab b5=some r):dq aN aO 103 [ab,(D.fn (.func po) [] [b5])] (·=r):=
 dz (bw n [(228,C0 n)] [(2,⟨[ao 0,(1,.b (.fd po 1)),ao 7,ao 8],[],[]⟩)] [] [(0,⟨[],[],[]⟩)]) (tok _) (a1 (aku n) aP) aq mixed rfl Tryz.func103 (by kernel_rfl) (bu (bu le_nil)) (by kernel_rfl) (by kernel_rfl) h
theorem akw(n:Nat):a5 aN aO 103 (wE n):=by
 intro aD r h
 unfold wE at h
 split at h
 case h_2=>cases h
 split at h
 case h_2=>cases h
 rename_i aj
 obtain rfl:=jY aj
 exact akv n _ _ h
theorem akx(n:Nat)(ab:D)(b5:D){r:D}(h:Hj n ab b5=some r):dq aN aO 157 [ab,(D.fn (.func po) [] [b5])] (·=r):=
 dz (bw n [(103,wE n)] [] [] []) (tok _) (a1 (akw n) aP) aq mixed rfl Tryz.func157 (by kernel_rfl) (bu (bu le_nil)) (by kernel_rfl) (by kernel_rfl) h
theorem aky(n:Nat):a5 aN aO 157 (wF n):=by
 intro aD r h
 unfold wF at h
 split at h
 case h_2=>cases h
 split at h
 case h_2=>cases h
 rename_i aj
 obtain rfl:=jY aj
 exact akx n _ _ h
theorem akz(n:Nat)(ab:D)(cJ:List D){r:D}(h:Hk n ab cJ=some r):dq aN aO 230 [ab,.ref cJ 0] (·=r):=
 dz (bw n [] [] [] []) (tok _) aP aq mixed rfl Tryz.func230 (by kernel_rfl) (bu (lS mJ le_nil)) (by kernel_rfl) (by kernel_rfl) h
theorem akA(n:Nat):a5 aN aO 230 (C3 n):=by
 intro aD r h
 unfold C3 at h
 split at h
 case h_2=>cases h
 split at h
 case h_2=>cases h
 exact akz n _ _ h
theorem akB(n:Nat)(ab:D)(b5:D){r:D}(h:C5 n ab b5=some r):dq aN aO 231 [ab,(D.fn (.func pq) [] [b5])] (·=r):=
 dz (bw n [(230,C3 n)] [(2,⟨[ao 0,(1,.b (.fd pq 1)),ao 7,ao 8],[],[]⟩)] [] [(0,⟨[],[],[]⟩)]) (tok _) (a1 (akA n) aP) aq mixed rfl Tryz.func231 (by kernel_rfl) (bu (bu le_nil)) (by kernel_rfl) (by kernel_rfl) h
theorem akC(n:Nat):a5 aN aO 231 (wG n):=by
 intro aD r h
 unfold wG at h
 split at h
 case h_2=>cases h
 split at h
 case h_2=>cases h
 rename_i aj
 obtain rfl:=jY aj
 exact akB n _ _ h
theorem akD(n:Nat)(ab:D)(b5:D){r:D}(h:Hl n ab b5=some r):dq aN aO 229 [ab,(D.fn (.func pq) [] [b5])] (·=r):=
 dz (bw n [(231,wG n)] [] [] []) (tok _) (a1 (akC n) aP) aq mixed rfl Tryz.func229 (by kernel_rfl) (bu (bu le_nil)) (by kernel_rfl) (by kernel_rfl) h
theorem akE(n:Nat):a5 aN aO 229 (wH n):=by
 intro aD r h
 unfold wH at h
 split at h
 case h_2=>cases h
 split at h
 case h_2=>cases h
 rename_i aj
 obtain rfl:=jY aj
 exact akD n _ _ h
theorem akF(n:Nat):a5 aN aO 227 (sh n):=
 g2 (bw n [(156,qM n),(157,wF n),(229,wH n)] [] [(17005000,⟨[ao 17],[],[]⟩)] []) (tok _) (a1 (Ny n) (a1 (aky n) (a1 (akE n) aP))) aq mixed rfl Tryz.func227 (by kernel_rfl) (by kernel_rfl) (fun _ _ _=>by kernel_rfl)
theorem akG(n:Nat):a5 aN aO 252 (Hm n):=
 cb (bw n [] [] [] []) (tok _) aP aq mixed rfl Tryz.func252 (by kernel_rfl) (by kernel_rfl) (fun _=>by kernel_rfl)
theorem akH(n:Nat):a5 aN aO 245 (Hn n):=
 cb (bw n [] [] [] []) (tok _) aP aq mixed rfl Tryz.func245 (by kernel_rfl) (by kernel_rfl) (fun _=>by kernel_rfl)
theorem akI(n:Nat):a5 aN aO 241 (Ho n):=
 cb (bw n [] [] [] []) (tok _) aP aq mixed rfl Tryz.func241 (by kernel_rfl) (by kernel_rfl) (fun _=>by kernel_rfl)
theorem akJ(n:Nat):a5 aN aO 237 (Hp n):=
 cb (bw n [] [] [] []) (tok _) aP aq mixed rfl Tryz.func237 (by kernel_rfl) (by kernel_rfl) (fun _=>by kernel_rfl)
theorem akK(n:Nat):a5 aN aO 232 (Hq n):=
 cb (bw n [] [] [] []) (tok _) aP aq mixed rfl Tryz.func232 (by kernel_rfl) (by kernel_rfl) (fun _=>by kernel_rfl)
theorem akL(n:Nat):a5 aN aO 225 (Hr n):=
 cb (bw n [] [] [] []) (tok _) aP aq mixed rfl Tryz.func225 (by kernel_rfl) (by kernel_rfl) (fun _=>by kernel_rfl)
theorem akM(n:Nat):a5 aN aO 64 (ov n):=
 cb ⟨((eK Tryz.prog).F2 [151,152,153,155,156,157]),aO,tabC [(107,y7 n),(108,B9 n),(253,Ca n),(246,Cb n),(242,px n),(238,Cd n),(233,Ce n),(226,Cf n),(254,sf n),(247,tS n),(243,zg n),(239,zh n),(234,zi n),(227,sh n),(252,Hm n),(245,Hn n),(241,Ho n),(237,Hp n),(232,Hq n),(225,Hr n)],n,[],ck [(2,⟨[sp 1,sp 2,ao 36,ao 37],[aY 1 8,aY 2 2],[]⟩),(13,⟨[sp 1,sp 2,ao 93,ao 94],[aY 1 8,aY 2 2],[]⟩),(16,⟨[sp 1,sp 2,ao 9,ao 93,ao 94,ao 98,ao 99],[aY 1 8,aY 2 2],[]⟩)],ck [],ck [(0,⟨[sp 1,sp 2],[aY 1 8,aY 2 2],[]⟩),(2,⟨[sp 2],[aY 2 2],[]⟩),(3,⟨[sp 1,sp 2,ao 93,ao 94],[aY 1 8,aY 2 2],[]⟩),(4,⟨[sp 1,sp 2,ao 93,ao 94],[aY 1 8,aY 2 2],[]⟩)],fs [],tabH [],fz [],ft []⟩ ((tok _).F2 _) (a1 (ajm n) (a1 (ajp n) (a1 (ajq n) (a1 (ajr n) (a1 (ajs n) (a1 (ajt n) (a1 (aju n) (a1 (ajv n) (a1 (aka n) (a1 (akl n) (a1 (akm n) (a1 (akn n) (a1 (aks n) (a1 (akF n) (a1 (akG n) (a1 (akH n) (a1 (akI n) (a1 (akJ n) (a1 (akK n) (a1 (akL n) aP)))))))))))))))))))) aq mixed rfl Tryz.func64 (by kernel_rfl) (by kernel_rfl) (fun _=>by kernel_rfl)
theorem akN(n:Nat):a5 aN aO 109 (nD n):=
 dx (bw n [(114,kz n)] [(2,⟨[ao 1,cI 4 5000,ao 11,ao 12,ao 13],[b8 5000 4],[.slot 4 5000 4]⟩)] [] [(0,⟨[cI 4 5000],[b8 5000 4],[]⟩)]) (tok _) (a1 (H4 n) aP) aq mixed rfl Tryz.func109 (by kernel_rfl) (by kernel_rfl) (fun _ _=>by kernel_rfl)
theorem akO(n:Nat):a5 aN aO 110 (wK n):=
 dx (bw n [(114,kz n)] [(2,⟨[ao 1,cI 4 5000,ao 11,ao 12,ao 13],[b8 5000 5],[.slot 4 5000 5]⟩)] [] [(0,⟨[cI 4 5000],[b8 5000 5],[]⟩)]) (tok _) (a1 (H4 n) aP) aq mixed rfl Tryz.func110 (by kernel_rfl) (by kernel_rfl) (fun _ _=>by kernel_rfl)
theorem akP(wL:List D→Option (List D))(n:Nat)(akQ:eP aN aO xE wL):eP aN aO xE (qW wL n):=
 mK ⟨eK aN,aO,tabC [(114,kz n)],n,[10000,10001],ck [(8,⟨[(2,.b (.ptr 10001 0)),sp 3,sp 4,cI 8 5000,ao 32,ao 33,ao 34],[(10001,.box [.fn (.func GP) [] [.ptr 10000 0,.ptr 10001 0]]),aY 3 6,aY 4 6,b8 5000 6,aY 10000 1],[.slot 8 5000 6]⟩)],ck [],ck [(0,⟨[sp 3,sp 4,cI 8 5000],[aY 3 6,aY 4 6,b8 5000 6,aY 10000 1,(10001,.box [.fn (.func GP) [] [.ptr 10000 0,.ptr 10001 0]])],[]⟩)],fs [],tabH [(41,⟨xE,wL,6020,[]⟩)],fz [20004],ft []⟩ (tok _) (a1 (H4 n) aP) (bp akQ aq) mixed Tryz.func113 (by kernel_rfl) (by kernel_rfl) (by kernel_rfl) [] fun _=>by kernel_rfl
theorem U6:∀n,eP aN aO xE (nE n)
 |0=>tJ (s:=xE) (tI (T:=eK aN) (os:=fun _=>none) Tryz.func113 (by kernel_rfl)) (fun _=>rfl)
 |n+1=>by
  have ih:=U6 n
  exact akP (nE n) n ih
theorem akR(n:Nat):eP aN aO xE (nE n):=(U6 n)
theorem U7(n:Nat):a5 aN aO 67 (si n):=
 dx ⟨eK aN,aO,tabC [(42,nB n)],n,[],ck [],ck [],ck [],fs [],tabH [(17,⟨xE,nE n,6010,[]⟩)],fz [],ft []⟩ (tok _) (a1 (Ea n) aP) (bp (akR n) aq) mixed rfl Tryz.func67 (by kernel_rfl) (by kernel_rfl) (fun _ _=>by kernel_rfl)
theorem akS(n:Nat):a5 aN aO 111 (wM n):=
 dx (bw n [(67,si n)] [(2,⟨[ao 1,cI 4 5000,ao 11,ao 12,ao 13],[b8 5000 7],[.slot 4 5000 7]⟩)] [] [(0,⟨[cI 4 5000],[b8 5000 7],[]⟩)]) (tok _) (a1 (U7 n) aP) aq mixed rfl Tryz.func111 (by kernel_rfl) (by kernel_rfl) (fun _ _=>by kernel_rfl)
theorem akT(n:Nat):a5 aN aO 65 (C7 n):=
 cb ⟨eK aN,aO,tabC [(109,nD n),(110,wK n),(111,wM n)],n,[],ck [],ck [],ck [],fs [(4,[1,2,0,3,4,5,6,7]),(7,[1,2,0,3,4,5,6,7]),(10,[1,2,0,3,4,5,6,7]),(13,[1,2,0,3,4,5,6,7]),(16,[1,2,0,3,4,5,6,7]),(19,[1,2,0,3,4,5,6,7])],tabH [],fz [],ft []⟩ (tok _) (a1 (akN n) (a1 (akO n) (a1 (akS n) aP))) aq mixed rfl Tryz.func65 (by kernel_rfl) (by kernel_rfl) (fun _=>by kernel_rfl)
theorem H5(n:Nat):a5 aN aO 31 (nG n):=
 cb (bw n [(64,ov n),(65,C7 n)] [] [] []) (tok _) (a1 (akM n) (a1 (akT n) aP)) aq mixed rfl Tryz.func31 (by kernel_rfl) (by kernel_rfl) (fun _=>by kernel_rfl)
theorem akU(n:Nat):a5 aN aO 80 (zl n):=
 dx (bw n [] [(4,⟨[ao 1,ao 16,ao 17,ao 18],[],[]⟩)] [(28000008,⟨[ao 1,ao 5,ao 7,ao 8,ao 16,ao 17,ao 18],[],[]⟩)] [(0,⟨[],[],[]⟩)]) (tok _) aP aq mixed rfl Tryz.func80 (by kernel_rfl) (by kernel_rfl) (fun _ _=>by kernel_rfl)
theorem U8(n:Nat):a5 aN aO 149 (nH n):=
 cb (bw n [] [] [] []) (tok _) aP aq mixed rfl Tryz.func149 (by kernel_rfl) (by kernel_rfl) (fun _=>by kernel_rfl)
theorem akV(n:Nat):a5 aN aO 186 (C9 n):=
 dx (bw n [] [] [] []) (tok _) aP aq mixed rfl Tryz.func186 (by kernel_rfl) (by kernel_rfl) (fun _ _=>by kernel_rfl)
theorem U9(n:Nat):a5 aN aO 150 (qX n):=
 dx (bw n [(186,C9 n)] [] [] []) (tok _) (a1 (akV n) aP) aq mixed rfl Tryz.func150 (by kernel_rfl) (by kernel_rfl) (fun _ _=>by kernel_rfl)
theorem akW(n:Nat):a5 aN aO 202 (wO n):=
 cb (bw n [] [] [] []) (tok _) aP aq mixed rfl Tryz.func202 (by kernel_rfl) (by kernel_rfl) (fun _=>by kernel_rfl)
theorem akX(n:Nat):a5 aN aO 201 (Hw n):=
 dx (bw n [] [] [] []) (tok _) aP aq mixed rfl Tryz.func201 (by kernel_rfl) (by kernel_rfl) (fun _ _=>by kernel_rfl)
theorem akY(n:Nat):a5 aN aO 187 (tT n):=
 dx (bw n [(202,wO n),(201,Hw n)] [] [] []) (tok _) (a1 (akW n) (a1 (akX n) aP)) aq mixed rfl Tryz.func187 (by kernel_rfl) (by kernel_rfl) (fun _ _=>by kernel_rfl)
theorem akZ(n:Nat):a5 aN aO 151 (ij n):=
 dx (bw n [(149,nH n),(150,qX n),(187,tT n)] [(29,⟨[ao 1,sp 2,ao 6,ao 147,ao 148,ao 149],[aY 2 4],[]⟩)] [(35007000,⟨[ao 1,sp 2,ao 10,ao 35],[aY 2 4],[]⟩)] [(1,⟨[ao 1,sp 2,ao 6],[aY 2 4],[]⟩)]) (tok _) (a1 (U8 n) (a1 (U9 n) (a1 (akY n) aP))) aq mixed rfl Tryz.func151 (by kernel_rfl) (by kernel_rfl) (fun _ _=>by kernel_rfl)
theorem ak0(wU:List D→Option (List D))(n:Nat)(ak1:eP aN aO xF wU):eP aN aO xF (sl wU n):=
 mK ⟨eK aN,aO,tabC [(149,nH n),(150,qX n),(151,ij n)],n,[10000,10001,10002,10003,10004],ck [(3,⟨[(1,.b (.ptr 10000 0)),(2,.b (.ptr 10001 0)),(3,.b (.ptr 10002 0)),(4,.b (.ptr 10003 0)),(5,.b (.ptr 10004 0)),sp 6,cI 9 5000,ao 17,ao 18,ao 19],[(10000,.box [.fn (.func vJ) [] [.ptr 10000 0,.ptr 10001 0,.ptr 10002 0,.ptr 10003 0,.ptr 10004 0]]),aY 10001 1,aY 10002 1,aY 10003 1,aY 10004 1,aY 6 4,b8 5000 1],[.slot 9 5000 1]⟩)],ck [(43013000,⟨[(2,.b (.ptr 10001 0)),(3,.b (.ptr 10002 0)),(4,.b (.ptr 10003 0)),(5,.b (.ptr 10004 0)),sp 6,cI 9 5000,ao 37,ao 43],[aY 10001 1,aY 10002 1,aY 10003 1,aY 10004 1,aY 6 4,b8 5000 1,(10000,.box [.fn (.func vJ) [] [.ptr 10000 0,.ptr 10001 0,.ptr 10002 0,.ptr 10003 0,.ptr 10004 0]])],[]⟩),(48016000,⟨[(2,.b (.ptr 10001 0)),(3,.b (.ptr 10002 0)),(4,.b (.ptr 10003 0)),(5,.b (.ptr 10004 0)),sp 6,cI 9 5000,ao 48],[aY 10001 1,aY 10002 1,aY 10003 1,aY 10004 1,aY 6 4,b8 5000 1,(10000,.box [.fn (.func vJ) [] [.ptr 10000 0,.ptr 10001 0,.ptr 10002 0,.ptr 10003 0,.ptr 10004 0]])],[]⟩),(58000019,⟨[(5,.b (.ptr 10004 0)),ao 14,ao 15],[aY 10004 1,(10000,.box [.fn (.func vJ) [] [.ptr 10000 0,.ptr 10001 0,.ptr 10002 0,.ptr 10003 0,.ptr 10004 0]]),aY 10001 1,aY 10002 1,aY 10003 1],[]⟩)],ck [(0,⟨[(2,.b (.ptr 10001 0)),(3,.b (.ptr 10002 0)),(4,.b (.ptr 10003 0)),(5,.b (.ptr 10004 0)),sp 6,cI 9 5000],[aY 10001 1,aY 10002 1,aY 10003 1,aY 10004 1,aY 6 4,b8 5000 1,(10000,.box [.fn (.func vJ) [] [.ptr 10000 0,.ptr 10001 0,.ptr 10002 0,.ptr 10003 0,.ptr 10004 0]])],[]⟩)],fs [],tabH [(26,⟨xF,wU,6020,[]⟩)],fz [],ft []⟩ (tok _) (a1 (U8 n) (a1 (U9 n) (a1 (akZ n) aP))) (bp ak1 aq) mixed Tryz.func148 (by kernel_rfl) (by kernel_rfl) (by kernel_rfl) [] fun _=>by kernel_rfl
theorem Va:∀n,eP aN aO xF (sm n)
 |0=>tJ (s:=xF) (tI (T:=eK aN) (os:=fun _=>none) Tryz.func148 (by kernel_rfl)) (fun _=>rfl)
 |n+1=>by
  have ih:=Va n
  exact ak0 (sm n) n ih
theorem ak2(n:Nat):eP aN aO xF (sm n):=(Va n)
theorem Vb(n:Nat):a5 aN aO 102 (pJ n):=
 tK ⟨eK aN,aO,tabC [(115,qT n),(147,wh n)],n,[],ck [],ck [],ck [],fs [],tabH [(34,⟨xF,sm n,6010,[]⟩)],fz [],ft []⟩ (tok _) (a1 (NB n) (a1 (U1 n) aP)) (bp (ak2 n) aq) mixed rfl Tryz.func102 (by kernel_rfl) (by kernel_rfl) (fun _ _ _ _=>by kernel_rfl)
theorem ND(n:Nat):a5 aN aO 73 (pK n):=
 tK (bw n [(102,pJ n)] [] [] []) (tok _) (a1 (Vb n) aP) aq mixed rfl Tryz.func73 (by kernel_rfl) (by kernel_rfl) (fun _ _ _ _=>by kernel_rfl)
theorem ak3(n:Nat)(ab:D)(cJ:List D)(ht:List D)(tW:List D){r:D}(h:Hy n ab cJ ht tW=some r):dq aN aO 101 [ab,.ref cJ 0,.ref ht 0,.ref tW 0] (·=r):=
 dz (bw n [(73,pK n)] [] [] []) (tok _) (a1 (ND n) aP) aq mixed rfl Tryz.func101 (by kernel_rfl) (bu (lS mJ (lS mJ (lS mJ le_nil)))) (by kernel_rfl) (by kernel_rfl) h
theorem ak4(n:Nat):a5 aN aO 101 (Di n):=by
 intro aD r h
 unfold Di at h
 split at h
 case h_2=>cases h
 split at h
 case h_2=>cases h
 split at h
 case h_2=>cases h
 split at h
 case h_2=>cases h
 exact ak3 n _ _ _ _ h
theorem ak5(n:Nat)(ab:D)(b5:D)(nI:D)(nJ:D){r:D}(h:Dk n ab b5 nI nJ=some r):dq aN aO 146 [ab,(D.fn (.func pk) [] [b5,nI,nJ])] (·=r):=
 dz (bw n [(101,Di n)] [(2,⟨[ao 0,(1,.b (.fd pk 3)),ao 7,ao 8],[],[]⟩)] [] [(0,⟨[],[],[]⟩)]) (tok _) (a1 (ak4 n) aP) aq mixed rfl Tryz.func146 (by kernel_rfl) (bu (bu le_nil)) (by kernel_rfl) (by kernel_rfl) h
theorem ak6(n:Nat):a5 aN aO 146 (wV n):=by
 intro aD r h
 unfold wV at h
 split at h
 case h_2=>cases h
 split at h
 case h_2=>cases h
 rename_i aj
 obtain rfl:=jY aj
 exact ak5 n _ _ _ _ h
theorem ak7(n:Nat)(ab:D)(b5:D)(nI:D)(nJ:D){r:D}(h:Hz n ab b5 nI nJ=some r):dq aN aO 100 [ab,(D.fn (.func pk) [] [b5,nI,nJ])] (·=r):=
 dz (bw n [(146,wV n)] [] [] []) (tok _) (a1 (ak6 n) aP) aq mixed rfl Tryz.func100 (by kernel_rfl) (bu (bu le_nil)) (by kernel_rfl) (by kernel_rfl) h
theorem ak8(n:Nat):a5 aN aO 100 (wW n):=by
 intro aD r h
 unfold wW at h
 split at h
 case h_2=>cases h
 split at h
 case h_2=>cases h
 rename_i aj
 obtain rfl:=jY aj
 exact ak7 n _ _ _ _ h
theorem Vc(n:Nat):a5 aN aO 53 (wX n):=
 tK (bw n [(100,wW n)] [] [] []) (tok _) (a1 (ak8 n) aP) aq mixed rfl Tryz.func53 (by kernel_rfl) (by kernel_rfl) (fun _ _ _ _=>by kernel_rfl)
theorem H6(n:Nat):a5 aN aO 43 (nK n):=
 dx (bw n [(80,zl n),(53,wX n)] [] [] []) (tok _) (a1 (akU n) (a1 (Vc n) aP)) aq mixed rfl Tryz.func43 (by kernel_rfl) (by kernel_rfl) (fun _ _=>by kernel_rfl)
theorem ak9(n:Nat):a5 aN aO 132 (MR n):=
 cb (bw n [] [(3,⟨[ao 0,ao 11,ao 12],[],[]⟩)] [] [(0,⟨[ao 0],[],[]⟩)]) (tok _) aP aq mixed rfl Tryz.func132 (by kernel_rfl) (by kernel_rfl) (fun _=>by kernel_rfl)
theorem ala(lW:List D→Option D)(nL:List D→Option D)(n:Nat)(ab:D)(ag:D)(ht:List D)(Vd:a5 aN aO 131 lW)(NF:a5 aN aO 87 nL){r:D}(h:T1 lW nL n ab ag ht=some r):dq aN aO 131 [ab,ag,.ref ht 0] (·=r):=
 dz ⟨eK aN,aO,tabC [(87,nL)],n,[],ck [(3,⟨[ao 1,sp 5,sp 6,ao 12,ao 13,ao 14],[aY 5 6,(6,.box [.b (.d),.b (.d),.b (.d),.b (.d),.b (.d),.b (.row 5000)]),b8 5000 6],[.box 6 5 5000 6]⟩)],ck [],ck [(0,⟨[sp 5,sp 6],[aY 5 6,(6,.box [.b (.d),.b (.d),.b (.d),.b (.d),.b (.d),.b (.row 5000)]),b8 5000 6],[]⟩)],fs [],tabH [],fz [20005],ft []⟩ (tok _) (a1 NF aP) aq mixed rfl Tryz.func131 (by kernel_rfl) (bu (bu (lS mJ le_nil))) (by kernel_rfl) (by kernel_rfl) h
theorem alb(lW:List D→Option D)(nL:List D→Option D)(n:Nat)(ab:D)(ag:D)(Vd:a5 aN aO 131 lW)(NF:a5 aN aO 87 nL){r:D}(h:T2 lW nL n ab ag=some r):dq aN aO 87 [ab,ag] (·=r):=
 dz ⟨eK aN,aO,tabC [(87,nL),(131,lW),(132,MR n)],n,[],ck [],ck [(67000015,⟨[sp 4,sp 6],[aY 4 6,aY 6 6],[]⟩)],ck [],fs [],tabH [],fz [20004,45,52,66,20006,79,84],ft []⟩ (tok _) (a1 NF (a1 Vd (a1 (ak9 n) aP))) aq mixed rfl Tryz.func87 (by kernel_rfl) (bu (bu le_nil)) (by kernel_rfl) (by kernel_rfl) h
theorem Ve:∀n,a5 aN aO 131 (zp n)∧a5 aN aO 87 (sn n)
 |0=>⟨(fun _ _ h=>by cases h),(fun _ _ h=>by cases h)⟩
 |n+1=>by
  have ih:=Ve n
  exact ⟨(by
   intro aD r h
   unfold zp at h
   split at h
   case h_2=>cases h
   split at h
   case h_2=>cases h
   exact ala (zp n) (sn n) n _ _ _ ih.1 ih.2 h),(by
   intro aD r h
   unfold sn at h
   split at h
   case h_2=>cases h
   exact alb (zp n) (sn n) n _ _ ih.1 ih.2 h)⟩
theorem alc(n:Nat):a5 aN aO 87 (sn n):=(Ve n).2
theorem Vf(n:Nat):a5 aN aO 45 (zq n):=
 dx (bw n [(42,nB n),(87,sn n)] [] [] []) (tok _) (a1 (Ea n) (a1 (alc n) aP)) aq mixed rfl Tryz.func45 (by kernel_rfl) (by kernel_rfl) (fun _ _=>by kernel_rfl)
theorem ald(n:Nat):a5 aN aO 81 (MS n):=
 cb (bw n [] [] [(11009000,⟨[sp 1,ao 4,ao 11],[aY 1 6],[]⟩),(11010000,⟨[sp 1,ao 4,ao 11],[aY 1 6],[]⟩),(11011000,⟨[sp 1,ao 4,ao 11],[aY 1 6],[]⟩),(16014000,⟨[sp 1,ao 4,ao 16],[aY 1 6],[]⟩),(16015000,⟨[sp 1,ao 4,ao 16],[aY 1 6],[]⟩),(16016000,⟨[sp 1,ao 4,ao 16],[aY 1 6],[]⟩),(21000019,⟨[],[],[]⟩),(23020000,⟨[],[],[]⟩)] [(0,⟨[],[],[]⟩),(1,⟨[],[],[]⟩)]) (tok _) aP aq mixed rfl Tryz.func81 (by kernel_rfl) (by kernel_rfl) (fun _=>by kernel_rfl)
theorem Vg(n:Nat):a5 aN aO 82 (zr n):=
 dx (bw n [] [(4,⟨[ao 0,ao 1,ao 12,ao 13],[],[]⟩)] [] [(0,⟨[],[],[]⟩)]) (tok _) aP aq mixed rfl Tryz.func82 (by kernel_rfl) (by kernel_rfl) (fun _ _=>by kernel_rfl)
theorem ale(wZ:List D→Option D)(n:Nat)(ab:D)(ag:D)(alf:a5 aN aO 126 wZ){r:D}(h:T3 wZ n ab ag=some r):dq aN aO 126 [ab,ag] (·=r):=
 dz (bw n [(126,wZ)] [(4,⟨[sp 3,ao 36,ao 37,ao 38],[aY 3 4],[]⟩)] [] [(0,⟨[],[],[]⟩)]) (tok _) (a1 alf aP) aq mixed rfl Tryz.func126 (by kernel_rfl) (bu (bu le_nil)) (by kernel_rfl) (by kernel_rfl) h
theorem Vh:∀n,a5 aN aO 126 (w2 n)
 |0=>(fun _ _ h=>by cases h)
 |n+1=>by
  have ih:=Vh n
  exact (by
   intro aD r h
   unfold w2 at h
   split at h
   case h_2=>cases h
   exact ale (w2 n) n _ _ ih h)
theorem alg(n:Nat):a5 aN aO 126 (w2 n):=(Vh n)
theorem alh(pL:List D→Option D)(pM:List D→Option D)(n:Nat)(ab:D)(ag:D)(Vi:a5 aN aO 127 pL)(Vj:a5 aN aO 83 pM){r:D}(h:T4 pL pM n ab ag=some r):dq aN aO 127 [ab,ag,(D.val (.func (.func GN) #[] #[]))] (·=r):=
 dz (bw n [(83,pM)] [(4,⟨[ao 1,(2,.b (.Bk GN)),ao 15,ao 16,ao 17],[],[]⟩)] [] [(0,⟨[],[],[]⟩)]) (tok _) (a1 Vj aP) aq mixed rfl Tryz.func127 (by kernel_rfl) (bu (bu (bu le_nil))) (by kernel_rfl) (by kernel_rfl) h
theorem ali(pL:List D→Option D)(pM:List D→Option D)(n:Nat)(ab:D)(ag:D)(Vi:a5 aN aO 127 pL)(Vj:a5 aN aO 83 pM){r:D}(h:T5 pL pM n ab ag=some r):dq aN aO 83 [ab,ag] (·=r):=
 dz (bw n [(126,w2 n),(127,pL)] [] [] []) (tok _) (a1 (alg n) (a1 Vi aP)) aq mixed rfl Tryz.func83 (by kernel_rfl) (bu (bu le_nil)) (by kernel_rfl) (by kernel_rfl) h
theorem Vk:∀n,a5 aN aO 127 (zs n)∧a5 aN aO 83 (pN n)
 |0=>⟨(fun _ _ h=>by cases h),(fun _ _ h=>by cases h)⟩
 |n+1=>by
  have ih:=Vk n
  exact ⟨(by
   intro aD r h
   unfold zs at h
   split at h
   case h_2=>cases h
   obtain ⟨aj,h⟩:=kr h
   obtain rfl:=Ls aj
   exact alh (zs n) (pN n) n _ _ ih.1 ih.2 h),(by
   intro aD r h
   unfold pN at h
   split at h
   case h_2=>cases h
   exact ali (zs n) (pN n) n _ _ ih.1 ih.2 h)⟩
theorem Vl(n:Nat):a5 aN aO 83 (pN n):=(Vk n).2
theorem alj(n:Nat)(ab:D)(cJ:List D){r:D}(h:T6 n ab cJ=some r):dq aN aO 104 [ab,.ref cJ 0] (·=r):=
 dz (bw n [] [] [] []) (tok _) aP aq mixed rfl Tryz.func104 (by kernel_rfl) (bu (lS mJ le_nil)) (by kernel_rfl) (by kernel_rfl) h
theorem alk(n:Nat):a5 aN aO 104 (HA n):=by
 intro aD r h
 unfold HA at h
 split at h
 case h_2=>cases h
 split at h
 case h_2=>cases h
 exact alj n _ _ h
theorem alm(n:Nat)(ab:D)(b5:D){r:D}(h:T7 n ab b5=some r):dq aN aO 103 [ab,(D.fn (.func GO) [] [b5])] (·=r):=
 dz (bw n [(104,HA n)] [(2,⟨[ao 0,(1,.b (.fd GO 1)),ao 7,ao 8],[],[]⟩)] [] [(0,⟨[],[],[]⟩)]) (tok _) (a1 (alk n) aP) aq mixed rfl Tryz.func103 (by kernel_rfl) (bu (bu le_nil)) (by kernel_rfl) (by kernel_rfl) h
theorem aln(n:Nat):a5 aN aO 103 (HB n):=by
 intro aD r h
 unfold HB at h
 split at h
 case h_2=>cases h
 split at h
 case h_2=>cases h
 rename_i aj
 obtain rfl:=jY aj
 exact alm n _ _ h
theorem Vm(n:Nat):a5 aN aO 55 (zt n):=
 g2 (bw n [(43,nK n),(102,pJ n),(103,HB n),(53,wX n)] [(4,⟨[ao 1,ao 2,sp 3,ao 24,ao 25,ao 26],[aY 3 9],[]⟩)] [] [(0,⟨[ao 1,ao 2,sp 3],[aY 3 9],[]⟩)]) (tok _) (a1 (H6 n) (a1 (Vb n) (a1 (aln n) (a1 (Vc n) aP)))) aq mixed rfl Tryz.func55 (by kernel_rfl) (by kernel_rfl) (fun _ _ _=>by kernel_rfl)
theorem Vn(n:Nat):a5 aN aO 38 (Dp n):=
 g2 (bw n [(43,nK n),(55,zt n),(73,pK n)] [(4,⟨[ao 1,ao 2,sp 3,ao 7],[aY 3 9],[]⟩),(11,⟨[ao 1,ao 2,sp 3,ao 61,ao 62,ao 63],[aY 3 9],[]⟩),(14,⟨[ao 1,ao 2,sp 3,sp 9,ao 61,ao 62,ao 63,ao 69,ao 70,ao 71],[aY 3 9,aY 9 4],[]⟩)] [] [(0,⟨[ao 1,ao 2,sp 3],[aY 3 9],[]⟩),(2,⟨[],[],[]⟩),(3,⟨[ao 1,ao 2,sp 3,ao 61,ao 62,ao 63],[aY 3 9],[]⟩),(4,⟨[],[],[]⟩)]) (tok _) (a1 (H6 n) (a1 (Vm n) (a1 (ND n) aP))) aq mixed rfl Tryz.func38 (by kernel_rfl) (by kernel_rfl) (fun _ _ _=>by kernel_rfl)
theorem alo(n:Nat):a5 aN aO 112 (HC n):=
 dx (bw n [] [] [] []) (tok _) aP aq mixed rfl Tryz.func112 (by kernel_rfl) (by kernel_rfl) (fun _ _=>by kernel_rfl)
theorem alp(w5:List D→Option D)(n:Nat)(ab:D)(ag:D)(alq:a5 aN aO 76 w5){r:D}(h:zu w5 n ab ag=some r):dq aN aO 76 [ab,ag,(D.val (.func (.func qF) #[] #[]))] (·=r):=
 dz (bw n [(112,HC n),(76,w5)] [(4,⟨[ao 1,(2,.b (.Bk qF)),ao 15,ao 16,ao 17],[],[]⟩)] [] [(0,⟨[],[],[]⟩)]) (tok _) (a1 (alo n) (a1 alq aP)) aq mixed rfl Tryz.func76 (by kernel_rfl) (bu (bu (bu le_nil))) (by kernel_rfl) (by kernel_rfl) h
theorem Vo:∀n,a5 aN aO 76 (qY n)
 |0=>(fun _ _ h=>by cases h)
 |n+1=>by
  have ih:=Vo n
  exact (by
   intro aD r h
   unfold qY at h
   split at h
   case h_2=>cases h
   obtain ⟨aj,h⟩:=kr h
   obtain rfl:=Ls aj
   exact alp (qY n) n _ _ ih h)
theorem alr(n:Nat):a5 aN aO 76 (qY n):=(Vo n)
theorem als(n:Nat):a5 aN aO 66 (Dr n):=
 cb (bw n [(76,qY n)] [] [] []) (tok _) (a1 (alr n) aP) aq mixed rfl Tryz.func66 (by kernel_rfl) (by kernel_rfl) (fun _=>by kernel_rfl)
theorem alu(j5:List D→Option D)(j6:List D→Option D)(j7:List D→Option D)(j8:List D→Option D)(n:Nat)(ab:D)(cJ:List D)(H7:a5 aN aO 117 j5)(H8:a5 aN aO 165 j6)(H9:a5 aN aO 116 j7)(Ia:a5 aN aO 68 j8){r:D}(h:HD j5 j6 j7 j8 n ab cJ=some r):dq aN aO 117 [ab,.ref cJ 0] (·=r):=
 dz (bw n [(68,j8)] [] [] []) (tok _) (a1 Ia aP) aq mixed rfl Tryz.func117 (by kernel_rfl) (bu (lS mJ le_nil)) (by kernel_rfl) (by kernel_rfl) h
theorem alv(j5:List D→Option D)(j6:List D→Option D)(j7:List D→Option D)(j8:List D→Option D)(n:Nat)(ab:D)(b5:D)(H7:a5 aN aO 117 j5)(H8:a5 aN aO 165 j6)(H9:a5 aN aO 116 j7)(Ia:a5 aN aO 68 j8){r:D}(h:Ds j5 j6 j7 j8 n ab b5=some r):dq aN aO 165 [ab,(D.fn (.func pn) [] [b5])] (·=r):=
 dz (bw n [(117,j5)] [(2,⟨[ao 0,(1,.b (.fd pn 1)),ao 7,ao 8],[],[]⟩)] [] [(0,⟨[],[],[]⟩)]) (tok _) (a1 H7 aP) aq mixed rfl Tryz.func165 (by kernel_rfl) (bu (bu le_nil)) (by kernel_rfl) (by kernel_rfl) h
theorem alw(j5:List D→Option D)(j6:List D→Option D)(j7:List D→Option D)(j8:List D→Option D)(n:Nat)(ab:D)(b5:D)(H7:a5 aN aO 117 j5)(H8:a5 aN aO 165 j6)(H9:a5 aN aO 116 j7)(Ia:a5 aN aO 68 j8){r:D}(h:HE j5 j6 j7 j8 n ab b5=some r):dq aN aO 116 [ab,(D.fn (.func pn) [] [b5])] (·=r):=
 dz (bw n [(165,j6)] [] [] []) (tok _) (a1 H8 aP) aq mixed rfl Tryz.func116 (by kernel_rfl) (bu (bu le_nil)) (by kernel_rfl) (by kernel_rfl) h
theorem alx(j5:List D→Option D)(j6:List D→Option D)(j7:List D→Option D)(j8:List D→Option D)(n:Nat)(ab:D)(ag:D)(H7:a5 aN aO 117 j5)(H8:a5 aN aO 165 j6)(H9:a5 aN aO 116 j7)(Ia:a5 aN aO 68 j8){r:D}(h:zw j5 j6 j7 j8 n ab ag=some r):dq aN aO 68 [ab,ag] (·=r):=
 dz (bw n [(115,qT n),(116,j7)] [] [] []) (tok _) (a1 (NB n) (a1 H9 aP)) aq mixed rfl Tryz.func68 (by kernel_rfl) (bu (bu le_nil)) (by kernel_rfl) (by kernel_rfl) h
theorem Vp:∀n,a5 aN aO 117 (lX n)∧a5 aN aO 165 (kB n)∧a5 aN aO 116 (kC n)∧a5 aN aO 68 (j9 n)
 |0=>⟨(fun _ _ h=>by cases h),(fun _ _ h=>by cases h),(fun _ _ h=>by cases h),(fun _ _ h=>by cases h)⟩
 |n+1=>by
  have ih:=Vp n
  exact ⟨(by
   intro aD r h
   unfold lX at h
   split at h
   case h_2=>cases h
   split at h
   case h_2=>cases h
   exact alu (lX n) (kB n) (kC n) (j9 n) n _ _ ih.1 ih.2.1 ih.2.2.1 ih.2.2.2 h),(by
   intro aD r h
   unfold kB at h
   split at h
   case h_2=>cases h
   split at h
   case h_2=>cases h
   rename_i aj
   obtain rfl:=jY aj
   exact alv (lX n) (kB n) (kC n) (j9 n) n _ _ ih.1 ih.2.1 ih.2.2.1 ih.2.2.2 h),(by
   intro aD r h
   unfold kC at h
   split at h
   case h_2=>cases h
   split at h
   case h_2=>cases h
   rename_i aj
   obtain rfl:=jY aj
   exact alw (lX n) (kB n) (kC n) (j9 n) n _ _ ih.1 ih.2.1 ih.2.2.1 ih.2.2.2 h),(by
   intro aD r h
   unfold j9 at h
   split at h
   case h_2=>cases h
   exact alx (lX n) (kB n) (kC n) (j9 n) n _ _ ih.1 ih.2.1 ih.2.2.1 ih.2.2.2 h)⟩
theorem aly(n:Nat):a5 aN aO 68 (j9 n):=(Vp n).2.2.2
theorem alz(pO:List D→Option D)(n:Nat)(ab:D)(ag:D)(aS:D)(alA:a5 aN aO 69 pO){r:D}(h:tX pO n ab ag aS=some r):dq aN aO 69 [ab,ag,aS] (·=r):=
 dz (bw n [(73,pK n),(69,pO)] [] [] []) (tok _) (a1 (ND n) (a1 alA aP)) aq mixed rfl Tryz.func69 (by kernel_rfl) (bu (bu (bu le_nil))) (by kernel_rfl) (by kernel_rfl) h
theorem Vq:∀n,a5 aN aO 69 (qZ n)
 |0=>(fun _ _ h=>by cases h)
 |n+1=>by
  have ih:=Vq n
  exact (by
   intro aD r h
   unfold qZ at h
   split at h
   case h_2=>cases h
   exact alz (qZ n) n _ _ _ ih h)
theorem alB(n:Nat):a5 aN aO 69 (qZ n):=(Vq n)
theorem Vr(n:Nat):a5 aN aO 32 (nM n):=
 g2 (bw n [(42,nB n),(66,Dr n),(43,nK n),(67,si n),(68,j9 n),(69,qZ n)] [] [] []) (tok _) (a1 (Ea n) (a1 (als n) (a1 (H6 n) (a1 (U7 n) (a1 (aly n) (a1 (alB n) aP)))))) aq mixed rfl Tryz.func32 (by kernel_rfl) (by kernel_rfl) (fun _ _ _=>by kernel_rfl)
theorem alC(n:Nat):a5 aN aO 128 (MW n):=
 g2 (bw n [(32,nM n)] [] [] []) (tok _) (a1 (Vr n) aP) aq mixed rfl Tryz.func128 (by kernel_rfl) (by kernel_rfl) (fun _ _ _=>by kernel_rfl)
theorem Ib(n:Nat):eP aN aO D9 (so n):=
 mK ⟨eK aN,aO,tabC [],n,[10000,10001],ck [(2,⟨[(3,.b (.ptr 10001 0)),sp 4,ao 11,ao 12,ao 13],[(10001,.box [.b (.row 9000)]),aY 4 6,aY 10000 12,b8 9000 7],[]⟩)],ck [],ck [(0,⟨[],[aY 10000 12,(10001,.box [.b (.row 9000)]),b8 9000 7],[]⟩)],fs [],tabH [],fz [],ft []⟩ (tok _) aP aq mixed Tryz.func181 (by kernel_rfl) (by kernel_rfl) (by kernel_rfl) [] fun _=>by kernel_rfl
theorem alD(n:Nat):a5 aN aO 129 (MY n):=
 dx ⟨eK aN,aO,tabC [(45,zq n)],n,[],ck [],ck [],ck [],fs [(13,[1,2,3,4,5,6,0,7]),(14,[0,1,2,3,4,5]),(18,[1,2,3,4,5,6,0])],tabH [(69,⟨D9,so n,6010,[.box 4 0 5900 7]⟩),(85,⟨D9,so n,6020,[.box 4 0 5901 7]⟩),(117,⟨D9,so n,6030,[.box 4 0 5902 7]⟩),(126,⟨D9,so n,6040,[.box 4 0 5903 7]⟩)],fz [],ft []⟩ (tok _) (a1 (Vf n) aP) (bp (Ib n) (bp (Ib n) (bp (Ib n) (bp (Ib n) aq)))) mixed rfl Tryz.func129 (by kernel_rfl) (by kernel_rfl) (fun _ _=>by kernel_rfl)
theorem alE(n:Nat):a5 aN aO 84 (MZ n):=
 g2 ⟨(eK Tryz.prog).qt [62],aO,tabC [(128,MW n),(129,MY n)],n,[],ck [],ck [],ck [],fs [],tabH [],fz [],ft []⟩ ((tok _).qt _) (a1 (alC n) (a1 (alD n) aP)) aq mixed rfl Tryz.func84 (by kernel_rfl) (by kernel_rfl) (fun _ _ _=>by kernel_rfl)
theorem alF(n:Nat)(ab:D)(cJ:List D){r:D}(h:T9 n ab cJ=some r):dq aN aO 86 [ab,.ref cJ 0] (·=r):=
 dz (bw n [(82,zr n),(83,pN n)] [] [] []) (tok _) (a1 (Vg n) (a1 (Vl n) aP)) aq mixed rfl Tryz.func86 (by kernel_rfl) (bu (lS mJ le_nil)) (by kernel_rfl) (by kernel_rfl) h
theorem alG(n:Nat):a5 aN aO 86 (HG n):=by
 intro aD r h
 unfold HG at h
 split at h
 case h_2=>cases h
 split at h
 case h_2=>cases h
 exact alF n _ _ h
theorem alH(n:Nat)(ab:D)(b5:D){r:D}(h:Ua n ab b5=some r):dq aN aO 130 [ab,(D.fn (.func vI) [] [b5])] (·=r):=
 dz (bw n [(86,HG n)] [(2,⟨[ao 0,(1,.b (.fd vI 1)),ao 7,ao 8],[],[]⟩)] [] [(0,⟨[],[],[]⟩)]) (tok _) (a1 (alG n) aP) aq mixed rfl Tryz.func130 (by kernel_rfl) (bu (bu le_nil)) (by kernel_rfl) (by kernel_rfl) h
theorem alI(n:Nat):a5 aN aO 130 (HH n):=by
 intro aD r h
 unfold HH at h
 split at h
 case h_2=>cases h
 split at h
 case h_2=>cases h
 rename_i aj
 obtain rfl:=jY aj
 exact alH n _ _ h
theorem alJ(n:Nat)(ab:D)(b5:D){r:D}(h:Ub n ab b5=some r):dq aN aO 85 [ab,(D.fn (.func vI) [] [b5])] (·=r):=
 dz (bw n [(130,HH n)] [] [] []) (tok _) (a1 (alI n) aP) aq mixed rfl Tryz.func85 (by kernel_rfl) (bu (bu le_nil)) (by kernel_rfl) (by kernel_rfl) h
theorem alK(n:Nat):a5 aN aO 85 (HI n):=by
 intro aD r h
 unfold HI at h
 split at h
 case h_2=>cases h
 split at h
 case h_2=>cases h
 rename_i aj
 obtain rfl:=jY aj
 exact alJ n _ _ h
theorem alL(w8:List D→Option (List D))(n:Nat)(alM:eP aN aO xG w8):eP aN aO xG (Uc w8 n):=
 mK ⟨eK aN,aO,tabC [(81,MS n),(82,zr n),(83,pN n),(38,Dp n),(84,MZ n),(85,HI n)],n,[10000],ck [(11,⟨[(3,.b (.ptr 10000 0)),sp 4,sp 6,ao 108,ao 109,ao 110],[(10000,.box [.b (.row 106)]),aY 4 9,aY 6 12,b8 106 7],[]⟩)],ck [(95000009,⟨[(3,.b (.ptr 10000 0)),sp 4,sp 6,ao 9],[(10000,.box [.b (.row 106)]),aY 4 9,aY 6 12,b8 106 7],[]⟩)],ck [(0,⟨[],[(10000,.box [.b (.row 106)]),b8 106 7],[]⟩)],fs [(13,[0,1,2,3,4,5,6,7])],tabH [(123,⟨xG,w8,6010,[]⟩)],fz [],ft []⟩ (tok _) (a1 (ald n) (a1 (Vg n) (a1 (Vl n) (a1 (Vn n) (a1 (alE n) (a1 (alK n) aP)))))) (bp alM aq) mixed Tryz.func44 (by kernel_rfl) (by kernel_rfl) (by kernel_rfl) [] fun _=>by kernel_rfl
theorem Vs:∀n,eP aN aO xG (zx n)
 |0=>tJ (s:=xG) (tI (T:=eK aN) (os:=fs [(13,[0,1,2,3,4,5,6,7])]) Tryz.func44 (by kernel_rfl)) (fun _=>rfl)
 |n+1=>by
  have ih:=Vs n
  exact alL (zx n) n ih
theorem alN(n:Nat):eP aN aO xG (zx n):=(Vs n)
theorem alO(n:Nat):a5 aN aO 15 (M0 n):=
 tK ⟨eK aN,aO,tabC [(31,nG n),(42,nB n),(43,nK n),(45,zq n)],n,[],ck [],ck [],ck [],fs [(9,[0,1,5,2,3,4])],tabH [(36,⟨xG,zx n,6010,[.box 8 0 5900 7]⟩)],fz [],ft []⟩ (tok _) (a1 (H5 n) (a1 (Ea n) (a1 (H6 n) (a1 (Vf n) aP)))) (bp (alN n) aq) mixed rfl Tryz.func15 (by kernel_rfl) (by kernel_rfl) (fun _ _ _ _=>by kernel_rfl)
theorem Vt(n:Nat):a5 aN aO 10 (sr n):=
 g2 (bw n [(31,nG n),(32,nM n)] [] [] []) (tok _) (a1 (H5 n) (a1 (Vr n) aP)) aq mixed rfl Tryz.func10 (by kernel_rfl) (by kernel_rfl) (fun _ _ _=>by kernel_rfl)
theorem alP(n:Nat):a5 aN aO 23 (M3 n):=
 g2 (bw n [(31,nG n),(55,zt n)] [] [] []) (tok _) (a1 (H5 n) (a1 (Vm n) aP)) aq mixed rfl Tryz.func23 (by kernel_rfl) (by kernel_rfl) (fun _ _ _=>by kernel_rfl)
theorem alQ(n:Nat):a5 aN aO 12 (M4 n):=
 g2 (bw n [(31,nG n),(38,Dp n)] [] [] []) (tok _) (a1 (H5 n) (a1 (Vn n) aP)) aq mixed rfl Tryz.func12 (by kernel_rfl) (by kernel_rfl) (fun _ _ _=>by kernel_rfl)
theorem alR(n:Nat):a5 aN aO 9 (zy n):=
 yB ⟨eK aN,aO,tabC [(30,L6 n),(15,M0 n),(10,sr n),(23,M3 n),(12,M4 n)],n,[],ck [],ck [],ck [],fs [],tabH [],fz [16,23,27,34],ft []⟩ (tok _) (a1 (ai9 n) (a1 (alO n) (a1 (Vt n) (a1 (alP n) (a1 (alQ n) aP))))) aq mixed rfl Tryz.func9 (by kernel_rfl) (by kernel_rfl) (by kernel_rfl)
theorem Vu(n:Nat):a5 aN aO 182 (w9 n):=
 cb (bw n [] [] [] []) (tok _) aP aq mixed rfl Tryz.func182 (by kernel_rfl) (by kernel_rfl) (fun _=>by kernel_rfl)
theorem alS(n:Nat):a5 aN aO 200 (Dt n):=
 cb (bw n [] [] [] []) (tok _) aP aq mixed rfl Tryz.func200 (by kernel_rfl) (by kernel_rfl) (fun _=>by kernel_rfl)
theorem alT(n:Nat):a5 aN aO 183 (Dv n):=
 g2 (bw n [(200,Dt n),(182,w9 n)] [(1,⟨[ao 0,ao 1,ao 2],[],[]⟩)] [] [(0,⟨[ao 1],[],[]⟩)]) (tok _) (a1 (alS n) (a1 (Vu n) aP)) aq mixed rfl Tryz.func183 (by kernel_rfl) (by kernel_rfl) (fun _ _ _=>by kernel_rfl)
theorem alU(n:Nat):a5 aN aO 185 (HJ n):=
 yB (bw n [] [] [] []) (tok _) aP aq mixed rfl Tryz.func185 (by kernel_rfl) (by kernel_rfl) (by kernel_rfl)
theorem alV(n:Nat):a5 aN aO 184 (zA n):=
 dx (bw n [] [(2,⟨[ao 0,ao 1,ao 5],[],[]⟩)] [] [(0,⟨[],[],[]⟩)]) (tok _) aP aq mixed rfl Tryz.func184 (by kernel_rfl) (by kernel_rfl) (fun _ _=>by kernel_rfl)
theorem NG(n:Nat):a5 aN aO 136 (q0 n):=
 cb (bw n [(182,w9 n),(183,Dv n),(185,HJ n),(184,zA n)] [] [] []) (tok _) (a1 (Vu n) (a1 (alT n) (a1 (alU n) (a1 (alV n) aP)))) aq mixed rfl Tryz.func136 (by kernel_rfl) (by kernel_rfl) (fun _=>by kernel_rfl)
theorem alW(n:Nat):a5 aN aO 137 (zB n):=
 cb (bw n [] [] [] []) (tok _) aP aq mixed rfl Tryz.func137 (by kernel_rfl) (by kernel_rfl) (fun _=>by kernel_rfl)
theorem Vv(n:Nat):a5 aN aO 138 (xa n):=
 cb (bw n [] [] [(19000007,⟨[ao 3],[],[]⟩)] []) (tok _) aP aq mixed rfl Tryz.func138 (by kernel_rfl) (by kernel_rfl) (fun _=>by kernel_rfl)
theorem alX(n:Nat):a5 aN aO 93 (Dy n):=
 cb (bw n [(136,q0 n),(137,zB n),(138,xa n)] [(2,⟨[ao 0,ao 4],[],[]⟩),(7,⟨[ao 0,ao 4,ao 5],[],[]⟩)] [] [(0,⟨[],[],[]⟩),(1,⟨[ao 0,ao 4],[],[]⟩),(2,⟨[ao 0,ao 4],[],[]⟩)]) (tok _) (a1 (NG n) (a1 (alW n) (a1 (Vv n) aP))) aq mixed rfl Tryz.func93 (by kernel_rfl) (by kernel_rfl) (fun _=>by kernel_rfl)
theorem alY(n:Nat):a5 aN aO 139 (Dz n):=
 cb (bw n [] [(2,⟨[ao 0,ao 3],[],[]⟩)] [] [(0,⟨[ao 3],[],[]⟩)]) (tok _) aP aq mixed rfl Tryz.func139 (by kernel_rfl) (by kernel_rfl) (fun _=>by kernel_rfl)
theorem alZ(n:Nat):a5 aN aO 94 (DA n):=
 cb (bw n [(138,xa n),(139,Dz n)] [(3,⟨[sp 1,ao 3,ao 4],[aY 1 8],[]⟩)] [] [(0,⟨[ao 3],[],[]⟩)]) (tok _) (a1 (Vv n) (a1 (alY n) aP)) aq mixed rfl Tryz.func94 (by kernel_rfl) (by kernel_rfl) (fun _=>by kernel_rfl)
theorem Vw(n:Nat):a5 aN aO 140 (xc n):=
 dx (bw n [] [(2,⟨[ao 1,sp 2,ao 5],[aY 2 8],[]⟩)] [] [(0,⟨[],[],[]⟩)]) (tok _) aP aq mixed rfl Tryz.func140 (by kernel_rfl) (by kernel_rfl) (fun _ _=>by kernel_rfl)
theorem Vx(n:Nat):a5 aN aO 141 (xd n):=
 dx (bw n [] [(2,⟨[ao 1,sp 2,ao 5],[aY 2 8],[]⟩)] [] [(0,⟨[],[],[]⟩)]) (tok _) aP aq mixed rfl Tryz.func141 (by kernel_rfl) (by kernel_rfl) (fun _ _=>by kernel_rfl)
theorem al0(n:Nat):a5 aN aO 209 (DE n):=
 dx (bw n [] [(2,⟨[ao 0,ao 1,ao 5],[],[]⟩)] [] [(0,⟨[],[],[]⟩)]) (tok _) aP aq mixed rfl Tryz.func209 (by kernel_rfl) (by kernel_rfl) (fun _ _=>by kernel_rfl)
theorem al1(n:Nat):a5 aN aO 208 (xe n):=
 dx (bw n [(209,DE n)] [(6,⟨[ao 0,ao 1,cI 5 12,ao 6,ao 7],[b8 12 1],[]⟩)] [(28000009,⟨[ao 0,ao 1,cI 5 32,ao 6,ao 7],[b8 32 1],[]⟩),(41000013,⟨[cI 5 45],[b8 45 1],[]⟩)] [(0,⟨[ao 1,cI 5 12,ao 6],[b8 12 1],[]⟩)]) (tok _) (a1 (al0 n) aP) aq mixed rfl Tryz.func208 (by kernel_rfl) (by kernel_rfl) (fun _ _=>by kernel_rfl)
theorem al2(xf:List D→Option D)(n:Nat)(ab:D)(ag:D)(aS:D)(al3:a5 aN aO 195 xf){r:D}(h:DF xf n ab ag aS=some r):dq aN aO 195 [ab,ag,aS] (·=r):=
 dz (bw n [(208,xe n),(195,xf)] [(4,⟨[ao 1,ao 2,sp 3,ao 7],[aY 3 4],[]⟩)] [(11000002,⟨[ao 1,ao 2,sp 3],[aY 3 4],[]⟩)] [(0,⟨[ao 2],[],[]⟩)]) (tok _) (a1 (al1 n) (a1 al3 aP)) aq mixed rfl Tryz.func195 (by kernel_rfl) (bu (bu (bu le_nil))) (by kernel_rfl) (by kernel_rfl) h
theorem Vy:∀n,a5 aN aO 195 (pP n)
 |0=>(fun _ _ h=>by cases h)
 |n+1=>by
  have ih:=Vy n
  exact (by
   intro aD r h
   unfold pP at h
   split at h
   case h_2=>cases h
   exact al2 (pP n) n _ _ _ ih h)
theorem al4(n:Nat):a5 aN aO 195 (pP n):=(Vy n)
theorem NH(n:Nat):a5 aN aO 167 (ss n):=
 cb (bw n [(195,pP n)] [] [] []) (tok _) (a1 (al4 n) aP) aq mixed rfl Tryz.func167 (by kernel_rfl) (by kernel_rfl) (fun _=>by kernel_rfl)
theorem al5(n:Nat):a5 aN aO 142 (DG n):=
 dx (bw n [(167,ss n),(141,xd n)] [(4,⟨[sp 2,cI 5 15,cI 6 17,ao 7],[aY 2 8,b8 15 1,b8 17 1],[]⟩),(8,⟨[sp 2,cI 5 15,cI 6 17,ao 7,ao 8,ao 10],[aY 2 8,b8 15 1,b8 17 1],[]⟩)] [(57000012,⟨[sp 2,cI 5 15,cI 6 64,ao 7,ao 8,ao 10],[aY 2 8,b8 15 1,b8 64 1],[]⟩)] [(0,⟨[cI 5 15],[b8 15 1],[]⟩),(1,⟨[sp 2,cI 5 15,cI 6 17,ao 7],[aY 2 8,b8 15 1,b8 17 1],[]⟩),(2,⟨[sp 2,cI 5 15,cI 6 17,ao 7],[aY 2 8,b8 15 1,b8 17 1],[]⟩),(3,⟨[sp 2,cI 5 15,cI 6 64,ao 7,ao 8,ao 10],[aY 2 8,b8 15 1,b8 64 1],[]⟩)]) (tok _) (a1 (NH n) (a1 (Vx n) aP)) aq mixed rfl Tryz.func142 (by kernel_rfl) (by kernel_rfl) (fun _ _=>by kernel_rfl)
theorem al6(n:Nat):a5 aN aO 198 (zD n):=
 cb (bw n [] [] [(5003000,⟨[ao 0,ao 4,ao 5],[],[]⟩),(5004000,⟨[ao 0,ao 4,ao 5],[],[]⟩),(5005000,⟨[ao 0,ao 4,ao 5],[],[]⟩),(12010000,⟨[ao 0,ao 4,ao 12],[],[]⟩)] [(0,⟨[ao 0],[],[]⟩)]) (tok _) aP aq mixed rfl Tryz.func198 (by kernel_rfl) (by kernel_rfl) (fun _=>by kernel_rfl)
theorem Vz(n:Nat):a5 aN aO 175 (xh n):=
 dx (bw n [(198,zD n)] [] [(22000008,⟨[sp 2,ao 5,ao 6,ao 7,ao 8],[aY 2 4],[]⟩),(25000010,⟨[sp 2,ao 5,ao 6,ao 7,ao 8],[aY 2 4],[]⟩)] []) (tok _) (a1 (al6 n) aP) aq mixed rfl Tryz.func175 (by kernel_rfl) (by kernel_rfl) (fun _ _=>by kernel_rfl)
theorem al7(xi:List D→Option D)(n:Nat)(ab:D)(ag:D)(aS:D)(al8:a5 aN aO 169 xi){r:D}(h:M9 xi n ab ag aS=some r):dq aN aO 169 [ab,ag,aS] (·=r):=
 dz (bw n [(175,xh n),(169,xi)] [(8,⟨[ao 1,ao 2,sp 3,ao 9],[aY 3 4],[]⟩)] [] [(0,⟨[ao 2],[],[]⟩)]) (tok _) (a1 (Vz n) (a1 al8 aP)) aq mixed rfl Tryz.func169 (by kernel_rfl) (bu (bu (bu le_nil))) (by kernel_rfl) (by kernel_rfl) h
theorem VA:∀n,a5 aN aO 169 (q1 n)
 |0=>(fun _ _ h=>by cases h)
 |n+1=>by
  have ih:=VA n
  exact (by
   intro aD r h
   unfold q1 at h
   split at h
   case h_2=>cases h
   exact al7 (q1 n) n _ _ _ ih h)
theorem al9(n:Nat):a5 aN aO 169 (q1 n):=(VA n)
theorem NI(n:Nat):a5 aN aO 119 (su n):=
 cb (bw n [(169,q1 n)] [] [] []) (tok _) (a1 (al9 n) aP) aq mixed rfl Tryz.func119 (by kernel_rfl) (by kernel_rfl) (fun _=>by kernel_rfl)
theorem VB(n:Nat):a5 aN aO 174 (tY n):=
 dx (bw n [] [(2,⟨[ao 0,ao 1,ao 5],[],[]⟩)] [] [(0,⟨[],[],[]⟩)]) (tok _) aP aq mixed rfl Tryz.func174 (by kernel_rfl) (by kernel_rfl) (fun _ _=>by kernel_rfl)
theorem ama(n:Nat):a5 aN aO 172 (DJ n):=
 dx (bw n [(167,ss n),(174,tY n)] [(4,⟨[ao 1,cI 5 10,ao 6,ao 8],[b8 10 1],[]⟩)] [(29000008,⟨[ao 1,cI 5 33,ao 6,ao 8],[b8 33 1],[]⟩)] [(0,⟨[cI 5 10],[b8 10 1],[]⟩),(1,⟨[ao 1,cI 5 33,ao 6,ao 8],[b8 33 1],[]⟩)]) (tok _) (a1 (NH n) (a1 (VB n) aP)) aq mixed rfl Tryz.func172 (by kernel_rfl) (by kernel_rfl) (fun _ _=>by kernel_rfl)
theorem VC(n:Nat):a5 aN aO 173 (tZ n):=
 dx (bw n [] [(2,⟨[ao 0,ao 1,ao 5],[],[]⟩)] [] [(0,⟨[],[],[]⟩)]) (tok _) aP aq mixed rfl Tryz.func173 (by kernel_rfl) (by kernel_rfl) (fun _ _=>by kernel_rfl)
theorem amb(xj:List D→Option D)(n:Nat)(ab:D)(ag:D)(aS:D)(amc:a5 aN aO 121 xj){r:D}(h:HQ xj n ab ag aS=some r):dq aN aO 121 [ab,ag,aS] (·=r):=
 dz ⟨(eK Tryz.prog).qt [42],aO,tabC [(172,DJ n),(173,tZ n),(121,xj)],n,[],ck [(3,⟨[ao 1,ao 2,ao 7,ao 8],[],[]⟩)],ck [(24000006,⟨[ao 1,ao 2,ao 7,ao 8],[],[]⟩)],ck [(0,⟨[ao 2],[],[]⟩),(1,⟨[ao 1,ao 2,ao 7,ao 8],[],[]⟩)],fs [(6,[0,1,2,3,4,5,6,7,12,13,14,15,8,9,10,11,16,17,18,19])],tabH [],fz [],ft []⟩ ((tok _).qt _) (a1 (ama n) (a1 (VC n) (a1 amc aP))) aq mixed rfl Tryz.func121 (by kernel_rfl) (bu (bu (bu le_nil))) (by kernel_rfl) (by kernel_rfl) h
theorem VD:∀n,a5 aN aO 121 (ow n)
 |0=>(fun _ _ h=>by cases h)
 |n+1=>by
  have ih:=VD n
  exact (by
   intro aD r h
   unfold ow at h
   split at h
   case h_2=>cases h
   exact amb (ow n) n _ _ _ ih h)
theorem VE(n:Nat):a5 aN aO 121 (ow n):=(VD n)
theorem amd(n:Nat):a5 aN aO 122 (DM n):=
 dx (bw n [(121,ow n),(173,tZ n)] [] [] []) (tok _) (a1 (VE n) (a1 (VC n) aP)) aq mixed rfl Tryz.func122 (by kernel_rfl) (by kernel_rfl) (fun _ _=>by kernel_rfl)
theorem ame(ua:List D→Option D)(n:Nat)(ab:D)(ag:D)(aS:D)(bN:D)(amf:a5 aN aO 123 ua){r:D}(h:pQ ua n ab ag aS bN=some r):dq aN aO 123 [ab,ag,aS,bN] (·=r):=
 dz (bw n [(174,tY n),(123,ua),(175,xh n)] [(13,⟨[ao 1,ao 2,ao 3,sp 4,sp 8,cI 13 53,ao 14],[aY 4 4,aY 8 4,b8 53 4],[]⟩)] [(20000002,⟨[ao 1,ao 2,ao 3,sp 4,sp 8],[aY 4 4,aY 8 4],[]⟩)] [(0,⟨[ao 3,sp 4,sp 8,cI 13 53],[aY 4 4,aY 8 4,b8 53 4],[]⟩)]) (tok _) (a1 (VB n) (a1 amf (a1 (Vz n) aP))) aq mixed rfl Tryz.func123 (by kernel_rfl) (bu (bu (bu (bu le_nil)))) (by kernel_rfl) (by kernel_rfl) h
theorem VF:∀n,a5 aN aO 123 (pR n)
 |0=>(fun _ _ h=>by cases h)
 |n+1=>by
  have ih:=VF n
  exact (by
   intro aD r h
   unfold pR at h
   split at h
   case h_2=>cases h
   exact ame (pR n) n _ _ _ _ ih h)
theorem amg(n:Nat):a5 aN aO 123 (pR n):=(VF n)
theorem Ic(n:Nat):a5 aN aO 75 (kD n):=
 dx (bw n [(119,su n),(121,ow n),(122,DM n),(123,pR n)] [(6,⟨[ao 1,sp 2,sp 4,ao 7,ao 8],[aY 2 4,aY 4 4],[]⟩)] [] [(0,⟨[ao 1,sp 2,sp 4],[aY 2 4,aY 4 4],[]⟩)]) (tok _) (a1 (NI n) (a1 (VE n) (a1 (amd n) (a1 (amg n) aP)))) aq mixed rfl Tryz.func75 (by kernel_rfl) (by kernel_rfl) (fun _ _=>by kernel_rfl)
theorem VG(n:Nat):a5 aN aO 170 (ox n):=
 dx (bw n [] [] [] []) (tok _) aP aq mixed rfl Tryz.func170 (by kernel_rfl) (by kernel_rfl) (fun _ _=>by kernel_rfl)
theorem VH(n:Nat):a5 aN aO 57 (xk n):=
 dx (bw n [] [(2,⟨[ao 0,ao 1,ao 5],[],[]⟩)] [] [(0,⟨[],[],[]⟩)]) (tok _) aP aq mixed rfl Tryz.func57 (by kernel_rfl) (by kernel_rfl) (fun _ _=>by kernel_rfl)
theorem amh(n:Nat):a5 aN aO 196 (DS n):=
 cb (bw n [] [(2,⟨[ao 0,ao 3],[],[]⟩)] [] [(0,⟨[],[],[]⟩)]) (tok _) aP aq mixed rfl Tryz.func196 (by kernel_rfl) (by kernel_rfl) (fun _=>by kernel_rfl)
theorem ami(n:Nat):a5 aN aO 197 (DT n):=
 dx (bw n [] [(4,⟨[cI 6 30,ao 7,ao 8,ao 9],[b8 30 1],[]⟩)] [] [(0,⟨[ao 7,ao 8],[],[]⟩)]) (tok _) aP aq mixed rfl Tryz.func197 (by kernel_rfl) (by kernel_rfl) (fun _ _=>by kernel_rfl)
theorem amj(n:Nat):a5 aN aO 171 (xl n):=
 dx (bw n [(196,DS n),(170,ox n),(197,DT n)] [] [(13005000,⟨[ao 1,sp 2,sp 4,sp 6,ao 7,ao 12,ao 13],[aY 2 4,aY 4 3,aY 6 3],[]⟩),(13006000,⟨[ao 1,sp 2,sp 4,sp 6,ao 7,ao 12,ao 13],[aY 2 4,aY 4 3,aY 6 3],[]⟩),(13007000,⟨[ao 1,sp 2,sp 4,sp 6,ao 7,ao 12,ao 13],[aY 2 4,aY 4 3,aY 6 3],[]⟩),(13008000,⟨[ao 1,sp 2,sp 4,sp 6,ao 7,ao 12,ao 13],[aY 2 4,aY 4 3,aY 6 3],[]⟩),(25013000,⟨[ao 1,sp 2,sp 4,sp 6,ao 7,ao 12,ao 25],[aY 2 4,aY 4 3,aY 6 3],[]⟩)] [(0,⟨[ao 1,sp 2,sp 4,sp 6,ao 7],[aY 2 4,aY 4 3,aY 6 3],[]⟩)]) (tok _) (a1 (amh n) (a1 (VG n) (a1 (ami n) aP))) aq mixed rfl Tryz.func171 (by kernel_rfl) (by kernel_rfl) (fun _ _=>by kernel_rfl)
theorem amk(xm:List D→Option D)(n:Nat)(ab:D)(ag:D)(aS:D)(aml:a5 aN aO 120 xm){r:D}(h:sw xm n ab ag aS=some r):dq aN aO 120 [ab,ag,aS] (·=r):=
 dz (bw n [(170,ox n),(57,xk n),(120,xm),(171,xl n)] [(18,⟨[ao 0,ao 2,sp 4,sp 6,cI 9 64,ao 10],[aY 4 4,aY 6 3,b8 64 3],[]⟩)] [(27007000,⟨[ao 0,ao 2,sp 4,sp 6,ao 27],[aY 4 4,aY 6 3],[]⟩)] [(1,⟨[sp 4,sp 6,cI 9 64],[aY 4 4,aY 6 3,b8 64 3],[]⟩)]) (tok _) (a1 (VG n) (a1 (VH n) (a1 aml (a1 (amj n) aP)))) aq mixed rfl Tryz.func120 (by kernel_rfl) (bu (bu (bu le_nil))) (by kernel_rfl) (by kernel_rfl) h
theorem VI:∀n,a5 aN aO 120 (k1 n)
 |0=>(fun _ _ h=>by cases h)
 |n+1=>by
  have ih:=VI n
  exact (by
   intro aD r h
   unfold k1 at h
   split at h
   case h_2=>cases h
   exact amk (k1 n) n _ _ _ ih h)
theorem amm(n:Nat):a5 aN aO 120 (k1 n):=(VI n)
theorem Ie(n:Nat):a5 aN aO 72 (oy n):=
 g2 (bw n [(119,su n),(120,k1 n)] [] [] []) (tok _) (a1 (NI n) (a1 (amm n) aP)) aq mixed rfl Tryz.func72 (by kernel_rfl) (by kernel_rfl) (fun _ _ _=>by kernel_rfl)
theorem NJ(n:Nat):a5 aN aO 143 (q2 n):=
 g2 (bw n [(75,kD n),(72,oy n)] [] [] []) (tok _) (a1 (Ic n) (a1 (Ie n) aP)) aq mixed rfl Tryz.func143 (by kernel_rfl) (by kernel_rfl) (fun _ _ _=>by kernel_rfl)
theorem amn(n:Nat):a5 aN aO 95 (uc n):=
 cb (bw n [(136,q0 n),(140,xc n),(141,xd n),(142,DG n),(143,q2 n)] [(2,⟨[sp 1,ao 4],[aY 1 8],[]⟩),(9,⟨[sp 1,ao 5],[aY 1 8],[]⟩),(14,⟨[sp 1,ao 6],[aY 1 8],[]⟩)] [] [(0,⟨[sp 1],[aY 1 8],[]⟩),(2,⟨[sp 1],[aY 1 8],[]⟩),(4,⟨[],[],[]⟩)]) (tok _) (a1 (NG n) (a1 (Vw n) (a1 (Vx n) (a1 (al5 n) (a1 (NJ n) aP))))) aq mixed rfl Tryz.func95 (by kernel_rfl) (by kernel_rfl) (fun _=>by kernel_rfl)
theorem VJ(n:Nat):a5 aN aO 144 (ud n):=
 g2 (bw n [(143,q2 n)] [] [] []) (tok _) (a1 (NJ n) aP) aq mixed rfl Tryz.func144 (by kernel_rfl) (by kernel_rfl) (fun _ _ _=>by kernel_rfl)
theorem amo(n:Nat):a5 aN aO 96 (sx n):=
 g2 (bw n [(144,ud n)] [(2,⟨[ao 1,ao 2,sp 3,ao 8],[aY 3 8],[]⟩)] [] [(0,⟨[],[],[]⟩)]) (tok _) (a1 (VJ n) aP) aq mixed rfl Tryz.func96 (by kernel_rfl) (by kernel_rfl) (fun _ _ _=>by kernel_rfl)
theorem amp(n:Nat):a5 aN aO 97 (zH n):=
 cb (bw n [(140,xc n),(143,q2 n)] [(2,⟨[sp 1,ao 4],[aY 1 8],[]⟩),(8,⟨[sp 1,ao 4,ao 5,ao 6],[aY 1 8],[]⟩)] [(69000014,⟨[sp 1,ao 4,ao 8],[aY 1 8],[]⟩)] [(0,⟨[],[],[]⟩),(1,⟨[sp 1,ao 4],[aY 1 8],[]⟩),(2,⟨[sp 1,ao 4,ao 5],[aY 1 8],[]⟩)]) (tok _) (a1 (Vw n) (a1 (NJ n) aP)) aq mixed rfl Tryz.func97 (by kernel_rfl) (by kernel_rfl) (fun _=>by kernel_rfl)
theorem amq(n:Nat):a5 aN aO 166 (zI n):=
 cb (bw n [] [] [(6005000,⟨[ao 3,ao 6],[],[]⟩),(6006000,⟨[ao 3,ao 6],[],[]⟩),(6007000,⟨[ao 3,ao 6],[],[]⟩),(6008000,⟨[ao 3,ao 6],[],[]⟩),(6009000,⟨[ao 3,ao 6],[],[]⟩),(6010000,⟨[ao 3,ao 6],[],[]⟩),(14013000,⟨[ao 14],[],[]⟩),(14014000,⟨[ao 14],[],[]⟩),(14015000,⟨[ao 14],[],[]⟩),(14016000,⟨[ao 14],[],[]⟩)] [(0,⟨[],[],[]⟩)]) (tok _) aP aq mixed rfl Tryz.func166 (by kernel_rfl) (by kernel_rfl) (fun _=>by kernel_rfl)
theorem amr(n:Nat):a5 aN aO 168 (DY n):=
 cb (bw n [] [] [] []) (tok _) aP aq mixed rfl Tryz.func168 (by kernel_rfl) (by kernel_rfl) (fun _=>by kernel_rfl)
theorem ams(n:Nat):a5 aN aO 118 (sy n):=
 cb (bw n [(166,zI n),(119,su n),(167,ss n),(168,DY n)] [] [(12000004,⟨[sp 1],[aY 1 6],[]⟩)] []) (tok _) (a1 (amq n) (a1 (NI n) (a1 (NH n) (a1 (amr n) aP)))) aq mixed rfl Tryz.func118 (by kernel_rfl) (by kernel_rfl) (fun _=>by kernel_rfl)
theorem amt(xo:List D→Option D)(n:Nat)(ab:D)(ag:D)(aS:D)(amu:a5 aN aO 70 xo){r:D}(h:Np xo n ab ag aS=some r):dq aN aO 70 [ab,ag,aS] (·=r):=
 dz (bw n [(118,sy n),(70,xo)] [(10,⟨[ao 1,ao 2,sp 3,ao 9],[aY 3 6],[]⟩)] [] [(0,⟨[ao 2],[],[]⟩)]) (tok _) (a1 (ams n) (a1 amu aP)) aq mixed rfl Tryz.func70 (by kernel_rfl) (bu (bu (bu le_nil))) (by kernel_rfl) (by kernel_rfl) h
theorem VK:∀n,a5 aN aO 70 (q3 n)
 |0=>(fun _ _ h=>by cases h)
 |n+1=>by
  have ih:=VK n
  exact (by
   intro aD r h
   unfold q3 at h
   split at h
   case h_2=>cases h
   exact amt (q3 n) n _ _ _ ih h)
theorem amv(n:Nat):a5 aN aO 70 (q3 n):=(VK n)
theorem NK(n:Nat):a5 aN aO 33 (sz n):=
 cb (bw n [(70,q3 n)] [] [] []) (tok _) (a1 (amv n) aP) aq mixed rfl Tryz.func33 (by kernel_rfl) (by kernel_rfl) (fun _=>by kernel_rfl)
theorem amw(xp:List D→Option D)(n:Nat)(ab:D)(ag:D)(amx:a5 aN aO 145 xp){r:D}(h:D0 xp n ab ag=some r):dq aN aO 145 [ab,ag] (·=r):=
 dz (bw n [(144,ud n),(145,xp)] [(4,⟨[sp 2,sp 3,ao 5],[aY 2 8,aY 3 6],[]⟩)] [] [(0,⟨[],[],[]⟩)]) (tok _) (a1 (VJ n) (a1 amx aP)) aq mixed rfl Tryz.func145 (by kernel_rfl) (bu (bu le_nil)) (by kernel_rfl) (by kernel_rfl) h
theorem VL:∀n,a5 aN aO 145 (q4 n)
 |0=>(fun _ _ h=>by cases h)
 |n+1=>by
  have ih:=VL n
  exact (by
   intro aD r h
   unfold q4 at h
   split at h
   case h_2=>cases h
   exact amw (q4 n) n _ _ ih h)
theorem amy(n:Nat):a5 aN aO 145 (q4 n):=(VL n)
theorem amz(n:Nat):a5 aN aO 98 (zL n):=
 cb (bw n [(136,q0 n),(33,sz n),(145,q4 n)] [(2,⟨[sp 1,ao 4],[aY 1 8],[]⟩),(7,⟨[sp 1,ao 4,ao 5],[aY 1 8],[]⟩)] [(50000013,⟨[sp 1,ao 4,ao 6],[aY 1 8],[]⟩)] [(0,⟨[],[],[]⟩),(1,⟨[sp 1,ao 4],[aY 1 8],[]⟩),(2,⟨[sp 1,ao 4],[aY 1 8],[]⟩)]) (tok _) (a1 (NG n) (a1 (NK n) (a1 (amy n) aP))) aq mixed rfl Tryz.func98 (by kernel_rfl) (by kernel_rfl) (fun _=>by kernel_rfl)
theorem amA(n:Nat):a5 aN aO 50 (oz n):=
 cb (bw n [(93,Dy n),(94,DA n),(95,uc n),(96,sx n),(97,zH n),(98,zL n)] [(3,⟨[sp 1,sp 2,cI 4 33,ao 5],[aY 1 8,aY 2 2,b8 33 1],[]⟩),(13,⟨[sp 1,sp 2,ao 6,ao 7,ao 8],[aY 1 8,aY 2 2],[]⟩)] [(68018017,⟨[sp 1,sp 2,ao 6,ao 7,ao 8],[aY 1 8,aY 2 2],[]⟩),(75020019,⟨[sp 1,sp 2,ao 6,ao 7,ao 8],[aY 1 8,aY 2 2],[]⟩),(84022021,⟨[sp 1,sp 2,ao 6,ao 7,ao 8],[aY 1 8,aY 2 2],[]⟩),(93024023,⟨[sp 1,sp 2,ao 6,ao 7,ao 8],[aY 1 8,aY 2 2],[]⟩),(100026025,⟨[sp 1,sp 2,ao 6,ao 7,ao 8],[aY 1 8,aY 2 2],[]⟩),(109028027,⟨[sp 1,sp 2,ao 6,ao 7,ao 8],[aY 1 8,aY 2 2],[]⟩),(118000029,⟨[sp 1,sp 2,ao 6,ao 7,ao 8],[aY 1 8,aY 2 2],[]⟩)] [(0,⟨[sp 1,sp 2],[aY 1 8,aY 2 2],[]⟩),(2,⟨[sp 2],[aY 2 2],[]⟩),(3,⟨[sp 1,sp 2,ao 6,ao 7,ao 8],[aY 1 8,aY 2 2],[]⟩),(4,⟨[sp 1,sp 2,ao 6,ao 7,ao 8],[aY 1 8,aY 2 2],[]⟩)]) (tok _) (a1 (alX n) (a1 (alZ n) (a1 (amn n) (a1 (amo n) (a1 (amp n) (a1 (amz n) aP)))))) aq mixed rfl Tryz.func50 (by kernel_rfl) (by kernel_rfl) (fun _=>by kernel_rfl)
theorem amB(n:Nat):a5 aN aO 18 (D1 n):=
 cb (bw n [(50,oz n)] [] [] []) (tok _) (a1 (amA n) aP) aq mixed rfl Tryz.func18 (by kernel_rfl) (by kernel_rfl) (fun _=>by kernel_rfl)
theorem amC(xr:List D→Option D)(n:Nat)(ab:D)(amD:a5 aN aO 34 xr){r:D}(h:ug xr n ab=some r):dq aN aO 34 [ab] (·=r):=
 dz (bw n [(34,xr)] [(4,⟨[sp 1,ao 3],[aY 1 6],[]⟩)] [] [(0,⟨[],[],[]⟩)]) (tok _) (a1 amD aP) aq mixed rfl Tryz.func34 (by kernel_rfl) (bu le_nil) (by kernel_rfl) (by kernel_rfl) h
theorem VM:∀n,a5 aN aO 34 (q5 n)
 |0=>(fun _ _ h=>by cases h)
 |n+1=>by
  have ih:=VM n
  exact (by
   intro aD r h
   unfold q5 at h
   split at h
   case h_2=>cases h
   exact amC (q5 n) n _ ih h)
theorem amE(n:Nat):a5 aN aO 34 (q5 n):=(VM n)
theorem amF(n:Nat):a5 aN aO 74 (nN n):=
 dx (bw n [(75,kD n)] [(3,⟨[ao 0,ao 1,cI 7 11,ao 8],[b8 11 4],[]⟩)] [] [(0,⟨[cI 7 11],[b8 11 4],[]⟩)]) (tok _) (a1 (Ic n) aP) aq mixed rfl Tryz.func74 (by kernel_rfl) (by kernel_rfl) (fun _ _=>by kernel_rfl)
theorem amG(xt:List D→Option D)(n:Nat)(ab:D)(ag:D)(amH:a5 aN aO 71 xt){r:D}(h:q6 xt n ab ag=some r):dq aN aO 71 [ab,ag] (·=r):=
 dz (bw n [(75,kD n),(71,xt)] [(9,⟨[ao 1,sp 2,sp 4,cI 8 29,ao 9],[aY 2 6,aY 4 6,b8 29 6],[]⟩)] [] [(0,⟨[sp 2,sp 4,cI 8 29],[aY 2 6,aY 4 6,b8 29 6],[]⟩)]) (tok _) (a1 (Ic n) (a1 amH aP)) aq mixed rfl Tryz.func71 (by kernel_rfl) (bu (bu le_nil)) (by kernel_rfl) (by kernel_rfl) h
theorem VN:∀n,a5 aN aO 71 (mV n)
 |0=>(fun _ _ h=>by cases h)
 |n+1=>by
  have ih:=VN n
  exact (by
   intro aD r h
   unfold mV at h
   split at h
   case h_2=>cases h
   exact amG (mV n) n _ _ ih h)
theorem amI(n:Nat):a5 aN aO 71 (mV n):=(VN n)
theorem VO(n:Nat):a5 aN aO 35 (sA n):=
 dx (bw n [(33,sz n),(71,mV n)] [] [] []) (tok _) (a1 (NK n) (a1 (amI n) aP)) aq mixed rfl Tryz.func35 (by kernel_rfl) (by kernel_rfl) (fun _ _=>by kernel_rfl)
theorem amJ(n:Nat):a5 aN aO 39 (D3 n):=
 cb ⟨eK aN,aO,tabC [(74,nN n),(75,kD n),(35,sA n)],n,[],ck [(11,⟨[sp 1,sp 2,sp 3,sp 5,ao 9],[aY 1 8,aY 2 8,aY 3 2,(5,.box [.b (.d),.b (.d),.b (.d),.b (.d),.b (.row 5000),.b (.d),.b (.d),.b (.d)]),b8 5000 5],[.box 5 4 5000 5]⟩),(26,⟨[sp 1,sp 2,sp 3,sp 5,ao 12],[aY 1 8,aY 2 8,aY 3 2,(5,.box [.b (.d),.b (.d),.b (.d),.b (.d),.b (.row 5000),.b (.d),.b (.d),.b (.row 5001)]),b8 5000 5,b8 5001 7],[.box 5 7 5001 7]⟩)],ck [],ck [(0,⟨[sp 1,sp 2,sp 3,sp 5],[aY 1 8,aY 2 8,aY 3 2,(5,.box [.b (.d),.b (.d),.b (.d),.b (.d),.b (.row 5000),.b (.d),.b (.d),.b (.d)]),b8 5000 5],[]⟩),(2,⟨[sp 2,sp 3,sp 5],[aY 2 8,aY 3 2,(5,.box [.b (.d),.b (.d),.b (.d),.b (.d),.b (.row 5000),.b (.d),.b (.d),.b (.row 5001)]),b8 5000 5,b8 5001 7],[]⟩)],fs [],tabH [],fz [20002],ft []⟩ (tok _) (a1 (amF n) (a1 (Ic n) (a1 (VO n) aP))) aq mixed rfl Tryz.func39 (by kernel_rfl) (by kernel_rfl) (fun _=>by kernel_rfl)
theorem amK(n:Nat):a5 aN aO 52 (xu n):=
 cb (bw n [(39,D3 n)] [] [] []) (tok _) (a1 (amJ n) aP) aq mixed rfl Tryz.func52 (by kernel_rfl) (by kernel_rfl) (fun _=>by kernel_rfl)
theorem amL(n:Nat):a5 aN aO 99 (zP n):=
 dx (bw n [] [(4,⟨[ao 1,sp 2,ao 5],[aY 2 8],[]⟩)] [] [(0,⟨[],[],[]⟩)]) (tok _) aP aq mixed rfl Tryz.func99 (by kernel_rfl) (by kernel_rfl) (fun _ _=>by kernel_rfl)
theorem amM(xv:List D→Option D)(n:Nat)(ab:D)(amN:a5 aN aO 105 xv){r:D}(h:HY xv n ab=some r):dq aN aO 105 [ab] (·=r):=
 dz (bw n [(105,xv)] [(4,⟨[sp 1,ao 3],[aY 1 4],[]⟩)] [] [(0,⟨[],[],[]⟩)]) (tok _) (a1 amN aP) aq mixed rfl Tryz.func105 (by kernel_rfl) (bu le_nil) (by kernel_rfl) (by kernel_rfl) h
theorem VP:∀n,a5 aN aO 105 (pU n)
 |0=>(fun _ _ h=>by cases h)
 |n+1=>by
  have ih:=VP n
  exact (by
   intro aD r h
   unfold pU at h
   split at h
   case h_2=>cases h
   exact amM (pU n) n _ ih h)
theorem amO(n:Nat):a5 aN aO 105 (pU n):=(VP n)
theorem amP(n:Nat):a5 aN aO 152 (nO n):=
 cb (bw n [] [] [] []) (tok _) aP aq mixed rfl Tryz.func152 (by kernel_rfl) (by kernel_rfl) (fun _=>by kernel_rfl)
theorem amQ(n:Nat):a5 aN aO 153 (uh n):=
 cb (bw n [] [] [] []) (tok _) aP aq mixed rfl Tryz.func153 (by kernel_rfl) (by kernel_rfl) (fun _=>by kernel_rfl)
theorem amR(n:Nat):a5 aN aO 154 (zQ n):=
 cb (bw n [] [] [] []) (tok _) aP aq mixed rfl Tryz.func154 (by kernel_rfl) (by kernel_rfl) (fun _=>by kernel_rfl)
theorem amS(xw:List D→Option D)(n:Nat)(ab:D)(ag:D)(aS:D)(bN:D)(amT:a5 aN aO 106 xw){r:D}(h:ka xw n ab ag aS bN=some r):dq aN aO 106 [ab,ag,aS,bN] (·=r):=
 dz (bw n [(57,xk n),(152,nO n),(153,uh n),(106,xw),(154,zQ n)] [(18,⟨[ao 0,ao 2,ao 3,sp 5,cI 12 55,ao 13,ao 14],[aY 5 4,b8 55 1],[]⟩)] [(20003000,⟨[ao 0,ao 2,ao 3,sp 5,ao 19,ao 20],[aY 5 4],[]⟩),(25006000,⟨[ao 0,ao 2,ao 3,sp 5,ao 25],[aY 5 4],[]⟩),(34011010,⟨[ao 0,ao 10,ao 11],[],[]⟩),(88000025,⟨[ao 0,ao 2,ao 3,sp 5,cI 12 80,ao 13,ao 14],[aY 5 4,b8 80 1],[]⟩),(94030029,⟨[ao 17],[],[]⟩),(100032031,⟨[ao 17],[],[]⟩),(107034033,⟨[ao 17],[],[]⟩),(112036035,⟨[ao 17],[],[]⟩),(125037000,⟨[cI 12 55,ao 17,ao 93,ao 125],[b8 55 1],[]⟩),(125039038,⟨[ao 17],[],[]⟩),(136041040,⟨[ao 17],[],[]⟩),(146043042,⟨[ao 17],[],[]⟩),(156045044,⟨[ao 17],[],[]⟩),(166047046,⟨[ao 17],[],[]⟩),(175049048,⟨[ao 17],[],[]⟩),(184053050,⟨[ao 17],[],[]⟩),(209055054,⟨[ao 17],[],[]⟩),(226000056,⟨[ao 17],[],[]⟩),(234000058,⟨[ao 17],[],[]⟩)] [(1,⟨[sp 5,cI 12 55,ao 13],[aY 5 4,b8 55 1],[]⟩),(2,⟨[ao 0,ao 2,ao 3,sp 5,cI 12 80,ao 13,ao 14],[aY 5 4,b8 80 1],[]⟩),(3,⟨[ao 17],[],[]⟩)]) (tok _) (a1 (VH n) (a1 (amP n) (a1 (amQ n) (a1 amT (a1 (amR n) aP))))) aq mixed rfl Tryz.func106 (by kernel_rfl) (bu (bu (bu (bu le_nil)))) (by kernel_rfl) (by kernel_rfl) h
theorem VQ:∀n,a5 aN aO 106 (pV n)
 |0=>(fun _ _ h=>by cases h)
 |n+1=>by
  have ih:=VQ n
  exact (by
   intro aD r h
   unfold pV at h
   split at h
   case h_2=>cases h
   exact amS (pV n) n _ _ _ _ ih h)
theorem amU(n:Nat):a5 aN aO 106 (pV n):=(VQ n)
theorem VR(n:Nat):a5 aN aO 56 (nP n):=
 tK (bw n [(72,oy n),(105,pU n),(106,pV n)] [] [] []) (tok _) (a1 (Ie n) (a1 (amO n) (a1 (amU n) aP))) aq mixed rfl Tryz.func56 (by kernel_rfl) (by kernel_rfl) (fun _ _ _ _=>by kernel_rfl)
theorem amV(n:Nat):a5 aN aO 54 (zS n):=
 tK (bw n [(56,nP n)] [(2,⟨[ao 0,ao 1,ao 2,ao 3,ao 9],[],[]⟩)] [] [(0,⟨[],[],[]⟩)]) (tok _) (a1 (VR n) aP) aq mixed rfl Tryz.func54 (by kernel_rfl) (by kernel_rfl) (fun _ _ _ _=>by kernel_rfl)
theorem amW(n:Nat):a5 aN aO 51 (zT n):=
 dx (bw n [(99,zP n),(54,zS n)] [] [] []) (tok _) (a1 (amL n) (a1 (amV n) aP)) aq mixed rfl Tryz.func51 (by kernel_rfl) (by kernel_rfl) (fun _ _=>by kernel_rfl)
theorem amX(n:Nat):a5 aN aO 20 (D6 n):=
 dx (bw n [(52,xu n),(51,zT n)] [] [] []) (tok _) (a1 (amK n) (a1 (amW n) aP)) aq mixed rfl Tryz.func20 (by kernel_rfl) (by kernel_rfl) (fun _ _=>by kernel_rfl)
theorem amY(xx:List D→Option D)(n:Nat)(ab:D)(ag:D)(amZ:a5 aN aO 36 xx){r:D}(h:xy xx n ab ag=some r):dq aN aO 36 [ab,ag] (·=r):=
 dz (bw n [(72,oy n),(36,xx)] [(5,⟨[ao 0,sp 3,ao 7],[aY 3 6],[]⟩)] [] [(0,⟨[],[],[]⟩)]) (tok _) (a1 (Ie n) (a1 amZ aP)) aq mixed rfl Tryz.func36 (by kernel_rfl) (bu (bu le_nil)) (by kernel_rfl) (by kernel_rfl) h
theorem VS:∀n,a5 aN aO 36 (q7 n)
 |0=>(fun _ _ h=>by cases h)
 |n+1=>by
  have ih:=VS n
  exact (by
   intro aD r h
   unfold q7 at h
   split at h
   case h_2=>cases h
   exact amY (q7 n) n _ _ ih h)
theorem am0(n:Nat):a5 aN aO 36 (q7 n):=(VS n)
theorem am1(xz:List D→Option D)(n:Nat)(ab:D)(ag:D)(aS:D)(am2:a5 aN aO 37 xz){r:D}(h:uj xz n ab ag aS=some r):dq aN aO 37 [ab,ag,aS] (·=r):=
 dz (bw n [(72,oy n),(56,nP n),(37,xz)] [(7,⟨[ao 0,ao 2,sp 4,cI 12 45,ao 13],[aY 4 6,b8 45 1],[]⟩)] [] [(0,⟨[sp 4,cI 12 45],[aY 4 6,b8 45 1],[]⟩)]) (tok _) (a1 (Ie n) (a1 (VR n) (a1 am2 aP))) aq mixed rfl Tryz.func37 (by kernel_rfl) (bu (bu (bu le_nil))) (by kernel_rfl) (by kernel_rfl) h
theorem VT:∀n,a5 aN aO 37 (pW n)
 |0=>(fun _ _ h=>by cases h)
 |n+1=>by
  have ih:=VT n
  exact (by
   intro aD r h
   unfold pW at h
   split at h
   case h_2=>cases h
   exact am1 (pW n) n _ _ _ ih h)
theorem am3(n:Nat):a5 aN aO 37 (pW n):=(VT n)
theorem am4(n:Nat):a5 aN aO 11 (pX n):=
 g2 (bw n [(18,D1 n),(33,sz n),(34,q5 n),(20,D6 n),(35,sA n),(36,q7 n),(37,pW n)] [] [] []) (tok _) (a1 (amB n) (a1 (NK n) (a1 (amE n) (a1 (amX n) (a1 (VO n) (a1 (am0 n) (a1 (am3 n) aP))))))) aq mixed rfl Tryz.func11 (by kernel_rfl) (by kernel_rfl) (fun _ _ _=>by kernel_rfl)
theorem am5(n:Nat):a5 aN aO 3 (D8 n):=
 g2 (bw n [(7,vS n),(8,B1 n),(9,zy n),(10,sr n),(11,pX n)] [] [] []) (tok _) (a1 (aiZ n) (a1 (ai6 n) (a1 (alR n) (a1 (Vt n) (a1 (am4 n) aP))))) aq mixed rfl Tryz.func3 (by kernel_rfl) (by kernel_rfl) (fun _ _ _=>by kernel_rfl)
end Go.Am
