/- What each function of the seat computes, on data. No condition. -/
import Derived.Test.YtknmgdnhongcnaaGreatDoorEngC
set_option linter.all false
set_option linter.unnecessarySimpa false
namespace Go.Am
set_option linter.unusedVariables false
def BI:List D:=[aJ ⟨#[65]⟩,aJ ⟨#[65,70]⟩,aJ ⟨#[65,71]⟩,aJ ⟨#[65,88]⟩,aJ ⟨#[69]⟩,aJ ⟨#[69,70]⟩,aJ ⟨#[69,71]⟩,aJ ⟨#[69,88]⟩,aJ ⟨#[85]⟩,aJ ⟨#[98,111,111,108]⟩,aJ ⟨#[100,101,102]⟩,aJ ⟨#[101,108,115,101]⟩,aJ ⟨#[102,97,105,114]⟩,aJ ⟨#[102,97,108,115,101]⟩,aJ ⟨#[105,102]⟩,aJ ⟨#[105,110,105,116]⟩,aJ ⟨#[105,110,118,97,114]⟩,aJ ⟨#[109,111,100]⟩,aJ ⟨#[110,101,120,116]⟩,aJ ⟨#[115,112,101,99]⟩,aJ ⟨#[116,104,101,110]⟩,aJ ⟨#[116,114,97,110,115]⟩,aJ ⟨#[116,114,117,101]⟩,aJ ⟨#[118,97,114]⟩]
abbrev SP:Nat:=77
abbrev GC:Nat:=83
abbrev vv:Nat:=86
abbrev ph:Nat:=101
abbrev yH:Nat:=104
abbrev BJ:Nat:=112
abbrev GD:Nat:=113
abbrev vw:Nat:=117
abbrev vx:Nat:=148
abbrev qy:Nat:=155
abbrev SQ:Nat:=177
abbrev SR:Nat:=179
abbrev BK:Nat:=190
abbrev tD:Nat:=192
abbrev tE:Nat:=193
abbrev pj:Nat:=228
abbrev pk:Nat:=230
abbrev yI:Nat:=236
abbrev yJ:Nat:=248
abbrev pn:Nat:=250
abbrev po:Nat:=256
def BL(vy:List D→Option D)(n:Nat)(ls:List D):Option (List D⊕(List D⊕D)):=
 R (lenP (I ls 6)) fun v10=>
 R (binP false .lss (I ls 2) v10) fun v11=>
 R (gD v11 true (
 R (binP false .leq (I ls 1) (I ls 0)) fun bh=>
 some bh
)) fun bh=>
 R (pickP v11 bh (au false)) fun bF=>
 oif bF (
 R (a2 4 (I ls 6) (I ls 2)) fun BM=>
 R (aW true 4 0 BM) fun cD=>
 R (binP false .sub (I ls 0) (I ls 1)) fun cE=>
 R (vy [cD,cE]) fun cj=>
 R (binP false .add (I ls 1) cj) fun cC=>
 R (binP false .add (I ls 2) (J 1)) fun bE=>
 some (.inl [I ls 0,cC,bE,I ls 3,I ls 4,I ls 5,I ls 6])
) (
 aU (
 some (.inl [I ls 1])
)
)
def GF(vy:List D→Option D)(n:Nat)(ab:D)(ah:D):Option D:=
 aw (aL 4 ab)<|
 R (
 bk (BL vy n) n [ah,J 1,J 0,aa ab 0,aa ab 1,aa ab 2,aa ab 3]
)<|a7 fun ls=>
 some (I ls 0)
def oj:Nat→List D→Option D
 |0,_=>none
 |n+1,aF=>match aF with
  |[ab,ah]=>GF (oj n) n ab ah
  |_=>none
def BN(vz:List D→Option D)(n:Nat)(ls:List D):Option (List D⊕(List D⊕D)):=
 R (lenP (I ls 8)) fun bh=>
 R (binP false .lss (I ls 2) bh) fun bF=>
 R (gD bF true (
 R (binP false .leq (I ls 1) (I ls 0)) fun v20=>
 some v20
)) fun v20=>
 R (pickP bF v20 (au false)) fun bK=>
 oif bK (
 R (a2 6 (I ls 8) (I ls 2)) fun rV=>
 R (aW true 6 0 rV) fun cC=>
 R (binP false .sub (I ls 0) (I ls 1)) fun dt=>
 R (vz [cC,dt]) fun dB=>
 R (binP false .add (I ls 1) dB) fun ds=>
 R (binP false .add (I ls 2) (J 1)) fun b6=>
 some (.inl [I ls 0,ds,b6,I ls 3,I ls 4,I ls 5,I ls 6,I ls 7,I ls 8])
) (
 aU (
 some (.inl [I ls 1])
)
)
def GG(vz:List D→Option D)(n:Nat)(ab:D)(ah:D):Option D:=
 aw (aL 6 ab)<|
 R (oj n [D.agg [aa ab 1,aa ab 2,aa ab 3,aa ab 4],ah]) fun v10=>
 R (binP false .add (J 1) v10) fun v11=>
 R (
 bk (BN vz n) n [ah,v11,J 0,aa ab 0,aa ab 1,aa ab 2,aa ab 3,aa ab 4,aa ab 5]
)<|a7 fun ls=>
 some (I ls 0)
def qz:Nat→List D→Option D
 |0,_=>none
 |n+1,aF=>match aF with
  |[ab,ah]=>GG (qz n) n ab ah
  |_=>none
def BO(n:Nat)(ls:List D):Option (List D⊕(List D⊕D)):=
 R (lenP (I ls 4)) fun gu=>
 R (binP false .lss (I ls 2) gu) fun eD=>
 oif eD (
 R (a2 5 (I ls 4) (I ls 2)) fun aeN=>
 R (aW true 4 1 aeN) fun eL=>
 aw (aL 4 eL)<|
 aw (c7 (((esD (I ls 11))).length+([[aa eL 0,aa eL 1,aa eL 2,aa eL 3]]).length) 56)<|
 R (binP false .add (I ls 2) (J 1)) fun fz=>
 some (.inl [I ls 0,I ls 1,fz,I ls 3,I ls 4,I ls 5,I ls 6,I ls 7,I ls 8,I ls 9,I ls 10,D.aD 4 ((esD (I ls 11))++[[aa eL 0,aa eL 1,aa eL 2,aa eL 3]])])
) (
 aU (
 some (.inl [I ls 0,I ls 1,I ls 3,I ls 4,I ls 5,I ls 6,I ls 7,I ls 8,I ls 9,I ls 10,D.aD 4 (esD (I ls 11))])
)
)
def BP(n:Nat)(ls:List D):Option (List D⊕(List D⊕D)):=
 R (lenP (I ls 7)) fun g9=>
 R (binP false .lss (I ls 2) g9) fun iw=>
 oif iw (
 R (a2 5 (I ls 7) (I ls 2)) fun LA=>
 R (aW true 4 1 LA) fun gF=>
 aw (aL 4 gF)<|
 aw (c7 (((esD (I ls 11))).length+([[aa gF 0,aa gF 1,aa gF 2,aa gF 3]]).length) 56)<|
 R (binP false .add (I ls 2) (J 1)) fun fA=>
 some (.inl [I ls 0,I ls 1,fA,I ls 3,I ls 4,I ls 5,I ls 6,I ls 7,I ls 8,I ls 9,I ls 10,D.aD 4 ((esD (I ls 11))++[[aa gF 0,aa gF 1,aa gF 2,aa gF 3]])])
) (
 aU (
 some (.inl [I ls 0,I ls 1,I ls 3,I ls 4,I ls 5,I ls 6,I ls 7,I ls 8,I ls 9,I ls 10,D.aD 4 (esD (I ls 11))])
)
)
def yK(n:Nat)(ls:List D):Option (List D⊕(List D⊕D)):=
 R (binP false .lss (I ls 2) (J ((esD (I ls 11))).length)) fun l5=>
 R (gD l5 true (
 R (binP false .leq (I ls 1) (I ls 0)) fun qA=>
 some qA
)) fun qA=>
 R (pickP l5 qA (au false)) fun qB=>
 oif qB (
 R (cH ((esD (I ls 11))).length (I ls 2)) fun aeO=>
 R (((esD (I ls 11)))[aeO]?) fun aeP=>
 R (aW true 4 0 aeP) fun l6=>
 R (oj n [l6,I ls 0]) fun vA=>
 R (binP false .add (I ls 1) vA) fun ix=>
 R (binP false .add (I ls 2) (J 1)) fun vB=>
 some (.inl [I ls 0,ix,vB,I ls 3,I ls 4,I ls 5,I ls 6,I ls 7,I ls 8,I ls 9,I ls 10,D.aD 4 (esD (I ls 11))])
) (
 aU (
 some (.inl [I ls 0,I ls 1,I ls 3,I ls 4,I ls 5,I ls 6,I ls 7,I ls 8,I ls 9,I ls 10])
)
)
def yL(n:Nat)(ls:List D):Option (List D⊕(List D⊕D)):=
 R (lenP (I ls 10)) fun vC=>
 R (binP false .lss (I ls 2) vC) fun pq=>
 R (gD pq true (
 R (binP false .leq (I ls 1) (I ls 0)) fun mY=>
 some mY
)) fun mY=>
 R (pickP pq mY (au false)) fun LB=>
 oif LB (
 R (a2 7 (I ls 10) (I ls 2)) fun aeQ=>
 R (aW true 6 1 aeQ) fun qC=>
 R (qz n [qC,I ls 0]) fun LC=>
 R (binP false .add (I ls 1) LC) fun vD=>
 R (binP false .add (I ls 2) (J 1)) fun yM=>
 some (.inl [I ls 0,vD,yM,I ls 3,I ls 4,I ls 5,I ls 6,I ls 7,I ls 8,I ls 9,I ls 10])
) (
 aU (
 some (.inl [I ls 0,I ls 1])
)
)
def LD(n:Nat)(ab:D)(ah:D):Option D:=
 aw (aL 8 ab)<|
 R (lenP (aa ab 0)) fun bZ=>
 R (lenP (aa ab 1)) fun bF=>
 R (binP false .add bZ bF) fun bw=>
 R (lenP (aa ab 2)) fun v20=>
 R (binP false .add bw v20) fun bK=>
 R (lenP (aa ab 3)) fun cD=>
 R (binP false .add bK cD) fun cM=>
 R (lenP (aa ab 4)) fun cj=>
 R (binP false .add cM cj) fun cC=>
 R (lenP (aa ab 5)) fun dt=>
 R (binP false .add cC dt) fun dB=>
 R (lenP (aa ab 6)) fun dh=>
 R (binP false .add dB dh) fun dy=>
 R (lenP (aa ab 7)) fun du=>
 R (binP false .add dy du) fun eU=>
 R (binP false .gtr eU ah) fun dN=>
 oif dN (
 some (au false)
) (
 R (
 bk (BO n) n [ah,eU,J 0,aa ab 0,aa ab 1,aa ab 2,aa ab 3,aa ab 4,aa ab 5,aa ab 6,aa ab 7,D.aD 4 []]
)<|a7 fun ls=>
 R (
 bk (BP n) n [I ls 0,I ls 1,J 0,I ls 2,I ls 3,I ls 4,I ls 5,I ls 6,I ls 7,I ls 8,I ls 9,D.aD 4 (esD (I ls 10))]
)<|a7 fun ls=>
 R (elP (I ls 4)) fun vE=>
 aw (decide (vE.1=4∨vE.2=[])&&decide (0<4))<|
 aw (c7 (((esD (I ls 10))).length+(vE.2).length) 56)<|
 R (elP (I ls 5)) fun yN=>
 aw (decide (yN.1=4∨yN.2=[])&&decide (0<4))<|
 aw (c7 ((((esD (I ls 10))++vE.2)).length+(yN.2).length) 56)<|
 R (elP (I ls 7)) fun BQ=>
 aw (decide (BQ.1=4∨BQ.2=[])&&decide (0<4))<|
 aw (c7 (((((esD (I ls 10))++vE.2)++yN.2)).length+(BQ.2).length) 56)<|
 R (elP (I ls 8)) fun GH=>
 aw (decide (GH.1=4∨GH.2=[])&&decide (0<4))<|
 aw (c7 ((((((esD (I ls 10))++vE.2)++yN.2)++BQ.2)).length+(GH.2).length) 56)<|
 R (
 bk (yK n) n [I ls 0,I ls 1,J 0,I ls 2,I ls 3,I ls 4,I ls 5,I ls 6,I ls 7,I ls 8,I ls 9,D.aD 4 (((((esD (I ls 10))++vE.2)++yN.2)++BQ.2)++GH.2)]
)<|a7 fun ls=>
 R (
 bk (yL n) n [I ls 0,I ls 1,J 0,I ls 2,I ls 3,I ls 4,I ls 5,I ls 6,I ls 7,I ls 8,I ls 9]
)<|a7 fun ls=>
 R (binP false .leq (I ls 1) (I ls 0)) fun vF=>
 some vF
)
def yO(n:Nat):List D→Option D
 |[ab,ah]=>LD n ab ah
 |_=>none
def BR(n:Nat)(ls:List D):Option (List D⊕(List D⊕D)):=
 R (binP false .lss (I ls 3) (I ls 2)) fun v10=>
 oif v10 (
 R (a2 1 (I ls 1) (I ls 3)) fun vG=>
 R (aW false 1 0 vG) fun bY=>
 R (lenP bY) fun bq=>
 R (binP false .gtr bq (J 20)) fun bh=>
 oif bh (
 aU (
 aU (
 some (au false)
)
)
) (
 R (binP false .add (I ls 3) (J 1)) fun bF=>
 some (.inl [I ls 0,I ls 1,I ls 2,bF,I ls 4,I ls 5,I ls 6,I ls 7,I ls 8,I ls 9,I ls 10,I ls 11])
)
) (
 aU (
 some (.inl [I ls 0,I ls 4,I ls 5,I ls 6,I ls 7,I ls 8,I ls 9,I ls 10,I ls 11])
)
)
def GI(n:Nat)(ab:D)(ah:D):Option D:=
 aw (aL 8 ab)<|
 R (lenP ah) fun cl=>
 R (
 bk (BR n) n [ah,ah,cl,J 0,aa ab 0,aa ab 1,aa ab 2,aa ab 3,aa ab 4,aa ab 5,aa ab 6,aa ab 7]
)<|a7 fun ls=>
 R (lenP (I ls 0)) fun bE=>
 R (binP false .leq bE (J 40)) fun cb=>
 R (gD cb true (
 R (yO n [D.agg [I ls 1,I ls 2,I ls 3,I ls 4,I ls 5,I ls 6,I ls 7,I ls 8],J 600]) fun bQ=>
 some bQ
)) fun bQ=>
 R (pickP cb bQ (au false)) fun b6=>
 some b6
def vH(n:Nat):List D→Option D
 |[ab,ah]=>GI n ab ah
 |_=>none
def aeR(n:Nat)(ab:D):Option D:=
 aw (bC ab)<|
 aw (aL 4 (D.agg [J 1,ab,aJ ⟨#[]⟩,D.val (.slice none 0 0)]))<|
 some (D.agg [J 1,ab,aJ ⟨#[]⟩,D.val (.slice none 0 0)])
def vI(n:Nat):List D→Option D
 |[ab]=>aeR n ab
 |_=>none
def aeS(n:Nat)(ab:D)(ah:D):Option D:=
 aw (bC ab)<|
 aw (bC ah)<|
 aw (aL 4 (D.agg [ab,J 0,aJ ⟨#[]⟩,ah]))<|
 some (D.agg [ab,J 0,aJ ⟨#[]⟩,ah])
def vJ(n:Nat):List D→Option D
 |[ab,ah]=>aeS n ab ah
 |_=>none
def aeT(n:Nat):Option D:=
 R (vI n [J 2]) fun v10=>
 aw (aL 4 v10)<|
 R (vJ n [J 10,D.aD 4 [[J 3,J 0,aJ ⟨#[120]⟩,D.val (.slice none 0 0)],[aa v10 0,aa v10 1,aa v10 2,aa v10 3]]]) fun bY=>
 R (vI n [J 0]) fun bq=>
 R (vI n [J 1]) fun bE=>
 aw (aL 4 bE)<|
 R (vJ n [J 14,D.aD 4 [[J 3,J 0,aJ ⟨#[120]⟩,D.val (.slice none 0 0)],[aa bE 0,aa bE 1,aa bE 2,aa bE 3]]]) fun v20=>
 aw (aL 4 bY)<|
 aw (aL 4 bq)<|
 aw (aL 4 v20)<|
 R (vJ n [J 18,D.aD 4 [[aa bY 0,aa bY 1,aa bY 2,aa bY 3],[aa bq 0,aa bq 1,aa bq 2,aa bq 3],[aa v20 0,aa v20 1,aa v20 2,aa v20 3]]]) fun bQ=>
 aw (aL 4 bQ)<|
 aw (aL 4 (D.agg [aa bQ 0,aa bQ 1,aa bQ 2,aa bQ 3]))<|
 R (vI n [J 0]) fun cj=>
 aw (aL 4 cj)<|
 R (vJ n [J 10,D.aD 4 [[J 3,J 0,aJ ⟨#[120]⟩,D.val (.slice none 0 0)],[aa cj 0,aa cj 1,aa cj 2,aa cj 3]]]) fun v30=>
 R (vI n [J 1]) fun dm=>
 aw (aL 4 dm)<|
 R (vJ n [J 10,D.aD 4 [[J 3,J 0,aJ ⟨#[120]⟩,D.val (.slice none 0 0)],[aa dm 0,aa dm 1,aa dm 2,aa dm 3]]]) fun du=>
 aw (aL 4 v30)<|
 aw (aL 5 (D.agg [aJ ⟨#[120]⟩,aa bQ 0,aa bQ 1,aa bQ 2,aa bQ 3]))<|
 aw (aL 4 du)<|
 some (D.agg [D.aD 4 [[aJ ⟨#[120]⟩,au false,J 0,J 2]],D.val (.slice none 0 0),D.aD 4 [[aa v30 0,aa v30 1,aa v30 2,aa v30 3]],D.val (.slice none 0 0),D.aD 5 [[aJ ⟨#[120]⟩,aa bQ 0,aa bQ 1,aa bQ 2,aa bQ 3]],D.val (.slice none 0 0),D.aD 4 [[aa du 0,aa du 1,aa du 2,aa du 3]],D.val (.slice none 0 0)])
def LF(n:Nat):List D→Option D
 |[]=>aeT n
 |_=>none
def SS(n:Nat)(ab:D):Option D:=
 R (binP false .geq ab (D.val (.int .u8 97))) fun v4=>
 R (gD v4 true (
 R (binP false .leq ab (D.val (.int .u8 122))) fun b1=>
 some b1
)) fun b1=>
 R (pickP v4 b1 (au false)) fun cl=>
 R (gD cl false (
 R (binP false .geq ab (D.val (.int .u8 65))) fun v11=>
 some v11
)) fun bY=>
 R (gD bY true (
 R (binP false .leq ab (D.val (.int .u8 90))) fun bq=>
 some bq
)) fun bq=>
 R (gD cl false (
 R (pickP bY bq (au false)) fun bh=>
 some bh
)) fun bh=>
 R (pickP cl (au true) bh) fun bF=>
 some bF
def vK(n:Nat):List D→Option D
 |[ab]=>SS n ab
 |_=>none
def SU(n:Nat)(ab:D):Option D:=
 R (binP false .geq ab (D.val (.int .u8 48))) fun v4=>
 R (gD v4 true (
 R (binP false .leq ab (D.val (.int .u8 57))) fun b1=>
 some b1
)) fun b1=>
 R (pickP v4 b1 (au false)) fun cl=>
 some cl
def BS(n:Nat):List D→Option D
 |[ab]=>SU n ab
 |_=>none
def SV(n:Nat)(ab:D):Option D:=
 R (vK n [ab]) fun v4=>
 R (gD v4 false (
 R (BS n [ab]) fun b1=>
 some b1
)) fun b1=>
 R (pickP v4 (au true) b1) fun cl=>
 R (gD cl false (
 R (binP false .eql ab (D.val (.int .u8 95))) fun v11=>
 some v11
)) fun v11=>
 R (pickP cl (au true) v11) fun bY=>
 some bY
def BT(n:Nat):List D→Option D
 |[ab]=>SV n ab
 |_=>none
def BU(n:Nat)(ls:List D):Option (List D⊕(List D⊕D)):=
 R (nr (I ls 0)) fun cl=>
 R (binP false .lss (I ls 1) cl) fun bM=>
 R (gD bM true (
 R (sixP (I ls 0) (I ls 1)) fun bq=>
 R (BT n [bq]) fun bh=>
 some bh
)) fun bh=>
 R (pickP bM bh (au false)) fun bF=>
 oif bF (
 R (binP false .add (I ls 1) (J 1)) fun bE=>
 some (.inl [I ls 0,bE])
) (
 aU (
 some (.inl [I ls 1])
)
)
def LG(n:Nat)(ab:D):Option D:=
 R (
 bk (BU n) n [ab,J 0]
)<|a7 fun ls=>
 some (I ls 0)
def yP(n:Nat):List D→Option D
 |[ab,ah]=>aw (isFc BK ah) (LG n ab)
 |_=>none
def yQ(n:Nat)(ls:List D):Option (List D⊕(List D⊕D)):=
 R (binP false .lss (I ls 3) (I ls 2)) fun bM=>
 oif bM (
 R (a2 1 (I ls 0) (I ls 3)) fun eV=>
 R (aW false 1 0 eV) fun bh=>
 R (binP false .eql (I ls 1) bh) fun bF=>
 oif bF (
 aU (
 aU (
 some (I ls 3)
)
)
) (
 R (binP false .add (I ls 3) (J 1)) fun bE=>
 some (.inl [I ls 0,I ls 1,I ls 2,bE])
)
) (
 aU (
 some (.inl [])
)
)
def LH(n:Nat)(ab:D)(ah:D):Option D:=
 R (lenP ab) fun b1=>
 R (
 bk (yQ n) n [ab,ah,b1,J 0]
)<|a7 fun ls=>
 some (J (-1))
def yR(n:Nat):List D→Option D
 |[ab,ah]=>LH n ab ah
 |_=>none
def SW(n:Nat)(ab:D)(ah:D):Option D:=
 R (yR n [ab,ah]) fun b1=>
 R (binP false .geq b1 (J 0)) fun cl=>
 some cl
def BV(n:Nat):List D→Option D
 |[ab,ah]=>SW n ab ah
 |_=>none
def LI(n:Nat)(ab:D):Option D:=
 R (binP false .neq ab (aJ ⟨#[]⟩)) fun v4=>
 R (gD v4 true (
 R (nr ab) fun b1=>
 R (binP false .leq b1 (J 24)) fun cl=>
 some cl
)) fun cl=>
 R (pickP v4 cl (au false)) fun bM=>
 R (gD bM true (
 R (sixP ab (J 0)) fun bY=>
 R (vK n [bY]) fun bZ=>
 some bZ
)) fun bZ=>
 R (pickP bM bZ (au false)) fun bq=>
 R (gD bq true (
 R (yP n [ab,(D.val (.func (.func BK) #[] #[]))]) fun bw=>
 R (nr ab) fun cb=>
 R (binP false .eql bw cb) fun v20=>
 some v20
)) fun v20=>
 R (pickP bq v20 (au false)) fun bK=>
 R (gD bK true (
 R (BV n [(D.aD 1 ((BI).map fun c=>[c])),ab]) fun cM=>
 R (unP .not cM) fun cp=>
 some cp
)) fun cp=>
 R (pickP bK cp (au false)) fun cE=>
 some cE
def qD(n:Nat):List D→Option D
 |[ab]=>LI n ab
 |_=>none
def LJ(n:Nat)(ab:D)(x1:List D):Option D:=
 aw (aL 4 ab)<|
 R (aW false 1 0 x1) fun b1=>
 R (binP false .eql (aa ab 0) b1) fun cl=>
 some cl
def yS(n:Nat):List D→Option D
 |[ab,ah]=>(match ah with| .ref x1 0=>LJ n ab x1|_=>none)
 |_=>none
def vL(n:Nat)(ls:List D):Option (List D⊕(List D⊕D)):=
 R (binP false .lss (I ls 3) (I ls 2)) fun bM=>
 oif bM (
 R (a2 4 (I ls 0) (I ls 3)) fun eV=>
 R (aW true 4 0 eV) fun bh=>
 R (yS n [bh,I ls 1]) fun bF=>
 oif bF (
 aU (
 aU (
 some (I ls 3)
)
)
) (
 R (binP false .add (I ls 3) (J 1)) fun bE=>
 some (.inl [I ls 0,I ls 1,I ls 2,bE])
)
) (
 aU (
 some (.inl [])
)
)
def LK(n:Nat)(ab:D)(b7:D):Option D:=
 R (lenP ab) fun b1=>
 R (
 bk (vL n) n [ab,b7,b1,J 0]
)<|a7 fun ls=>
 some (J (-1))
def vM(n:Nat):List D→Option D
 |[ab,ah]=>(match fnOf qy ah with|some [b7]=>LK n ab b7|_=>none)
 |_=>none
def LL(n:Nat)(ab:D)(b7:D):Option D:=
 R (vM n [ab,(D.fn (.func qy) [] [b7])]) fun b1=>
 R (binP false .geq b1 (J 0)) fun cl=>
 some cl
def yT(n:Nat):List D→Option D
 |[ab,ah]=>(match fnOf qy ah with|some [b7]=>LL n ab b7|_=>none)
 |_=>none
def vN(n:Nat)(ls:List D):Option (List D⊕(List D⊕D)):=
 R (binP false .lss (I ls 3) (I ls 2)) fun v11=>
 oif v11 (
 R (a2 4 (I ls 1) (I ls 3)) fun BW=>
 R (aW true 4 0 BW) fun bq=>
 aw (aL 4 bq)<|
 R (jI true [aa bq 2,aa bq 3]) fun v20=>
 R (binP false .gtr v20 (J 255)) fun bK=>
 R (gD bK false (
 R (jI false [aa bq 2,aa bq 3]) fun cE=>
 R (binP false .lss cE (J (-255))) fun cj=>
 some cj
)) fun cj=>
 R (pickP bK (au true) cj) fun cC=>
 R (qD n [aa bq 0]) fun dB=>
 R (unP .not dB) fun ds=>
 oif ds (
 aU (
 aU (
 some (D.aO [I ls 3,J 12])
)
)
) (
 R (ji 4 (I ls 0) none (some (I ls 3))) fun eA=>
 R (yT n [eA,(D.fn (.func qy) [] [D.ref [aa bq 0,aa bq 1,aa bq 2,aa bq 3] 0])]) fun eU=>
 aw eU.flat<|
 oif eU (
 aU (
 aU (
 some (D.aO [I ls 3,J 6])
)
)
) (
 R (gD (aa bq 1) true (
 R (binP false .neq (aa bq 2) (J 0)) fun eD=>
 some eD
)) fun c8=>
 R (gD c8 false (
 R (binP false .neq (aa bq 3) (J 0)) fun hn=>
 some hn
)) fun hn=>
 R (gD (aa bq 1) true (
 R (pickP c8 (au true) hn) fun hI=>
 some hI
)) fun hI=>
 R (pickP (aa bq 1) hI (au false)) fun e0=>
 oif e0 (
 aU (
 aU (
 some (D.aO [I ls 3,J 3])
)
)
) (
 R (unP .not (aa bq 1)) fun eB=>
 R (gD eB true (
 R (binP false .gtr (aa bq 2) (aa bq 3)) fun dU=>
 some dU
)) fun fA=>
 R (gD fA false (
 some cC
)) fun fJ=>
 R (gD eB true (
 R (pickP fA (au true) fJ) fun eh=>
 some eh
)) fun iT=>
 R (gD iT false (
 R (binP false .sub (aa bq 3) (aa bq 2)) fun mZ=>
 R (binP false .geq mZ (J 64)) fun gW=>
 some gW
)) fun gW=>
 R (gD eB true (
 R (pickP iT (au true) gW) fun gv=>
 some gv
)) fun gv=>
 R (pickP eB gv (au false)) fun lE=>
 oif lE (
 aU (
 aU (
 some (D.aO [I ls 3,J 2])
)
)
) (
 R (binP false .add (I ls 3) (J 1)) fun jO=>
 some (.inl [I ls 0,I ls 1,I ls 2,jO])
)
)
)
)
) (
 aU (
 some (.inl [])
)
)
def SX(n:Nat)(ab:D):Option D:=
 R (lenP ab) fun bM=>
 R (
 bk (vN n) n [ab,ab,bM,J 0]
)<|a7 fun ls=>
 some (D.aO [J 0,J 0])
def yU(n:Nat):List D→Option D
 |[ab]=>SX n ab
 |_=>none
def SY(n:Nat)(ab:D):Option D:=
 aw (aL 4 ab)<|
 oif (aa ab 1) (
 some (J 2)
) (
 R (binP false .gtr (aa ab 2) (aa ab 3)) fun bY=>
 oif bY (
 some (J 0)
) (
 R (cvP .u64 (aa ab 3)) fun bh=>
 R (cvP .u64 (aa ab 2)) fun bE=>
 R (binP false .sub bh bE) fun cb=>
 R (binP false .lss cb (D.val (.int .u64 1073741824))) fun bK=>
 oif bK (
 R (cvP .i64 cb) fun b6=>
 R (binP false .add b6 (J 1)) fun cD=>
 some cD
) (
 some (J 1073741825)
)
)
)
def BX(n:Nat):List D→Option D
 |[ab]=>SY n ab
 |_=>none
def GJ(n:Nat)(ls:List D):Option (List D⊕(List D⊕D)):=
 R (binP false .lss (I ls 1) (J 63)) fun j8=>
 oif j8 (
 R (binP false .shl (J 1) (I ls 1)) fun bM=>
 R (binP false .leq (I ls 0) bM) fun v10=>
 oif v10 (
 aU (
 aU (
 some (I ls 1)
)
)
) (
 R (binP false .add (I ls 1) (J 1)) fun bY=>
 some (.inl [I ls 0,bY])
)
) (
 aU (
 some (.inl [])
)
)
def SZ(n:Nat)(ab:D):Option D:=
 R (
 bk (GJ n) n [ab,J 0]
)<|a7 fun ls=>
 some (J 63)
def BY(n:Nat):List D→Option D
 |[ab]=>SZ n ab
 |_=>none
def GK(n:Nat)(ls:List D):Option (List D⊕(List D⊕D)):=
 R (binP false .lss (I ls 3) (I ls 2)) fun v10=>
 oif v10 (
 R (a2 4 (I ls 1) (I ls 3)) fun vG=>
 R (aW true 4 0 vG) fun bY=>
 aw (aL 4 bY)<|
 R (BX n [D.agg [aa bY 0,aa bY 1,aa bY 2,aa bY 3]]) fun bh=>
 R (BY n [bh]) fun bF=>
 R (binP false .add (I ls 0) bF) fun bw=>
 R (binP false .add (I ls 3) (J 1)) fun bE=>
 some (.inl [bw,I ls 1,I ls 2,bE])
) (
 aU (
 some (.inl [I ls 0])
)
)
def S0(n:Nat)(ab:D):Option D:=
 aw (aL 8 ab)<|
 R (lenP (aa ab 0)) fun cl=>
 R (
 bk (GK n) n [J 0,aa ab 0,cl,J 0]
)<|a7 fun ls=>
 some (I ls 0)
def BZ(n:Nat):List D→Option D
 |[ab]=>S0 n ab
 |_=>none
def S1(n:Nat)(ab:D):Option D:=
 R (lenP ab) fun v4=>
 some v4
def B0(n:Nat):List D→Option D
 |[ab]=>S1 n ab
 |_=>none
def S2(n:Nat)(ab:D):Option D:=
 R (lenP ab) fun v4=>
 some v4
def B1(n:Nat):List D→Option D
 |[ab]=>S2 n ab
 |_=>none
def B2(n:Nat)(ab:D):Option D:=
 aw (aL 3 ab)<|
 R (lenP (aa ab 1)) fun j8=>
 some j8
def pr(n:Nat):List D→Option D
 |[ab]=>B2 n ab
 |_=>none
def S3(n:Nat)(ab:D):Option D:=
 R (lenP ab) fun v4=>
 some v4
def B3(n:Nat):List D→Option D
 |[ab]=>S3 n ab
 |_=>none
def S4(n:Nat)(ab:D):Option D:=
 R (lenP ab) fun v4=>
 some v4
def B4(n:Nat):List D→Option D
 |[ab]=>S4 n ab
 |_=>none
def S5(n:Nat)(ab:D):Option D:=
 R (lenP ab) fun v4=>
 some v4
def B5(n:Nat):List D→Option D
 |[ab]=>S5 n ab
 |_=>none
def GL(n:Nat)(ab:D)(x1:List D):Option D:=
 aw (aL 7 ab)<|
 R (aW false 1 0 x1) fun v6=>
 R (binP false .eql (aa ab 0) v6) fun b1=>
 some b1
def B6(n:Nat):List D→Option D
 |[ab,ah]=>(match ah with| .ref x1 0=>GL n ab x1|_=>none)
 |_=>none
def B7(n:Nat)(ls:List D):Option (List D⊕(List D⊕D)):=
 R (binP false .lss (I ls 3) (I ls 2)) fun bM=>
 oif bM (
 R (a2 7 (I ls 0) (I ls 3)) fun eV=>
 R (aW true 7 0 eV) fun bh=>
 R (B6 n [bh,I ls 1]) fun bF=>
 oif bF (
 aU (
 aU (
 some (I ls 3)
)
)
) (
 R (binP false .add (I ls 3) (J 1)) fun bE=>
 some (.inl [I ls 0,I ls 1,I ls 2,bE])
)
) (
 aU (
 some (.inl [])
)
)
def B8(n:Nat)(ab:D)(b7:D):Option D:=
 R (lenP ab) fun b1=>
 R (
 bk (B7 n) n [ab,b7,b1,J 0]
)<|a7 fun ls=>
 some (J (-1))
def vO(n:Nat):List D→Option D
 |[ab,ah]=>(match fnOf po ah with|some [b7]=>B8 n ab b7|_=>none)
 |_=>none
def GM(n:Nat)(ab:D)(b7:D):Option D:=
 R (vO n [ab,(D.fn (.func po) [] [b7])]) fun b1=>
 R (binP false .geq b1 (J 0)) fun cl=>
 some cl
def vP(n:Nat):List D→Option D
 |[ab,ah]=>(match fnOf po ah with|some [b7]=>GM n ab b7|_=>none)
 |_=>none
def S6(n:Nat)(ab:D):Option D:=
 R (binP false .eql ab (J 1)) fun v6=>
 R (
 oif v6 (
 some (.inl [ab,v6])
) (
 R (binP false .eql ab (J 2)) fun b1=>
 R (
 oif b1 (
 some (.inl [ab,b1])
) (
 R (binP false .eql ab (J 3)) fun cl=>
 R (
 oif cl (
 some (.inl [ab,cl])
) (
 R (binP false .eql ab (J 4)) fun bM=>
 some (.inl [ab,bM])
)
)<|a7 fun ls=>
 some (.inl [I ls 0,I ls 1])
)
)<|a7 fun ls=>
 some (.inl [I ls 0,I ls 1])
)
)<|a7 fun ls=>
 oif (I ls 1) (
 some (D.aO [J 0,J 0])
) (
 R (binP false .eql (I ls 0) (J 5)) fun v11=>
 oif v11 (
 some (D.aO [J 1,J 1])
) (
 R (binP false .eql (I ls 0) (J 6)) fun bZ=>
 R (
 oif bZ (
 some (.inl [I ls 0,bZ])
) (
 R (binP false .eql (I ls 0) (J 7)) fun bq=>
 some (.inl [I ls 0,bq])
)
)<|a7 fun ls=>
 oif (I ls 1) (
 some (D.aO [J 1,J 64])
) (
 R (binP false .eql (I ls 0) (J 8)) fun bF=>
 R (
 oif bF (
 some (.inl [I ls 0,bF])
) (
 R (binP false .eql (I ls 0) (J 9)) fun bw=>
 R (
 oif bw (
 some (.inl [I ls 0,bw])
) (
 R (binP false .eql (I ls 0) (J 10)) fun bE=>
 R (
 oif bE (
 some (.inl [I ls 0,bE])
) (
 R (binP false .eql (I ls 0) (J 11)) fun cb=>
 R (
 oif cb (
 some (.inl [I ls 0,cb])
) (
 R (binP false .eql (I ls 0) (J 12)) fun v20=>
 R (
 oif v20 (
 some (.inl [I ls 0,v20])
) (
 R (binP false .eql (I ls 0) (J 13)) fun bK=>
 R (
 oif bK (
 some (.inl [I ls 0,bK])
) (
 R (binP false .eql (I ls 0) (J 14)) fun bQ=>
 R (
 oif bQ (
 some (.inl [I ls 0,bQ])
) (
 R (binP false .eql (I ls 0) (J 15)) fun b6=>
 R (
 oif b6 (
 some (.inl [I ls 0,b6])
) (
 R (binP false .eql (I ls 0) (J 16)) fun cD=>
 R (
 oif cD (
 some (.inl [I ls 0,cD])
) (
 R (binP false .eql (I ls 0) (J 17)) fun cM=>
 some (.inl [I ls 0,cM])
)
)<|a7 fun ls=>
 some (.inl [I ls 0,I ls 1])
)
)<|a7 fun ls=>
 some (.inl [I ls 0,I ls 1])
)
)<|a7 fun ls=>
 some (.inl [I ls 0,I ls 1])
)
)<|a7 fun ls=>
 some (.inl [I ls 0,I ls 1])
)
)<|a7 fun ls=>
 some (.inl [I ls 0,I ls 1])
)
)<|a7 fun ls=>
 some (.inl [I ls 0,I ls 1])
)
)<|a7 fun ls=>
 some (.inl [I ls 0,I ls 1])
)
)<|a7 fun ls=>
 some (.inl [I ls 0,I ls 1])
)
)<|a7 fun ls=>
 oif (I ls 1) (
 some (D.aO [J 2,J 2])
) (
 R (binP false .eql (I ls 0) (J 18)) fun cE=>
 oif cE (
 some (D.aO [J 3,J 3])
) (
 some (D.aO [J (-1),J (-1)])
)
)
)
)
)
def B9(n:Nat):List D→Option D
 |[ab]=>S6 n ab
 |_=>none
def S7(n:Nat)(ab:D):Option D:=
 aw (aL 4 ab)<|
 R (B9 n [aa ab 0]) fun v11=>
 R (extP 0 v11) fun bY=>
 R (extP 1 v11) fun bZ=>
 R (binP false .lss bY (J 0)) fun bh=>
 oif bh (
 some (J 11)
) (
 R (
 R (binP false .eql (aa ab 0) (J 1)) fun cb=>
 R (
 oif cb (
 some (.inl [bY,bZ,J (-255),J 255,aa ab 0,aa ab 1,aa ab 2,aa ab 3])
) (
 R (binP false .eql (aa ab 0) (J 2)) fun bK=>
 R (
 oif bK (
 some (.inl [bY,bZ,J 0,J 1,aa ab 0,aa ab 1,aa ab 2,aa ab 3])
) (
 some (.inl [bY,bZ,J 0,J 0,aa ab 0,aa ab 1,aa ab 2,aa ab 3])
)
)<|a7 fun ls=>
 some (.inl [I ls 0,I ls 1,I ls 2,I ls 3,I ls 4,I ls 5,I ls 6,I ls 7])
)
)<|a7 fun ls=>
 some (.inl [I ls 0,I ls 1,I ls 2,I ls 3,I ls 4,I ls 5,I ls 6,I ls 7])
)<|a7 fun ls=>
 R (binP false .eql (I ls 4) (J 3)) fun cD=>
 R (gD cD false (
 R (binP false .eql (I ls 4) (J 4)) fun cj=>
 some cj
)) fun cj=>
 R (pickP cD (au true) cj) fun cC=>
 R (binP false .lss (I ls 5) (I ls 2)) fun ds=>
 R (gD ds false (
 R (binP false .gtr (I ls 5) (I ls 3)) fun eA=>
 some eA
)) fun eA=>
 R (pickP ds (au true) eA) fun du=>
 oif du (
 some (J 2)
) (
 R (gD cC true (
 R (binP false .eql (I ls 6) (aJ ⟨#[]⟩)) fun gk=>
 some gk
)) fun iU=>
 R (gD iU false (
 R (nr (I ls 6)) fun c8=>
 R (binP false .gtr c8 (J 24)) fun fz=>
 some fz
)) fun fz=>
 R (gD cC true (
 R (pickP iU (au true) fz) fun e5=>
 some e5
)) fun e5=>
 R (pickP cC e5 (au false)) fun hn=>
 R (gD hn false (
 R (unP .not cC) fun e1=>
 some e1
)) fun ho=>
 R (gD ho true (
 R (binP false .neq (I ls 6) (aJ ⟨#[]⟩)) fun eB=>
 some eB
)) fun eB=>
 R (gD hn false (
 R (pickP ho eB (au false)) fun ha=>
 some ha
)) fun ha=>
 R (pickP hn (au true) ha) fun iy=>
 oif iy (
 some (J 12)
) (
 R (lenP (I ls 7)) fun dU=>
 R (binP false .lss dU (I ls 0)) fun fJ=>
 R (gD fJ false (
 R (lenP (I ls 7)) fun gw=>
 R (binP false .gtr gw (I ls 1)) fun gF=>
 some gF
)) fun gF=>
 R (pickP fJ (au true) gF) fun mZ=>
 oif mZ (
 some (J 3)
) (
 some (J 0)
)
)
)
)
def Ca(n:Nat):List D→Option D
 |[ab]=>S7 n ab
 |_=>none
def Cb(n:Nat)(ls:List D):Option (List D):=
 aw (aL 4 (I ls 0))<|
 R (binP false .add (I ls 2) (J 1)) fun cl=>
 aw (bC cl)<|
 R (binP false .gtr (I ls 1) (J 64)) fun v10=>
 R (
 oif v10 (
 some (.inl [J 17,cl])
) (
 R (Ca n [D.agg [aa (I ls 0) 0,aa (I ls 0) 1,aa (I ls 0) 2,aa (I ls 0) 3]]) fun bY=>
 aw (bC bY)<|
 R (binP false .eql bY (J 0)) fun bq=>
 R (gD bq true (
 R (binP false .gtr cl (J 4096)) fun bw=>
 some bw
)) fun bw=>
 R (pickP bq bw (au false)) fun bE=>
 R (
 oif bE (
 some (.inl [J 4,cl])
) (
 some (.inl [bY,cl])
)
)<|a7 fun ls=>
 some (.inl [I ls 0,I ls 1])
)
)<|a7 fun ls=>
 R (binP false .eql (I ls 0) (J 0)) fun v20=>
 some [v20,I ls 1,I ls 0]
def Cc(n:Nat)(ls:List D):Option (List D⊕(List D⊕(List D))):=
 R (binP false .gtr (I ls 1) (J 0)) fun bM=>
 R (gD bM true (
 R (binP false .sub (I ls 1) (J 1)) fun bZ=>
 R (cH ((esD (I ls 2))).length bZ) fun LM=>
 R (((esD (I ls 2)))[LM]?) fun aeU=>
 R (aW false 1 0 aeU) fun bh=>
 R (binP false .gtr bh (I ls 0)) fun bw=>
 some bw
)) fun bw=>
 R (pickP bM bw (au false)) fun bE=>
 oif bE (
 R (binP false .sub (I ls 1) (J 1)) fun v20=>
 some (.inl [I ls 0,v20,D.aD 1 (esD (I ls 2))])
) (
 aU (
 some (.inl [I ls 0,I ls 1,D.aD 1 (esD (I ls 2))])
)
)
def tF(n:Nat)(ls:List D):Option (List D):=
 R (
 bk (Cc n) n [I ls 0,J ((esD (I ls 1))).length,D.aD 1 (esD (I ls 1))]
)<|a7 fun ls=>
 R (binP false .gtr (I ls 1) (J 0)) fun bQ=>
 R (gD bQ true (
 R (binP false .sub (I ls 1) (J 1)) fun cp=>
 R (cH ((esD (I ls 2))).length cp) fun Cd=>
 R (((esD (I ls 2)))[Cd]?) fun Ce=>
 R (aW false 1 0 Ce) fun cj=>
 R (binP false .eql cj (I ls 0)) fun v30=>
 some v30
)) fun v30=>
 R (pickP bQ v30 (au false)) fun dJ=>
 oif dJ (
 some [D.aD 1 (esD (I ls 2))]
) (
 aw (c7 (((esD (I ls 2))).length+([[aJ ⟨#[]⟩]]).length) 16)<|
 R (binP false .add (I ls 1) (J 1)) fun dm=>
 R (nq (((esD (I ls 2))++[[aJ ⟨#[]⟩]])).length (some dm) none) fun m0=>
 R (nq (((esD (I ls 2))++[[aJ ⟨#[]⟩]])).length (some (I ls 1)) none) fun jP=>
 aw (decide (jP.1+jP.2≤(((esD (I ls 2))++[[aJ ⟨#[]⟩]])).length))<|
 aw (decide (m0.1+m0.2≤(((esD (I ls 2))++[[aJ ⟨#[]⟩]])).length))<|
 R (cH (((((esD (I ls 2))++[[aJ ⟨#[]⟩]])).take m0.1++(((((esD (I ls 2))++[[aJ ⟨#[]⟩]])).drop jP.1).take jP.2).take (min (((((esD (I ls 2))++[[aJ ⟨#[]⟩]])).drop jP.1).take jP.2).length m0.2)++(((esD (I ls 2))++[[aJ ⟨#[]⟩]])).drop (m0.1+(min (((((esD (I ls 2))++[[aJ ⟨#[]⟩]])).drop jP.1).take jP.2).length m0.2)))).length (I ls 1)) fun S8=>
 aw (bC (I ls 0))<|
 R ((((((esD (I ls 2))++[[aJ ⟨#[]⟩]])).take m0.1++(((((esD (I ls 2))++[[aJ ⟨#[]⟩]])).drop jP.1).take jP.2).take (min (((((esD (I ls 2))++[[aJ ⟨#[]⟩]])).drop jP.1).take jP.2).length m0.2)++(((esD (I ls 2))++[[aJ ⟨#[]⟩]])).drop (m0.1+(min (((((esD (I ls 2))++[[aJ ⟨#[]⟩]])).drop jP.1).take jP.2).length m0.2))))[S8]?) fun lv=>
 some [D.aD 1 ((((((esD (I ls 2))++[[aJ ⟨#[]⟩]])).take m0.1++(((((esD (I ls 2))++[[aJ ⟨#[]⟩]])).drop jP.1).take jP.2).take (min (((((esD (I ls 2))++[[aJ ⟨#[]⟩]])).drop jP.1).take jP.2).length m0.2)++(((esD (I ls 2))++[[aJ ⟨#[]⟩]])).drop (m0.1+(min (((((esD (I ls 2))++[[aJ ⟨#[]⟩]])).drop jP.1).take jP.2).length m0.2)))).set S8 (lk lv 0 [I ls 0]))]
)
def vQ(n:Nat)(ls:List D):Option (List D):=
 aw (aL 4 (I ls 0))<|
 R (
 R (binP false .eql (aa (I ls 0) 0) (J 3)) fun v10=>
 R (
 oif v10 (
 R (tF n [aa (I ls 0) 2,D.aD 1 (esD (I ls 2))]) fun ad=>
 some (.inl [D.aD 1 (esD (I ad 0)),D.aD 1 (esD (I ls 3))])
) (
 R (binP false .eql (aa (I ls 0) 0) (J 4)) fun bF=>
 R (
 oif bF (
 R (tF n [aa (I ls 0) 2,D.aD 1 (esD (I ls 3))]) fun ae=>
 some (.inl [D.aD 1 (esD (I ls 2)),D.aD 1 (esD (I ae 0))])
) (
 some (.inl [D.aD 1 (esD (I ls 2)),D.aD 1 (esD (I ls 3))])
)
)<|a7 fun ls=>
 some (.inl [D.aD 1 (esD (I ls 0)),D.aD 1 (esD (I ls 1))])
)
)<|a7 fun ls=>
 some (.inl [D.aD 1 (esD (I ls 0)),D.aD 1 (esD (I ls 1))])
)<|a7 fun ls=>
 some [au true,D.aD 1 (esD (I ls 0)),D.aD 1 (esD (I ls 1))]
def GN(vR:List D→Option (List D))(n:Nat)(ls:List D):Option (List D⊕(List D⊕(List D))):=
 R (binP false .lss (I ls 3) (I ls 2)) fun bE=>
 oif bE (
 R (a2 4 (I ls 1) (I ls 3)) fun ps=>
 R (aW true 4 0 ps) fun v20=>
 aw (aL 4 v20)<|
 R (binP false .add (I ls 0) (J 1)) fun b6=>
 R (vR [D.agg [aa v20 0,aa v20 1,aa v20 2,aa v20 3],b6,I ls 4,I ls 5]) fun ae=>
 R (unP .not (I ae 0)) fun cp=>
 oif cp (
 aU (
 aU (
 some [au false,I ae 1,I ae 2]
)
)
) (
 R (binP false .add (I ls 3) (J 1)) fun cE=>
 some (.inl [I ls 0,I ls 1,I ls 2,cE,I ae 1,I ae 2])
)
) (
 aU (
 some (.inl [I ls 4,I ls 5])
)
)
def LN(vR:List D→Option (List D))(n:Nat)(ls:List D):Option (List D):=
 aw (aL 4 (I ls 0))<|
 R (Cb n [D.agg [aa (I ls 0) 0,aa (I ls 0) 1,aa (I ls 0) 2,aa (I ls 0) 3],I ls 1,I ls 2,I ls 3]) fun ad=>
 R (unP .not (I ad 0)) fun bZ=>
 oif bZ (
 some [au false,I ad 1,I ad 2]
) (
 R (lenP (aa (I ls 0) 3)) fun bF=>
 R (
 bk (GN vR n) n [I ls 1,aa (I ls 0) 3,bF,J 0,I ad 1,I ad 2]
)<|a7 fun ls=>
 some [au true,I ls 0,I ls 1]
)
def rW:Nat→List D→Option (List D)
 |0,_=>none
 |n+1,ls=>LN (rW n) n ls
def S9(n:Nat)(ab:D):Option D:=
 aw (aL 4 ab)<|
 R (rW n [D.agg [aa ab 0,aa ab 1,aa ab 2,aa ab 3],J 1,J 0,J 0]) fun ad=>
 some (I ad 2)
def qE(n:Nat):List D→Option D
 |[ab]=>S9 n ab
 |_=>none
def GO(vS:List D→Option (List D))(n:Nat)(ls:List D):Option (List D⊕(List D⊕(List D))):=
 R (binP false .lss (I ls 3) (I ls 2)) fun bE=>
 oif bE (
 R (a2 4 (I ls 1) (I ls 3)) fun ps=>
 R (aW true 4 0 ps) fun v20=>
 aw (aL 4 v20)<|
 R (binP false .add (I ls 0) (J 1)) fun b6=>
 R (vS [D.agg [aa v20 0,aa v20 1,aa v20 2,aa v20 3],b6,D.aD 1 (esD (I ls 4)),D.aD 1 (esD (I ls 5))]) fun ae=>
 R (unP .not (I ae 0)) fun cp=>
 oif cp (
 aU (
 aU (
 some [au false,D.aD 1 (esD (I ae 1)),D.aD 1 (esD (I ae 2))]
)
)
) (
 R (binP false .add (I ls 3) (J 1)) fun cE=>
 some (.inl [I ls 0,I ls 1,I ls 2,cE,D.aD 1 (esD (I ae 1)),D.aD 1 (esD (I ae 2))])
)
) (
 aU (
 some (.inl [D.aD 1 (esD (I ls 4)),D.aD 1 (esD (I ls 5))])
)
)
def LO(vS:List D→Option (List D))(n:Nat)(ls:List D):Option (List D):=
 aw (aL 4 (I ls 0))<|
 R (vQ n [D.agg [aa (I ls 0) 0,aa (I ls 0) 1,aa (I ls 0) 2,aa (I ls 0) 3],I ls 1,D.aD 1 (esD (I ls 2)),D.aD 1 (esD (I ls 3))]) fun ad=>
 R (unP .not (I ad 0)) fun bZ=>
 oif bZ (
 some [au false,D.aD 1 (esD (I ad 1)),D.aD 1 (esD (I ad 2))]
) (
 R (lenP (aa (I ls 0) 3)) fun bF=>
 R (
 bk (GO vS n) n [I ls 1,aa (I ls 0) 3,bF,J 0,D.aD 1 (esD (I ad 1)),D.aD 1 (esD (I ad 2))]
)<|a7 fun ls=>
 some [au true,D.aD 1 (esD (I ls 0)),D.aD 1 (esD (I ls 1))]
)
def rX:Nat→List D→Option (List D)
 |0,_=>none
 |n+1,ls=>LO (rX n) n ls
def Ta(n:Nat)(ab:D):Option D:=
 aw (aL 4 ab)<|
 R (rX n [D.agg [aa ab 0,aa ab 1,aa ab 2,aa ab 3],J 1,D.aD 1 [],D.aD 1 []]) fun ad=>
 some (D.aO [D.aD 1 (esD (I ad 1)),D.aD 1 (esD (I ad 2))])
def pt(n:Nat):List D→Option D
 |[ab]=>Ta n ab
 |_=>none
def GP(n:Nat)(ab:D):Option D:=
 aw (aL 6 ab)<|
 R (binP false .neq (aa ab 0) (J 1)) fun cl=>
 oif cl (
 some (J 0)
) (
 R (qE n [D.agg [aa ab 1,aa ab 2,aa ab 3,aa ab 4]]) fun v11=>
 R (binP false .neq v11 (J 0)) fun bZ=>
 oif bZ (
 some v11
) (
 R (pt n [D.agg [aa ab 1,aa ab 2,aa ab 3,aa ab 4]]) fun bE=>
 R (extP 0 bE) fun cb=>
 R (extP 1 bE) fun v20=>
 R (lenP v20) fun bQ=>
 R (binP false .gtr bQ (J 0)) fun b6=>
 oif b6 (
 some (J 24)
) (
 some (J 0)
)
)
)
def vT(n:Nat):List D→Option D
 |[ab]=>GP n ab
 |_=>none
def Tb(n:Nat)(ab:D):Option D:=
 R (
 R (binP false .eql ab (J 1)) fun j8=>
 oif j8 (
 aU (
 some (J 0)
)
) (
 R (binP false .eql ab (J 3)) fun b1=>
 R (
 oif b1 (
 some (.inl [ab,b1])
) (
 R (binP false .eql ab (J 4)) fun cl=>
 R (
 oif cl (
 some (.inl [ab,cl])
) (
 R (binP false .eql ab (J 5)) fun bM=>
 R (
 oif bM (
 some (.inl [ab,bM])
) (
 R (binP false .eql ab (J 9)) fun v10=>
 R (
 oif v10 (
 some (.inl [ab,v10])
) (
 R (binP false .eql ab (J 13)) fun v11=>
 some (.inl [ab,v11])
)
)<|a7 fun ls=>
 some (.inl [I ls 0,I ls 1])
)
)<|a7 fun ls=>
 some (.inl [I ls 0,I ls 1])
)
)<|a7 fun ls=>
 some (.inl [I ls 0,I ls 1])
)
)<|a7 fun ls=>
 oif (I ls 1) (
 aU (
 some (J 2)
)
) (
 R (binP false .eql (I ls 0) (J 2)) fun bZ=>
 R (
 oif bZ (
 some (.inl [bZ])
) (
 R (binP false .eql (I ls 0) (J 6)) fun bq=>
 R (
 oif bq (
 some (.inl [bq])
) (
 R (binP false .eql (I ls 0) (J 7)) fun bh=>
 R (
 oif bh (
 some (.inl [bh])
) (
 R (binP false .eql (I ls 0) (J 8)) fun bF=>
 R (
 oif bF (
 some (.inl [bF])
) (
 R (binP false .eql (I ls 0) (J 10)) fun bw=>
 R (
 oif bw (
 some (.inl [bw])
) (
 R (binP false .eql (I ls 0) (J 11)) fun bE=>
 R (
 oif bE (
 some (.inl [bE])
) (
 R (binP false .eql (I ls 0) (J 12)) fun cb=>
 some (.inl [cb])
)
)<|a7 fun ls=>
 some (.inl [I ls 0])
)
)<|a7 fun ls=>
 some (.inl [I ls 0])
)
)<|a7 fun ls=>
 some (.inl [I ls 0])
)
)<|a7 fun ls=>
 some (.inl [I ls 0])
)
)<|a7 fun ls=>
 some (.inl [I ls 0])
)
)<|a7 fun ls=>
 oif (I ls 0) (
 aU (
 some (J 1)
)
) (
 some (.inl [])
)
)
)
)<|a7 fun ls=>
 some (J (-1))
def Cf(n:Nat):List D→Option D
 |[ab]=>Tb n ab
 |_=>none
def Cg(n:Nat)(ls:List D):Option (List D):=
 aw (aL 6 (I ls 0))<|
 R (binP false .add (I ls 2) (J 1)) fun v11=>
 aw (bC v11)<|
 R (binP false .eql (aa (I ls 0) 1) (J 0)) fun bh=>
 R (gD bh true (
 R (binP false .eql (aa (I ls 0) 2) (J 0)) fun v20=>
 some v20
)) fun v20=>
 R (pickP bh v20 (au false)) fun bK=>
 R (gD bK true (
 R (binP false .eql (aa (I ls 0) 3) (aJ ⟨#[]⟩)) fun cp=>
 some cp
)) fun cp=>
 R (pickP bK cp (au false)) fun cE=>
 R (gD cE true (
 R (lenP (aa (I ls 0) 4)) fun dt=>
 R (binP false .eql dt (J 0)) fun dB=>
 some dB
)) fun dB=>
 R (pickP cE dB (au false)) fun ds=>
 R (vT n [D.agg [aa (I ls 0) 0,aa (I ls 0) 1,aa (I ls 0) 2,aa (I ls 0) 3,aa (I ls 0) 4,aa (I ls 0) 5]]) fun dh=>
 R (Cf n [aa (I ls 0) 0]) fun eA=>
 R (
 R (binP false .gtr (I ls 1) (J 64)) fun c2=>
 R (
 oif c2 (
 some (.inl [J 17,v11])
) (
 R (binP false .lss eA (J 0)) fun c3=>
 R (
 oif c3 (
 some (.inl [J 11,v11])
) (
 R (binP false .neq dh (J 0)) fun gu=>
 R (
 oif gu (
 aw (bC dh)<|
 some (.inl [dh,v11])
) (
 R (lenP (aa (I ls 0) 5)) fun hn=>
 R (binP false .neq hn eA) fun e0=>
 R (gD e0 false (
 R (binP false .neq (aa (I ls 0) 0) (J 1)) fun j9=>
 some j9
)) fun eB=>
 R (gD eB true (
 R (unP .not ds) fun iy=>
 some iy
)) fun iy=>
 R (gD e0 false (
 R (pickP eB iy (au false)) fun k2=>
 some k2
)) fun k2=>
 R (pickP e0 (au true) k2) fun g9=>
 R (
 oif g9 (
 some (.inl [J 3,v11])
) (
 R (binP false .gtr v11 (J 4096)) fun fA=>
 R (
 oif fA (
 some (.inl [J 4,v11])
) (
 some (.inl [I ls 3,v11])
)
)<|a7 fun ls=>
 some (.inl [I ls 0,I ls 1])
)
)<|a7 fun ls=>
 some (.inl [I ls 0,I ls 1])
)
)<|a7 fun ls=>
 some (.inl [I ls 0,I ls 1])
)
)<|a7 fun ls=>
 some (.inl [I ls 0,I ls 1])
)
)<|a7 fun ls=>
 some (.inl [I ls 0,I ls 1])
)<|a7 fun ls=>
 R (binP false .eql (I ls 0) (J 0)) fun eh=>
 some [eh,I ls 1,I ls 0]
def GQ(vU:List D→Option (List D))(n:Nat)(ls:List D):Option (List D⊕(List D⊕(List D))):=
 R (binP false .lss (I ls 3) (I ls 2)) fun bE=>
 oif bE (
 R (a2 6 (I ls 1) (I ls 3)) fun ps=>
 R (aW true 6 0 ps) fun v20=>
 aw (aL 6 v20)<|
 R (binP false .add (I ls 0) (J 1)) fun b6=>
 R (vU [D.agg [aa v20 0,aa v20 1,aa v20 2,aa v20 3,aa v20 4,aa v20 5],b6,I ls 4,I ls 5]) fun ae=>
 R (unP .not (I ae 0)) fun cp=>
 oif cp (
 aU (
 aU (
 some [au false,I ae 1,I ae 2]
)
)
) (
 R (binP false .add (I ls 3) (J 1)) fun cE=>
 some (.inl [I ls 0,I ls 1,I ls 2,cE,I ae 1,I ae 2])
)
) (
 aU (
 some (.inl [I ls 4,I ls 5])
)
)
def LP(vU:List D→Option (List D))(n:Nat)(ls:List D):Option (List D):=
 aw (aL 6 (I ls 0))<|
 R (Cg n [D.agg [aa (I ls 0) 0,aa (I ls 0) 1,aa (I ls 0) 2,aa (I ls 0) 3,aa (I ls 0) 4,aa (I ls 0) 5],I ls 1,I ls 2,I ls 3]) fun ad=>
 R (unP .not (I ad 0)) fun bZ=>
 oif bZ (
 some [au false,I ad 1,I ad 2]
) (
 R (lenP (aa (I ls 0) 5)) fun bF=>
 R (
 bk (GQ vU n) n [I ls 1,aa (I ls 0) 5,bF,J 0,I ad 1,I ad 2]
)<|a7 fun ls=>
 some [au true,I ls 0,I ls 1]
)
def rY:Nat→List D→Option (List D)
 |0,_=>none
 |n+1,ls=>LP (rY n) n ls
def Tc(n:Nat)(ab:D):Option D:=
 aw (aL 6 ab)<|
 R (rY n [D.agg [aa ab 0,aa ab 1,aa ab 2,aa ab 3,aa ab 4,aa ab 5],J 1,J 0,J 0]) fun ad=>
 some (I ad 2)
def nC(n:Nat):List D→Option D
 |[ab]=>Tc n ab
 |_=>none
def Ch(n:Nat)(ls:List D):Option (List D⊕(List D⊕D)):=
 R (binP false .lss (I ls 2) (I ls 1)) fun bY=>
 oif bY (
 R (
 R (a2 5 (I ls 0) (I ls 2)) fun eV=>
 R (aW true 5 0 eV) fun bh=>
 aw (aL 5 bh)<|
 R (lookP (.string) (.int .i64 0) true (fu (I ls 3)) (aa bh 0)) fun v20=>
 R (extP 0 v20) fun bK=>
 R (extP 1 v20) fun bQ=>
 R (unP .not bQ) fun cD=>
 R (
 oif cD (
 R (o2 (.string) (fu (I ls 3)) (aa bh 0) (I ls 2)) fun LQ=>
 some (.inl [I ls 0,I ls 1,I ls 2,D.mp LQ])
) (
 some (.inl [I ls 0,I ls 1,I ls 2,D.mp (fu (I ls 3))])
)
)<|a7 fun ls=>
 some (.inl [I ls 0,I ls 1,I ls 2,D.mp (fu (I ls 3))])
)<|a7 fun ls=>
 R (binP false .add (I ls 2) (J 1)) fun cC=>
 some (.inl [I ls 0,I ls 1,cC,D.mp (fu (I ls 3))])
) (
 aU (
 some (.inl [D.mp (fu (I ls 3))])
)
)
def Td(n:Nat)(ab:D):Option D:=
 R (lenP ab) fun v10=>
 R (
 bk (Ch n) n [ab,v10,J 0,D.mp []]
)<|a7 fun ls=>
 some (D.mp (fu (I ls 0)))
def rZ(n:Nat):List D→Option D
 |[ab]=>Td n ab
 |_=>none
def Ci(n:Nat)(ls:List D):Option (List D⊕(List D⊕(List D⊕(List D⊕(List D⊕D))))):=
 R (binP false .lss (I ls 6) (I ls 5)) fun dJ=>
 oif dJ (
 R (
 R (a2 1 (I ls 4) (I ls 6)) fun LR=>
 R (aW false 1 0 LR) fun dB=>
 R (kU (I ls 0)) fun aeV=>
 R (lookP (.string) (.int .i64 0) true aeV dB) fun dy=>
 R (extP 0 dy) fun dm=>
 R (extP 1 dy) fun eA=>
 R (
 oif eA (
 aw (bC dm)<|
 aw (c7 (((esD (I ls 8))).length+([[dm]]).length) 8)<|
 some (.inl [I ls 0,I ls 1,I ls 2,I ls 3,I ls 4,I ls 5,I ls 6,D.aD 1 (esD (I ls 7)),D.aD 1 ((esD (I ls 8))++[[dm]])])
) (
 some (.inl [I ls 0,I ls 1,I ls 2,I ls 3,I ls 4,I ls 5,I ls 6,D.aD 1 (esD (I ls 7)),D.aD 1 (esD (I ls 8))])
)
)<|a7 fun ls=>
 some (.inl [I ls 0,I ls 1,I ls 2,I ls 3,I ls 4,I ls 5,I ls 6,D.aD 1 (esD (I ls 7)),D.aD 1 (esD (I ls 8))])
)<|a7 fun ls=>
 R (binP false .add (I ls 6) (J 1)) fun c3=>
 some (.inl [I ls 0,I ls 1,I ls 2,I ls 3,I ls 4,I ls 5,c3,D.aD 1 (esD (I ls 7)),D.aD 1 (esD (I ls 8))])
) (
 aU (
 some (.inl [I ls 0,I ls 1,I ls 2,I ls 3,D.aD 1 (esD (I ls 7)),D.aD 1 (esD (I ls 8))])
)
)
def GR(n:Nat)(ls:List D):Option (List D⊕(List D⊕D)):=
 R (binP false .lss (I ls 3) (I ls 2)) fun cb=>
 oif cb (
 R (
 R (a2 5 (I ls 1) (I ls 3)) fun r0=>
 R (aW true 5 0 r0) fun bK=>
 aw (aL 5 bK)<|
 R (pt n [D.agg [aa bK 1,aa bK 2,aa bK 3,aa bK 4]]) fun cM=>
 R (extP 0 cM) fun cp=>
 R (extP 1 cM) fun cE=>
 R (lenP cp) fun cC=>
 R (
 bk (Ci n) n [I ls 0,I ls 1,I ls 2,I ls 3,cp,cC,J 0,D.aD 1 (esD (I ls 4)),D.aD 1 []]
)<|a7 fun ls=>
 aw (bC (D.aD 1 (esD (I ls 5))))<|
 aw (c7 (((esD (I ls 4))).length+([[D.aD 1 (esD (I ls 5))]]).length) 24)<|
 some (.inl [I ls 0,I ls 1,I ls 2,I ls 3,D.aD 1 ((esD (I ls 4))++[[D.aD 1 (esD (I ls 5))]])])
)<|a7 fun ls=>
 R (binP false .add (I ls 3) (J 1)) fun c8=>
 some (.inl [I ls 0,I ls 1,I ls 2,c8,D.aD 1 (esD (I ls 4))])
) (
 aU (
 some (.inl [D.aD 1 (esD (I ls 4))])
)
)
def Te(n:Nat)(ab:D):Option D:=
 R (rZ n [ab]) fun bh=>
 R (lenP ab) fun bw=>
 R (
 bk (GR n) n [bh,ab,bw,J 0,D.aD 1 []]
)<|a7 fun ls=>
 some (D.aD 1 (esD (I ls 0)))
def Cj(n:Nat):List D→Option D
 |[ab]=>Te n ab
 |_=>none
def Ck(vV:List D→Option (List D))(n:Nat)(ls:List D):Option (List D⊕(List D⊕(List D))):=
 R (binP false .lss (I ls 2) (I ls 1)) fun bZ=>
 oif bZ (
 R (
 R (a2 1 (I ls 0) (I ls 2)) fun eV=>
 R (aW false 1 0 eV) fun bh=>
 R (lookP (.int .i64) (.bool false) false (fu (I ls 4)) bh) fun bE=>
 R (unP .not bE) fun cb=>
 R (
 oif cb (
 R (o2 (.int .i64) (fu (I ls 4)) bh (au true)) fun aeW=>
 R (vV [bh,I ls 3,D.mp aeW]) fun ae=>
 some (.inl [I ls 0,I ls 1,I ls 2,I ae 1,D.mp (fu (I ae 2))])
) (
 some (.inl [I ls 0,I ls 1,I ls 2,I ls 3,D.mp (fu (I ls 4))])
)
)<|a7 fun ls=>
 some (.inl [I ls 0,I ls 1,I ls 2,I ls 3,D.mp (fu (I ls 4))])
)<|a7 fun ls=>
 R (binP false .add (I ls 2) (J 1)) fun cM=>
 some (.inl [I ls 0,I ls 1,cM,I ls 3,D.mp (fu (I ls 4))])
) (
 aU (
 some (.inl [I ls 3,D.mp (fu (I ls 4))])
)
)
def GS(vV:List D→Option (List D))(n:Nat)(ls:List D):Option (List D):=
 R (a2 1 (I ls 1) (I ls 0)) fun aeX=>
 R (aW false 1 0 aeX) fun v10=>
 R (lenP v10) fun v11=>
 R (
 bk (Ck vV n) n [v10,v11,J 0,I ls 1,D.mp (fu (I ls 2))]
)<|a7 fun ls=>
 some [D.aO [],I ls 0,D.mp (fu (I ls 1))]
def pw:Nat→List D→Option (List D)
 |0,_=>none
 |n+1,ls=>GS (pw n) n ls
def GU(n:Nat)(ls:List D):Option (List D⊕(List D⊕(List D))):=
 R (binP false .lss (I ls 2) (I ls 1)) fun bq=>
 oif bq (
 R (a2 1 (I ls 0) (I ls 2)) fun Cl=>
 R (aW false 1 0 Cl) fun bF=>
 R (pw n [bF,I ls 4,D.mp (fu (I ls 3))]) fun ad=>
 R (binP false .add (I ls 2) (J 1)) fun v20=>
 some (.inl [I ls 0,I ls 1,v20,D.mp (fu (I ad 2)),I ad 1])
) (
 aU (
 some (.inl [D.mp (fu (I ls 3))])
)
)
def Cm(n:Nat)(ls:List D):Option (List D):=
 aw (bC (I ls 0))<|
 R (lenP (I ls 1)) fun bY=>
 R (
 bk (GU n) n [I ls 1,bY,J 0,D.mp [],I ls 0]
)<|a7 fun ls=>
 some [D.mp (fu (I ls 0))]
def GV(n:Nat)(ls:List D):Option (List D⊕(List D⊕D)):=
 R (binP false .lss (I ls 2) (I ls 1)) fun bq=>
 oif bq (
 R (a2 1 (I ls 0) (I ls 2)) fun Cl=>
 R (aW false 1 0 Cl) fun bF=>
 R (pw n [bF,I ls 4,D.mp (fu (I ls 3))]) fun ad=>
 R (binP false .add (I ls 2) (J 1)) fun v20=>
 some (.inl [I ls 0,I ls 1,v20,D.mp (fu (I ad 2)),I ad 1])
) (
 aU (
 some (.inl [D.mp (fu (I ls 3))])
)
)
def Tf(n:Nat)(ab:D)(ah:D):Option D:=
 aw (bC ab)<|
 R (lenP ah) fun bY=>
 R (
 bk (GV n) n [ah,bY,J 0,D.mp [],ab]
)<|a7 fun ls=>
 some (D.mp (fu (I ls 0)))
def yV(n:Nat):List D→Option D
 |[ab,ah]=>Tf n ab ah
 |_=>none
def Cn(r1:List D→Option (List D))(n:Nat)(ls:List D):Option (List D⊕(List D⊕(List D))):=
 R (binP false .eql (I ls 4) (J 3)) fun bF=>
 oif bF (
 R (kU (I ls 1)) fun aeY=>
 R (lookP (.string) (.int .i64 0) true aeY (I ls 6)) fun bK=>
 R (extP 0 bK) fun bQ=>
 R (extP 1 bK) fun b6=>
 R (unP .not b6) fun cM=>
 oif cM (
 aU (
 some (.inl [I ls 0,I ls 3,I ls 4,I ls 5,I ls 6,I ls 7,I ls 8,I ls 9,I ls 10,I ls 11,I ls 1,I ls 2])
)
) (
 R (a2 5 (I ls 2) bQ) fun rV=>
 R (aW true 4 1 rV) fun v30=>
 aw (aL 4 v30)<|
 some (.inl [I ls 0,I ls 1,I ls 2,I ls 3,aa v30 0,aa v30 1,aa v30 2,aa v30 3,I ls 8,I ls 9,I ls 10,I ls 11])
)
) (
 aU (
 some (.inl [I ls 0,I ls 3,I ls 4,I ls 5,I ls 6,I ls 7,I ls 8,I ls 9,I ls 10,I ls 11,I ls 1,I ls 2])
)
)
def yW(r1:List D→Option (List D))(n:Nat)(ls:List D):Option (List D⊕(List D⊕(List D))):=
 R (binP false .lss (I ls 3) (I ls 2)) fun gk=>
 oif gk (
 R (
 R (a2 4 (I ls 1) (I ls 3)) fun LS=>
 R (aW true 4 0 LS) fun eD=>
 aw (aL 4 eD)<|
 R (binP false .leq (I ls 0) (J 64)) fun fz=>
 R (gD fz true (
 R (binP false .leq (I ls 4) (J 4096)) fun hI=>
 some hI
)) fun hI=>
 R (pickP fz hI (au false)) fun e0=>
 R (
 oif e0 (
 R (binP false .add (I ls 0) (J 1)) fun ha=>
 R (r1 [D.agg [aa eD 0,aa eD 1,aa eD 2,aa eD 3],ha,I ls 14,I ls 15,I ls 4]) fun ad=>
 R (cH ((esD (I ls 13))).length (I ls 3)) fun GW=>
 aw (aL 4 (I ad 0))<|
 R (((esD (I ls 13)))[GW]?) fun kB=>
 some (.inl [I ls 0,I ls 1,I ls 2,I ls 3,I ad 3,I ls 5,I ls 6,I ls 7,I ls 8,I ls 9,I ls 10,I ls 11,I ls 12,D.aD 4 (((esD (I ls 13))).set GW (lk kB 0 [aa (I ad 0) 0,aa (I ad 0) 1,aa (I ad 0) 2,aa (I ad 0) 3])),I ad 1,I ad 2])
) (
 some (.inl [I ls 0,I ls 1,I ls 2,I ls 3,I ls 4,I ls 5,I ls 6,I ls 7,I ls 8,I ls 9,I ls 10,I ls 11,I ls 12,D.aD 4 (esD (I ls 13)),I ls 14,I ls 15])
)
)<|a7 fun ls=>
 some (.inl [I ls 0,I ls 1,I ls 2,I ls 3,I ls 4,I ls 5,I ls 6,I ls 7,I ls 8,I ls 9,I ls 10,I ls 11,I ls 12,D.aD 4 (esD (I ls 13)),I ls 14,I ls 15])
)<|a7 fun ls=>
 R (binP false .add (I ls 3) (J 1)) fun g9=>
 some (.inl [I ls 0,I ls 1,I ls 2,g9,I ls 4,I ls 5,I ls 6,I ls 7,I ls 8,I ls 9,I ls 10,I ls 11,I ls 12,D.aD 4 (esD (I ls 13)),I ls 14,I ls 15])
) (
 aU (
 some (.inl [I ls 5,I ls 6,I ls 7,I ls 8,I ls 9,I ls 10,I ls 11,I ls 12,D.aD 4 (esD (I ls 13)),I ls 14,I ls 15,I ls 4])
)
)
def Co(r1:List D→Option (List D))(n:Nat)(ls:List D):Option (List D):=
 aw (aL 4 (I ls 0))<|
 R (
 bk (Cn r1 n) n [I ls 1,I ls 2,I ls 3,I ls 4,aa (I ls 0) 0,aa (I ls 0) 1,aa (I ls 0) 2,aa (I ls 0) 3,J 0,J 0,aJ ⟨#[]⟩,D.val (.slice none 0 0)]
)<|a7 fun ls=>
 R (binP false .add (I ls 1) (J 1)) fun dt=>
 aw (bC dt)<|
 R (lenP (I ls 5)) fun fK=>
 R (binP false .eql fK (J 0)) fun dh=>
 oif dh (
 aw (aL 4 (D.agg [I ls 2,I ls 3,I ls 4,I ls 5]))<|
 some [D.agg [I ls 2,I ls 3,I ls 4,I ls 5],I ls 10,I ls 11,dt]
) (
 R (lenP (I ls 5)) fun du=>
 R (makeP 56 du du) fun aeZ=>
 R (lenP (I ls 5)) fun dN=>
 R (
 bk (yW r1 n) n [I ls 0,I ls 5,dN,J 0,dt,I ls 2,I ls 3,I ls 4,I ls 5,I ls 6,I ls 7,I ls 8,I ls 9,D.aD 4 (List.replicate aeZ [D.val (.int .i64 0),D.val (.int .i64 0),D.val (.string ⟨#[]⟩),D.val (.slice none 0 0)]),I ls 10,I ls 11]
)<|a7 fun ls=>
 aw (bC (D.aD 4 (esD (I ls 8))))<|
 aw (aL 4 (D.agg [I ls 0,I ls 1,I ls 2,D.aD 4 (esD (I ls 8))]))<|
 some [D.agg [I ls 0,I ls 1,I ls 2,D.aD 4 (esD (I ls 8))],I ls 9,I ls 10,I ls 11]
)
def qF:Nat→List D→Option (List D)
 |0,_=>none
 |n+1,ls=>Co (qF n) n ls
def Tg(n:Nat)(ab:D)(ah:D):Option D:=
 aw (aL 4 ab)<|
 aw (bC ah)<|
 R (rZ n [ah]) fun bM=>
 aw (bC bM)<|
 R (qF n [D.agg [aa ab 0,aa ab 1,aa ab 2,aa ab 3],J 1,bM,ah,J 0]) fun ad=>
 aw (aL 4 (I ad 0))<|
 some (D.agg [aa (I ad 0) 0,aa (I ad 0) 1,aa (I ad 0) 2,aa (I ad 0) 3])
def Cp(n:Nat):List D→Option D
 |[ab,ah]=>Tg n ab ah
 |_=>none
def yX(n:Nat)(ls:List D):Option (List D⊕(List D⊕D)):=
 R (binP false .lss (I ls 5) (I ls 4)) fun eA=>
 oif eA (
 R (
 R (a2 1 (I ls 3) (I ls 5)) fun ae0=>
 R (aW false 1 0 ae0) fun eU=>
 R (kU (I ls 1)) fun ae1=>
 R (lookP (.string) (.int .i64 0) true ae1 eU) fun c3=>
 R (extP 0 c3) fun gk=>
 R (extP 1 c3) fun iU=>
 R (
 oif iU (
 aw (bC gk)<|
 aw (c7 (((esD (I ls 14))).length+([[gk]]).length) 8)<|
 some (.inl [I ls 0,I ls 1,I ls 2,I ls 3,I ls 4,I ls 5,I ls 6,I ls 7,I ls 8,I ls 9,I ls 10,I ls 11,I ls 12,I ls 13,D.aD 1 ((esD (I ls 14))++[[gk]])])
) (
 some (.inl [I ls 0,I ls 1,I ls 2,I ls 3,I ls 4,I ls 5,I ls 6,I ls 7,I ls 8,I ls 9,I ls 10,I ls 11,I ls 12,I ls 13,D.aD 1 (esD (I ls 14))])
)
)<|a7 fun ls=>
 some (.inl [I ls 0,I ls 1,I ls 2,I ls 3,I ls 4,I ls 5,I ls 6,I ls 7,I ls 8,I ls 9,I ls 10,I ls 11,I ls 12,I ls 13,D.aD 1 (esD (I ls 14))])
)<|a7 fun ls=>
 R (binP false .add (I ls 5) (J 1)) fun hn=>
 some (.inl [I ls 0,I ls 1,I ls 2,I ls 3,I ls 4,hn,I ls 6,I ls 7,I ls 8,I ls 9,I ls 10,I ls 11,I ls 12,I ls 13,D.aD 1 (esD (I ls 14))])
) (
 aU (
 some (.inl [I ls 0,I ls 2,I ls 6,I ls 7,I ls 8,I ls 9,I ls 10,I ls 11,I ls 12,I ls 13,D.aD 1 (esD (I ls 14))])
)
)
def GX(n:Nat)(ls:List D):Option (List D⊕(List D⊕D)):=
 R (binP false .lss (I ls 4) (I ls 3)) fun eB=>
 oif eB (
 R (a2 1 (I ls 2) (I ls 4)) fun Cq=>
 R (aW false 1 0 Cq) fun iy=>
 R (o2 (.int .i64) (fu (I ls 13)) iy (au true)) fun ae2=>
 R (binP false .add (I ls 4) (J 1)) fun iw=>
 some (.inl [I ls 0,I ls 1,I ls 2,I ls 3,iw,I ls 5,I ls 6,I ls 7,I ls 8,I ls 9,I ls 10,I ls 11,I ls 12,D.mp ae2])
) (
 aU (
 some (.inl [I ls 0,I ls 1,I ls 5,I ls 6,I ls 7,I ls 8,I ls 9,I ls 10,I ls 11,I ls 12,D.mp (fu (I ls 13))])
)
)
def vW(n:Nat)(ls:List D):Option (List D⊕(List D⊕D)):=
 R (binP false .lss (I ls 3) (I ls 2)) fun eh=>
 oif eh (
 R (lookP (.int .i64) (.bool false) false (fu (I ls 12)) (I ls 3)) fun gx=>
 R (gD gx true (
 aw (bC (I ls 3))<|
 R (yV n [I ls 1,D.aD 1 [[I ls 3]]]) fun lE=>
 R (kU lE) fun ae3=>
 R (lookP (.int .i64) (.bool false) false ae3 (I ls 3)) fun jO=>
 some jO
)) fun jO=>
 R (pickP gx jO (au false)) fun ie=>
 oif ie (
 aU (
 aU (
 some (D.aO [D.agg [J 0,J 0,aJ ⟨#[]⟩,D.val (.slice none 0 0)],J 14])
)
)
) (
 R (binP false .add (I ls 3) (J 1)) fun ju=>
 some (.inl [I ls 0,I ls 1,I ls 2,ju,I ls 4,I ls 5,I ls 6,I ls 7,I ls 8,I ls 9,I ls 10,I ls 11,D.mp (fu (I ls 12))])
)
) (
 aU (
 some (.inl [I ls 0,I ls 4,I ls 5,I ls 6,I ls 7,I ls 8,I ls 9,I ls 10,I ls 11])
)
)
def Cr(n:Nat)(ab:D)(ah:D):Option D:=
 aw (aL 4 ab)<|
 R (qE n [D.agg [aa ab 0,aa ab 1,aa ab 2,aa ab 3]]) fun bQ=>
 R (binP false .neq bQ (J 0)) fun cD=>
 oif cD (
 some (D.aO [D.agg [J 0,J 0,aJ ⟨#[]⟩,D.val (.slice none 0 0)],bQ])
) (
 R (rZ n [ah]) fun cj=>
 R (Cj n [ah]) fun v30=>
 R (pt n [D.agg [aa ab 0,aa ab 1,aa ab 2,aa ab 3]]) fun dB=>
 R (extP 0 dB) fun ds=>
 R (extP 1 dB) fun fK=>
 R (lenP ds) fun dy=>
 R (
 bk (yX n) n [ah,cj,v30,ds,dy,J 0,aa ab 0,aa ab 1,aa ab 2,aa ab 3,J 0,J 0,aJ ⟨#[]⟩,D.val (.slice none 0 0),D.aD 1 []]
)<|a7 fun ls=>
 R (Cm n [I ls 1,D.aD 1 (esD (I ls 10))]) fun ad=>
 R (lenP (D.aD 1 (esD (I ls 10)))) fun eL=>
 R (
 bk (GX n) n [I ls 0,I ls 1,D.aD 1 (esD (I ls 10)),eL,J 0,I ls 2,I ls 3,I ls 4,I ls 5,I ls 6,I ls 7,I ls 8,I ls 9,D.mp (fu (I ad 0))]
)<|a7 fun ls=>
 R (lenP (I ls 0)) fun fA=>
 R (
 bk (vW n) n [I ls 0,I ls 1,fA,J 0,I ls 2,I ls 3,I ls 4,I ls 5,I ls 6,I ls 7,I ls 8,I ls 9,D.mp (fu (I ls 10))]
)<|a7 fun ls=>
 R (Cp n [D.agg [I ls 1,I ls 2,I ls 3,I ls 4],I ls 0]) fun jQ=>
 aw (aL 4 jQ)<|
 R (qE n [D.agg [aa jQ 0,aa jQ 1,aa jQ 2,aa jQ 3]]) fun r2=>
 R (binP false .neq r2 (J 0)) fun hT=>
 oif hT (
 some (D.aO [D.agg [J 0,J 0,aJ ⟨#[]⟩,D.val (.slice none 0 0)],r2])
) (
 aw (aL 4 (D.agg [aa jQ 0,aa jQ 1,aa jQ 2,aa jQ 3]))<|
 some (D.aO [D.agg [aa jQ 0,aa jQ 1,aa jQ 2,aa jQ 3],J 0])
)
)
def kC(n:Nat):List D→Option D
 |[ab,ah]=>Cr n ab ah
 |_=>none
def Cs(n:Nat)(ls:List D):Option (List D⊕(List D⊕D)):=
 R (binP false .lss (I ls 2) (I ls 1)) fun bY=>
 oif bY (
 R (
 R (a2 4 (I ls 0) (I ls 2)) fun eV=>
 R (aW true 4 0 eV) fun bh=>
 aw (aL 4 bh)<|
 R (lookP (.string) (.int .i64 0) true (fu (I ls 3)) (aa bh 0)) fun v20=>
 R (extP 0 v20) fun bK=>
 R (extP 1 v20) fun bQ=>
 R (unP .not bQ) fun cD=>
 R (
 oif cD (
 R (o2 (.string) (fu (I ls 3)) (aa bh 0) (I ls 2)) fun LQ=>
 some (.inl [I ls 0,I ls 1,I ls 2,D.mp LQ])
) (
 some (.inl [I ls 0,I ls 1,I ls 2,D.mp (fu (I ls 3))])
)
)<|a7 fun ls=>
 some (.inl [I ls 0,I ls 1,I ls 2,D.mp (fu (I ls 3))])
)<|a7 fun ls=>
 R (binP false .add (I ls 2) (J 1)) fun cC=>
 some (.inl [I ls 0,I ls 1,cC,D.mp (fu (I ls 3))])
) (
 aU (
 some (.inl [D.mp (fu (I ls 3))])
)
)
def Th(n:Nat)(ab:D):Option D:=
 R (lenP ab) fun v10=>
 R (
 bk (Cs n) n [ab,v10,J 0,D.mp []]
)<|a7 fun ls=>
 some (D.mp (fu (I ls 0)))
def vX(n:Nat):List D→Option D
 |[ab]=>Th n ab
 |_=>none
def Ti(n:Nat)(ab:D)(ah:D):Option D:=
 R (binP false .lss ab (J (-1048576))) fun b1=>
 R (gD b1 false (
 R (binP false .gtr ah (J 1048576)) fun v10=>
 some v10
)) fun v10=>
 R (pickP b1 (au true) v10) fun v11=>
 R (gD v11 false (
 R (binP false .gtr ab ah) fun bh=>
 some bh
)) fun bh=>
 R (pickP v11 (au true) bh) fun bF=>
 R (gD bF false (
 R (binP false .sub ah ab) fun v20=>
 R (binP false .gtr v20 (J 4096)) fun bK=>
 some bK
)) fun bK=>
 R (pickP bF (au true) bK) fun bQ=>
 oif bQ (
 some (D.aO [D.agg [au false,J 0,J 0],J 2])
) (
 aw (bC ab)<|
 aw (bC ah)<|
 aw (aL 3 (D.agg [au false,ab,ah]))<|
 some (D.aO [D.agg [au false,ab,ah],J 0])
)
def px(n:Nat):List D→Option D
 |[ab,ah]=>Ti n ab ah
 |_=>none
def Ct(n:Nat)(ls:List D):Option (List D⊕(List D⊕D)):=
 R (binP false .lss (I ls 2) (I ls 1)) fun bM=>
 oif bM (
 R (a2 3 (I ls 0) (I ls 2)) fun LU=>
 R (aW true 3 0 LU) fun v11=>
 aw (aL 3 v11)<|
 R (unP .not (aa v11 0)) fun bq=>
 oif bq (
 aU (
 aU (
 some (D.aO [D.agg [au false,J 0,J 0],J 13])
)
)
) (
 R (binP false .add (I ls 2) (J 1)) fun bF=>
 some (.inl [I ls 0,I ls 1,bF,I ls 3,I ls 4,I ls 5])
)
) (
 aU (
 some (.inl [I ls 3,I ls 4,I ls 5])
)
)
def Tj(n:Nat)(ab:D):Option D:=
 R (lenP ab) fun b1=>
 R (
 bk (Ct n) n [ab,b1,J 0,au false,J 0,J 0]
)<|a7 fun ls=>
 some (D.aO [D.agg [au true,J 0,J 0],J 0])
def Cu(n:Nat):List D→Option D
 |[ab]=>Tj n ab
 |_=>none
def GY(n:Nat)(ab:D)(ah:D)(aT:D):Option D:=
 aw (aL 3 ah)<|
 aw (aL 3 aT)<|
 R (binP false .eql ab (J 15)) fun bZ=>
 R (
 oif bZ (
 R (unP .neg (aa aT 2)) fun bF=>
 R (unP .neg (aa aT 1)) fun cb=>
 aw (bC bF)<|
 aw (bC cb)<|
 aw (aL 3 (D.agg [au false,bF,cb]))<|
 some (.inl [J 14,aa ah 0,aa ah 1,aa ah 2,au false,bF,cb,au false,J 0,J 0])
) (
 some (.inl [ab,aa ah 0,aa ah 1,aa ah 2,aa aT 0,aa aT 1,aa aT 2,au false,J 0,J 0])
)
)<|a7 fun ls=>
 R (binP false .eql (I ls 0) (J 14)) fun bQ=>
 oif bQ (
 R (binP false .add (I ls 2) (I ls 5)) fun cE=>
 R (binP false .add (I ls 3) (I ls 6)) fun dt=>
 R (px n [cE,dt]) fun dB=>
 R (extP 0 dB) fun ds=>
 R (extP 1 dB) fun fK=>
 aw (aL 3 ds)<|
 some (D.aO [D.agg [aa ds 0,aa ds 1,aa ds 2],fK])
) (
 R (binP false .mul (I ls 2) (I ls 5)) fun du=>
 R (binP false .mul (I ls 2) (I ls 6)) fun c3=>
 R (binP false .mul (I ls 3) (I ls 5)) fun c8=>
 R (binP false .mul (I ls 3) (I ls 6)) fun e0=>
 R (jI false [du,c3,c8,e0]) fun eB=>
 R (jI true [du,c3,c8,e0]) fun iw=>
 R (px n [eB,iw]) fun dU=>
 R (extP 0 dU) fun fA=>
 R (extP 1 dU) fun fJ=>
 aw (aL 3 fA)<|
 some (D.aO [D.agg [aa fA 0,aa fA 1,aa fA 2],fJ])
)
def vY(n:Nat):List D→Option D
 |[ab,ah,aT]=>GY n ab ah aT
 |_=>none
def qG(n:Nat)(ab:D)(ah:D)(aT:D)(bR:D)(eg:D):Option D:=
 aw (aL 4 aT)<|
 R (
 R (binP false .eql (aa aT 0) (J 1)) fun bE=>
 oif bE (
 R (px n [aa aT 1,aa aT 1]) fun b6=>
 R (extP 0 b6) fun cD=>
 R (extP 1 b6) fun cM=>
 aw (aL 3 cD)<|
 aU (
 some (D.aO [D.agg [aa cD 0,aa cD 1,aa cD 2],cM])
)
) (
 R (binP false .eql (aa aT 0) (J 2)) fun cE=>
 oif cE (
 aU (
 some (D.aO [D.agg [au true,J 0,J 0],J 0])
)
) (
 R (binP false .eql (aa aT 0) (J 3)) fun v30=>
 R (
 oif v30 (
 some (.inl [ab,ah,bR,eg,aa aT 0,v30,aa aT 0,aa aT 1,aa aT 2,aa aT 3,au false,J 0,J 0])
) (
 R (binP false .eql (aa aT 0) (J 4)) fun dJ=>
 some (.inl [ab,ah,bR,eg,aa aT 0,dJ,aa aT 0,aa aT 1,aa aT 2,aa aT 3,au false,J 0,J 0])
)
)<|a7 fun ls=>
 oif (I ls 5) (
 R (kU (I ls 1)) fun ae4=>
 R (lookP (.string) (.int .i64 0) true ae4 (I ls 8)) fun dh=>
 R (extP 0 dh) fun dy=>
 R (extP 1 dh) fun dm=>
 R (unP .not dm) fun du=>
 oif du (
 aU (
 some (D.aO [D.agg [au false,J 0,J 0],J 12])
)
) (
 R (binP false .eql (I ls 6) (J 4)) fun dN=>
 R (gD dN true (
 R (unP .not (I ls 2)) fun iU=>
 some iU
)) fun iU=>
 R (pickP dN iU (au false)) fun gu=>
 oif gu (
 aU (
 some (D.aO [D.agg [au false,J 0,J 0],J 24])
)
) (
 R (a2 4 (I ls 0) dy) fun Cv=>
 R (aW false 1 1 Cv) fun hI=>
 oif hI (
 aU (
 some (D.aO [D.agg [au true,J 0,J 0],J 0])
)
) (
 R (a2 4 (I ls 0) dy) fun Cw=>
 R (aW false 1 2 Cw) fun eB=>
 R (a2 4 (I ls 0) dy) fun Cx=>
 R (aW false 1 3 Cx) fun iw=>
 R (px n [eB,iw]) fun dU=>
 R (extP 0 dU) fun fA=>
 R (extP 1 dU) fun fJ=>
 aw (aL 3 fA)<|
 aU (
 some (D.aO [D.agg [aa fA 0,aa fA 1,aa fA 2],fJ])
)
)
)
)
) (
 R (binP false .eql (I ls 4) (J 5)) fun iT=>
 R (
 oif iT (
 some (.inl [I ls 3,I ls 4,iT,I ls 6,I ls 7,I ls 8,I ls 9,I ls 10,I ls 11,I ls 12])
) (
 R (binP false .eql (I ls 4) (J 6)) fun om=>
 R (
 oif om (
 some (.inl [I ls 3,I ls 4,om,I ls 6,I ls 7,I ls 8,I ls 9,I ls 10,I ls 11,I ls 12])
) (
 R (binP false .eql (I ls 4) (J 7)) fun gw=>
 R (
 oif gw (
 some (.inl [I ls 3,I ls 4,gw,I ls 6,I ls 7,I ls 8,I ls 9,I ls 10,I ls 11,I ls 12])
) (
 R (binP false .eql (I ls 4) (J 8)) fun gx=>
 R (
 oif gx (
 some (.inl [I ls 3,I ls 4,gx,I ls 6,I ls 7,I ls 8,I ls 9,I ls 10,I ls 11,I ls 12])
) (
 R (binP false .eql (I ls 4) (J 9)) fun gF=>
 some (.inl [I ls 3,I ls 4,gF,I ls 6,I ls 7,I ls 8,I ls 9,I ls 10,I ls 11,I ls 12])
)
)<|a7 fun ls=>
 some (.inl [I ls 0,I ls 1,I ls 2,I ls 3,I ls 4,I ls 5,I ls 6,I ls 7,I ls 8,I ls 9])
)
)<|a7 fun ls=>
 some (.inl [I ls 0,I ls 1,I ls 2,I ls 3,I ls 4,I ls 5,I ls 6,I ls 7,I ls 8,I ls 9])
)
)<|a7 fun ls=>
 some (.inl [I ls 0,I ls 1,I ls 2,I ls 3,I ls 4,I ls 5,I ls 6,I ls 7,I ls 8,I ls 9])
)
)<|a7 fun ls=>
 oif (I ls 2) (
 R (Cu n [I ls 0]) fun gW=>
 R (extP 0 gW) fun gv=>
 R (extP 1 gW) fun lE=>
 aw (aL 3 gv)<|
 aU (
 some (D.aO [D.agg [aa gv 0,aa gv 1,aa gv 2],lE])
)
) (
 R (binP false .eql (I ls 1) (J 18)) fun jO=>
 oif jO (
 R (a2 3 (I ls 0) (J 0)) fun LV=>
 R (aW false 1 0 LV) fun hb=>
 R (unP .not hb) fun hp=>
 R (gD hp false (
 R (a2 3 (I ls 0) (J 1)) fun ae5=>
 R (aW false 1 0 ae5) fun hT=>
 R (a2 3 (I ls 0) (J 2)) fun LW=>
 R (aW false 1 0 LW) fun iz=>
 R (binP true .neq hT iz) fun iV=>
 some iV
)) fun iV=>
 R (pickP hp (au true) iV) fun lF=>
 oif lF (
 aU (
 some (D.aO [D.agg [au false,J 0,J 0],J 13])
)
) (
 R (a2 3 (I ls 0) (J 1)) fun ae6=>
 R (aW false 1 0 ae6) fun py=>
 oif py (
 R (a2 3 (I ls 0) (J 1)) fun LX=>
 R (aW true 3 0 LX) fun pz=>
 aw (aL 3 pz)<|
 aU (
 some (D.aO [D.agg [aa pz 0,aa pz 1,aa pz 2],J 0])
)
) (
 R (a2 3 (I ls 0) (J 1)) fun LY=>
 R (aW false 1 1 LY) fun ix=>
 R (a2 3 (I ls 0) (J 2)) fun LZ=>
 R (aW false 1 1 LZ) fun vC=>
 R (jI false [ix,vC]) fun pq=>
 R (a2 3 (I ls 0) (J 1)) fun ae7=>
 R (aW false 1 2 ae7) fun mY=>
 R (a2 3 (I ls 0) (J 2)) fun ae8=>
 R (aW false 1 2 ae8) fun qH=>
 R (jI true [mY,qH]) fun oo=>
 R (px n [pq,oo]) fun yY=>
 R (extP 0 yY) fun qI=>
 R (extP 1 yY) fun vZ=>
 aw (aL 3 qI)<|
 aU (
 some (D.aO [D.agg [aa qI 0,aa qI 1,aa qI 2],vZ])
)
)
)
) (
 R (binP false .eql (I ls 1) (J 10)) fun qC=>
 R (
 oif qC (
 some (.inl [I ls 0,qC,I ls 3,I ls 4,I ls 5,I ls 6,I ls 7,I ls 8,I ls 9])
) (
 R (binP false .eql (I ls 1) (J 11)) fun Cy=>
 some (.inl [I ls 0,Cy,I ls 3,I ls 4,I ls 5,I ls 6,I ls 7,I ls 8,I ls 9])
)
)<|a7 fun ls=>
 oif (I ls 1) (
 R (a2 3 (I ls 0) (J 0)) fun Cz=>
 R (aW false 1 0 Cz) fun iA=>
 R (a2 3 (I ls 0) (J 1)) fun ae9=>
 R (aW false 1 0 ae9) fun L0=>
 R (binP true .neq iA L0) fun v3=>
 oif v3 (
 aU (
 some (D.aO [D.agg [au false,J 0,J 0],J 13])
)
) (
 aU (
 some (D.aO [D.agg [au true,J 0,J 0],J 0])
)
)
) (
 some (.inl [I ls 0,I ls 2,I ls 3,I ls 4,I ls 5,I ls 6,I ls 7,I ls 8])
)
)
)
)
)
)
)<|a7 fun ls=>
 R (a2 3 (I ls 0) (J 0)) fun afa=>
 R (aW false 1 0 afa) fun r3=>
 R (gD r3 false (
 R (a2 3 (I ls 0) (J 1)) fun afb=>
 R (aW false 1 0 afb) fun CA=>
 some CA
)) fun CA=>
 R (pickP r3 (au true) CA) fun afc=>
 oif afc (
 some (D.aO [D.agg [au false,J 0,J 0],J 13])
) (
 R (binP false .eql (I ls 1) (J 12)) fun v5=>
 R (
 oif v5 (
 some (.inl [I ls 0,I ls 1,v5,I ls 1,I ls 2,I ls 3,I ls 4,I ls 5,I ls 6,I ls 7])
) (
 R (binP false .eql (I ls 1) (J 13)) fun afd=>
 some (.inl [I ls 0,I ls 1,afd,I ls 1,I ls 2,I ls 3,I ls 4,I ls 5,I ls 6,I ls 7])
)
)<|a7 fun ls=>
 oif (I ls 2) (
 some (D.aO [D.agg [au true,J 0,J 0],J 0])
) (
 R (binP false .eql (I ls 1) (J 17)) fun CB=>
 oif CB (
 R (a2 4 (I ls 6) (J 1)) fun afe=>
 R (aW true 4 0 afe) fun CC=>
 aw (aL 4 CC)<|
 R (binP false .neq (aa CC 0) (J 1)) fun yZ=>
 R (gD yZ false (
 R (binP false .lss (aa CC 1) (J 1)) fun L1=>
 some L1
)) fun L1=>
 R (pickP yZ (au true) L1) fun aff=>
 oif aff (
 some (D.aO [D.agg [au false,J 0,J 0],J 2])
) (
 R (a2 4 (I ls 6) (J 1)) fun afg=>
 R (aW false 1 1 afg) fun y0=>
 R (binP false .sub y0 (J 1)) fun CD=>
 R (px n [J 0,CD]) fun CE=>
 R (extP 0 CE) fun GZ=>
 R (extP 1 CE) fun afh=>
 aw (aL 3 GZ)<|
 some (D.aO [D.agg [aa GZ 0,aa GZ 1,aa GZ 2],afh])
)
) (
 R (a2 3 (I ls 0) (J 0)) fun afi=>
 R (aW true 3 0 afi) fun CF=>
 R (a2 3 (I ls 0) (J 1)) fun afj=>
 R (aW true 3 0 afj) fun qJ=>
 R (vY n [I ls 3,CF,qJ]) fun v7=>
 R (extP 0 v7) fun y1=>
 R (extP 1 v7) fun L2=>
 aw (aL 3 y1)<|
 some (D.aO [D.agg [aa y1 0,aa y1 1,aa y1 2],L2])
)
)
)
def m1(n:Nat):List D→Option D
 |[ab,ah,aT,bR,eg]=>qG n ab ah aT bR eg
 |_=>none
def y2(v8:List D→Option D)(n:Nat)(ls:List D):Option (List D⊕(List D⊕D)):=
 R (binP false .lss (I ls 5) (I ls 4)) fun cb=>
 oif cb (
 R (a2 4 (I ls 3) (I ls 5)) fun r0=>
 R (aW true 4 0 r0) fun bK=>
 aw (aL 4 bK)<|
 R (v8 [I ls 0,I ls 1,D.agg [aa bK 0,aa bK 1,aa bK 2,aa bK 3],I ls 2]) fun cE=>
 R (extP 0 cE) fun cj=>
 R (extP 1 cE) fun cC=>
 aw (aL 3 cj)<|
 R (binP false .neq cC (J 0)) fun dJ=>
 oif dJ (
 aU (
 aU (
 some (D.aO [D.agg [au false,J 0,J 0],cC])
)
)
) (
 aw (aL 3 (D.agg [aa cj 0,aa cj 1,aa cj 2]))<|
 aw (c7 (((esD (I ls 13))).length+([[aa cj 0,aa cj 1,aa cj 2]]).length) 24)<|
 R (binP false .add (I ls 5) (J 1)) fun dm=>
 some (.inl [I ls 0,I ls 1,I ls 2,I ls 3,I ls 4,dm,I ls 6,I ls 7,I ls 8,I ls 9,I ls 10,I ls 11,I ls 12,D.aD 3 ((esD (I ls 13))++[[aa cj 0,aa cj 1,aa cj 2]])])
)
) (
 aU (
 some (.inl [I ls 0,I ls 1,I ls 2,I ls 6,I ls 7,I ls 8,I ls 9,I ls 10,I ls 11,I ls 12,D.aD 3 (esD (I ls 13))])
)
)
def L3(v8:List D→Option D)(n:Nat)(ab:D)(ah:D)(aT:D)(bR:D):Option D:=
 aw (aL 4 aT)<|
 R (lenP (aa aT 3)) fun bw=>
 R (
 bk (y2 v8 n) n [ab,ah,bR,aa aT 3,bw,J 0,aa aT 0,aa aT 1,aa aT 2,aa aT 3,au false,J 0,J 0,D.aD 3 []]
)<|a7 fun ls=>
 R (m1 n [I ls 0,I ls 1,D.agg [I ls 3,I ls 4,I ls 5,I ls 6],I ls 2,D.aD 3 (esD (I ls 10))]) fun dN=>
 aw dN.flat<|
 R (extP 0 dN) fun c3=>
 R (extP 1 dN) fun gk=>
 aw (aL 3 c3)<|
 some (D.aO [D.agg [aa c3 0,aa c3 1,aa c3 2],gk])
def pA:Nat→List D→Option D
 |0,_=>none
 |n+1,aF=>match aF with
  |[ab,ah,aT,bR]=>L3 (pA n) n ab ah aT bR
  |_=>none
def L4(n:Nat)(ab:D)(ah:D)(aT:D):Option D:=
 aw (aL 4 ah)<|
 R (qE n [D.agg [aa ah 0,aa ah 1,aa ah 2,aa ah 3]]) fun v10=>
 R (binP false .neq v10 (J 0)) fun bY=>
 oif bY (
 some (D.aO [D.agg [au false,J 0,J 0],v10])
) (
 R (vX n [ab]) fun bw=>
 R (pA n [ab,bw,D.agg [aa ah 0,aa ah 1,aa ah 2,aa ah 3],aT]) fun v20=>
 R (extP 0 v20) fun bK=>
 R (extP 1 v20) fun bQ=>
 aw (aL 3 bK)<|
 some (D.aO [D.agg [aa bK 0,aa bK 1,aa bK 2],bQ])
)
def qK(n:Nat):List D→Option D
 |[ab,ah,aT]=>L4 n ab ah aT
 |_=>none
def L5(n:Nat)(ab:D)(ah:D)(aT:D):Option D:=
 aw (aL 8 ab)<|
 aw (aL 4 ah)<|
 R (kC n [D.agg [aa ah 0,aa ah 1,aa ah 2,aa ah 3],aa ab 1]) fun bq=>
 R (extP 0 bq) fun bh=>
 R (extP 1 bq) fun bF=>
 aw (aL 4 bh)<|
 R (binP false .neq bF (J 0)) fun bE=>
 oif bE (
 some (D.aO [D.agg [au false,J 0,J 0],bF])
) (
 R (qK n [aa ab 0,D.agg [aa bh 0,aa bh 1,aa bh 2,aa bh 3],aT]) fun cM=>
 R (extP 0 cM) fun cp=>
 R (extP 1 cM) fun cE=>
 aw (aL 3 cp)<|
 some (D.aO [D.agg [aa cp 0,aa cp 1,aa cp 2],cE])
)
def qL(n:Nat):List D→Option D
 |[ab,ah,aT]=>L5 n ab ah aT
 |_=>none
def L6(n:Nat)(ab:D)(ah:D)(aT:D):Option D:=
 aw (aL 8 ab)<|
 aw (aL 4 ah)<|
 R (qL n [D.agg [aa ab 0,aa ab 1,aa ab 2,aa ab 3,aa ab 4,aa ab 5,aa ab 6,aa ab 7],D.agg [aa ah 0,aa ah 1,aa ah 2,aa ah 3],aT]) fun bZ=>
 R (extP 0 bZ) fun bq=>
 R (extP 1 bZ) fun bh=>
 aw (aL 3 bq)<|
 R (binP false .eql bh (J 0)) fun bw=>
 R (gD bw true (
 R (unP .not (aa bq 0)) fun bK=>
 some bK
)) fun bK=>
 R (pickP bw bK (au false)) fun bQ=>
 oif bQ (
 some (J 13)
) (
 some bh
)
def tG(n:Nat):List D→Option D
 |[ab,ah,aT]=>L6 n ab ah aT
 |_=>none
def CG(v9:List D→Option D)(n:Nat)(ls:List D):Option (List D⊕(List D⊕D)):=
 R (binP false .lss (I ls 2) (I ls 1)) fun cb=>
 oif cb (
 R (a2 6 (I ls 0) (I ls 2)) fun r0=>
 R (aW true 6 0 r0) fun bK=>
 aw (aL 6 bK)<|
 R (v9 [D.agg [I ls 3,I ls 4,I ls 5,I ls 6,I ls 7,I ls 8,I ls 9,I ls 10],D.agg [aa bK 0,aa bK 1,aa bK 2,aa bK 3,aa bK 4,aa bK 5]]) fun cD=>
 R (binP false .neq cD (J 0)) fun cp=>
 oif cp (
 aU (
 aU (
 some cD
)
)
) (
 R (binP false .add (I ls 2) (J 1)) fun cj=>
 some (.inl [I ls 0,I ls 1,cj,I ls 3,I ls 4,I ls 5,I ls 6,I ls 7,I ls 8,I ls 9,I ls 10])
)
) (
 aU (
 some (.inl [])
)
)
def CH(v9:List D→Option D)(n:Nat)(ab:D)(ah:D):Option D:=
 aw (aL 8 ab)<|
 aw (aL 6 ah)<|
 R (binP false .eql (aa ah 0) (J 1)) fun v10=>
 oif v10 (
 R (tG n [D.agg [aa ab 0,aa ab 1,aa ab 2,aa ab 3,aa ab 4,aa ab 5,aa ab 6,aa ab 7],D.agg [aa ah 1,aa ah 2,aa ah 3,aa ah 4],au false]) fun bq=>
 some bq
) (
 R (lenP (aa ah 5)) fun bw=>
 R (
 bk (CG v9 n) n [aa ah 5,bw,J 0,aa ab 0,aa ab 1,aa ab 2,aa ab 3,aa ab 4,aa ab 5,aa ab 6,aa ab 7]
)<|a7 fun ls=>
 some (J 0)
)
def qM:Nat→List D→Option D
 |0,_=>none
 |n+1,aF=>match aF with
  |[ab,ah]=>CH (qM n) n ab ah
  |_=>none
def CI(n:Nat)(ab:D)(ah:D)(aT:D):Option D:=
 aw (aL 8 ah)<|
 R (a2 7 ab aT) fun vG=>
 R (aW false 1 0 vG) fun bZ=>
 aw (bC bZ)<|
 R (qD n [bZ]) fun bF=>
 R (unP .not bF) fun bw=>
 oif bw (
 some (J 12)
) (
 R (ji 7 ab none (some aT)) fun bK=>
 R (vP n [bK,(D.fn (.func po) [] [D.ref [bZ] 0])]) fun b6=>
 aw b6.flat<|
 oif b6 (
 some (J 6)
) (
 R (a2 7 ab aT) fun L7=>
 R (aW true 6 1 L7) fun cj=>
 R (nC n [cj]) fun cC=>
 R (binP false .neq cC (J 0)) fun dJ=>
 oif dJ (
 some cC
) (
 R (a2 7 ab aT) fun wa=>
 R (aW true 6 1 wa) fun dm=>
 R (qM n [D.agg [aa ah 0,aa ah 1,aa ah 2,aa ah 3,aa ah 4,aa ah 5,aa ah 6,aa ah 7],dm]) fun eA=>
 some eA
)
)
)
def r4(n:Nat):List D→Option D
 |[ab,ah,aT]=>CI n ab ah aT
 |_=>none
def G0(n:Nat)(ab:D)(x1:List D):Option D:=
 aw (aL 4 ab)<|
 R (aW false 1 0 x1) fun v6=>
 R (binP false .eql (aa ab 0) v6) fun b1=>
 some b1
def CJ(n:Nat):List D→Option D
 |[ab,ah]=>(match ah with| .ref x1 0=>G0 n ab x1|_=>none)
 |_=>none
def CK(n:Nat)(ls:List D):Option (List D⊕(List D⊕D)):=
 R (binP false .lss (I ls 3) (I ls 2)) fun bM=>
 oif bM (
 R (a2 4 (I ls 0) (I ls 3)) fun eV=>
 R (aW true 4 0 eV) fun bh=>
 R (CJ n [bh,I ls 1]) fun bF=>
 oif bF (
 aU (
 aU (
 some (I ls 3)
)
)
) (
 R (binP false .add (I ls 3) (J 1)) fun bE=>
 some (.inl [I ls 0,I ls 1,I ls 2,bE])
)
) (
 aU (
 some (.inl [])
)
)
def CL(n:Nat)(ab:D)(b7:D):Option D:=
 R (lenP ab) fun b1=>
 R (
 bk (CK n) n [ab,b7,b1,J 0]
)<|a7 fun ls=>
 some (J (-1))
def wb(n:Nat):List D→Option D
 |[ab,ah]=>(match fnOf yJ ah with|some [b7]=>CL n ab b7|_=>none)
 |_=>none
def G1(n:Nat)(ab:D)(x1:List D):Option D:=
 aw (aL 5 ab)<|
 R (aW false 1 0 x1) fun v6=>
 R (binP false .eql (aa ab 0) v6) fun b1=>
 some b1
def CM(n:Nat):List D→Option D
 |[ab,ah]=>(match ah with| .ref x1 0=>G1 n ab x1|_=>none)
 |_=>none
def CN(n:Nat)(ls:List D):Option (List D⊕(List D⊕D)):=
 R (binP false .lss (I ls 3) (I ls 2)) fun bM=>
 oif bM (
 R (a2 5 (I ls 0) (I ls 3)) fun eV=>
 R (aW true 5 0 eV) fun bh=>
 R (CM n [bh,I ls 1]) fun bF=>
 oif bF (
 aU (
 aU (
 some (I ls 3)
)
)
) (
 R (binP false .add (I ls 3) (J 1)) fun bE=>
 some (.inl [I ls 0,I ls 1,I ls 2,bE])
)
) (
 aU (
 some (.inl [])
)
)
def CO(n:Nat)(ab:D)(b7:D):Option D:=
 R (lenP ab) fun b1=>
 R (
 bk (CN n) n [ab,b7,b1,J 0]
)<|a7 fun ls=>
 some (J (-1))
def wc(n:Nat):List D→Option D
 |[ab,ah]=>(match fnOf pn ah with|some [b7]=>CO n ab b7|_=>none)
 |_=>none
def G2(n:Nat)(ab:D)(b7:D):Option D:=
 R (wc n [ab,(D.fn (.func pn) [] [b7])]) fun b1=>
 R (binP false .geq b1 (J 0)) fun cl=>
 some cl
def we(n:Nat):List D→Option D
 |[ab,ah]=>(match fnOf pn ah with|some [b7]=>G2 n ab b7|_=>none)
 |_=>none
def G3(n:Nat)(ab:D)(ah:D)(aT:D):Option D:=
 aw (aL 8 ah)<|
 R (a2 5 ab aT) fun BW=>
 R (aW false 1 0 BW) fun bh=>
 aw (bC bh)<|
 R (wb n [aa ah 0,(D.fn (.func yJ) [] [D.ref [bh] 0])]) fun cb=>
 aw cb.flat<|
 R (binP false .lss cb (J 0)) fun bQ=>
 oif bQ (
 some (J 12)
) (
 R (ji 5 ab none (some aT)) fun cp=>
 R (we n [cp,(D.fn (.func pn) [] [D.ref [bh] 0])]) fun cj=>
 aw cj.flat<|
 oif cj (
 some (J 6)
) (
 R (a2 5 ab aT) fun L8=>
 R (aW true 4 1 L8) fun fK=>
 R (qL n [D.agg [aa ah 0,aa ah 1,aa ah 2,aa ah 3,aa ah 4,aa ah 5,aa ah 6,aa ah 7],fK,au false]) fun dh=>
 R (extP 0 dh) fun dy=>
 R (extP 1 dh) fun dm=>
 aw (aL 3 dy)<|
 R (binP false .eql dm (J 0)) fun du=>
 R (gD du true (
 R (a2 4 (aa ah 0) cb) fun wg=>
 R (aW false 1 1 wg) fun eD=>
 R (binP true .neq (aa dy 0) eD) fun c8=>
 some c8
)) fun c8=>
 R (pickP du c8 (au false)) fun fz=>
 oif fz (
 some (J 13)
) (
 some dm
)
)
)
def tH(n:Nat):List D→Option D
 |[ab,ah,aT]=>G3 n ab ah aT
 |_=>none
def Tk(n:Nat)(ab:D)(ah:D)(aT:D):Option D:=
 aw (aL 3 ab)<|
 aw (aL 8 ah)<|
 R (a2 4 (aa ab 1) aT) fun vG=>
 R (aW true 4 0 vG) fun bY=>
 R (tG n [D.agg [aa ah 0,aa ah 1,aa ah 2,aa ah 3,aa ah 4,aa ah 5,aa ah 6,aa ah 7],bY,aa ab 2]) fun bh=>
 some bh
def y3(n:Nat):List D→Option D
 |[ab,ah,aT]=>Tk n ab ah aT
 |_=>none
def Tl(n:Nat)(ab:D)(ah:D)(aT:D):Option D:=
 aw (aL 8 ah)<|
 R (a2 5 ab aT) fun BW=>
 R (aW true 4 1 BW) fun bh=>
 R (qL n [D.agg [aa ah 0,aa ah 1,aa ah 2,aa ah 3,aa ah 4,aa ah 5,aa ah 6,aa ah 7],bh,au false]) fun bF=>
 R (extP 0 bF) fun bw=>
 R (extP 1 bF) fun bE=>
 aw (aL 3 bw)<|
 some bE
def y4(n:Nat):List D→Option D
 |[ab,ah,aT]=>Tl n ab ah aT
 |_=>none
def G4(n:Nat)(ab:D)(x1:List D):Option D:=
 aw (aL 5 ab)<|
 R (aW false 1 0 x1) fun v6=>
 R (binP false .eql (aa ab 0) v6) fun b1=>
 some b1
def CP(n:Nat):List D→Option D
 |[ab,ah]=>(match ah with| .ref x1 0=>G4 n ab x1|_=>none)
 |_=>none
def CQ(n:Nat)(ls:List D):Option (List D⊕(List D⊕D)):=
 R (binP false .lss (I ls 3) (I ls 2)) fun bM=>
 oif bM (
 R (a2 5 (I ls 0) (I ls 3)) fun eV=>
 R (aW true 5 0 eV) fun bh=>
 R (CP n [bh,I ls 1]) fun bF=>
 oif bF (
 aU (
 aU (
 some (I ls 3)
)
)
) (
 R (binP false .add (I ls 3) (J 1)) fun bE=>
 some (.inl [I ls 0,I ls 1,I ls 2,bE])
)
) (
 aU (
 some (.inl [])
)
)
def CR(n:Nat)(ab:D)(b7:D):Option D:=
 R (lenP ab) fun b1=>
 R (
 bk (CQ n) n [ab,b7,b1,J 0]
)<|a7 fun ls=>
 some (J (-1))
def wh(n:Nat):List D→Option D
 |[ab,ah]=>(match fnOf yI ah with|some [b7]=>CR n ab b7|_=>none)
 |_=>none
def wi(n:Nat)(ls:List D):Option (List D⊕(List D⊕(List D⊕(List D⊕(List D⊕D))))):=
 R (binP false .lss (I ls 4) (I ls 3)) fun dm=>
 oif dm (
 R (
 R (a2 1 (I ls 2) (I ls 4)) fun nD=>
 R (aW false 1 0 nD) fun du=>
 aw (bC du)<|
 R (wh n [I ls 0,(D.fn (.func yI) [] [D.ref [du] 0])]) fun ed=>
 aw ed.flat<|
 R (binP false .geq ed (J 0)) fun c3=>
 R (gD c3 true (
 R (cH ((esD (I ls 5))).length ed) fun afk=>
 R (((esD (I ls 5)))[afk]?) fun afl=>
 R (aW false 1 0 afl) fun c8=>
 R (unP .not c8) fun fz=>
 some fz
)) fun fz=>
 R (pickP c3 fz (au false)) fun e5=>
 R (
 oif e5 (
 R (cH ((esD (I ls 5))).length ed) fun Tn=>
 R (((esD (I ls 5)))[Tn]?) fun lv=>
 aw (bC ed)<|
 aw (c7 (((esD (I ls 6))).length+([[ed]]).length) 8)<|
 some (.inl [I ls 0,I ls 1,I ls 2,I ls 3,I ls 4,D.aD 1 (((esD (I ls 5))).set Tn (lk lv 0 [au true])),D.aD 1 ((esD (I ls 6))++[[ed]])])
) (
 some (.inl [I ls 0,I ls 1,I ls 2,I ls 3,I ls 4,D.aD 1 (esD (I ls 5)),D.aD 1 (esD (I ls 6))])
)
)<|a7 fun ls=>
 some (.inl [I ls 0,I ls 1,I ls 2,I ls 3,I ls 4,D.aD 1 (esD (I ls 5)),D.aD 1 (esD (I ls 6))])
)<|a7 fun ls=>
 R (binP false .add (I ls 4) (J 1)) fun eB=>
 some (.inl [I ls 0,I ls 1,I ls 2,I ls 3,eB,D.aD 1 (esD (I ls 5)),D.aD 1 (esD (I ls 6))])
) (
 aU (
 some (.inl [I ls 0,I ls 1,D.aD 1 (esD (I ls 5)),D.aD 1 (esD (I ls 6))])
)
)
def G5(n:Nat)(ls:List D):Option (List D⊕(List D⊕D)):=
 R (binP false .gtr (J ((esD (I ls 3))).length) (J 0)) fun bK=>
 oif bK (
 R (
 R (cH ((esD (I ls 3))).length (J 0)) fun Cd=>
 R (((esD (I ls 3)))[Cd]?) fun Ce=>
 R (aW false 1 0 Ce) fun cj=>
 R (a2 5 (I ls 0) cj) fun r5=>
 R (aW true 4 1 r5) fun dJ=>
 R (pt n [dJ]) fun dt=>
 R (extP 0 dt) fun dB=>
 R (extP 1 dt) fun ds=>
 R (lenP dB) fun dh=>
 R (
 bk (wi n) n [I ls 0,I ls 1,dB,dh,J 0,D.aD 1 (esD (I ls 2)),D.aD 1 (esD (I ls 3))]
)<|a7 fun ls=>
 some (.inl [I ls 0,I ls 1,D.aD 1 (esD (I ls 2)),D.aD 1 (esD (I ls 3))])
)<|a7 fun ls=>
 R (nq ((esD (I ls 3))).length (some (J 1)) none) fun G6=>
 aw (decide (G6.1+G6.2≤((esD (I ls 3))).length))<|
 some (.inl [I ls 0,I ls 1,D.aD 1 (esD (I ls 2)),D.aD 1 ((((esD (I ls 3))).drop G6.1).take G6.2)])
) (
 aU (
 some (.inl [I ls 1,D.aD 1 (esD (I ls 2))])
)
)
def To(n:Nat)(ab:D)(ah:D)(aT:D):Option D:=
 aw (aL 8 ah)<|
 R (lenP ab) fun bh=>
 R (makeP 1 bh bh) fun afm=>
 aw (bC aT)<|
 R (
 bk (G5 n) n [ab,aT,D.aD 1 (List.replicate afm [au false]),D.aD 1 [[aT]]]
)<|a7 fun ls=>
 R (cH ((esD (I ls 1))).length (I ls 0)) fun GW=>
 R (((esD (I ls 1)))[GW]?) fun afn=>
 R (aW false 1 0 afn) fun g9=>
 oif g9 (
 some (J 14)
) (
 some (J 0)
)
def y5(n:Nat):List D→Option D
 |[ab,ah,aT]=>To n ab ah aT
 |_=>none
def G7(n:Nat)(ab:D)(x1:List D):Option D:=
 aw (aL 4 ab)<|
 R (aW false 1 0 x1) fun v6=>
 R (binP false .eql (aa ab 0) v6) fun b1=>
 some b1
def CS(n:Nat):List D→Option D
 |[ab,ah]=>(match ah with| .ref x1 0=>G7 n ab x1|_=>none)
 |_=>none
def CT(n:Nat)(ls:List D):Option (List D⊕(List D⊕D)):=
 R (binP false .lss (I ls 3) (I ls 2)) fun bM=>
 oif bM (
 R (a2 4 (I ls 0) (I ls 3)) fun eV=>
 R (aW true 4 0 eV) fun bh=>
 R (CS n [bh,I ls 1]) fun bF=>
 oif bF (
 aU (
 aU (
 some (I ls 3)
)
)
) (
 R (binP false .add (I ls 3) (J 1)) fun bE=>
 some (.inl [I ls 0,I ls 1,I ls 2,bE])
)
) (
 aU (
 some (.inl [])
)
)
def CU(n:Nat)(ab:D)(b7:D):Option D:=
 R (lenP ab) fun b1=>
 R (
 bk (CT n) n [ab,b7,b1,J 0]
)<|a7 fun ls=>
 some (J (-1))
def wj(n:Nat):List D→Option D
 |[ab,ah]=>(match fnOf pj ah with|some [b7]=>CU n ab b7|_=>none)
 |_=>none
def G8(n:Nat)(ab:D)(b7:D):Option D:=
 R (wj n [ab,(D.fn (.func pj) [] [b7])]) fun b1=>
 R (binP false .geq b1 (J 0)) fun cl=>
 some cl
def wk(n:Nat):List D→Option D
 |[ab,ah]=>(match fnOf pj ah with|some [b7]=>G8 n ab b7|_=>none)
 |_=>none
def G9(n:Nat)(ab:D)(x1:List D):Option D:=
 aw (aL 5 ab)<|
 R (aW false 1 0 x1) fun v6=>
 R (binP false .eql (aa ab 0) v6) fun b1=>
 some b1
def CV(n:Nat):List D→Option D
 |[ab,ah]=>(match ah with| .ref x1 0=>G9 n ab x1|_=>none)
 |_=>none
def CW(n:Nat)(ls:List D):Option (List D⊕(List D⊕D)):=
 R (binP false .lss (I ls 3) (I ls 2)) fun bM=>
 oif bM (
 R (a2 5 (I ls 0) (I ls 3)) fun eV=>
 R (aW true 5 0 eV) fun bh=>
 R (CV n [bh,I ls 1]) fun bF=>
 oif bF (
 aU (
 aU (
 some (I ls 3)
)
)
) (
 R (binP false .add (I ls 3) (J 1)) fun bE=>
 some (.inl [I ls 0,I ls 1,I ls 2,bE])
)
) (
 aU (
 some (.inl [])
)
)
def CX(n:Nat)(ab:D)(b7:D):Option D:=
 R (lenP ab) fun b1=>
 R (
 bk (CW n) n [ab,b7,b1,J 0]
)<|a7 fun ls=>
 some (J (-1))
def wm(n:Nat):List D→Option D
 |[ab,ah]=>(match fnOf pk ah with|some [b7]=>CX n ab b7|_=>none)
 |_=>none
def Ha(n:Nat)(ab:D)(b7:D):Option D:=
 R (wm n [ab,(D.fn (.func pk) [] [b7])]) fun b1=>
 R (binP false .geq b1 (J 0)) fun cl=>
 some cl
def wo(n:Nat):List D→Option D
 |[ab,ah]=>(match fnOf pk ah with|some [b7]=>Ha n ab b7|_=>none)
 |_=>none
def CY(n:Nat)(ab:D)(ah:D)(aT:D):Option D:=
 aw (aL 8 ah)<|
 R (a2 5 ab aT) fun LU=>
 R (aW false 1 0 LU) fun bY=>
 aw (bC bY)<|
 R (qD n [bY]) fun bh=>
 R (unP .not bh) fun bF=>
 oif bF (
 some (J 12)
) (
 R (wk n [aa ah 0,(D.fn (.func pj) [] [D.ref [bY] 0])]) fun bK=>
 aw bK.flat<|
 R (
 oif bK (
 some (.inl [bK])
) (
 R (ji 5 ab none (some aT)) fun cD=>
 R (wo n [cD,(D.fn (.func pk) [] [D.ref [bY] 0])]) fun cp=>
 aw cp.flat<|
 some (.inl [cp])
)
)<|a7 fun ls=>
 oif (I ls 0) (
 some (J 6)
) (
 some (J 0)
)
)
def r6(n:Nat):List D→Option D
 |[ab,ah,aT]=>CY n ab ah aT
 |_=>none
def Tp(n:Nat)(ab:D):Option D:=
 some (J 8)
def Hb(n:Nat):List D→Option D
 |[ab]=>Tp n ab
 |_=>none
def Tq(n:Nat)(ab:D):Option D:=
 some (J 5)
def Hc(n:Nat):List D→Option D
 |[ab]=>Tq n ab
 |_=>none
def Tr(n:Nat)(ab:D):Option D:=
 aw (aL 3 ab)<|
 some (aa ab 0)
def Hd(n:Nat):List D→Option D
 |[ab]=>Tr n ab
 |_=>none
def Ts(n:Nat)(ab:D):Option D:=
 some (J 2)
def He(n:Nat):List D→Option D
 |[ab]=>Ts n ab
 |_=>none
def Tt(n:Nat)(ab:D):Option D:=
 some (J 2)
def Hf(n:Nat):List D→Option D
 |[ab]=>Tt n ab
 |_=>none
def Tu(n:Nat)(ab:D):Option D:=
 some (J 2)
def Hg(n:Nat):List D→Option D
 |[ab]=>Tu n ab
 |_=>none
def pB(n:Nat)(ls:List D):Option (List D⊕(List D⊕D)):=
 R (binP false .lss (I ls 1) (J 8)) fun dm=>
 oif dm (
 R (cH 8 (I ls 1)) fun afo=>
 R (j0 false 1 (afo*1) (I ls 0)) fun du=>
 R (binP false .gtr du (J 64)) fun c2=>
 oif c2 (
 R (binP false .add (J 1) (I ls 1)) fun dN=>
 aw (bC dN)<|
 aw (aL 2 (D.agg [dN,J 64]))<|
 aU (
 aU (
 some (D.aO [D.agg [dN,J 64],J 18])
)
)
) (
 R (binP false .add (I ls 1) (J 1)) fun gk=>
 some (.inl [I ls 0,gk,I ls 2,I ls 3,I ls 4,I ls 5,I ls 6,I ls 7,I ls 8,I ls 9,I ls 10,I ls 11])
)
) (
 aU (
 some (.inl [I ls 2,I ls 3,I ls 4,I ls 5,I ls 6,I ls 7,I ls 8,I ls 9,I ls 10,I ls 11])
)
)
def gP(n:Nat)(ls:List D):Option (List D⊕(List D⊕(List D⊕(List D⊕(List D⊕D))))):=
 R (binP false .lss (I ls 4) (I ls 3)) fun vB=>
 oif vB (
 R (ifcP (I ls 0)) fun oq=>
 R (fj oq.1 151 (r6 n [oq.2,D.agg [I ls 5,I ls 6,I ls 7,I ls 8,I ls 9,I ls 10,I ls 11,I ls 12],I ls 4]) (fj oq.1 152 (y5 n [oq.2,D.agg [I ls 5,I ls 6,I ls 7,I ls 8,I ls 9,I ls 10,I ls 11,I ls 12],I ls 4]) (fj oq.1 153 (y4 n [oq.2,D.agg [I ls 5,I ls 6,I ls 7,I ls 8,I ls 9,I ls 10,I ls 11,I ls 12],I ls 4]) (fj oq.1 155 (y3 n [oq.2,D.agg [I ls 5,I ls 6,I ls 7,I ls 8,I ls 9,I ls 10,I ls 11,I ls 12],I ls 4]) (fj oq.1 156 (tH n [oq.2,D.agg [I ls 5,I ls 6,I ls 7,I ls 8,I ls 9,I ls 10,I ls 11,I ls 12],I ls 4]) (fj oq.1 157 (r4 n [oq.2,D.agg [I ls 5,I ls 6,I ls 7,I ls 8,I ls 9,I ls 10,I ls 11,I ls 12],I ls 4]) (none))))))) fun l6=>
 R (binP false .neq l6 (J 0)) fun vA=>
 oif vA (
 R (ifcP (I ls 0)) fun ot=>
 R (fj ot.1 151 (Hg n [ot.2]) (fj ot.1 152 (Hf n [ot.2]) (fj ot.1 153 (He n [ot.2]) (fj ot.1 155 (Hd n [ot.2]) (fj ot.1 156 (Hc n [ot.2]) (fj ot.1 157 (Hb n [ot.2]) (none))))))) fun wq=>
 aw (bC wq)<|
 aw (bC (I ls 4))<|
 aw (aL 2 (D.agg [wq,I ls 4]))<|
 aU (
 aU (
 aU (
 aU (
 aU (
 some (D.aO [D.agg [wq,I ls 4],l6])
)
)
)
)
)
) (
 R (binP false .add (I ls 4) (J 1)) fun pq=>
 some (.inl [I ls 0,I ls 1,I ls 2,I ls 3,pq,I ls 5,I ls 6,I ls 7,I ls 8,I ls 9,I ls 10,I ls 11,I ls 12,I ls 13,I ls 14])
)
) (
 aU (
 some (.inl [I ls 1,I ls 2,I ls 5,I ls 6,I ls 7,I ls 8,I ls 9,I ls 10,I ls 11,I ls 12,I ls 13,I ls 14])
)
)
def gG(n:Nat)(ls:List D):Option (List D⊕(List D⊕D)):=
 R (binP false .lss (I ls 1) (J 9)) fun iV=>
 oif iV (
 R (
 R (cH 9 (I ls 1)) fun afp=>
 R (j0 false 1 (afp*1) (I ls 0)) fun lF=>
 R (ifcP lF) fun ou=>
 R (fj ou.1 151 (B5 n [ou.2]) (fj ou.1 152 (B4 n [ou.2]) (fj ou.1 153 (B3 n [ou.2]) (fj ou.1 155 (pr n [ou.2]) (fj ou.1 156 (B1 n [ou.2]) (fj ou.1 157 (B0 n [ou.2]) (none))))))) fun qB=>
 R (
 bk (gP n) n [lF,I ls 0,I ls 1,qB,J 0,I ls 2,I ls 3,I ls 4,I ls 5,I ls 6,I ls 7,I ls 8,I ls 9,I ls 10,I ls 11]
)<|a7 fun ls=>
 some (.inl [I ls 0,I ls 1,I ls 2,I ls 3,I ls 4,I ls 5,I ls 6,I ls 7,I ls 8,I ls 9,I ls 10,I ls 11])
)<|a7 fun ls=>
 R (binP false .add (I ls 1) (J 1)) fun kD=>
 some (.inl [I ls 0,kD,I ls 2,I ls 3,I ls 4,I ls 5,I ls 6,I ls 7,I ls 8,I ls 9,I ls 10,I ls 11])
) (
 aU (
 some (.inl [I ls 10,I ls 11])
)
)
def wu(n:Nat)(ab:D):Option D:=
 aw (aL 8 ab)<|
 R (lenP (aa ab 0)) fun bq=>
 R (lenP (aa ab 1)) fun bw=>
 R (lenP (aa ab 2)) fun v20=>
 R (lenP (aa ab 3)) fun b6=>
 R (lenP (aa ab 4)) fun cp=>
 R (lenP (aa ab 5)) fun cC=>
 R (lenP (aa ab 6)) fun dt=>
 R (lenP (aa ab 7)) fun fK=>
 aw (bC bq)<|
 aw (bC bw)<|
 aw (bC v20)<|
 aw (bC b6)<|
 aw (bC cp)<|
 aw (bC cC)<|
 aw (bC dt)<|
 aw (bC fK)<|
 R (
 bk (pB n) n [D.agg [bq,bw,v20,b6,cp,cC,dt,fK],J 0,aa ab 0,aa ab 1,aa ab 2,aa ab 3,aa ab 4,aa ab 5,aa ab 6,aa ab 7,J 0,J 0]
)<|a7 fun ls=>
 R (yU n [I ls 0]) fun c8=>
 R (extP 0 c8) fun fz=>
 R (extP 1 c8) fun e5=>
 R (binP false .neq e5 (J 0)) fun hI=>
 oif hI (
 aw (bC fz)<|
 aw (aL 2 (D.agg [J 1,fz]))<|
 some (D.aO [D.agg [J 1,fz],e5])
) (
 R (BZ n [D.agg [I ls 0,I ls 1,I ls 2,I ls 3,I ls 4,I ls 5,I ls 6,I ls 7]]) fun j9=>
 R (binP false .gtr j9 (J 30)) fun eB=>
 oif eB (
 some (D.aO [D.agg [J 1,J 0],J 18])
) (
 aw (bC (I ls 2))<|
 aw (bC (I ls 3))<|
 aw (bC (I ls 5))<|
 aw (bC (I ls 6))<|
 aw (bC (D.di 151 (I ls 1)))<|
 aw (bC (D.di 152 (I ls 1)))<|
 aw (bC (D.di 153 (I ls 1)))<|
 aw (bC (D.di 155 (D.agg [J 3,I ls 2,au false])))<|
 aw (bC (D.di 155 (D.agg [J 4,I ls 3,au false])))<|
 aw (bC (D.di 156 (I ls 4)))<|
 aw (bC (D.di 155 (D.agg [J 6,I ls 5,au true])))<|
 aw (bC (D.di 155 (D.agg [J 7,I ls 6,au false])))<|
 aw (bC (D.di 157 (I ls 7)))<|
 R (
 bk (gG n) n [D.agg [D.di 151 (I ls 1),D.di 152 (I ls 1),D.di 153 (I ls 1),D.di 155 (D.agg [J 3,I ls 2,au false]),D.di 155 (D.agg [J 4,I ls 3,au false]),D.di 156 (I ls 4),D.di 155 (D.agg [J 6,I ls 5,au true]),D.di 155 (D.agg [J 7,I ls 6,au false]),D.di 157 (I ls 7)],J 0,I ls 0,I ls 1,I ls 2,I ls 3,I ls 4,I ls 5,I ls 6,I ls 7,I ls 8,I ls 9]
)<|a7 fun ls=>
 some (D.aO [D.agg [J 0,J 0],J 0])
)
)
def ov(n:Nat):List D→Option D
 |[ab]=>wu n ab
 |_=>none
def Hh(n:Nat)(ls:List D):Option (List D⊕(List D⊕D)):=
 R (binP false .lss (I ls 3) (I ls 2)) fun bq=>
 oif bq (
 R (a2 4 (I ls 1) (I ls 3)) fun pC=>
 R (aW true 4 0 pC) fun bw=>
 aw (aL 4 bw)<|
 R (kC n [D.agg [aa bw 0,aa bw 1,aa bw 2,aa bw 3],I ls 0]) fun bK=>
 R (extP 0 bK) fun bQ=>
 R (extP 1 bK) fun b6=>
 aw (aL 4 bQ)<|
 R (binP false .neq b6 (J 0)) fun cM=>
 oif cM (
 aU (
 aU (
 some (D.aO [D.val (.slice none 0 0),I ls 3,b6])
)
)
) (
 aw (aL 4 (D.agg [aa bQ 0,aa bQ 1,aa bQ 2,aa bQ 3]))<|
 aw (c7 (((esD (I ls 4))).length+([[aa bQ 0,aa bQ 1,aa bQ 2,aa bQ 3]]).length) 56)<|
 R (binP false .add (I ls 3) (J 1)) fun dt=>
 some (.inl [I ls 0,I ls 1,I ls 2,dt,D.aD 4 ((esD (I ls 4))++[[aa bQ 0,aa bQ 1,aa bQ 2,aa bQ 3]])])
)
) (
 aU (
 some (.inl [D.aD 4 (esD (I ls 4))])
)
)
def Tv(n:Nat)(ab:D)(ah:D):Option D:=
 R (lenP ab) fun bY=>
 R (
 bk (Hh n) n [ah,ab,bY,J 0,D.aD 4 []]
)<|a7 fun ls=>
 some (D.aO [D.aD 4 (esD (I ls 0)),J 0,J 0])
def nE(n:Nat):List D→Option D
 |[ab,ah]=>Tv n ab ah
 |_=>none
def Hi(n:Nat)(ls:List D):Option (List D⊕(List D⊕D)):=
 R (binP false .lss (I ls 3) (I ls 2)) fun bq=>
 oif bq (
 R (a2 5 (I ls 1) (I ls 3)) fun pC=>
 R (aW true 5 0 pC) fun bw=>
 aw (aL 5 bw)<|
 R (kC n [D.agg [aa bw 1,aa bw 2,aa bw 3,aa bw 4],I ls 0]) fun bQ=>
 R (extP 0 bQ) fun b6=>
 R (extP 1 bQ) fun cD=>
 aw (aL 4 b6)<|
 R (binP false .neq cD (J 0)) fun cp=>
 oif cp (
 aU (
 aU (
 some (D.aO [D.val (.slice none 0 0),I ls 3,cD])
)
)
) (
 aw (bC (aa bw 0))<|
 aw (aL 4 (D.agg [aa b6 0,aa b6 1,aa b6 2,aa b6 3]))<|
 aw (aL 5 (D.agg [aa bw 0,aa b6 0,aa b6 1,aa b6 2,aa b6 3]))<|
 aw (c7 (((esD (I ls 4))).length+([[aa bw 0,aa b6 0,aa b6 1,aa b6 2,aa b6 3]]).length) 72)<|
 R (binP false .add (I ls 3) (J 1)) fun dh=>
 some (.inl [I ls 0,I ls 1,I ls 2,dh,D.aD 5 ((esD (I ls 4))++[[aa bw 0,aa b6 0,aa b6 1,aa b6 2,aa b6 3]])])
)
) (
 aU (
 some (.inl [D.aD 5 (esD (I ls 4))])
)
)
def Tw(n:Nat)(ab:D)(ah:D):Option D:=
 R (lenP ab) fun bY=>
 R (
 bk (Hi n) n [ah,ab,bY,J 0,D.aD 5 []]
)<|a7 fun ls=>
 some (D.aO [D.aD 5 (esD (I ls 0)),J 0,J 0])
def wv(n:Nat):List D→Option D
 |[ab,ah]=>Tw n ab ah
 |_=>none
def y6(wx:List D→Option (List D))(n:Nat)(ls:List D):Option (List D⊕(List D⊕(List D))):=
 R (binP false .lss (I ls 2) (I ls 1)) fun fK=>
 oif fK (
 R (a2 6 (I ls 0) (I ls 2)) fun wa=>
 R (aW true 6 0 wa) fun dy=>
 aw (aL 6 dy)<|
 R (wx [D.agg [aa dy 0,aa dy 1,aa dy 2,aa dy 3,aa dy 4,aa dy 5],I ls 16]) fun ae=>
 R (extP 0 (I ae 0)) fun c2=>
 R (extP 1 (I ae 0)) fun ed=>
 aw (aL 6 c2)<|
 R (binP false .neq ed (J 0)) fun c3=>
 oif c3 (
 aU (
 aU (
 some [D.aO [D.agg [J 0,J 0,J 0,aJ ⟨#[]⟩,D.val (.slice none 0 0),D.val (.slice none 0 0)],ed],I ae 1]
)
)
) (
 aw (aL 6 (D.agg [aa c2 0,aa c2 1,aa c2 2,aa c2 3,aa c2 4,aa c2 5]))<|
 aw (c7 (((esD (I ls 15))).length+([[aa c2 0,aa c2 1,aa c2 2,aa c2 3,aa c2 4,aa c2 5]]).length) 88)<|
 R (binP false .add (I ls 2) (J 1)) fun e5=>
 some (.inl [I ls 0,I ls 1,e5,I ls 3,I ls 4,I ls 5,I ls 6,I ls 7,I ls 8,I ls 9,I ls 10,I ls 11,I ls 12,I ls 13,I ls 14,D.aD 6 ((esD (I ls 15))++[[aa c2 0,aa c2 1,aa c2 2,aa c2 3,aa c2 4,aa c2 5]]),I ae 1])
)
) (
 aU (
 some (.inl [I ls 3,I ls 4,I ls 5,I ls 6,I ls 7,I ls 8,I ls 9,I ls 10,I ls 11,I ls 12,I ls 13,I ls 14,D.aD 6 (esD (I ls 15)),I ls 16])
)
)
def qN(wx:List D→Option (List D))(n:Nat)(ls:List D):Option (List D):=
 aw (aL 6 (I ls 0))<|
 R (binP false .eql (aa (I ls 0) 0) (J 1)) fun bh=>
 oif bh (
 R (kC n [D.agg [aa (I ls 0) 1,aa (I ls 0) 2,aa (I ls 0) 3,aa (I ls 0) 4],I ls 1]) fun v20=>
 R (extP 0 v20) fun bK=>
 R (extP 1 v20) fun bQ=>
 aw (aL 4 bK)<|
 R (binP false .neq bQ (J 0)) fun cD=>
 oif cD (
 some [D.aO [D.agg [J 0,J 0,J 0,aJ ⟨#[]⟩,D.val (.slice none 0 0),D.val (.slice none 0 0)],bQ],I ls 1]
) (
 aw (bC (aa (I ls 0) 0))<|
 aw (aL 4 (D.agg [aa bK 0,aa bK 1,aa bK 2,aa bK 3]))<|
 aw (aL 6 (D.agg [aa (I ls 0) 0,aa bK 0,aa bK 1,aa bK 2,aa bK 3,D.val (.slice none 0 0)]))<|
 some [D.aO [D.agg [aa (I ls 0) 0,aa bK 0,aa bK 1,aa bK 2,aa bK 3,D.val (.slice none 0 0)],J 0],I ls 1]
)
) (
 R (lenP (aa (I ls 0) 5)) fun dB=>
 R (
 bk (y6 wx n) n [aa (I ls 0) 5,dB,J 0,aa (I ls 0) 0,aa (I ls 0) 1,aa (I ls 0) 2,aa (I ls 0) 3,aa (I ls 0) 4,aa (I ls 0) 5,J 0,J 0,J 0,aJ ⟨#[]⟩,D.val (.slice none 0 0),D.val (.slice none 0 0),D.aD 6 [],I ls 1]
)<|a7 fun ls=>
 aw (bC (I ls 0))<|
 aw (aL 6 (D.agg [I ls 0,J 0,J 0,aJ ⟨#[]⟩,D.val (.slice none 0 0),D.aD 6 (esD (I ls 12))]))<|
 some [D.aO [D.agg [I ls 0,J 0,J 0,aJ ⟨#[]⟩,D.val (.slice none 0 0),D.aD 6 (esD (I ls 12))],J 0],I ls 13]
)
def nF:Nat→List D→Option (List D)
 |0,_=>none
 |n+1,ls=>qN (nF n) n ls
def L9(n:Nat)(ab:D)(ah:D):Option D:=
 aw (aL 6 ab)<|
 aw (bC ah)<|
 R (nC n [D.agg [aa ab 0,aa ab 1,aa ab 2,aa ab 3,aa ab 4,aa ab 5]]) fun bM=>
 R (binP false .neq bM (J 0)) fun v11=>
 oif v11 (
 some (D.aO [D.agg [J 0,J 0,J 0,aJ ⟨#[]⟩,D.val (.slice none 0 0),D.val (.slice none 0 0)],bM])
) (
 R (nF n [D.agg [aa ab 0,aa ab 1,aa ab 2,aa ab 3,aa ab 4,aa ab 5],ah]) fun ad=>
 R (extP 0 (I ad 0)) fun bE=>
 R (extP 1 (I ad 0)) fun cb=>
 aw (aL 6 bE)<|
 some (D.aO [D.agg [aa bE 0,aa bE 1,aa bE 2,aa bE 3,aa bE 4,aa bE 5],cb])
)
def r7(n:Nat):List D→Option D
 |[ab,ah]=>L9 n ab ah
 |_=>none
def Hj(n:Nat)(ls:List D):Option (List D⊕(List D⊕D)):=
 R (binP false .lss (I ls 3) (I ls 2)) fun bq=>
 oif bq (
 R (a2 7 (I ls 1) (I ls 3)) fun pC=>
 R (aW true 7 0 pC) fun bw=>
 aw (aL 7 bw)<|
 R (r7 n [D.agg [aa bw 1,aa bw 2,aa bw 3,aa bw 4,aa bw 5,aa bw 6],I ls 0]) fun bQ=>
 R (extP 0 bQ) fun b6=>
 R (extP 1 bQ) fun cD=>
 aw (aL 6 b6)<|
 R (binP false .neq cD (J 0)) fun cp=>
 oif cp (
 aU (
 aU (
 some (D.aO [D.val (.slice none 0 0),I ls 3,cD])
)
)
) (
 aw (bC (aa bw 0))<|
 aw (aL 6 (D.agg [aa b6 0,aa b6 1,aa b6 2,aa b6 3,aa b6 4,aa b6 5]))<|
 aw (aL 7 (D.agg [aa bw 0,aa b6 0,aa b6 1,aa b6 2,aa b6 3,aa b6 4,aa b6 5]))<|
 aw (c7 (((esD (I ls 4))).length+([[aa bw 0,aa b6 0,aa b6 1,aa b6 2,aa b6 3,aa b6 4,aa b6 5]]).length) 104)<|
 R (binP false .add (I ls 3) (J 1)) fun dh=>
 some (.inl [I ls 0,I ls 1,I ls 2,dh,D.aD 7 ((esD (I ls 4))++[[aa bw 0,aa b6 0,aa b6 1,aa b6 2,aa b6 3,aa b6 4,aa b6 5]])])
)
) (
 aU (
 some (.inl [D.aD 7 (esD (I ls 4))])
)
)
def Tx(n:Nat)(ab:D)(ah:D):Option D:=
 R (lenP ab) fun bY=>
 R (
 bk (Hj n) n [ah,ab,bY,J 0,D.aD 7 []]
)<|a7 fun ls=>
 some (D.aO [D.aD 7 (esD (I ls 0)),J 0,J 0])
def wy(n:Nat):List D→Option D
 |[ab,ah]=>Tx n ab ah
 |_=>none
def Ma(n:Nat)(ab:D):Option D:=
 aw (aL 8 ab)<|
 aw (bC (aa ab 0))<|
 R (nE n [aa ab 2,aa ab 1]) fun bZ=>
 R (extP 0 bZ) fun bq=>
 R (extP 1 bZ) fun bh=>
 R (extP 2 bZ) fun bF=>
 aw (bC bq)<|
 aw (bC bh)<|
 R (binP false .neq bF (J 0)) fun v20=>
 oif v20 (
 aw (bC bh)<|
 aw (aL 2 (D.agg [J 3,bh]))<|
 some (D.aO [D.agg [D.val (.slice none 0 0),D.val (.slice none 0 0),D.val (.slice none 0 0),D.val (.slice none 0 0),D.val (.slice none 0 0),D.val (.slice none 0 0),D.val (.slice none 0 0),D.val (.slice none 0 0)],D.agg [J 3,bh],bF])
) (
 R (nE n [aa ab 3,aa ab 1]) fun dJ=>
 R (extP 0 dJ) fun dt=>
 R (extP 1 dJ) fun dB=>
 R (extP 2 dJ) fun ds=>
 aw (bC dt)<|
 aw (bC dB)<|
 R (binP false .neq ds (J 0)) fun dm=>
 oif dm (
 aw (bC dB)<|
 aw (aL 2 (D.agg [J 4,dB]))<|
 some (D.aO [D.agg [D.val (.slice none 0 0),D.val (.slice none 0 0),D.val (.slice none 0 0),D.val (.slice none 0 0),D.val (.slice none 0 0),D.val (.slice none 0 0),D.val (.slice none 0 0),D.val (.slice none 0 0)],D.agg [J 4,dB],ds])
) (
 R (wv n [aa ab 4,aa ab 1]) fun eD=>
 R (extP 0 eD) fun c8=>
 R (extP 1 eD) fun fz=>
 R (extP 2 eD) fun e5=>
 aw (bC c8)<|
 aw (bC fz)<|
 R (binP false .neq e5 (J 0)) fun e1=>
 oif e1 (
 aw (bC fz)<|
 aw (aL 2 (D.agg [J 5,fz]))<|
 some (D.aO [D.agg [D.val (.slice none 0 0),D.val (.slice none 0 0),D.val (.slice none 0 0),D.val (.slice none 0 0),D.val (.slice none 0 0),D.val (.slice none 0 0),D.val (.slice none 0 0),D.val (.slice none 0 0)],D.agg [J 5,fz],e5])
) (
 R (nE n [aa ab 5,aa ab 1]) fun fA=>
 R (extP 0 fA) fun fJ=>
 R (extP 1 fA) fun eh=>
 R (extP 2 fA) fun iT=>
 aw (bC fJ)<|
 aw (bC eh)<|
 R (binP false .neq iT (J 0)) fun gF=>
 oif gF (
 aw (bC eh)<|
 aw (aL 2 (D.agg [J 6,eh]))<|
 some (D.aO [D.agg [D.val (.slice none 0 0),D.val (.slice none 0 0),D.val (.slice none 0 0),D.val (.slice none 0 0),D.val (.slice none 0 0),D.val (.slice none 0 0),D.val (.slice none 0 0),D.val (.slice none 0 0)],D.agg [J 6,eh],iT])
) (
 R (nE n [aa ab 6,aa ab 1]) fun hp=>
 R (extP 0 hp) fun jQ=>
 R (extP 1 hp) fun pD=>
 R (extP 2 hp) fun r2=>
 aw (bC jQ)<|
 aw (bC pD)<|
 R (binP false .neq r2 (J 0)) fun tI=>
 oif tI (
 aw (bC pD)<|
 aw (aL 2 (D.agg [J 7,pD]))<|
 some (D.aO [D.agg [D.val (.slice none 0 0),D.val (.slice none 0 0),D.val (.slice none 0 0),D.val (.slice none 0 0),D.val (.slice none 0 0),D.val (.slice none 0 0),D.val (.slice none 0 0),D.val (.slice none 0 0)],D.agg [J 7,pD],r2])
) (
 R (wy n [aa ab 7,aa ab 1]) fun pE=>
 R (extP 0 pE) fun pz=>
 R (extP 1 pE) fun l6=>
 R (extP 2 pE) fun r8=>
 aw (bC pz)<|
 aw (bC l6)<|
 R (binP false .neq r8 (J 0)) fun wz=>
 oif wz (
 aw (bC l6)<|
 aw (aL 2 (D.agg [J 8,l6]))<|
 some (D.aO [D.agg [D.val (.slice none 0 0),D.val (.slice none 0 0),D.val (.slice none 0 0),D.val (.slice none 0 0),D.val (.slice none 0 0),D.val (.slice none 0 0),D.val (.slice none 0 0),D.val (.slice none 0 0)],D.agg [J 8,l6],r8])
) (
 aw (aL 8 (D.agg [aa ab 0,D.val (.slice none 0 0),bq,dt,c8,fJ,jQ,pz]))<|
 some (D.aO [D.agg [aa ab 0,D.val (.slice none 0 0),bq,dt,c8,fJ,jQ,pz],D.agg [J 0,J 0],J 0])
)
)
)
)
)
)
def CZ(n:Nat):List D→Option D
 |[ab]=>Ma n ab
 |_=>none
def Mb(n:Nat)(ab:D):Option D:=
 aw (aL 8 ab)<|
 R (ov n [D.agg [aa ab 0,aa ab 1,aa ab 2,aa ab 3,aa ab 4,aa ab 5,aa ab 6,aa ab 7]]) fun v11=>
 R (extP 0 v11) fun bY=>
 R (extP 1 v11) fun bZ=>
 aw (aL 2 bY)<|
 R (binP false .neq bZ (J 0)) fun bh=>
 oif bh (
 some (D.aO [D.agg [D.val (.slice none 0 0),D.val (.slice none 0 0),D.val (.slice none 0 0),D.val (.slice none 0 0),D.val (.slice none 0 0),D.val (.slice none 0 0),D.val (.slice none 0 0),D.val (.slice none 0 0),D.val (.slice none 0 0)],au false])
) (
 R (CZ n [D.agg [aa ab 0,aa ab 1,aa ab 2,aa ab 3,aa ab 4,aa ab 5,aa ab 6,aa ab 7]]) fun cb=>
 R (extP 0 cb) fun v20=>
 R (extP 1 cb) fun bK=>
 R (extP 2 cb) fun bQ=>
 aw (aL 8 v20)<|
 aw (aL 2 bK)<|
 aw (aL 8 (D.agg [aa v20 0,aa v20 1,aa v20 2,aa v20 3,aa v20 4,aa v20 5,aa v20 6,aa v20 7]))<|
 aw (bC (aa ab 1))<|
 R (binP false .eql bQ (J 0)) fun cj=>
 aw (aL 9 (D.agg [aa v20 0,aa v20 1,aa v20 2,aa v20 3,aa v20 4,aa v20 5,aa v20 6,aa v20 7,aa ab 1]))<|
 some (D.aO [D.agg [aa v20 0,aa v20 1,aa v20 2,aa v20 3,aa v20 4,aa v20 5,aa v20 6,aa v20 7,aa ab 1],cj])
)
def nG(n:Nat):List D→Option D
 |[ab]=>Mb n ab
 |_=>none
def y7(n:Nat)(ls:List D):Option (List D⊕(List D⊕D)):=
 R (binP false .lss (I ls 3) (I ls 2)) fun cb=>
 oif cb (
 R (a2 4 (I ls 1) (I ls 3)) fun r9=>
 R (aW true 4 0 r9) fun bQ=>
 aw (aL 4 bQ)<|
 R (
 oif (aa bQ 1) (
 some (.inl [I ls 0,I ls 3,J 0,J 1,I ls 1,I ls 2,I ls 3])
) (
 some (.inl [I ls 0,I ls 3,aa bQ 2,aa bQ 3,I ls 1,I ls 2,I ls 3])
)
)<|a7 fun ls=>
 R (a2 1 (I ls 0) (I ls 1)) fun sa=>
 R (aW false 1 0 sa) fun dt=>
 R (binP false .lss dt (I ls 2)) fun ds=>
 R (gD ds false (
 R (a2 1 (I ls 0) (I ls 1)) fun C0=>
 R (aW false 1 0 C0) fun eA=>
 R (binP false .gtr eA (I ls 3)) fun eU=>
 some eU
)) fun eU=>
 R (pickP ds (au true) eU) fun c2=>
 oif c2 (
 aU (
 aU (
 some (au false)
)
)
) (
 R (binP false .add (I ls 6) (J 1)) fun ed=>
 some (.inl [I ls 0,I ls 4,I ls 5,ed])
)
) (
 aU (
 some (.inl [])
)
)
def Tz(n:Nat)(ab:D)(ah:D):Option D:=
 aw (aL 8 ab)<|
 R (lenP ah) fun v10=>
 R (lenP (aa ab 0)) fun bZ=>
 R (binP false .neq v10 bZ) fun bq=>
 oif bq (
 some (au false)
) (
 R (lenP (aa ab 0)) fun bw=>
 R (
 bk (y7 n) n [ah,aa ab 0,bw,J 0]
)<|a7 fun ls=>
 some (au true)
)
def y8(n:Nat):List D→Option D
 |[ab,ah]=>Tz n ab ah
 |_=>none
def TA(n:Nat)(ab:D):Option D:=
 oif ab (
 some (D.aO [J 1,au true])
) (
 some (D.aO [J 0,au true])
)
def nH(n:Nat):List D→Option D
 |[ab]=>TA n ab
 |_=>none
def TB(n:Nat)(ab:D)(ah:D):Option D:=
 R (unP .not ah) fun b1=>
 R (gD b1 false (
 R (binP false .lss ab (J (-9007199254740992))) fun v10=>
 some v10
)) fun v10=>
 R (pickP b1 (au true) v10) fun v11=>
 R (gD v11 false (
 R (binP false .gtr ab (J 9007199254740992)) fun bq=>
 some bq
)) fun bq=>
 R (pickP v11 (au true) bq) fun bh=>
 oif bh (
 some (D.aO [J 0,au false])
) (
 some (D.aO [ab,au true])
)
def C1(n:Nat):List D→Option D
 |[ab,ah]=>TB n ab ah
 |_=>none
def Hk(n:Nat)(ab:D)(ah:D):Option D:=
 R (binP false .add ab ah) fun cl=>
 R (binP false .lss ab (J 0)) fun v11=>
 R (binP false .lss ah (J 0)) fun bZ=>
 R (binP true .neq v11 bZ) fun bq=>
 R (gD bq false (
 R (binP false .lss ab (J 0)) fun bw=>
 R (binP false .lss cl (J 0)) fun cb=>
 R (binP true .eql bw cb) fun v20=>
 some v20
)) fun v20=>
 R (pickP bq (au true) v20) fun bK=>
 R (C1 n [cl,bK]) fun bQ=>
 R (extP 0 bQ) fun b6=>
 R (extP 1 bQ) fun cD=>
 some (D.aO [b6,cD])
def qO(n:Nat):List D→Option D
 |[ab,ah]=>Hk n ab ah
 |_=>none
def Mc(n:Nat)(ab:D):Option D:=
 R (binP false .lss ab (J 0)) fun v4=>
 oif v4 (
 R (cvP .u64 ab) fun v6=>
 R (unP .neg v6) fun b1=>
 some b1
) (
 R (cvP .u64 ab) fun bM=>
 some bM
)
def wA(n:Nat):List D→Option D
 |[ab]=>Mc n ab
 |_=>none
def Md(n:Nat)(ab:D)(ah:D):Option D:=
 R (binP false .and ab (D.val (.int .u64 4294967295))) fun bh=>
 R (binP false .shr ab (D.val (.int .u64 32))) fun bw=>
 R (binP false .and ah (D.val (.int .u64 4294967295))) fun cb=>
 R (binP false .shr ah (D.val (.int .u64 32))) fun bK=>
 R (binP false .mul bh cb) fun cD=>
 R (binP false .mul bw cb) fun cE=>
 R (binP false .shr cD (D.val (.int .u64 32))) fun cC=>
 R (binP false .add cE cC) fun v30=>
 R (binP false .and v30 (D.val (.int .u64 4294967295))) fun dt=>
 R (binP false .shr v30 (D.val (.int .u64 32))) fun ds=>
 R (binP false .mul bh bK) fun dm=>
 R (binP false .add dt dm) fun eA=>
 R (binP false .mul bw bK) fun c2=>
 R (binP false .add c2 ds) fun dN=>
 R (binP false .shr eA (D.val (.int .u64 32))) fun gk=>
 R (binP false .add dN gk) fun iU=>
 R (binP false .mul ab ah) fun c8=>
 some (D.aO [iU,c8])
def Hl(n:Nat):List D→Option D
 |[ab,ah]=>Md n ab ah
 |_=>none
def C2(n:Nat)(ab:D)(ah:D):Option D:=
 R (wA n [ab]) fun v10=>
 R (wA n [ah]) fun bY=>
 R (Hl n [v10,bY]) fun bZ=>
 R (extP 0 bZ) fun bq=>
 R (extP 1 bZ) fun bh=>
 R (binP false .neq bq (D.val (.int .u64 0))) fun bw=>
 R (gD bw false (
 R (binP false .gtr bh (D.val (.int .u64 9007199254740992))) fun v20=>
 some v20
)) fun v20=>
 R (pickP bw (au true) v20) fun bK=>
 oif bK (
 some (D.aO [J 0,au false])
) (
 R (binP false .lss ab (J 0)) fun b6=>
 R (binP false .lss ah (J 0)) fun cM=>
 R (binP true .neq b6 cM) fun cp=>
 oif cp (
 R (cvP .i64 bh) fun cj=>
 R (unP .neg cj) fun cC=>
 some (D.aO [cC,au true])
) (
 R (cvP .i64 bh) fun dJ=>
 some (D.aO [dJ,au true])
)
)
def tJ(n:Nat):List D→Option D
 |[ab,ah]=>C2 n ab ah
 |_=>none
def C3(n:Nat)(ls:List D):Option (List D⊕(List D⊕D)):=
 R (binP false .lss (I ls 4) (I ls 3)) fun Me=>
 oif Me (
 R (a2 1 (I ls 2) (I ls 4)) fun afq=>
 R (aW false 1 0 afq) fun afr=>
 R (binP false .add (I ls 1) afr) fun y9=>
 R (binP false .add (I ls 4) (J 1)) fun tK=>
 some (.inl [I ls 0,y9,I ls 2,I ls 3,tK,I ls 5,I ls 6,I ls 7,I ls 8])
) (
 aU (
 some (.inl [I ls 0,I ls 1,I ls 5,I ls 6,I ls 7,I ls 8])
)
)
def jR(n:Nat)(ab:D)(ah:D):Option D:=
 aw (aL 4 ab)<|
 R (binP false .eql (aa ab 0) (J 5)) fun bY=>
 oif bY (
 R (a2 1 ah (J 0)) fun eV=>
 R (aW false 1 0 eV) fun bh=>
 R (binP false .eql bh (J 0)) fun bF=>
 R (nH n [bF]) fun bw=>
 R (extP 0 bw) fun bE=>
 R (extP 1 bw) fun cb=>
 some (D.aO [bE,cb])
) (
 R (binP false .eql (aa ab 0) (J 8)) fun bK=>
 oif bK (
 R (a2 1 ah (J 0)) fun BM=>
 R (aW false 1 0 BM) fun cD=>
 R (binP false .eql cD (J 0)) fun cM=>
 R (gD cM false (
 R (a2 1 ah (J 1)) fun rV=>
 R (aW false 1 0 rV) fun cC=>
 R (binP false .neq cC (J 0)) fun v30=>
 some v30
)) fun v30=>
 R (pickP cM (au true) v30) fun dJ=>
 R (nH n [dJ]) fun dt=>
 R (extP 0 dt) fun dB=>
 R (extP 1 dt) fun ds=>
 some (D.aO [dB,ds])
) (
 R (binP false .eql (aa ab 0) (J 9)) fun dh=>
 R (
 oif dh (
 some (.inl [ah,aa ab 0,dh,aa ab 0,aa ab 1,aa ab 2,aa ab 3])
) (
 R (binP false .eql (aa ab 0) (J 10)) fun dy=>
 some (.inl [ah,aa ab 0,dy,aa ab 0,aa ab 1,aa ab 2,aa ab 3])
)
)<|a7 fun ls=>
 oif (I ls 2) (
 R (a2 1 (I ls 0) (J 0)) fun nD=>
 R (aW false 1 0 nD) fun du=>
 R (a2 1 (I ls 0) (J 1)) fun Mf=>
 R (aW false 1 0 Mf) fun ed=>
 R (binP false .eql du ed) fun dN=>
 R (nH n [dN]) fun c3=>
 R (extP 0 c3) fun gk=>
 R (extP 1 c3) fun iU=>
 some (D.aO [gk,iU])
) (
 R (binP false .eql (I ls 1) (J 11)) fun eD=>
 oif eD (
 R (a2 1 (I ls 0) (J 0)) fun C4=>
 R (aW false 1 0 C4) fun e5=>
 R (a2 1 (I ls 0) (J 1)) fun Mg=>
 R (aW false 1 0 Mg) fun e0=>
 R (binP false .neq e5 e0) fun e1=>
 R (nH n [e1]) fun ho=>
 R (extP 0 ho) fun eL=>
 R (extP 1 ho) fun j9=>
 some (D.aO [eL,j9])
) (
 R (binP false .eql (I ls 1) (J 12)) fun ha=>
 oif ha (
 R (a2 1 (I ls 0) (J 0)) fun Cx=>
 R (aW false 1 0 Cx) fun g9=>
 R (a2 1 (I ls 0) (J 1)) fun Mh=>
 R (aW false 1 0 Mh) fun fA=>
 R (binP false .lss g9 fA) fun fJ=>
 R (nH n [fJ]) fun eh=>
 R (extP 0 eh) fun iT=>
 R (extP 1 eh) fun om=>
 some (D.aO [iT,om])
) (
 R (binP false .eql (I ls 1) (J 13)) fun gx=>
 oif gx (
 R (a2 1 (I ls 0) (J 0)) fun C5=>
 R (aW false 1 0 C5) fun gW=>
 R (a2 1 (I ls 0) (J 1)) fun afs=>
 R (aW false 1 0 afs) fun nI=>
 R (binP false .leq gW nI) fun jO=>
 R (nH n [jO]) fun ie=>
 R (extP 0 ie) fun k3=>
 R (extP 1 ie) fun ju=>
 some (D.aO [k3,ju])
) (
 R (binP false .eql (I ls 1) (J 14)) fun hp=>
 oif hp (
 R (a2 1 (I ls 0) (J 0)) fun Mi=>
 R (aW false 1 0 Mi) fun r2=>
 R (a2 1 (I ls 0) (J 1)) fun aft=>
 R (aW false 1 0 aft) fun wB=>
 R (qO n [r2,wB]) fun tI=>
 R (extP 0 tI) fun l5=>
 R (extP 1 tI) fun iz=>
 some (D.aO [l5,iz])
) (
 R (binP false .eql (I ls 1) (J 15)) fun lF=>
 oif lF (
 R (a2 1 (I ls 0) (J 0)) fun Mj=>
 R (aW false 1 0 Mj) fun wC=>
 R (a2 1 (I ls 0) (J 1)) fun afu=>
 R (aW false 1 0 afu) fun C6=>
 R (unP .neg C6) fun pE=>
 R (qO n [wC,pE]) fun pz=>
 R (extP 0 pz) fun l6=>
 R (extP 1 pz) fun r8=>
 some (D.aO [l6,r8])
) (
 R (binP false .eql (I ls 1) (J 16)) fun ix=>
 oif ix (
 R (a2 1 (I ls 0) (J 0)) fun LZ=>
 R (aW false 1 0 LZ) fun wD=>
 R (a2 1 (I ls 0) (J 1)) fun Mk=>
 R (aW false 1 0 Mk) fun kD=>
 R (tJ n [wD,kD]) fun tL=>
 R (extP 0 tL) fun wE=>
 R (extP 1 tL) fun mY=>
 some (D.aO [wE,mY])
) (
 R (binP false .eql (I ls 1) (J 17)) fun C7=>
 oif C7 (
 R (a2 1 (I ls 0) (J 0)) fun afv=>
 R (aW false 1 0 afv) fun oo=>
 R (a2 1 (I ls 0) (J 1)) fun afw=>
 R (aW false 1 0 afw) fun vZ=>
 R (binP false .rem oo vZ) fun za=>
 R (a2 1 (I ls 0) (J 1)) fun afx=>
 R (aW false 1 0 afx) fun LC=>
 R (binP false .add za LC) fun vD=>
 R (a2 1 (I ls 0) (J 1)) fun afy=>
 R (aW false 1 0 afy) fun vF=>
 R (binP false .rem vD vF) fun Ml=>
 some (D.aO [Ml,au true])
) (
 R (binP false .eql (I ls 1) (J 18)) fun L0=>
 oif L0 (
 R (a2 1 (I ls 0) (J 0)) fun afz=>
 R (aW false 1 0 afz) fun afA=>
 R (binP false .neq afA (J 0)) fun zb=>
 oif zb (
 R (a2 1 (I ls 0) (J 1)) fun afB=>
 R (aW false 1 0 afB) fun r3=>
 some (D.aO [r3,au true])
) (
 R (a2 1 (I ls 0) (J 2)) fun afC=>
 R (aW false 1 0 afC) fun afD=>
 some (D.aO [afD,au true])
)
) (
 R (lenP (I ls 0)) fun CA=>
 R (
 bk (C3 n) n [I ls 0,J 0,I ls 0,CA,J 0,I ls 3,I ls 4,I ls 5,I ls 6]
)<|a7 fun ls=>
 R (lenP (I ls 0)) fun afE=>
 R (binP false .eql (I ls 1) afE) fun qJ=>
 R (gD qJ false (
 R (binP false .eql (I ls 2) (J 7)) fun C8=>
 some C8
)) fun v5=>
 R (gD v5 true (
 R (binP false .gtr (I ls 1) (J 0)) fun C9=>
 some C9
)) fun C9=>
 R (gD qJ false (
 R (pickP v5 C9 (au false)) fun Mm=>
 some Mm
)) fun Mm=>
 R (pickP qJ (au true) Mm) fun CB=>
 R (nH n [CB]) fun wF=>
 R (extP 0 wF) fun afF=>
 R (extP 1 wF) fun afG=>
 some (D.aO [afF,afG])
)
)
)
)
)
)
)
)
)
)
)
def iB(n:Nat):List D→Option D
 |[ab,ah]=>jR n ab ah
 |_=>none
def Da(wG:List D→Option (List D))(n:Nat)(ls:List D):Option (List D⊕(List D⊕(List D))):=
 R (binP false .lss (I ls 2) (I ls 1)) fun v20=>
 oif v20 (
 R (a2 4 (I ls 0) (I ls 2)) fun r9=>
 R (aW true 4 0 r9) fun bQ=>
 aw (aL 4 bQ)<|
 R (wG [D.agg [aa bQ 0,aa bQ 1,aa bQ 2,aa bQ 3],I ls 3,I ls 4,I ls 5,I ls 6]) fun ae=>
 R (extP 0 (I ae 0)) fun cE=>
 R (extP 1 (I ae 0)) fun cj=>
 R (unP .not cj) fun v30=>
 oif v30 (
 aU (
 aU (
 some [D.aO [J 0,au false],I ae 1,I ae 2,I ae 3,I ae 4]
)
)
) (
 aw (bC cE)<|
 aw (c7 (((esD (I ls 11))).length+([[cE]]).length) 8)<|
 R (binP false .add (I ls 2) (J 1)) fun fK=>
 some (.inl [I ls 0,I ls 1,fK,I ae 1,I ae 2,I ae 3,I ae 4,I ls 7,I ls 8,I ls 9,I ls 10,D.aD 1 ((esD (I ls 11))++[[cE]])])
)
) (
 aU (
 some (.inl [I ls 3,I ls 4,I ls 5,I ls 6,I ls 7,I ls 8,I ls 9,I ls 10,D.aD 1 (esD (I ls 11))])
)
)
def sb(wG:List D→Option (List D))(n:Nat)(ls:List D):Option (List D):=
 aw (aL 4 (I ls 0))<|
 R (lenP (aa (I ls 0) 3)) fun bE=>
 R (
 bk (Da wG n) n [aa (I ls 0) 3,bE,J 0,I ls 1,I ls 2,I ls 3,I ls 4,aa (I ls 0) 0,aa (I ls 0) 1,aa (I ls 0) 2,aa (I ls 0) 3,D.aD 1 []]
)<|a7 fun ls=>
 R (binP false .eql (I ls 4) (J 1)) fun dN=>
 R (
 oif dN (
 some (.inl [I ls 4,dN,I ls 0,I ls 1,I ls 2,I ls 3,I ls 4,I ls 5,I ls 6,I ls 7,D.aD 1 (esD (I ls 8))])
) (
 R (binP false .eql (I ls 4) (J 2)) fun c3=>
 some (.inl [I ls 4,c3,I ls 0,I ls 1,I ls 2,I ls 3,I ls 4,I ls 5,I ls 6,I ls 7,D.aD 1 (esD (I ls 8))])
)
)<|a7 fun ls=>
 oif (I ls 1) (
 some [D.aO [I ls 7,au true],I ls 2,I ls 3,I ls 4,I ls 5]
) (
 R (binP false .eql (I ls 0) (J 3)) fun eD=>
 R (
 oif eD (
 some (.inl [eD,I ls 2,I ls 3,I ls 4,I ls 5,I ls 6,I ls 7,I ls 8,I ls 9,D.aD 1 (esD (I ls 10))])
) (
 R (binP false .eql (I ls 0) (J 4)) fun c8=>
 some (.inl [c8,I ls 2,I ls 3,I ls 4,I ls 5,I ls 6,I ls 7,I ls 8,I ls 9,D.aD 1 (esD (I ls 10))])
)
)<|a7 fun ls=>
 oif (I ls 0) (
 R (kU (I ls 2)) fun afH=>
 R (lookP (.string) (.int .i64 0) false afH (I ls 7)) fun e0=>
 R (binP false .eql (I ls 5) (J 4)) fun eL=>
 R (
 oif eL (
 some (.inl [I ls 3,e0,I ls 4,I ls 1,I ls 2,I ls 3])
) (
 some (.inl [I ls 1,e0,I ls 4,I ls 1,I ls 2,I ls 3])
)
)<|a7 fun ls=>
 R (lenP (I ls 0)) fun ha=>
 R (lenP (I ls 2)) fun k2=>
 R (binP false .neq ha k2) fun g9=>
 oif g9 (
 some [D.aO [J 0,au false],I ls 3,I ls 4,I ls 5,I ls 2]
) (
 R (a2 4 (I ls 2) (I ls 1)) fun afI=>
 R (aW false 1 1 afI) fun eh=>
 oif eh (
 R (a2 1 (I ls 0) (I ls 1)) fun LA=>
 R (aW false 1 0 LA) fun gx=>
 R (binP false .neq gx (J 0)) fun gF=>
 R (nH n [gF]) fun mZ=>
 R (extP 0 mZ) fun gW=>
 R (extP 1 mZ) fun gv=>
 some [D.aO [gW,gv],I ls 3,I ls 4,I ls 5,I ls 2]
) (
 R (a2 1 (I ls 0) (I ls 1)) fun Mn=>
 R (aW false 1 0 Mn) fun ie=>
 R (qO n [ie,J 0]) fun k3=>
 R (extP 0 k3) fun ju=>
 R (extP 1 k3) fun hb=>
 some [D.aO [ju,hb],I ls 3,I ls 4,I ls 5,I ls 2]
)
)
) (
 R (iB n [D.agg [I ls 5,I ls 6,I ls 7,I ls 8],D.aD 1 (esD (I ls 9))]) fun du=>
 aw du.flat<|
 R (extP 0 du) fun eU=>
 R (extP 1 du) fun c2=>
 some [D.aO [eU,c2],I ls 1,I ls 2,I ls 3,I ls 4]
)
)
def sc:Nat→List D→Option (List D)
 |0,_=>none
 |n+1,ls=>sb (sc n) n ls
def Hm(n:Nat)(ab:D)(ah:D)(aT:D)(bR:D):Option D:=
 aw (bC ab)<|
 aw (aL 4 ah)<|
 aw (bC aT)<|
 aw (bC bR)<|
 R (qK n [ab,D.agg [aa ah 0,aa ah 1,aa ah 2,aa ah 3],au true]) fun bw=>
 R (extP 0 bw) fun bE=>
 R (extP 1 bw) fun cb=>
 aw (aL 3 bE)<|
 R (binP false .neq cb (J 0)) fun bK=>
 R (gD bK false (
 R (lenP aT) fun cD=>
 R (lenP ab) fun cp=>
 R (binP false .neq cD cp) fun cE=>
 some cE
)) fun cE=>
 R (pickP bK (au true) cE) fun cj=>
 oif cj (
 some (D.aO [J 0,au false])
) (
 R (vX n [ab]) fun v30=>
 aw (bC v30)<|
 R (sc n [D.agg [aa ah 0,aa ah 1,aa ah 2,aa ah 3],aT,v30,bR,ab]) fun ad=>
 R (extP 0 (I ad 0)) fun fK=>
 R (extP 1 (I ad 0)) fun dh=>
 some (D.aO [fK,dh])
)
def pF(n:Nat):List D→Option D
 |[ab,ah,aT,bR]=>Hm n ab ah aT bR
 |_=>none
def TC(n:Nat)(ab:D)(ah:D)(aT:D)(bR:D):Option D:=
 aw (aL 9 ab)<|
 aw (aL 4 ah)<|
 R (pF n [aa ab 0,D.agg [aa ah 0,aa ah 1,aa ah 2,aa ah 3],aT,bR]) fun bE=>
 R (extP 0 bE) fun cb=>
 R (extP 1 bE) fun v20=>
 R (gD v20 true (
 R (binP false .neq cb (J 0)) fun cD=>
 some cD
)) fun cD=>
 R (pickP v20 cD (au false)) fun cM=>
 some cM
def sd(n:Nat):List D→Option D
 |[ab,ah,aT,bR]=>TC n ab ah aT bR
 |_=>none
def Hn(n:Nat)(ab:D)(x1:List D)(ig:List D)(tM:List D):Option D:=
 aw (aL 4 ab)<|
 R (aW true 9 0 x1) fun v6=>
 R (aW false 1 0 ig) fun cl=>
 R (aW false 1 0 tM) fun bM=>
 R (sd n [v6,D.agg [aa ab 0,aa ab 1,aa ab 2,aa ab 3],cl,bM]) fun v10=>
 R (unP .not v10) fun v11=>
 some v11
def Db(n:Nat):List D→Option D
 |[ab,ah,aT,bR]=>(match ah with| .ref x1 0=>(match aT with| .ref ig 0=>(match bR with| .ref tM 0=>Hn n ab x1 ig tM|_=>none)|_=>none)|_=>none)
 |_=>none
def Dc(n:Nat)(ls:List D):Option (List D⊕(List D⊕D)):=
 R (binP false .lss (I ls 5) (I ls 4)) fun bM=>
 oif bM (
 R (a2 4 (I ls 0) (I ls 5)) fun eV=>
 R (aW true 4 0 eV) fun bh=>
 R (Db n [bh,I ls 1,I ls 2,I ls 3]) fun bF=>
 oif bF (
 aU (
 aU (
 some (I ls 5)
)
)
) (
 R (binP false .add (I ls 5) (J 1)) fun bE=>
 some (.inl [I ls 0,I ls 1,I ls 2,I ls 3,I ls 4,bE])
)
) (
 aU (
 some (.inl [])
)
)
def Dd(n:Nat)(ab:D)(b7:D)(nJ:D)(nK:D):Option D:=
 R (lenP ab) fun b1=>
 R (
 bk (Dc n) n [ab,b7,nJ,nK,b1,J 0]
)<|a7 fun ls=>
 some (J (-1))
def wH(n:Nat):List D→Option D
 |[ab,ah]=>(match fnOf ph ah with|some [b7,nJ,nK]=>Dd n ab b7 nJ nK|_=>none)
 |_=>none
def Ho(n:Nat)(ab:D)(b7:D)(nJ:D)(nK:D):Option D:=
 R (wH n [ab,(D.fn (.func ph) [] [b7,nJ,nK])]) fun b1=>
 R (binP false .geq b1 (J 0)) fun cl=>
 some cl
def wI(n:Nat):List D→Option D
 |[ab,ah]=>(match fnOf ph ah with|some [b7,nJ,nK]=>Ho n ab b7 nJ nK|_=>none)
 |_=>none
def TD(n:Nat)(ab:D)(ah:D)(aT:D)(bR:D):Option D:=
 aw (aL 9 ab)<|
 aw (bC aT)<|
 aw (bC bR)<|
 R (wI n [ah,(D.fn (.func ph) [] [D.ref [aa ab 0,aa ab 1,aa ab 2,aa ab 3,aa ab 4,aa ab 5,aa ab 6,aa ab 7,aa ab 8] 0,D.ref [aT] 0,D.ref [bR] 0])]) fun v11=>
 aw v11.flat<|
 R (unP .not v11) fun bY=>
 some bY
def wJ(n:Nat):List D→Option D
 |[ab,ah,aT,bR]=>TD n ab ah aT bR
 |_=>none
def Mo(n:Nat)(ab:D)(ah:D):Option D:=
 aw (aL 9 ab)<|
 R (y8 n [D.agg [aa ab 0,aa ab 1,aa ab 2,aa ab 3,aa ab 4,aa ab 5,aa ab 6,aa ab 7],ah]) fun cl=>
 R (gD cl true (
 R (wJ n [D.agg [aa ab 0,aa ab 1,aa ab 2,aa ab 3,aa ab 4,aa ab 5,aa ab 6,aa ab 7,aa ab 8],aa ab 3,ah,D.val (.slice none 0 0)]) fun bh=>
 some bh
)) fun bh=>
 R (pickP cl bh (au false)) fun bF=>
 some bF
def nL(n:Nat):List D→Option D
 |[ab,ah]=>Mo n ab ah
 |_=>none
def afJ(n:Nat)(ls:List D):Option (List D⊕(List D⊕D)):=
 R (binP false .lss (I ls 2) (J 4)) fun bZ=>
 oif bZ (
 R (cH 4 (I ls 2)) fun LM=>
 R (j0 true 2 (LM*2) (I ls 1)) fun bq=>
 aw (aL 2 bq)<|
 R (binP false .eql (I ls 0) (aa bq 0)) fun cb=>
 oif cb (
 aU (
 aU (
 some (aa bq 1)
)
)
) (
 R (binP false .eql (I ls 0) (aa bq 1)) fun cM=>
 oif cM (
 aU (
 aU (
 some (aa bq 0)
)
)
) (
 R (binP false .add (I ls 2) (J 1)) fun cj=>
 some (.inl [I ls 0,I ls 1,cj])
)
)
) (
 aU (
 some (.inl [I ls 0])
)
)
def afK(n:Nat)(ab:D):Option D:=
 R (
 bk (afJ n) n [ab,D.agg [J 3,J 4,J 6,J 10,J 7,J 12,J 8,J 11],J 0]
)<|a7 fun ls=>
 some (I ls 0)
def Mp(n:Nat):List D→Option D
 |[ab]=>afK n ab
 |_=>none
def afL(l7:List D→Option D)(nM:List D→Option D)(n:Nat)(ls:List D):Option (List D⊕(List D⊕D)):=
 R (binP false .lss (I ls 3) (I ls 2)) fun bh=>
 oif bh (
 R (a2 6 (I ls 1) (I ls 3)) fun De=>
 R (aW true 6 0 De) fun bE=>
 aw (aL 6 bE)<|
 R (a2 1 (I ls 0) (I ls 3)) fun Df=>
 R (aW false 1 0 Df) fun cM=>
 R (nM [D.agg [aa bE 0,aa bE 1,aa bE 2,aa bE 3,aa bE 4,aa bE 5],cM]) fun cp=>
 aw (aL 6 cp)<|
 aw (c7 (((esD (I ls 15))).length+([[aa cp 0,aa cp 1,aa cp 2,aa cp 3,aa cp 4,aa cp 5]]).length) 88)<|
 R (binP false .add (I ls 3) (J 1)) fun v30=>
 some (.inl [I ls 0,I ls 1,I ls 2,v30,I ls 4,I ls 5,I ls 6,I ls 7,I ls 8,I ls 9,I ls 10,I ls 11,I ls 12,I ls 13,I ls 14,D.aD 6 ((esD (I ls 15))++[[aa cp 0,aa cp 1,aa cp 2,aa cp 3,aa cp 4,aa cp 5]])])
) (
 aU (
 some (.inl [I ls 4,I ls 5,I ls 6,I ls 7,I ls 8,I ls 9,I ls 10,I ls 11,I ls 12,I ls 13,I ls 14,D.aD 6 (esD (I ls 15))])
)
)
def TE(l7:List D→Option D)(nM:List D→Option D)(n:Nat)(ab:D)(ah:D)(ig:List D):Option D:=
 aw (bC ab)<|
 aw (aL 6 (D.agg [ab,J 0,J 0,aJ ⟨#[]⟩,D.val (.slice none 0 0),D.val (.slice none 0 0)]))<|
 R (aW false 1 5 ig) fun bY=>
 R (lenP bY) fun bZ=>
 R (
 bk (afL l7 nM n) n [ah,bY,bZ,J 0,J 0,J 0,J 0,aJ ⟨#[]⟩,D.val (.slice none 0 0),D.val (.slice none 0 0),ab,J 0,J 0,aJ ⟨#[]⟩,D.val (.slice none 0 0),D.aD 6 []]
)<|a7 fun ls=>
 aw (aL 6 (D.agg [I ls 6,I ls 7,I ls 8,I ls 9,I ls 10,D.aD 6 (esD (I ls 11))]))<|
 some (D.agg [I ls 6,I ls 7,I ls 8,I ls 9,I ls 10,D.aD 6 (esD (I ls 11))])
def TF(l7:List D→Option D)(nM:List D→Option D)(n:Nat)(ab:D)(ah:D):Option D:=
 aw (aL 6 ab)<|
 R (binP false .eql (aa ab 0) (J 2)) fun v11=>
 oif v11 (
 R (a2 6 (aa ab 5) (J 0)) fun eV=>
 R (aW true 6 0 eV) fun bh=>
 R (unP .not ah) fun bw=>
 R (nM [bh,bw]) fun bE=>
 aw (aL 6 bE)<|
 some (D.agg [aa bE 0,aa bE 1,aa bE 2,aa bE 3,aa bE 4,aa bE 5])
) (
 R (binP false .eql (aa ab 0) (J 1)) fun bQ=>
 R (gD bQ true (
 some ah
)) fun cD=>
 R (pickP bQ cD (au false)) fun cM=>
 oif cM (
 aw (aL 4 (D.agg [aa ab 1,aa ab 2,aa ab 3,aa ab 4]))<|
 aw (aL 6 (D.agg [J 1,J 5,J 0,aJ ⟨#[]⟩,D.aD 4 [[aa ab 1,aa ab 2,aa ab 3,aa ab 4]],D.val (.slice none 0 0)]))<|
 some (D.agg [J 1,J 5,J 0,aJ ⟨#[]⟩,D.aD 4 [[aa ab 1,aa ab 2,aa ab 3,aa ab 4]],D.val (.slice none 0 0)])
) (
 R (binP false .eql (aa ab 0) (J 1)) fun ds=>
 oif ds (
 aw (aL 6 (D.agg [aa ab 0,aa ab 1,aa ab 2,aa ab 3,aa ab 4,aa ab 5]))<|
 some (D.agg [aa ab 0,aa ab 1,aa ab 2,aa ab 3,aa ab 4,aa ab 5])
) (
 R (binP false .eql (aa ab 0) (J 5)) fun eA=>
 R (gD eA true (
 some ah
)) fun eU=>
 R (pickP eA eU (au false)) fun c2=>
 oif c2 (
 R (l7 [J 3,D.aD 1 [[au false],[au true]],D.ref [aa ab 0,aa ab 1,aa ab 2,aa ab 3,aa ab 4,aa ab 5] 0]) fun c3=>
 aw (aL 6 c3)<|
 some (D.agg [aa c3 0,aa c3 1,aa c3 2,aa c3 3,aa c3 4,aa c3 5])
) (
 R (binP false .eql (aa ab 0) (J 5)) fun eD=>
 oif eD (
 R (l7 [J 4,D.aD 1 [[au true],[au false]],D.ref [aa ab 0,aa ab 1,aa ab 2,aa ab 3,aa ab 4,aa ab 5] 0]) fun e5=>
 aw (aL 6 e5)<|
 some (D.agg [aa e5 0,aa e5 1,aa e5 2,aa e5 3,aa e5 4,aa e5 5])
) (
 R (binP false .eql (aa ab 0) (J 9)) fun e1=>
 R (gD e1 false (
 R (binP false .eql (aa ab 0) (J 13)) fun eB=>
 some eB
)) fun eB=>
 R (pickP e1 (au true) eB) fun ha=>
 oif ha (
 R (l7 [aa ab 0,D.aD 1 [[au false],[au false]],D.ref [aa ab 0,aa ab 1,aa ab 2,aa ab 3,aa ab 4,aa ab 5] 0]) fun dU=>
 aw (aL 6 dU)<|
 R (
 oif ah (
 aw (aL 6 (D.agg [aa dU 0,aa dU 1,aa dU 2,aa dU 3,aa dU 4,aa dU 5]))<|
 aw (aL 6 (D.agg [J 2,J 0,J 0,aJ ⟨#[]⟩,D.val (.slice none 0 0),D.aD 6 [[aa dU 0,aa dU 1,aa dU 2,aa dU 3,aa dU 4,aa dU 5]]]))<|
 some (.inl [J 0,J 0,J 0,aJ ⟨#[]⟩,D.val (.slice none 0 0),D.val (.slice none 0 0),J 2,J 0,J 0,aJ ⟨#[]⟩,D.val (.slice none 0 0),D.aD 6 [[aa dU 0,aa dU 1,aa dU 2,aa dU 3,aa dU 4,aa dU 5]]])
) (
 some (.inl [J 0,J 0,J 0,aJ ⟨#[]⟩,D.val (.slice none 0 0),D.val (.slice none 0 0),aa dU 0,aa dU 1,aa dU 2,aa dU 3,aa dU 4,aa dU 5])
)
)<|a7 fun ls=>
 aw (aL 6 (D.agg [I ls 6,I ls 7,I ls 8,I ls 9,I ls 10,I ls 11]))<|
 some (D.agg [I ls 6,I ls 7,I ls 8,I ls 9,I ls 10,I ls 11])
) (
 oif ah (
 R (Mp n [aa ab 0]) fun gv=>
 R (l7 [gv,D.aD 1 [[au true],[au true]],D.ref [aa ab 0,aa ab 1,aa ab 2,aa ab 3,aa ab 4,aa ab 5] 0]) fun nI=>
 aw (aL 6 nI)<|
 some (D.agg [aa nI 0,aa nI 1,aa nI 2,aa nI 3,aa nI 4,aa nI 5])
) (
 R (l7 [aa ab 0,D.aD 1 [[au false],[au false]],D.ref [aa ab 0,aa ab 1,aa ab 2,aa ab 3,aa ab 4,aa ab 5] 0]) fun hb=>
 aw (aL 6 hb)<|
 some (D.agg [aa hb 0,aa hb 1,aa hb 2,aa hb 3,aa hb 4,aa hb 5])
)
)
)
)
)
)
)
mutual
def zc:Nat→List D→Option D
 |0,_=>none
 |n+1,aF=>match aF with
  |[ab,ah,aT]=>(match aT with| .ref ig 0=>TE (zc n) (se n) n ab ah ig|_=>none)
  |_=>none
def se:Nat→List D→Option D
 |0,_=>none
 |n+1,aF=>match aF with
  |[ab,ah]=>TF (zc n) (se n) n ab ah
  |_=>none
end
def afM(n:Nat)(ab:D)(ah:D):Option D:=
 aw (aL 6 ab)<|
 R (nC n [D.agg [aa ab 0,aa ab 1,aa ab 2,aa ab 3,aa ab 4,aa ab 5]]) fun v6=>
 R (binP false .neq v6 (J 0)) fun b1=>
 oif b1 (
 aw (aL 6 (D.agg [aa ab 0,aa ab 1,aa ab 2,aa ab 3,aa ab 4,aa ab 5]))<|
 some (D.agg [aa ab 0,aa ab 1,aa ab 2,aa ab 3,aa ab 4,aa ab 5])
) (
 R (se n [D.agg [aa ab 0,aa ab 1,aa ab 2,aa ab 3,aa ab 4,aa ab 5],ah]) fun v11=>
 aw (aL 6 v11)<|
 some (D.agg [aa v11 0,aa v11 1,aa v11 2,aa v11 3,aa v11 4,aa v11 5])
)
def zd(n:Nat):List D→Option D
 |[ab,ah]=>afM n ab ah
 |_=>none
def afN(n:Nat)(ab:D):Option D:=
 aw (aL 6 ab)<|
 R (
 R (binP false .eql (aa ab 0) (J 1)) fun v6=>
 oif v6 (
 aU (
 some (J 1)
)
) (
 R (binP false .eql (aa ab 0) (J 3)) fun cl=>
 oif cl (
 aU (
 some (J 3)
)
) (
 R (binP false .eql (aa ab 0) (J 4)) fun v10=>
 oif v10 (
 aU (
 some (J 4)
)
) (
 R (binP false .eql (aa ab 0) (J 10)) fun bY=>
 R (
 oif bY (
 some (.inl [aa ab 0,bY,aa ab 0,aa ab 1,aa ab 2,aa ab 3,aa ab 4,aa ab 5])
) (
 R (binP false .eql (aa ab 0) (J 11)) fun bZ=>
 R (
 oif bZ (
 some (.inl [aa ab 0,bZ,aa ab 0,aa ab 1,aa ab 2,aa ab 3,aa ab 4,aa ab 5])
) (
 R (binP false .eql (aa ab 0) (J 12)) fun bq=>
 R (
 oif bq (
 some (.inl [aa ab 0,bq,aa ab 0,aa ab 1,aa ab 2,aa ab 3,aa ab 4,aa ab 5])
) (
 R (binP false .eql (aa ab 0) (J 13)) fun bh=>
 some (.inl [aa ab 0,bh,aa ab 0,aa ab 1,aa ab 2,aa ab 3,aa ab 4,aa ab 5])
)
)<|a7 fun ls=>
 some (.inl [I ls 0,I ls 1,I ls 2,I ls 3,I ls 4,I ls 5,I ls 6,I ls 7])
)
)<|a7 fun ls=>
 some (.inl [I ls 0,I ls 1,I ls 2,I ls 3,I ls 4,I ls 5,I ls 6,I ls 7])
)
)<|a7 fun ls=>
 oif (I ls 1) (
 aU (
 some (J 2)
)
) (
 R (binP false .eql (I ls 0) (J 6)) fun bw=>
 R (
 oif bw (
 some (.inl [I ls 0,bw,I ls 2,I ls 3,I ls 4,I ls 5,I ls 6,I ls 7])
) (
 R (binP false .eql (I ls 0) (J 7)) fun bE=>
 R (
 oif bE (
 some (.inl [I ls 0,bE,I ls 2,I ls 3,I ls 4,I ls 5,I ls 6,I ls 7])
) (
 R (binP false .eql (I ls 0) (J 8)) fun cb=>
 R (
 oif cb (
 some (.inl [I ls 0,cb,I ls 2,I ls 3,I ls 4,I ls 5,I ls 6,I ls 7])
) (
 R (binP false .eql (I ls 0) (J 9)) fun v20=>
 some (.inl [I ls 0,v20,I ls 2,I ls 3,I ls 4,I ls 5,I ls 6,I ls 7])
)
)<|a7 fun ls=>
 some (.inl [I ls 0,I ls 1,I ls 2,I ls 3,I ls 4,I ls 5,I ls 6,I ls 7])
)
)<|a7 fun ls=>
 some (.inl [I ls 0,I ls 1,I ls 2,I ls 3,I ls 4,I ls 5,I ls 6,I ls 7])
)
)<|a7 fun ls=>
 oif (I ls 1) (
 aU (
 some (J 5)
)
) (
 R (binP false .eql (I ls 0) (J 2)) fun bQ=>
 R (
 oif bQ (
 R (
 R (lenP (I ls 7)) fun cp=>
 R (binP false .neq cp (J 1)) fun cE=>
 R (
 oif cE (
 some (.inl [])
) (
 R (a2 6 (I ls 7) (J 0)) fun sa=>
 R (aW false 1 0 sa) fun dB=>
 R (binP false .eql dB (J 9)) fun ds=>
 oif ds (
 aU (
 aU (
 aU (
 aU (
 some (J 2)
)
)
)
)
) (
 R (a2 6 (I ls 7) (J 0)) fun C0=>
 R (aW false 1 0 C0) fun du=>
 R (binP false .eql du (J 13)) fun eU=>
 oif eU (
 aU (
 aU (
 aU (
 aU (
 some (J 5)
)
)
)
)
) (
 some (.inl [])
)
)
)
)<|a7 fun ls=>
 some (.inl [])
)<|a7 fun ls=>
 some (.inl [])
) (
 some (.inl [])
)
)<|a7 fun ls=>
 some (.inl [])
)
)
)
)
)
)<|a7 fun ls=>
 some (J 0)
def Mq(n:Nat):List D→Option D
 |[ab]=>afN n ab
 |_=>none
def afO(n:Nat)(ls:List D):Option (List D⊕(List D⊕D)):=
 R (binP false .lss (I ls 3) (I ls 2)) fun bq=>
 oif bq (
 R (a2 1 (I ls 0) (I ls 3)) fun afP=>
 R (aW false 1 0 afP) fun cb=>
 R (a2 1 (I ls 1) (I ls 3)) fun Dg=>
 R (aW false 1 0 Dg) fun b6=>
 R (binP false .neq cb b6) fun cD=>
 oif cD (
 aU (
 aU (
 some (au false)
)
)
) (
 R (binP false .add (I ls 3) (J 1)) fun cM=>
 some (.inl [I ls 0,I ls 1,I ls 2,cM])
)
) (
 aU (
 some (.inl [])
)
)
def afQ(n:Nat)(ab:D)(ah:D):Option D:=
 R (lenP ab) fun b1=>
 R (lenP ah) fun bM=>
 R (binP false .neq b1 bM) fun v10=>
 oif v10 (
 some (au false)
) (
 R (lenP ab) fun bY=>
 R (
 bk (afO n) n [ab,ah,bY,J 0]
)<|a7 fun ls=>
 some (au true)
)
def ze(n:Nat):List D→Option D
 |[ab,ah]=>afQ n ab ah
 |_=>none
def afR(wK:List D→Option D)(n:Nat)(ls:List D):Option (List D⊕(List D⊕D)):=
 R (binP false .lss (I ls 2) (I ls 1)) fun eA=>
 oif eA (
 R (a2 4 (I ls 0) (I ls 2)) fun wL=>
 R (aW true 4 0 wL) fun c2=>
 aw (aL 4 c2)<|
 R (a2 4 (I ls 6) (I ls 2)) fun wg=>
 R (aW true 4 0 wg) fun gu=>
 R (wK [D.agg [aa c2 0,aa c2 1,aa c2 2,aa c2 3],gu]) fun eD=>
 R (unP .not eD) fun c8=>
 oif c8 (
 aU (
 aU (
 some (au false)
)
)
) (
 R (binP false .add (I ls 2) (J 1)) fun fz=>
 some (.inl [I ls 0,I ls 1,fz,I ls 3,I ls 4,I ls 5,I ls 6])
)
) (
 aU (
 some (.inl [])
)
)
def TG(wK:List D→Option D)(n:Nat)(ab:D)(ah:D):Option D:=
 aw (aL 4 ab)<|
 aw (aL 4 ah)<|
 R (binP false .neq (aa ab 0) (aa ah 0)) fun v11=>
 R (gD v11 false (
 R (binP false .neq (aa ab 1) (aa ah 1)) fun bw=>
 some bw
)) fun bw=>
 R (pickP v11 (au true) bw) fun bE=>
 R (gD bE false (
 R (binP false .neq (aa ab 2) (aa ah 2)) fun cD=>
 some cD
)) fun cD=>
 R (pickP bE (au true) cD) fun cM=>
 R (gD cM false (
 R (lenP (aa ab 3)) fun cC=>
 R (lenP (aa ah 3)) fun dt=>
 R (binP false .neq cC dt) fun dB=>
 some dB
)) fun dB=>
 R (pickP cM (au true) dB) fun ds=>
 oif ds (
 some (au false)
) (
 R (lenP (aa ab 3)) fun dy=>
 R (
 bk (afR wK n) n [aa ab 3,dy,J 0,aa ah 0,aa ah 1,aa ah 2,aa ah 3]
)<|a7 fun ls=>
 some (au true)
)
def wM:Nat→List D→Option D
 |0,_=>none
 |n+1,aF=>match aF with
  |[ab,ah]=>TG (wM n) n ab ah
  |_=>none
def afS(pG:List D→Option D)(pH:List D→Option D)(n:Nat)(ls:List D):Option (List D⊕(List D⊕D)):=
 R (binP false .lss (I ls 3) (I ls 2)) fun bE=>
 oif bE (
 R (a2 6 (I ls 1) (I ls 3)) fun r0=>
 R (aW true 6 0 r0) fun bK=>
 aw (aL 6 bK)<|
 R (a2 6 (I ls 0) (I ls 3)) fun Df=>
 R (aW true 6 0 Df) fun cM=>
 aw (aL 6 cM)<|
 R (pH [D.agg [aa bK 0,aa bK 1,aa bK 2,aa bK 3,aa bK 4,aa bK 5],D.agg [aa cM 0,aa cM 1,aa cM 2,aa cM 3,aa cM 4,aa cM 5]]) fun cC=>
 R (unP .not cC) fun v30=>
 oif v30 (
 aU (
 aU (
 some (au false)
)
)
) (
 R (binP false .add (I ls 3) (J 1)) fun dJ=>
 some (.inl [I ls 0,I ls 1,I ls 2,dJ])
)
) (
 aU (
 some (.inl [])
)
)
def TH(pG:List D→Option D)(pH:List D→Option D)(n:Nat)(ab:D)(ah:D):Option D:=
 R (lenP ab) fun v11=>
 R (lenP ah) fun bZ=>
 R (binP false .neq v11 bZ) fun bq=>
 oif bq (
 some (au false)
) (
 R (lenP ab) fun bF=>
 R (
 bk (afS pG pH n) n [ah,ab,bF,J 0]
)<|a7 fun ls=>
 some (au true)
)
def TI(pG:List D→Option D)(pH:List D→Option D)(n:Nat)(ab:D)(ah:D):Option D:=
 aw (aL 6 ab)<|
 aw (aL 6 ah)<|
 R (binP false .eql (aa ab 0) (aa ah 0)) fun bM=>
 R (gD bM true (
 R (wM n [D.agg [aa ab 1,aa ab 2,aa ab 3,aa ab 4],D.agg [aa ah 1,aa ah 2,aa ah 3,aa ah 4]]) fun bh=>
 some bh
)) fun bh=>
 R (pickP bM bh (au false)) fun bF=>
 R (gD bF true (
 R (pG [aa ab 5,aa ah 5,(D.val (.func (.func GC) #[] #[]))]) fun bQ=>
 some bQ
)) fun bQ=>
 R (pickP bF bQ (au false)) fun b6=>
 some b6
mutual
def zf:Nat→List D→Option D
 |0,_=>none
 |n+1,aF=>match aF with
  |[ab,ah,aT]=>aw (isFc GC aT) (TH (zf n) (pI n) n ab ah)
  |_=>none
def pI:Nat→List D→Option D
 |0,_=>none
 |n+1,aF=>match aF with
  |[ab,ah]=>TI (zf n) (pI n) n ab ah
  |_=>none
end
def Hp(n:Nat)(ab:D)(x1:List D):Option D:=
 aw (aL 4 ab)<|
 R (aW false 1 0 x1) fun b1=>
 R (binP false .eql (aa ab 0) b1) fun cl=>
 some cl
def Dh(n:Nat):List D→Option D
 |[ab,ah]=>(match ah with| .ref x1 0=>Hp n ab x1|_=>none)
 |_=>none
def Di(n:Nat)(ls:List D):Option (List D⊕(List D⊕D)):=
 R (binP false .lss (I ls 3) (I ls 2)) fun bM=>
 oif bM (
 R (a2 4 (I ls 0) (I ls 3)) fun eV=>
 R (aW true 4 0 eV) fun bh=>
 R (Dh n [bh,I ls 1]) fun bF=>
 oif bF (
 aU (
 aU (
 some (I ls 3)
)
)
) (
 R (binP false .add (I ls 3) (J 1)) fun bE=>
 some (.inl [I ls 0,I ls 1,I ls 2,bE])
)
) (
 aU (
 some (.inl [])
)
)
def Dj(n:Nat)(ab:D)(b7:D):Option D:=
 R (lenP ab) fun b1=>
 R (
 bk (Di n) n [ab,b7,b1,J 0]
)<|a7 fun ls=>
 some (J (-1))
def wN(n:Nat):List D→Option D
 |[ab,ah]=>(match fnOf yH ah with|some [b7]=>Dj n ab b7|_=>none)
 |_=>none
def zg(n:Nat)(ls:List D):Option (List D⊕(List D⊕D)):=
 R (binP false .lss (I ls 4) (I ls 3)) fun cE=>
 oif cE (
 R (a2 5 (I ls 2) (I ls 4)) fun rV=>
 R (aW true 5 0 rV) fun cC=>
 aw (aL 5 cC)<|
 R (pF n [I ls 5,D.agg [aa cC 1,aa cC 2,aa cC 3,aa cC 4],I ls 0,D.val (.slice none 0 0)]) fun dy=>
 R (extP 0 dy) fun dm=>
 R (extP 1 dy) fun eA=>
 R (wN n [I ls 5,(D.fn (.func yH) [] [D.ref [aa cC 0,aa cC 1,aa cC 2,aa cC 3,aa cC 4] 0])]) fun dN=>
 aw dN.flat<|
 R (unP .not eA) fun gk=>
 R (gD gk false (
 R (binP false .lss dN (J 0)) fun eD=>
 some eD
)) fun eD=>
 R (pickP gk (au true) eD) fun c8=>
 R (gD c8 false (
 R (a2 1 (I ls 1) dN) fun Mg=>
 R (aW false 1 0 Mg) fun e0=>
 R (binP false .neq e0 dm) fun ho=>
 some ho
)) fun ho=>
 R (pickP c8 (au true) ho) fun eL=>
 oif eL (
 aU (
 aU (
 some (au false)
)
)
) (
 R (binP false .add (I ls 4) (J 1)) fun j9=>
 some (.inl [I ls 0,I ls 1,I ls 2,I ls 3,j9,I ls 5,I ls 6,I ls 7,I ls 8,I ls 9,I ls 10,I ls 11,I ls 12,I ls 13])
)
) (
 aU (
 some (.inl [I ls 0,I ls 1,I ls 5,I ls 6,I ls 7,I ls 8,I ls 9,I ls 10,I ls 11,I ls 12,I ls 13])
)
)
def Dk(n:Nat)(ab:D)(ah:D)(aT:D):Option D:=
 aw (aL 9 ab)<|
 R (nL n [D.agg [aa ab 0,aa ab 1,aa ab 2,aa ab 3,aa ab 4,aa ab 5,aa ab 6,aa ab 7,aa ab 8],ah]) fun bq=>
 R (unP .not bq) fun bh=>
 R (gD bh false (
 R (nL n [D.agg [aa ab 0,aa ab 1,aa ab 2,aa ab 3,aa ab 4,aa ab 5,aa ab 6,aa ab 7,aa ab 8],aT]) fun cb=>
 R (unP .not cb) fun v20=>
 some v20
)) fun v20=>
 R (pickP bh (au true) v20) fun bK=>
 oif bK (
 some (au false)
) (
 R (lenP (aa ab 4)) fun cM=>
 R (
 bk (zg n) n [ah,aT,aa ab 4,cM,J 0,aa ab 0,aa ab 1,aa ab 2,aa ab 3,aa ab 4,aa ab 5,aa ab 6,aa ab 7,aa ab 8]
)<|a7 fun ls=>
 R (wJ n [D.agg [I ls 2,I ls 3,I ls 4,I ls 5,I ls 6,I ls 7,I ls 8,I ls 9,I ls 10],I ls 7,I ls 0,I ls 1]) fun dU=>
 some dU
)
def ow(n:Nat):List D→Option D
 |[ab,ah,aT]=>Dk n ab ah aT
 |_=>none
def zh(n:Nat)(ls:List D):Option (List D⊕(List D⊕D)):=
 R (lenP (I ls 0)) fun v30=>
 R (binP false .lss (I ls 2) v30) fun dJ=>
 oif dJ (
 R (binP false .sub (I ls 2) (J 1)) fun dy=>
 R (a2 1 (I ls 0) dy) fun C0=>
 R (aW false 1 0 C0) fun eA=>
 R (a2 1 (I ls 0) (I ls 2)) fun Mf=>
 R (aW false 1 0 Mf) fun ed=>
 R (ow n [D.agg [I ls 3,I ls 4,I ls 5,I ls 6,I ls 7,I ls 8,I ls 9,I ls 10,I ls 11],eA,ed]) fun dN=>
 R (unP .not dN) fun c3=>
 oif c3 (
 aU (
 aU (
 some (au false)
)
)
) (
 R (binP false .add (I ls 2) (J 1)) fun dB=>
 some (.inl [I ls 0,I ls 1,dB,I ls 3,I ls 4,I ls 5,I ls 6,I ls 7,I ls 8,I ls 9,I ls 10,I ls 11])
)
) (
 aU (
 some (.inl [I ls 0,I ls 1,I ls 3,I ls 4,I ls 5,I ls 6,I ls 7,I ls 8,I ls 9,I ls 10,I ls 11])
)
)
def zi(n:Nat)(ls:List D):Option (List D⊕(List D⊕(List D⊕(List D⊕(List D⊕D))))):=
 R (binP false .lss (I ls 7) (I ls 6)) fun gw=>
 oif gw (
 R (a2 1 (I ls 5) (I ls 7)) fun Dl=>
 R (aW false 1 0 Dl) fun gF=>
 R (sd n [D.agg [I ls 8,I ls 9,I ls 10,I ls 11,I ls 12,I ls 13,I ls 14,I ls 15,I ls 16],D.agg [I ls 17,I ls 18,I ls 19,I ls 20],gF,D.val (.slice none 0 0)]) fun lE=>
 oif lE (
 aU (
 aU (
 some (.inl [I ls 0,I ls 1,I ls 2,I ls 3,I ls 4,I ls 8,I ls 9,I ls 10,I ls 11,I ls 12,I ls 13,I ls 14,I ls 15,I ls 16])
)
)
) (
 R (binP false .add (I ls 7) (J 1)) fun nI=>
 some (.inl [I ls 0,I ls 1,I ls 2,I ls 3,I ls 4,I ls 5,I ls 6,nI,I ls 8,I ls 9,I ls 10,I ls 11,I ls 12,I ls 13,I ls 14,I ls 15,I ls 16,I ls 17,I ls 18,I ls 19,I ls 20])
)
) (
 aU (
 some (.inl [])
)
)
def zj(n:Nat)(ls:List D):Option (List D⊕(List D⊕D)):=
 R (binP false .lss (I ls 4) (I ls 3)) fun g9=>
 oif g9 (
 R (
 R (a2 4 (I ls 2) (I ls 4)) fun wO=>
 R (aW true 4 0 wO) fun dU=>
 aw (aL 4 dU)<|
 R (ji 1 (I ls 0) (some (I ls 1)) none) fun eh=>
 R (lenP eh) fun iT=>
 R (
 bk (zi n) n [I ls 0,I ls 1,I ls 2,I ls 3,I ls 4,eh,iT,J 0,I ls 5,I ls 6,I ls 7,I ls 8,I ls 9,I ls 10,I ls 11,I ls 12,I ls 13,aa dU 0,aa dU 1,aa dU 2,aa dU 3]
)<|a7 fun ls=>
 aU (
 aU (
 aU (
 some (au false)
)
)
)
)<|a7 fun ls=>
 R (binP false .add (I ls 4) (J 1)) fun jO=>
 some (.inl [I ls 0,I ls 1,I ls 2,I ls 3,jO,I ls 5,I ls 6,I ls 7,I ls 8,I ls 9,I ls 10,I ls 11,I ls 12,I ls 13])
) (
 aU (
 some (.inl [])
)
)
def tN(n:Nat)(ab:D)(ah:D)(aT:D):Option D:=
 aw (aL 9 ab)<|
 R (binP false .lss aT (J 0)) fun bZ=>
 R (gD bZ false (
 R (lenP ah) fun bw=>
 R (binP false .geq aT bw) fun bE=>
 some bE
)) fun bE=>
 R (pickP bZ (au true) bE) fun cb=>
 R (gD cb false (
 R (a2 1 ah (J 0)) fun BM=>
 R (aW false 1 0 BM) fun cD=>
 R (nL n [D.agg [aa ab 0,aa ab 1,aa ab 2,aa ab 3,aa ab 4,aa ab 5,aa ab 6,aa ab 7,aa ab 8],cD]) fun cM=>
 R (unP .not cM) fun cp=>
 some cp
)) fun cp=>
 R (pickP cb (au true) cp) fun cE=>
 oif cE (
 some (au false)
) (
 R (
 bk (zh n) n [ah,aT,J 1,aa ab 0,aa ab 1,aa ab 2,aa ab 3,aa ab 4,aa ab 5,aa ab 6,aa ab 7,aa ab 8]
)<|a7 fun ls=>
 R (lenP (I ls 0)) fun eD=>
 R (binP false .sub eD (J 1)) fun c8=>
 R (a2 1 (I ls 0) c8) fun C4=>
 R (aW false 1 0 C4) fun e5=>
 R (a2 1 (I ls 0) (I ls 1)) fun wP=>
 R (aW false 1 0 wP) fun e1=>
 R (ow n [D.agg [I ls 2,I ls 3,I ls 4,I ls 5,I ls 6,I ls 7,I ls 8,I ls 9,I ls 10],e5,e1]) fun ho=>
 R (unP .not ho) fun eL=>
 oif eL (
 some (au false)
) (
 R (lenP (I ls 8)) fun iy=>
 R (
 bk (zj n) n [I ls 0,I ls 1,I ls 8,iy,J 0,I ls 2,I ls 3,I ls 4,I ls 5,I ls 6,I ls 7,I ls 8,I ls 9,I ls 10]
)<|a7 fun ls=>
 some (au true)
)
)
def l8(n:Nat):List D→Option D
 |[ab,ah,aT]=>tN n ab ah aT
 |_=>none
def afT(n:Nat)(ab:D)(ah:D):Option D:=
 aw (aL 6 ab)<|
 R (binP false .lss (aa ab 0) (J 6)) fun b1=>
 R (gD b1 false (
 R (binP false .gtr (aa ab 0) (J 13)) fun v11=>
 some v11
)) fun v11=>
 R (pickP b1 (au true) v11) fun bY=>
 some bY
def Mr(n:Nat):List D→Option D
 |[ab,ah]=>afT n ab ah
 |_=>none
def afU(wQ:List D→Option D)(n:Nat)(ls:List D):Option (List D⊕(List D⊕D)):=
 R (binP false .lss (I ls 3) (I ls 2)) fun bE=>
 oif bE (
 R (a2 6 (I ls 1) (I ls 3)) fun ps=>
 R (aW true 6 0 ps) fun v20=>
 aw (aL 6 v20)<|
 R (binP false .add (I ls 0) (J 1)) fun b6=>
 R (wQ [D.agg [aa v20 0,aa v20 1,aa v20 2,aa v20 3,aa v20 4,aa v20 5],b6,(D.val (.func (.func BJ) #[] #[]))]) fun cM=>
 R (unP .not cM) fun cp=>
 oif cp (
 aU (
 aU (
 some (au false)
)
)
) (
 R (binP false .add (I ls 3) (J 1)) fun cE=>
 some (.inl [I ls 0,I ls 1,I ls 2,cE])
)
) (
 aU (
 some (.inl [])
)
)
def TJ(wQ:List D→Option D)(n:Nat)(ab:D)(ah:D):Option D:=
 aw (aL 6 ab)<|
 R (Mr n [D.agg [aa ab 0,aa ab 1,aa ab 2,aa ab 3,aa ab 4,aa ab 5],ah]) fun bY=>
 R (unP .not bY) fun bZ=>
 oif bZ (
 some (au false)
) (
 R (lenP (aa ab 5)) fun bF=>
 R (
 bk (afU wQ n) n [ah,aa ab 5,bF,J 0]
)<|a7 fun ls=>
 some (au true)
)
def wR:Nat→List D→Option D
 |0,_=>none
 |n+1,aF=>match aF with
  |[ab,ah,aT]=>aw (isFc BJ aT) (TJ (wR n) n ab ah)
  |_=>none
def afV(n:Nat)(ab:D):Option D:=
 aw (aL 6 ab)<|
 R (wR n [D.agg [aa ab 0,aa ab 1,aa ab 2,aa ab 3,aa ab 4,aa ab 5],J 1,(D.val (.func (.func BJ) #[] #[]))]) fun v4=>
 some v4
def Ms(n:Nat):List D→Option D
 |[ab]=>afV n ab
 |_=>none
def TK(ka:List D→Option D)(kb:List D→Option D)(kc:List D→Option D)(kd:List D→Option D)(n:Nat)(ab:D)(x1:List D):Option D:=
 aw (aL 6 ab)<|
 R (aW true 9 0 x1) fun v4=>
 R (kd [v4,D.agg [aa ab 0,aa ab 1,aa ab 2,aa ab 3,aa ab 4,aa ab 5]]) fun v6=>
 R (unP .not v6) fun b1=>
 some b1
def afW(ka:List D→Option D)(kb:List D→Option D)(kc:List D→Option D)(kd:List D→Option D)(n:Nat)(ls:List D):Option (List D⊕(List D⊕D)):=
 R (binP false .lss (I ls 3) (I ls 2)) fun bM=>
 oif bM (
 R (a2 6 (I ls 0) (I ls 3)) fun eV=>
 R (aW true 6 0 eV) fun bh=>
 R (ka [bh,I ls 1]) fun bF=>
 oif bF (
 aU (
 aU (
 some (I ls 3)
)
)
) (
 R (binP false .add (I ls 3) (J 1)) fun bE=>
 some (.inl [I ls 0,I ls 1,I ls 2,bE])
)
) (
 aU (
 some (.inl [])
)
)
def TL(ka:List D→Option D)(kb:List D→Option D)(kc:List D→Option D)(kd:List D→Option D)(n:Nat)(ab:D)(b7:D):Option D:=
 R (lenP ab) fun b1=>
 R (
 bk (afW ka kb kc kd n) n [ab,b7,b1,J 0]
)<|a7 fun ls=>
 some (J (-1))
def TM(ka:List D→Option D)(kb:List D→Option D)(kc:List D→Option D)(kd:List D→Option D)(n:Nat)(ab:D)(b7:D):Option D:=
 R (kb [ab,(D.fn (.func vw) [] [b7])]) fun b1=>
 R (binP false .geq b1 (J 0)) fun cl=>
 some cl
def TN(ka:List D→Option D)(kb:List D→Option D)(kc:List D→Option D)(kd:List D→Option D)(n:Nat)(ab:D)(ah:D):Option D:=
 aw (aL 9 ab)<|
 aw (aL 6 ah)<|
 R (binP false .eql (aa ah 0) (J 1)) fun bM=>
 oif bM (
 R (qK n [aa ab 0,D.agg [aa ah 1,aa ah 2,aa ah 3,aa ah 4],au false]) fun bF=>
 R (extP 0 bF) fun bw=>
 R (extP 1 bF) fun bE=>
 aw (aL 3 bw)<|
 R (binP false .eql bE (J 0)) fun v20=>
 R (gD v20 true (
 some (aa bw 0)
)) fun b6=>
 R (pickP v20 b6 (au false)) fun cD=>
 some cD
) (
 R (kc [aa ah 5,(D.fn (.func vw) [] [D.ref [aa ab 0,aa ab 1,aa ab 2,aa ab 3,aa ab 4,aa ab 5,aa ab 6,aa ab 7,aa ab 8] 0])]) fun cj=>
 aw cj.flat<|
 R (unP .not cj) fun cC=>
 some cC
)
mutual
def qP:Nat→List D→Option D
 |0,_=>none
 |n+1,aF=>match aF with
  |[ab,ah]=>(match ah with| .ref x1 0=>TK (qP n) (qQ n) (qR n) (nN n) n ab x1|_=>none)
  |_=>none
def qQ:Nat→List D→Option D
 |0,_=>none
 |n+1,aF=>match aF with
  |[ab,ah]=>(match fnOf vw ah with|some [b7]=>TL (qP n) (qQ n) (qR n) (nN n) n ab b7|_=>none)
  |_=>none
def qR:Nat→List D→Option D
 |0,_=>none
 |n+1,aF=>match aF with
  |[ab,ah]=>(match fnOf vw ah with|some [b7]=>TM (qP n) (qQ n) (qR n) (nN n) n ab b7|_=>none)
  |_=>none
def nN:Nat→List D→Option D
 |0,_=>none
 |n+1,aF=>match aF with
  |[ab,ah]=>TN (qP n) (qQ n) (qR n) (nN n) n ab ah
  |_=>none
end
def TO(pJ:List D→Option D)(n:Nat)(ab:D)(ah:D)(aT:D):Option D:=
 aw (aL 9 ab)<|
 aw (aL 6 ah)<|
 R (binP false .eql (aa ah 0) (J 1)) fun v10=>
 oif v10 (
 R (sd n [D.agg [aa ab 0,aa ab 1,aa ab 2,aa ab 3,aa ab 4,aa ab 5,aa ab 6,aa ab 7,aa ab 8],D.agg [aa ah 1,aa ah 2,aa ah 3,aa ah 4],aT,D.val (.slice none 0 0)]) fun bh=>
 some bh
) (
 R (binP false .eql (aa ah 0) (J 2)) fun bw=>
 oif bw (
 R (a2 6 (aa ah 5) (J 0)) fun r9=>
 R (aW true 6 0 r9) fun bQ=>
 R (pJ [D.agg [aa ab 0,aa ab 1,aa ab 2,aa ab 3,aa ab 4,aa ab 5,aa ab 6,aa ab 7,aa ab 8],bQ,aT]) fun cD=>
 R (unP .not cD) fun cM=>
 some cM
) (
 R (binP false .eql (aa ah 0) (J 3)) fun cE=>
 oif cE (
 R (a2 6 (aa ah 5) (J 0)) fun sa=>
 R (aW true 6 0 sa) fun dt=>
 R (pJ [D.agg [aa ab 0,aa ab 1,aa ab 2,aa ab 3,aa ab 4,aa ab 5,aa ab 6,aa ab 7,aa ab 8],dt,aT]) fun ds=>
 R (gD ds true (
 R (a2 6 (aa ah 5) (J 1)) fun nD=>
 R (aW true 6 0 nD) fun du=>
 R (pJ [D.agg [aa ab 0,aa ab 1,aa ab 2,aa ab 3,aa ab 4,aa ab 5,aa ab 6,aa ab 7,aa ab 8],du,aT]) fun c2=>
 some c2
)) fun c2=>
 R (pickP ds c2 (au false)) fun ed=>
 some ed
) (
 R (binP false .eql (aa ah 0) (J 4)) fun c3=>
 oif c3 (
 R (a2 6 (aa ah 5) (J 0)) fun sf=>
 R (aW true 6 0 sf) fun c8=>
 R (pJ [D.agg [aa ab 0,aa ab 1,aa ab 2,aa ab 3,aa ab 4,aa ab 5,aa ab 6,aa ab 7,aa ab 8],c8,aT]) fun e5=>
 R (gD e5 false (
 R (a2 6 (aa ah 5) (J 1)) fun Mt=>
 R (aW true 6 0 Mt) fun eL=>
 R (pJ [D.agg [aa ab 0,aa ab 1,aa ab 2,aa ab 3,aa ab 4,aa ab 5,aa ab 6,aa ab 7,aa ab 8],eL,aT]) fun eB=>
 some eB
)) fun eB=>
 R (pickP e5 (au true) eB) fun ha=>
 some ha
) (
 R (a2 6 (aa ah 5) (J 0)) fun wO=>
 R (aW true 6 0 wO) fun dU=>
 R (pJ [D.agg [aa ab 0,aa ab 1,aa ab 2,aa ab 3,aa ab 4,aa ab 5,aa ab 6,aa ab 7,aa ab 8],dU,aT]) fun fJ=>
 R (unP .not fJ) fun eh=>
 R (gD eh false (
 R (a2 6 (aa ah 5) (J 1)) fun afX=>
 R (aW true 6 0 afX) fun mZ=>
 R (pJ [D.agg [aa ab 0,aa ab 1,aa ab 2,aa ab 3,aa ab 4,aa ab 5,aa ab 6,aa ab 7,aa ab 8],mZ,aT]) fun gv=>
 some gv
)) fun gv=>
 R (pickP eh (au true) gv) fun lE=>
 some lE
)
)
)
)
def wS:Nat→List D→Option D
 |0,_=>none
 |n+1,aF=>match aF with
  |[ab,ah,aT]=>TO (wS n) n ab ah aT
  |_=>none
def afY(n:Nat)(ab:D)(ah:D)(aT:D):Option D:=
 aw (aL 9 ab)<|
 aw (aL 6 ah)<|
 R (nC n [D.agg [aa ah 0,aa ah 1,aa ah 2,aa ah 3,aa ah 4,aa ah 5]]) fun v11=>
 R (binP false .neq v11 (J 0)) fun bY=>
 R (gD bY false (
 R (Ms n [D.agg [aa ah 0,aa ah 1,aa ah 2,aa ah 3,aa ah 4,aa ah 5]]) fun bh=>
 R (unP .not bh) fun bF=>
 some bF
)) fun bF=>
 R (pickP bY (au true) bF) fun bw=>
 R (gD bw false (
 R (nL n [D.agg [aa ab 0,aa ab 1,aa ab 2,aa ab 3,aa ab 4,aa ab 5,aa ab 6,aa ab 7,aa ab 8],aT]) fun bK=>
 R (unP .not bK) fun bQ=>
 some bQ
)) fun bQ=>
 R (pickP bw (au true) bQ) fun b6=>
 oif b6 (
 some (D.aO [au false,au false])
) (
 R (r7 n [D.agg [aa ah 0,aa ah 1,aa ah 2,aa ah 3,aa ah 4,aa ah 5],aa ab 8]) fun cj=>
 R (extP 0 cj) fun cC=>
 R (extP 1 cj) fun v30=>
 aw (aL 6 cC)<|
 R (binP false .neq v30 (J 0)) fun dt=>
 R (gD dt false (
 R (nN n [D.agg [aa ab 0,aa ab 1,aa ab 2,aa ab 3,aa ab 4,aa ab 5,aa ab 6,aa ab 7,aa ab 8],D.agg [aa cC 0,aa cC 1,aa cC 2,aa cC 3,aa cC 4,aa cC 5]]) fun dh=>
 R (unP .not dh) fun dy=>
 some dy
)) fun dy=>
 R (pickP dt (au true) dy) fun dm=>
 oif dm (
 some (D.aO [au false,au false])
) (
 R (wS n [D.agg [aa ab 0,aa ab 1,aa ab 2,aa ab 3,aa ab 4,aa ab 5,aa ab 6,aa ab 7,aa ab 8],D.agg [aa cC 0,aa cC 1,aa cC 2,aa cC 3,aa cC 4,aa cC 5],aT]) fun c2=>
 some (D.aO [c2,au true])
)
)
def zk(n:Nat):List D→Option D
 |[ab,ah,aT]=>afY n ab ah aT
 |_=>none
def afZ(n:Nat)(ab:D)(ah:D)(aT:D):Option D:=
 aw (aL 9 ab)<|
 aw (aL 6 ah)<|
 R (binP false .eql (aa ah 1) (J 5)) fun bq=>
 R (gD bq true (
 R (lenP (aa ah 4)) fun cb=>
 R (binP false .eql cb (J 1)) fun v20=>
 some v20
)) fun v20=>
 R (pickP bq v20 (au false)) fun bK=>
 oif bK (
 R (a2 4 (aa ah 4) (J 0)) fun Mu=>
 R (aW true 4 0 Mu) fun cj=>
 aw (aL 4 cj)<|
 R (zk n [D.agg [aa ab 0,aa ab 1,aa ab 2,aa ab 3,aa ab 4,aa ab 5,aa ab 6,aa ab 7,aa ab 8],D.agg [J 1,aa cj 0,aa cj 1,aa cj 2,aa cj 3,D.val (.slice none 0 0)],aT]) fun dJ=>
 R (extP 0 dJ) fun dt=>
 R (extP 1 dJ) fun dB=>
 R (gD dB true (
 R (unP .not dt) fun dy=>
 some dy
)) fun dy=>
 R (pickP dB dy (au false)) fun dm=>
 some dm
) (
 R (zk n [D.agg [aa ab 0,aa ab 1,aa ab 2,aa ab 3,aa ab 4,aa ab 5,aa ab 6,aa ab 7,aa ab 8],D.agg [aa ah 0,aa ah 1,aa ah 2,aa ah 3,aa ah 4,aa ah 5],aT]) fun ed=>
 R (extP 0 ed) fun dN=>
 R (extP 1 ed) fun c3=>
 R (gD c3 true (
 some dN
)) fun gu=>
 R (pickP c3 gu (au false)) fun eD=>
 some eD
)
def Mv(n:Nat):List D→Option D
 |[ab,ah,aT]=>afZ n ab ah aT
 |_=>none
def af0(n:Nat)(ls:List D):Option (List D⊕(List D⊕(List D))):=
 R (binP false .lss (I ls 2) (I ls 1)) fun bq=>
 oif bq (
 R (a2 1 (I ls 0) (I ls 2)) fun Cl=>
 R (aW false 1 0 Cl) fun bF=>
 aw (aL 6 (D.agg [I ls 3,I ls 4,I ls 5,I ls 6,I ls 7,I ls 8]))<|
 aw (bC bF)<|
 aw (aL 7 (D.agg [I ls 3,I ls 4,I ls 5,I ls 6,I ls 7,I ls 8,bF]))<|
 aw (c7 (((esD (I ls 21))).length+([[I ls 3,I ls 4,I ls 5,I ls 6,I ls 7,I ls 8,bF]]).length) 112)<|
 R (binP false .add (I ls 2) (J 1)) fun b6=>
 some (.inl [I ls 0,I ls 1,b6,I ls 3,I ls 4,I ls 5,I ls 6,I ls 7,I ls 8,I ls 9,I ls 10,I ls 11,I ls 12,I ls 13,I ls 14,I ls 15,I ls 16,I ls 17,I ls 18,I ls 19,I ls 20,D.aD 7 ((esD (I ls 21))++[[I ls 3,I ls 4,I ls 5,I ls 6,I ls 7,I ls 8,bF]])])
) (
 aU (
 some (.inl [I ls 9,I ls 10,I ls 11,I ls 12,I ls 13,I ls 14,I ls 15,I ls 16,I ls 17,I ls 18,I ls 19,I ls 20,D.aD 7 (esD (I ls 21))])
)
)
def sg(n:Nat)(ls:List D):Option (List D):=
 aw (aL 6 (I ls 0))<|
 R (ji 1 (I ls 10) none (some (I ls 1))) fun v11=>
 R (lenP v11) fun bY=>
 R (
 bk (af0 n) n [v11,bY,J 0,aa (I ls 0) 0,aa (I ls 0) 1,aa (I ls 0) 2,aa (I ls 0) 3,aa (I ls 0) 4,aa (I ls 0) 5,I ls 2,I ls 3,I ls 4,I ls 5,I ls 6,I ls 7,I ls 8,I ls 9,I ls 10,I ls 11,I ls 12,I ls 13,D.aD 7 (esD (I ls 14))]
)<|a7 fun ls=>
 some [D.aO [],I ls 0,I ls 1,I ls 2,I ls 3,I ls 4,I ls 5,I ls 6,I ls 7,I ls 8,I ls 9,I ls 10,I ls 11,D.aD 7 (esD (I ls 12))]
def af1(n:Nat)(ab:D)(ah:D):Option D:=
 aw (aL 6 ab)<|
 aw (aL 12 ah)<|
 R (binP false .geq (aa ah 10) (J 0)) fun bY=>
 R (gD bY true (
 R (lenP (aa ah 8)) fun bE=>
 R (binP false .lss (aa ah 10) bE) fun cb=>
 some cb
)) fun cb=>
 R (pickP bY cb (au false)) fun v20=>
 R (binP false .eql (aa ab 0) (J 6)) fun cM=>
 oif cM (
 R (binP false .neq (aa ah 10) (J 1)) fun cj=>
 R (gD cj false (
 R (unP .not v20) fun dJ=>
 some dJ
)) fun dJ=>
 R (pickP cj (au true) dJ) fun dt=>
 oif dt (
 some (D.aO [D.val (.slice none 0 0),au false])
) (
 R (a2 6 (aa ab 5) (J 0)) fun wT=>
 R (aW true 6 0 wT) fun dh=>
 R (a2 1 (aa ah 8) (J 1)) fun nD=>
 R (aW false 1 0 nD) fun du=>
 aw (aL 6 dh)<|
 aw (bC du)<|
 aw (aL 7 (D.agg [aa dh 0,aa dh 1,aa dh 2,aa dh 3,aa dh 4,aa dh 5,du]))<|
 some (D.aO [D.aD 7 [[aa dh 0,aa dh 1,aa dh 2,aa dh 3,aa dh 4,aa dh 5,du]],au true])
)
) (
 R (binP false .eql (aa ab 0) (J 7)) fun dN=>
 oif dN (
 R (unP .not v20) fun gk=>
 oif gk (
 some (D.aO [D.val (.slice none 0 0),au false])
) (
 R (a2 6 (aa ab 5) (J 0)) fun sf=>
 R (aW true 6 0 sf) fun c8=>
 R (a2 1 (aa ah 8) (aa ah 10)) fun wP=>
 R (aW false 1 0 wP) fun e1=>
 aw (aL 6 c8)<|
 aw (bC e1)<|
 aw (aL 7 (D.agg [aa c8 0,aa c8 1,aa c8 2,aa c8 3,aa c8 4,aa c8 5,e1]))<|
 some (D.aO [D.aD 7 [[aa c8 0,aa c8 1,aa c8 2,aa c8 3,aa c8 4,aa c8 5,e1]],au true])
)
) (
 R (binP false .eql (aa ab 0) (J 8)) fun eB=>
 oif eB (
 R (a2 6 (aa ab 5) (J 0)) fun af2=>
 R (aW true 6 0 af2) fun iw=>
 R (lenP (aa ah 8)) fun fJ=>
 R (sg n [iw,fJ,aa ah 0,aa ah 1,aa ah 2,aa ah 3,aa ah 4,aa ah 5,aa ah 6,aa ah 7,aa ah 8,aa ah 9,aa ah 10,aa ah 11,D.aD 7 []]) fun ad=>
 R (binP false .eql (I ad 11) (J 0)) fun gx=>
 some (D.aO [D.aD 7 (esD (I ad 13)),gx])
) (
 R (binP false .eql (aa ab 0) (J 9)) fun mZ=>
 oif mZ (
 R (unP .not v20) fun gv=>
 oif gv (
 some (D.aO [D.val (.slice none 0 0),au false])
) (
 R (a2 6 (aa ab 5) (J 0)) fun af3=>
 R (aW true 6 0 af3) fun k3=>
 R (sg n [k3,aa ah 10,aa ah 0,aa ah 1,aa ah 2,aa ah 3,aa ah 4,aa ah 5,aa ah 6,aa ah 7,aa ah 8,aa ah 9,aa ah 10,aa ah 11,D.aD 7 []]) fun ae=>
 R (a2 6 (aa ab 5) (J 1)) fun Mw=>
 R (aW true 6 0 Mw) fun hT=>
 R (a2 1 (I ae 9) (I ae 11)) fun af4=>
 R (aW false 1 0 af4) fun lF=>
 aw (aL 6 hT)<|
 aw (bC lF)<|
 aw (aL 7 (D.agg [aa hT 0,aa hT 1,aa hT 2,aa hT 3,aa hT 4,aa hT 5,lF]))<|
 aw (c7 (((esD (I ae 13))).length+([[aa hT 0,aa hT 1,aa hT 2,aa hT 3,aa hT 4,aa hT 5,lF]]).length) 112)<|
 some (D.aO [D.aD 7 ((esD (I ae 13))++[[aa hT 0,aa hT 1,aa hT 2,aa hT 3,aa hT 4,aa hT 5,lF]]),au true])
)
) (
 R (a2 6 (aa ab 5) (J 0)) fun af5=>
 R (aW true 6 0 af5) fun pE=>
 aw (aL 6 pE)<|
 R (a2 6 (aa pE 5) (J 1)) fun LY=>
 R (aW true 6 0 LY) fun vA=>
 R (zd n [vA,au true]) fun ix=>
 aw (aL 6 ix)<|
 R (binP false .eql (aa ah 10) (J (-1))) fun wD=>
 oif wD (
 R (lenP (aa ah 8)) fun wE=>
 R (sg n [D.agg [aa ix 0,aa ix 1,aa ix 2,aa ix 3,aa ix 4,aa ix 5],wE,aa ah 0,aa ah 1,aa ah 2,aa ah 3,aa ah 4,aa ah 5,aa ah 6,aa ah 7,aa ah 8,aa ah 9,aa ah 10,aa ah 11,D.aD 7 []]) fun ay=>
 some (D.aO [D.aD 7 (esD (I ay 13)),au true])
) (
 R (unP .not v20) fun yM=>
 oif yM (
 some (D.aO [D.val (.slice none 0 0),au false])
) (
 R (binP false .add (aa ah 10) (J 1)) fun vZ=>
 R (sg n [D.agg [aa ix 0,aa ix 1,aa ix 2,aa ix 3,aa ix 4,aa ix 5],vZ,aa ah 0,aa ah 1,aa ah 2,aa ah 3,aa ah 4,aa ah 5,aa ah 6,aa ah 7,aa ah 8,aa ah 9,aa ah 10,aa ah 11,D.aD 7 []]) fun aZ=>
 R (a2 6 (aa pE 5) (J 0)) fun Cz=>
 R (aW true 6 0 Cz) fun af6=>
 R (zd n [af6,au true]) fun iA=>
 R (a2 1 (I aZ 9) (I aZ 11)) fun af7=>
 R (aW false 1 0 af7) fun Hq=>
 aw (aL 6 iA)<|
 aw (bC Hq)<|
 aw (aL 7 (D.agg [aa iA 0,aa iA 1,aa iA 2,aa iA 3,aa iA 4,aa iA 5,Hq]))<|
 aw (c7 (((esD (I aZ 13))).length+([[aa iA 0,aa iA 1,aa iA 2,aa iA 3,aa iA 4,aa iA 5,Hq]]).length) 112)<|
 some (D.aO [D.aD 7 ((esD (I aZ 13))++[[aa iA 0,aa iA 1,aa iA 2,aa iA 3,aa iA 4,aa iA 5,Hq]]),au true])
)
)
)
)
)
)
def Mx(n:Nat):List D→Option D
 |[ab,ah]=>af1 n ab ah
 |_=>none
def af8(n:Nat)(ab:D)(ah:D)(aT:D):Option D:=
 aw (aL 9 ab)<|
 aw (aL 7 ah)<|
 aw (aL 12 aT)<|
 R (lenP (aa aT 8)) fun v11=>
 R (binP false .eql v11 (J 0)) fun bY=>
 R (gD bY true (
 R (binP false .eql (aa aT 9) (J 0)) fun bF=>
 some bF
)) fun bF=>
 R (pickP bY bF (au false)) fun bw=>
 R (binP false .eql (aa aT 0) (J 1)) fun bK=>
 oif bK (
 R (gD bw true (
 R (binP false .eql (aa aT 10) (J 0)) fun cp=>
 some cp
)) fun cp=>
 R (pickP bw cp (au false)) fun cE=>
 R (gD cE true (
 R (Mv n [D.agg [aa ab 0,aa ab 1,aa ab 2,aa ab 3,aa ab 4,aa ab 5,aa ab 6,aa ab 7,aa ab 8],D.agg [aa ah 0,aa ah 1,aa ah 2,aa ah 3,aa ah 4,aa ah 5],aa ah 6]) fun ds=>
 some ds
)) fun ds=>
 R (pickP cE ds (au false)) fun fK=>
 some (D.aO [D.val (.slice none 0 0),fK])
) (
 R (binP false .eql (aa aT 0) (J 2)) fun dy=>
 oif dy (
 R (gD bw true (
 R (binP false .eql (aa aT 10) (J 0)) fun c2=>
 some c2
)) fun c2=>
 R (pickP bw c2 (au false)) fun ed=>
 some (D.aO [D.val (.slice none 0 0),ed])
) (
 R (binP false .eql (aa aT 0) (J 3)) fun c3=>
 oif c3 (
 R (a2 6 (aa ah 5) (J 0)) fun sf=>
 R (aW true 6 0 sf) fun c8=>
 aw (aL 6 c8)<|
 aw (bC (aa ah 6))<|
 R (a2 6 (aa ah 5) (J 1)) fun Mt=>
 R (aW true 6 0 Mt) fun eL=>
 aw (aL 6 eL)<|
 aw (bC (aa ah 6))<|
 aw (aL 7 (D.agg [aa c8 0,aa c8 1,aa c8 2,aa c8 3,aa c8 4,aa c8 5,aa ah 6]))<|
 aw (aL 7 (D.agg [aa eL 0,aa eL 1,aa eL 2,aa eL 3,aa eL 4,aa eL 5,aa ah 6]))<|
 R (gD bw true (
 R (binP false .eql (aa aT 10) (J 0)) fun fA=>
 some fA
)) fun fA=>
 R (pickP bw fA (au false)) fun fJ=>
 some (D.aO [D.aD 7 [[aa c8 0,aa c8 1,aa c8 2,aa c8 3,aa c8 4,aa c8 5,aa ah 6],[aa eL 0,aa eL 1,aa eL 2,aa eL 3,aa eL 4,aa eL 5,aa ah 6]],fJ])
) (
 R (binP false .eql (aa aT 0) (J 4)) fun iT=>
 oif iT (
 R (binP false .neq (aa aT 10) (J 0)) fun gx=>
 R (gD gx true (
 R (binP false .neq (aa aT 10) (J 1)) fun gv=>
 some gv
)) fun gv=>
 R (pickP gx gv (au false)) fun lE=>
 oif lE (
 some (D.aO [D.val (.slice none 0 0),au false])
) (
 R (a2 6 (aa ah 5) (aa aT 10)) fun af9=>
 R (aW true 6 0 af9) fun hp=>
 aw (aL 6 hp)<|
 aw (bC (aa ah 6))<|
 aw (aL 7 (D.agg [aa hp 0,aa hp 1,aa hp 2,aa hp 3,aa hp 4,aa hp 5,aa ah 6]))<|
 some (D.aO [D.aD 7 [[aa hp 0,aa hp 1,aa hp 2,aa hp 3,aa hp 4,aa hp 5,aa ah 6]],bw])
)
) (
 R (Mx n [D.agg [aa ah 0,aa ah 1,aa ah 2,aa ah 3,aa ah 4,aa ah 5],D.agg [aa aT 0,aa aT 1,aa aT 2,aa aT 3,aa aT 4,aa aT 5,aa aT 6,aa aT 7,aa aT 8,aa aT 9,aa aT 10,aa aT 11]]) fun iz=>
 R (extP 0 iz) fun iV=>
 R (extP 1 iz) fun lF=>
 some (D.aO [iV,lF])
)
)
)
)
def My(n:Nat):List D→Option D
 |[ab,ah,aT]=>af8 n ab ah aT
 |_=>none
def TP(n:Nat)(ab:D)(x1:List D):Option D:=
 aw (aL 7 ab)<|
 R (aW false 1 6 x1) fun b1=>
 R (ze n [aa ab 0,b1]) fun cl=>
 R (gD cl true (
 R (aW true 6 0 x1) fun bZ=>
 R (pI n [D.agg [aa ab 1,aa ab 2,aa ab 3,aa ab 4,aa ab 5,aa ab 6],bZ]) fun bq=>
 some bq
)) fun bq=>
 R (pickP cl bq (au false)) fun bh=>
 some bh
def Hr(n:Nat):List D→Option D
 |[ab,ah]=>(match ah with| .ref x1 0=>TP n ab x1|_=>none)
 |_=>none
def aga(n:Nat)(ls:List D):Option (List D⊕(List D⊕D)):=
 R (binP false .lss (I ls 3) (I ls 2)) fun bM=>
 oif bM (
 R (a2 7 (I ls 0) (I ls 3)) fun eV=>
 R (aW true 7 0 eV) fun bh=>
 R (Hr n [bh,I ls 1]) fun bF=>
 oif bF (
 aU (
 aU (
 some (I ls 3)
)
)
) (
 R (binP false .add (I ls 3) (J 1)) fun bE=>
 some (.inl [I ls 0,I ls 1,I ls 2,bE])
)
) (
 aU (
 some (.inl [])
)
)
def TQ(n:Nat)(ab:D)(b7:D):Option D:=
 R (lenP ab) fun b1=>
 R (
 bk (aga n) n [ab,b7,b1,J 0]
)<|a7 fun ls=>
 some (J (-1))
def Hs(n:Nat):List D→Option D
 |[ab,ah]=>(match fnOf vv ah with|some [b7]=>TQ n ab b7|_=>none)
 |_=>none
def TR(n:Nat)(ab:D)(b7:D):Option D:=
 R (Hs n [ab,(D.fn (.func vv) [] [b7])]) fun b1=>
 R (binP false .geq b1 (J 0)) fun cl=>
 some cl
def Ht(n:Nat):List D→Option D
 |[ab,ah]=>(match fnOf vv ah with|some [b7]=>TR n ab b7|_=>none)
 |_=>none
def agb(wU:List D→Option (List D))(n:Nat)(ls:List D):Option (List D⊕(List D⊕(List D))):=
 R (binP false .lss (I ls 2) (I ls 1)) fun wD=>
 oif wD (
 R (a2 7 (I ls 0) (I ls 2)) fun Mk=>
 R (aW true 7 0 Mk) fun kD=>
 aw (aL 7 kD)<|
 R (a2 12 (I ls 23) (I ls 2)) fun agc=>
 R (aW true 12 0 agc) fun qH=>
 R (wU [D.agg [I ls 3,I ls 4,I ls 5,I ls 6,I ls 7,I ls 8,I ls 9,I ls 10,I ls 11],D.agg [aa kD 0,aa kD 1,aa kD 2,aa kD 3,aa kD 4,aa kD 5,aa kD 6],qH,D.aD 7 (esD (I ls 24))]) fun ad=>
 R (binP false .neq (I ad 0) (J 0)) fun vZ=>
 oif vZ (
 aU (
 aU (
 some [I ad 0,D.aD 7 (esD (I ad 1))]
)
)
) (
 R (binP false .add (I ls 2) (J 1)) fun qC=>
 some (.inl [I ls 0,I ls 1,qC,I ls 3,I ls 4,I ls 5,I ls 6,I ls 7,I ls 8,I ls 9,I ls 10,I ls 11,I ls 12,I ls 13,I ls 14,I ls 15,I ls 16,I ls 17,I ls 18,I ls 19,I ls 20,I ls 21,I ls 22,I ls 23,D.aD 7 (esD (I ad 1))])
)
) (
 aU (
 some (.inl [D.aD 7 (esD (I ls 24))])
)
)
def TS(wU:List D→Option (List D))(n:Nat)(ls:List D):Option (List D):=
 aw (aL 9 (I ls 0))<|
 aw (aL 7 (I ls 1))<|
 aw (aL 12 (I ls 2))<|
 R (binP false .lss (aa (I ls 2) 0) (J 1)) fun bF=>
 R (gD bF false (
 R (binP false .gtr (aa (I ls 2) 0) (J 5)) fun v20=>
 some v20
)) fun v20=>
 R (pickP bF (au true) v20) fun bK=>
 R (gD bK false (
 R (Mq n [D.agg [aa (I ls 1) 0,aa (I ls 1) 1,aa (I ls 1) 2,aa (I ls 1) 3,aa (I ls 1) 4,aa (I ls 1) 5]]) fun cE=>
 R (binP false .neq (aa (I ls 2) 0) cE) fun cj=>
 some cj
)) fun cj=>
 R (pickP bK (au true) cj) fun cC=>
 R (gD cC false (
 R (ze n [aa (I ls 2) 1,aa (I ls 1) 6]) fun fK=>
 R (unP .not fK) fun dh=>
 some dh
)) fun dh=>
 R (pickP cC (au true) dh) fun dy=>
 R (gD dy false (
 R (pI n [D.agg [aa (I ls 2) 2,aa (I ls 2) 3,aa (I ls 2) 4,aa (I ls 2) 5,aa (I ls 2) 6,aa (I ls 2) 7],D.agg [aa (I ls 1) 0,aa (I ls 1) 1,aa (I ls 1) 2,aa (I ls 1) 3,aa (I ls 1) 4,aa (I ls 1) 5]]) fun ed=>
 R (unP .not ed) fun dN=>
 some dN
)) fun dN=>
 R (pickP dy (au true) dN) fun c3=>
 oif c3 (
 some [J 23,D.aD 7 (esD (I ls 3))]
) (
 R (binP false .eql (aa (I ls 2) 0) (J 5)) fun gu=>
 R (gD gu true (
 R (l8 n [D.agg [aa (I ls 0) 0,aa (I ls 0) 1,aa (I ls 0) 2,aa (I ls 0) 3,aa (I ls 0) 4,aa (I ls 0) 5,aa (I ls 0) 6,aa (I ls 0) 7,aa (I ls 0) 8],aa (I ls 2) 8,aa (I ls 2) 9]) fun e0=>
 R (unP .not e0) fun e1=>
 some e1
)) fun ho=>
 R (gD ho false (
 R (a2 1 (aa (I ls 2) 8) (J 0)) fun agd=>
 R (aW false 1 0 agd) fun ha=>
 R (ze n [ha,aa (I ls 2) 1]) fun g9=>
 R (unP .not g9) fun iw=>
 some iw
)) fun iw=>
 R (gD gu true (
 R (pickP ho (au true) iw) fun dU=>
 some dU
)) fun dU=>
 R (pickP gu dU (au false)) fun fA=>
 oif fA (
 some [J 22,D.aD 7 (esD (I ls 3))]
) (
 R (My n [D.agg [aa (I ls 0) 0,aa (I ls 0) 1,aa (I ls 0) 2,aa (I ls 0) 3,aa (I ls 0) 4,aa (I ls 0) 5,aa (I ls 0) 6,aa (I ls 0) 7,aa (I ls 0) 8],D.agg [aa (I ls 1) 0,aa (I ls 1) 1,aa (I ls 1) 2,aa (I ls 1) 3,aa (I ls 1) 4,aa (I ls 1) 5,aa (I ls 1) 6],D.agg [aa (I ls 2) 0,aa (I ls 2) 1,aa (I ls 2) 2,aa (I ls 2) 3,aa (I ls 2) 4,aa (I ls 2) 5,aa (I ls 2) 6,aa (I ls 2) 7,aa (I ls 2) 8,aa (I ls 2) 9,aa (I ls 2) 10,aa (I ls 2) 11]]) fun gw=>
 R (extP 0 gw) fun gx=>
 R (extP 1 gw) fun gF=>
 R (unP .not gF) fun gW=>
 R (gD gW false (
 R (lenP gx) fun nI=>
 R (lenP (aa (I ls 2) 11)) fun k3=>
 R (binP false .neq nI k3) fun ju=>
 some ju
)) fun ju=>
 R (pickP gW (au true) ju) fun hb=>
 oif hb (
 some [J 23,D.aD 7 (esD (I ls 3))]
) (
 R (binP false .eql (aa (I ls 2) 0) (J 2)) fun pD=>
 R (gD pD true (
 R (Ht n [D.aD 7 (esD (I ls 3)),(D.fn (.func vv) [] [D.ref [aa (I ls 1) 0,aa (I ls 1) 1,aa (I ls 1) 2,aa (I ls 1) 3,aa (I ls 1) 4,aa (I ls 1) 5,aa (I ls 1) 6] 0])]) fun l5=>
 aw l5.flat<|
 R (unP .not l5) fun iz=>
 some iz
)) fun iz=>
 R (pickP pD iz (au false)) fun iV=>
 R (
 oif iV (
 aw (bC (aa (I ls 1) 6))<|
 aw (aL 6 (D.agg [aa (I ls 1) 0,aa (I ls 1) 1,aa (I ls 1) 2,aa (I ls 1) 3,aa (I ls 1) 4,aa (I ls 1) 5]))<|
 aw (aL 7 (D.agg [aa (I ls 1) 6,aa (I ls 1) 0,aa (I ls 1) 1,aa (I ls 1) 2,aa (I ls 1) 3,aa (I ls 1) 4,aa (I ls 1) 5]))<|
 aw (c7 (((esD (I ls 3))).length+([[aa (I ls 1) 6,aa (I ls 1) 0,aa (I ls 1) 1,aa (I ls 1) 2,aa (I ls 1) 3,aa (I ls 1) 4,aa (I ls 1) 5]]).length) 112)<|
 some (.inl [gx,aa (I ls 0) 0,aa (I ls 0) 1,aa (I ls 0) 2,aa (I ls 0) 3,aa (I ls 0) 4,aa (I ls 0) 5,aa (I ls 0) 6,aa (I ls 0) 7,aa (I ls 0) 8,aa (I ls 2) 0,aa (I ls 2) 1,aa (I ls 2) 2,aa (I ls 2) 3,aa (I ls 2) 4,aa (I ls 2) 5,aa (I ls 2) 6,aa (I ls 2) 7,aa (I ls 2) 8,aa (I ls 2) 9,aa (I ls 2) 10,aa (I ls 2) 11,D.aD 7 ((esD (I ls 3))++[[aa (I ls 1) 6,aa (I ls 1) 0,aa (I ls 1) 1,aa (I ls 1) 2,aa (I ls 1) 3,aa (I ls 1) 4,aa (I ls 1) 5]])])
) (
 some (.inl [gx,aa (I ls 0) 0,aa (I ls 0) 1,aa (I ls 0) 2,aa (I ls 0) 3,aa (I ls 0) 4,aa (I ls 0) 5,aa (I ls 0) 6,aa (I ls 0) 7,aa (I ls 0) 8,aa (I ls 2) 0,aa (I ls 2) 1,aa (I ls 2) 2,aa (I ls 2) 3,aa (I ls 2) 4,aa (I ls 2) 5,aa (I ls 2) 6,aa (I ls 2) 7,aa (I ls 2) 8,aa (I ls 2) 9,aa (I ls 2) 10,aa (I ls 2) 11,D.aD 7 (esD (I ls 3))])
)
)<|a7 fun ls=>
 R (lenP (I ls 0)) fun wq=>
 R (
 bk (agb wU n) n [I ls 0,wq,J 0,I ls 1,I ls 2,I ls 3,I ls 4,I ls 5,I ls 6,I ls 7,I ls 8,I ls 9,I ls 10,I ls 11,I ls 12,I ls 13,I ls 14,I ls 15,I ls 16,I ls 17,I ls 18,I ls 19,I ls 20,I ls 21,D.aD 7 (esD (I ls 22))]
)<|a7 fun ls=>
 some [J 0,D.aD 7 (esD (I ls 0))]
)
)
)
def zl:Nat→List D→Option (List D)
 |0,_=>none
 |n+1,ls=>TS (zl n) n ls
def age(n:Nat)(ab:D)(ah:D)(aT:D)(bR:D):Option D:=
 aw (aL 8 ab)<|
 aw (aL 6 ah)<|
 aw (aL 12 bR)<|
 R (nG n [D.agg [aa ab 0,aa ab 1,aa ab 2,aa ab 3,aa ab 4,aa ab 5,aa ab 6,aa ab 7]]) fun bF=>
 R (extP 0 bF) fun bw=>
 R (extP 1 bF) fun bE=>
 aw (aL 9 bw)<|
 R (unP .not bE) fun v20=>
 oif v20 (
 some (D.aO [D.val (.slice none 0 0),J 1])
) (
 R (nC n [D.agg [aa ah 0,aa ah 1,aa ah 2,aa ah 3,aa ah 4,aa ah 5]]) fun bQ=>
 R (binP false .neq bQ (J 0)) fun cD=>
 oif cD (
 some (D.aO [D.val (.slice none 0 0),bQ])
) (
 R (nL n [D.agg [aa bw 0,aa bw 1,aa bw 2,aa bw 3,aa bw 4,aa bw 5,aa bw 6,aa bw 7,aa bw 8],aT]) fun cj=>
 R (unP .not cj) fun cC=>
 oif cC (
 some (D.aO [D.val (.slice none 0 0),J 21])
) (
 R (zd n [D.agg [aa ah 0,aa ah 1,aa ah 2,aa ah 3,aa ah 4,aa ah 5],au false]) fun dt=>
 aw (aL 6 dt)<|
 aw (bC aT)<|
 R (zl n [D.agg [aa bw 0,aa bw 1,aa bw 2,aa bw 3,aa bw 4,aa bw 5,aa bw 6,aa bw 7,aa bw 8],D.agg [aa dt 0,aa dt 1,aa dt 2,aa dt 3,aa dt 4,aa dt 5,aT],D.agg [aa bR 0,aa bR 1,aa bR 2,aa bR 3,aa bR 4,aa bR 5,aa bR 6,aa bR 7,aa bR 8,aa bR 9,aa bR 10,aa bR 11],D.aD 7 []]) fun ad=>
 R (binP false .neq (I ad 0) (J 0)) fun dm=>
 oif dm (
 some (D.aO [D.val (.slice none 0 0),I ad 0])
) (
 some (D.aO [D.aD 7 (esD (I ad 1)),J 0])
)
)
)
)
def Mz(n:Nat):List D→Option D
 |[ab,ah,aT,bR]=>age n ab ah aT bR
 |_=>none
def agf(n:Nat)(ab:D)(ah:D)(aT:D):Option D:=
 aw (aL 8 ab)<|
 aw (aL 6 ah)<|
 R (nG n [D.agg [aa ab 0,aa ab 1,aa ab 2,aa ab 3,aa ab 4,aa ab 5,aa ab 6,aa ab 7]]) fun v11=>
 R (extP 0 v11) fun bY=>
 R (extP 1 v11) fun bZ=>
 aw (aL 9 bY)<|
 R (unP .not bZ) fun bh=>
 oif bh (
 some (D.aO [au false,au false])
) (
 R (zk n [D.agg [aa bY 0,aa bY 1,aa bY 2,aa bY 3,aa bY 4,aa bY 5,aa bY 6,aa bY 7,aa bY 8],D.agg [aa ah 0,aa ah 1,aa ah 2,aa ah 3,aa ah 4,aa ah 5],aT]) fun cb=>
 R (extP 0 cb) fun v20=>
 R (extP 1 cb) fun bK=>
 some (D.aO [v20,bK])
)
def MA(n:Nat):List D→Option D
 |[ab,ah,aT]=>agf n ab ah aT
 |_=>none
def agh(n:Nat)(ab:D)(ah:D)(aT:D):Option D:=
 aw (aL 8 ab)<|
 R (nG n [D.agg [aa ab 0,aa ab 1,aa ab 2,aa ab 3,aa ab 4,aa ab 5,aa ab 6,aa ab 7]]) fun v11=>
 R (extP 0 v11) fun bY=>
 R (extP 1 v11) fun bZ=>
 aw (aL 9 bY)<|
 R (gD bZ true (
 R (ow n [D.agg [aa bY 0,aa bY 1,aa bY 2,aa bY 3,aa bY 4,aa bY 5,aa bY 6,aa bY 7,aa bY 8],ah,aT]) fun cb=>
 some cb
)) fun cb=>
 R (pickP bZ cb (au false)) fun v20=>
 some v20
def MB(n:Nat):List D→Option D
 |[ab,ah,aT]=>agh n ab ah aT
 |_=>none
def Dm(n:Nat)(ab:D)(ah:D)(aT:D):Option D:=
 aw (aL 8 ab)<|
 R (nG n [D.agg [aa ab 0,aa ab 1,aa ab 2,aa ab 3,aa ab 4,aa ab 5,aa ab 6,aa ab 7]]) fun v11=>
 R (extP 0 v11) fun bY=>
 R (extP 1 v11) fun bZ=>
 aw (aL 9 bY)<|
 R (gD bZ true (
 R (l8 n [D.agg [aa bY 0,aa bY 1,aa bY 2,aa bY 3,aa bY 4,aa bY 5,aa bY 6,aa bY 7,aa bY 8],ah,aT]) fun cb=>
 some cb
)) fun cb=>
 R (pickP bZ cb (au false)) fun v20=>
 some v20
def qS(n:Nat):List D→Option D
 |[ab,ah,aT]=>Dm n ab ah aT
 |_=>none
def agi(n:Nat):Option D:=
 R (LF n []) fun bM=>
 aw (aL 8 bM)<|
 aw (aL 6 (D.agg [J 1,J 10,J 0,aJ ⟨#[]⟩,D.aD 4 [[J 3,J 0,aJ ⟨#[120]⟩,D.val (.slice none 0 0)],[J 1,J 2,aJ ⟨#[]⟩,D.val (.slice none 0 0)]],D.val (.slice none 0 0)]))<|
 aw (bC (D.aD 1 [[J 0]]))<|
 aw (bC (D.aD 1 [[J 1]]))<|
 aw (bC (D.aD 1 [[J 2]]))<|
 aw (aL 6 (D.agg [J 1,J 10,J 0,aJ ⟨#[]⟩,D.aD 4 [[J 3,J 0,aJ ⟨#[120]⟩,D.val (.slice none 0 0)],[J 1,J 2,aJ ⟨#[]⟩,D.val (.slice none 0 0)]],D.val (.slice none 0 0)]))<|
 aw (aL 12 (D.agg [J 1,D.aD 1 [[J 2]],J 1,J 10,J 0,aJ ⟨#[]⟩,D.aD 4 [[J 3,J 0,aJ ⟨#[120]⟩,D.val (.slice none 0 0)],[J 1,J 2,aJ ⟨#[]⟩,D.val (.slice none 0 0)]],D.val (.slice none 0 0),D.val (.slice none 0 0),J 0,J 0,D.val (.slice none 0 0)]))<|
 R (Mz n [D.agg [aa bM 0,aa bM 1,aa bM 2,aa bM 3,aa bM 4,aa bM 5,aa bM 6,aa bM 7],D.agg [J 7,J 0,J 0,aJ ⟨#[]⟩,D.val (.slice none 0 0),D.aD 6 [[J 1,J 10,J 0,aJ ⟨#[]⟩,D.aD 4 [[J 3,J 0,aJ ⟨#[120]⟩,D.val (.slice none 0 0)],[J 1,J 2,aJ ⟨#[]⟩,D.val (.slice none 0 0)]],D.val (.slice none 0 0)]]],D.aD 1 [[J 0]],D.agg [J 5,D.aD 1 [[J 0]],J 7,J 0,J 0,aJ ⟨#[]⟩,D.val (.slice none 0 0),D.aD 6 [[J 1,J 10,J 0,aJ ⟨#[]⟩,D.aD 4 [[J 3,J 0,aJ ⟨#[120]⟩,D.val (.slice none 0 0)],[J 1,J 2,aJ ⟨#[]⟩,D.val (.slice none 0 0)]],D.val (.slice none 0 0)]],D.aD 1 [[D.aD 1 [[J 0]]],[D.aD 1 [[J 1]]],[D.aD 1 [[J 2]]]],J 0,J 2,D.aD 12 [[J 1,D.aD 1 [[J 2]],J 1,J 10,J 0,aJ ⟨#[]⟩,D.aD 4 [[J 3,J 0,aJ ⟨#[120]⟩,D.val (.slice none 0 0)],[J 1,J 2,aJ ⟨#[]⟩,D.val (.slice none 0 0)]],D.val (.slice none 0 0),D.val (.slice none 0 0),J 0,J 0,D.val (.slice none 0 0)]]]]) fun ds=>
 R (extP 0 ds) fun fK=>
 R (extP 1 ds) fun dh=>
 R (MA n [D.agg [aa bM 0,aa bM 1,aa bM 2,aa bM 3,aa bM 4,aa bM 5,aa bM 6,aa bM 7],D.agg [J 1,J 10,J 0,aJ ⟨#[]⟩,D.aD 4 [[J 3,J 0,aJ ⟨#[120]⟩,D.val (.slice none 0 0)],[J 1,J 2,aJ ⟨#[]⟩,D.val (.slice none 0 0)]],D.val (.slice none 0 0)],D.aD 1 [[J 2]]]) fun eU=>
 aw eU.flat<|
 R (extP 0 eU) fun c2=>
 R (extP 1 eU) fun ed=>
 R (binP false .eql dh (J 0)) fun c3=>
 R (gD c3 true (
 R (lenP fK) fun gu=>
 R (binP false .eql gu (J 0)) fun eD=>
 some eD
)) fun eD=>
 R (pickP c3 eD (au false)) fun c8=>
 R (gD c8 true (
 some c2
)) fun e5=>
 R (pickP c8 e5 (au false)) fun hn=>
 R (gD hn true (
 some ed
)) fun e0=>
 R (pickP hn e0 (au false)) fun e1=>
 R (gD e1 true (
 R (MB n [D.agg [aa bM 0,aa bM 1,aa bM 2,aa bM 3,aa bM 4,aa bM 5,aa bM 6,aa bM 7],D.aD 1 [[J 2]],D.aD 1 [[J 0]]]) fun ha=>
 aw ha.flat<|
 some ha
)) fun ha=>
 R (pickP e1 ha (au false)) fun iy=>
 R (gD iy true (
 R (qS n [D.agg [aa bM 0,aa bM 1,aa bM 2,aa bM 3,aa bM 4,aa bM 5,aa bM 6,aa bM 7],D.aD 1 [[D.aD 1 [[J 0]]],[D.aD 1 [[J 1]]],[D.aD 1 [[J 2]]]],J 2]) fun fA=>
 R (unP .not fA) fun fJ=>
 some fJ
)) fun fJ=>
 R (pickP iy fJ (au false)) fun eh=>
 some eh
def zm(n:Nat):List D→Option D
 |[]=>agi n
 |_=>none
def TT(n:Nat)(ab:D):Option D:=
 R (binP false .geq ab (D.val (.int .u8 97))) fun v4=>
 R (gD v4 true (
 R (binP false .leq ab (D.val (.int .u8 122))) fun b1=>
 some b1
)) fun b1=>
 R (pickP v4 b1 (au false)) fun cl=>
 R (gD cl false (
 R (binP false .geq ab (D.val (.int .u8 65))) fun v11=>
 some v11
)) fun bY=>
 R (gD bY true (
 R (binP false .leq ab (D.val (.int .u8 90))) fun bq=>
 some bq
)) fun bq=>
 R (gD cl false (
 R (pickP bY bq (au false)) fun bh=>
 some bh
)) fun bh=>
 R (pickP cl (au true) bh) fun bF=>
 some bF
def wV(n:Nat):List D→Option D
 |[ab]=>TT n ab
 |_=>none
def TU(n:Nat)(ab:D):Option D:=
 R (binP false .geq ab (D.val (.int .u8 48))) fun v4=>
 R (gD v4 true (
 R (binP false .leq ab (D.val (.int .u8 57))) fun b1=>
 some b1
)) fun b1=>
 R (pickP v4 b1 (au false)) fun cl=>
 some cl
def Dn(n:Nat):List D→Option D
 |[ab]=>TU n ab
 |_=>none
def Dp(n:Nat)(ls:List D):Option (List D⊕(List D⊕D)):=
 R (nr (I ls 0)) fun bM=>
 R (binP false .lss (I ls 1) bM) fun v10=>
 R (gD v10 true (
 R (sixP (I ls 0) (I ls 1)) fun bq=>
 R (Dn n [bq]) fun bh=>
 some bh
)) fun bF=>
 R (gD bF false (
 R (unP .not (I ls 2)) fun bE=>
 some bE
)) fun cb=>
 R (gD cb true (
 R (sixP (I ls 0) (I ls 1)) fun bQ=>
 R (wV n [bQ]) fun b6=>
 some b6
)) fun cD=>
 R (gD cD false (
 R (sixP (I ls 0) (I ls 1)) fun cE=>
 R (binP false .eql cE (D.val (.int .u8 95))) fun cj=>
 some cj
)) fun cj=>
 R (gD cb true (
 R (pickP cD (au true) cj) fun cC=>
 some cC
)) fun cC=>
 R (gD bF false (
 R (pickP cb cC (au false)) fun v30=>
 some v30
)) fun v30=>
 R (gD v10 true (
 R (pickP bF (au true) v30) fun dJ=>
 some dJ
)) fun dJ=>
 R (pickP v10 dJ (au false)) fun dt=>
 oif dt (
 R (binP false .add (I ls 1) (J 1)) fun ds=>
 some (.inl [I ls 0,ds,I ls 2])
) (
 aU (
 some (.inl [I ls 1])
)
)
def TV(n:Nat)(ab:D)(ah:D)(aT:D):Option D:=
 R (
 bk (Dp n) n [ab,ah,aT]
)<|a7 fun ls=>
 some (I ls 0)
def Dq(n:Nat):List D→Option D
 |[ab,ah,aT]=>TV n ab ah aT
 |_=>none
def agj(n:Nat):Option D:=
 some (D.aD 1 [[aJ ⟨#[65]⟩],[aJ ⟨#[65,70]⟩],[aJ ⟨#[65,71]⟩],[aJ ⟨#[65,88]⟩],[aJ ⟨#[69]⟩],[aJ ⟨#[69,70]⟩],[aJ ⟨#[69,71]⟩],[aJ ⟨#[69,88]⟩],[aJ ⟨#[85]⟩],[aJ ⟨#[98,111,111,108]⟩],[aJ ⟨#[100,101,102]⟩],[aJ ⟨#[101,108,115,101]⟩],[aJ ⟨#[102,97,105,114]⟩],[aJ ⟨#[102,97,108,115,101]⟩],[aJ ⟨#[105,102]⟩],[aJ ⟨#[105,110,105,116]⟩],[aJ ⟨#[105,110,118,97,114]⟩],[aJ ⟨#[109,111,100]⟩],[aJ ⟨#[110,101,120,116]⟩],[aJ ⟨#[115,112,101,99]⟩],[aJ ⟨#[116,104,101,110]⟩],[aJ ⟨#[116,114,97,110,115]⟩],[aJ ⟨#[116,114,117,101]⟩],[aJ ⟨#[118,97,114]⟩]])
def Hu(n:Nat):List D→Option D
 |[]=>agj n
 |_=>none
def zn(n:Nat)(ls:List D):Option (List D⊕(List D⊕D)):=
 R (lenP (I ls 0)) fun cl=>
 R (binP false .lss (I ls 2) cl) fun bM=>
 oif bM (
 R (a2 1 (I ls 0) (I ls 2)) fun eV=>
 R (aW false 1 0 eV) fun bh=>
 R (binP false .eql bh (I ls 1)) fun bw=>
 oif bw (
 aU (
 aU (
 some (au true)
)
)
) (
 R (binP false .add (I ls 2) (J 1)) fun v11=>
 some (.inl [I ls 0,I ls 1,v11])
)
) (
 aU (
 some (.inl [])
)
)
def MC(n:Nat)(ab:D)(ah:D):Option D:=
 R (
 bk (zn n) n [ab,ah,J 0]
)<|a7 fun ls=>
 some (au false)
def zo(n:Nat):List D→Option D
 |[ab,ah]=>MC n ab ah
 |_=>none
def MD(n:Nat)(ab:D):Option D:=
 R (nr ab) fun v4=>
 R (binP false .geq v4 (J 1)) fun j8=>
 R (gD j8 true (
 R (nr ab) fun cl=>
 R (binP false .leq cl (J 24)) fun bM=>
 some bM
)) fun bM=>
 R (pickP j8 bM (au false)) fun v10=>
 R (gD v10 true (
 R (sixP ab (J 0)) fun bZ=>
 R (wV n [bZ]) fun bq=>
 some bq
)) fun bq=>
 R (pickP v10 bq (au false)) fun bh=>
 R (gD bh true (
 R (Dq n [ab,J 0,au false]) fun bE=>
 R (nr ab) fun v20=>
 R (binP false .eql bE v20) fun bK=>
 some bK
)) fun bK=>
 R (pickP bh bK (au false)) fun bQ=>
 R (gD bQ true (
 R (Hu n []) fun cD=>
 R (zo n [cD,ab]) fun cp=>
 R (unP .not cp) fun cE=>
 some cE
)) fun cE=>
 R (pickP bQ cE (au false)) fun cj=>
 some cj
def qT(n:Nat):List D→Option D
 |[ab]=>MD n ab
 |_=>none
def TW(n:Nat)(ab:D):Option D:=
 R (binP false .geq ab (J (-255))) fun v4=>
 R (gD v4 true (
 R (binP false .leq ab (J 255)) fun b1=>
 some b1
)) fun b1=>
 R (pickP v4 b1 (au false)) fun cl=>
 some cl
def zp(n:Nat):List D→Option D
 |[ab]=>TW n ab
 |_=>none
def TX(n:Nat)(ab:D):Option D:=
 aw (aL 4 ab)<|
 oif (aa ab 1) (
 some (J 2)
) (
 R (binP false .gtr (aa ab 2) (aa ab 3)) fun v10=>
 oif v10 (
 some (J 0)
) (
 R (cvP .u64 (aa ab 3)) fun bZ=>
 R (cvP .u64 (aa ab 2)) fun bF=>
 R (binP false .sub bZ bF) fun bw=>
 R (binP false .gtr bw (D.val (.int .u64 1073741824))) fun cb=>
 R (
 oif cb (
 some (.inl [D.val (.int .u64 1073741824)])
) (
 some (.inl [bw])
)
)<|a7 fun ls=>
 R (cvP .i64 (I ls 0)) fun bK=>
 R (binP false .add bK (J 1)) fun bQ=>
 some bQ
)
)
def wW(n:Nat):List D→Option D
 |[ab]=>TX n ab
 |_=>none
def Dr(n:Nat)(ls:List D):Option (List D⊕(List D⊕(List D⊕(List D⊕(List D⊕D))))):=
 R (binP false .lss (I ls 2) (I ls 1)) fun bQ=>
 oif bQ (
 R (a2 4 (I ls 0) (I ls 2)) fun Mu=>
 R (aW false 1 0 Mu) fun cC=>
 R (a2 4 (I ls 0) (I ls 1)) fun LR=>
 R (aW false 1 0 LR) fun ds=>
 R (binP false .eql cC ds) fun fK=>
 oif fK (
 aU (
 aU (
 aU (
 aU (
 aU (
 some (D.aO [I ls 1,J 6])
)
)
)
)
)
) (
 R (binP false .add (I ls 2) (J 1)) fun cD=>
 some (.inl [I ls 0,I ls 1,cD])
)
) (
 aU (
 some (.inl [I ls 0,I ls 1])
)
)
def wX(n:Nat)(ls:List D):Option (List D⊕(List D⊕D)):=
 R (lenP (I ls 0)) fun cl=>
 R (binP false .lss (I ls 1) cl) fun bM=>
 oif bM (
 R (
 R (a2 4 (I ls 0) (I ls 1)) fun eV=>
 R (aW false 1 0 eV) fun bF=>
 R (qT n [bF]) fun bw=>
 R (unP .not bw) fun bE=>
 oif bE (
 aU (
 aU (
 aU (
 some (D.aO [I ls 1,J 12])
)
)
)
) (
 R (
 bk (Dr n) n [I ls 0,I ls 1,J 0]
)<|a7 fun ls=>
 R (a2 4 (I ls 0) (I ls 1)) fun nD=>
 R (aW false 1 1 nD) fun eU=>
 R (gD eU true (
 R (a2 4 (I ls 0) (I ls 1)) fun Ds=>
 R (aW false 1 2 Ds) fun iU=>
 R (binP false .neq iU (J 0)) fun gu=>
 some gu
)) fun eD=>
 R (gD eD false (
 R (a2 4 (I ls 0) (I ls 1)) fun Cv=>
 R (aW false 1 3 Cv) fun hI=>
 R (binP false .neq hI (J 0)) fun e0=>
 some e0
)) fun e0=>
 R (gD eU true (
 R (pickP eD (au true) e0) fun e1=>
 some e1
)) fun e1=>
 R (pickP eU e1 (au false)) fun ho=>
 oif ho (
 aU (
 aU (
 aU (
 some (D.aO [I ls 1,J 3])
)
)
)
) (
 R (a2 4 (I ls 0) (I ls 1)) fun Cq=>
 R (aW false 1 1 Cq) fun k2=>
 R (unP .not k2) fun g9=>
 R (gD g9 true (
 R (a2 4 (I ls 0) (I ls 1)) fun ME=>
 R (aW false 1 2 ME) fun iT=>
 R (a2 4 (I ls 0) (I ls 1)) fun Dl=>
 R (aW false 1 3 Dl) fun mZ=>
 R (binP false .gtr iT mZ) fun gW=>
 some gW
)) fun gv=>
 R (gD gv false (
 R (a2 4 (I ls 0) (I ls 1)) fun Mn=>
 R (aW false 1 2 Mn) fun k3=>
 R (zp n [k3]) fun ju=>
 R (unP .not ju) fun hb=>
 some hb
)) fun hb=>
 R (gD g9 true (
 R (pickP gv (au true) hb) fun hp=>
 some hp
)) fun jQ=>
 R (gD jQ false (
 R (a2 4 (I ls 0) (I ls 1)) fun Mw=>
 R (aW false 1 3 Mw) fun wB=>
 R (zp n [wB]) fun tI=>
 R (unP .not tI) fun l5=>
 some l5
)) fun l5=>
 R (gD g9 true (
 R (pickP jQ (au true) l5) fun iz=>
 some iz
)) fun iV=>
 R (gD iV false (
 R (a2 4 (I ls 0) (I ls 1)) fun Mj=>
 R (aW true 4 0 Mj) fun wC=>
 R (wW n [wC]) fun vB=>
 R (binP false .gtr vB (J 64)) fun py=>
 some py
)) fun py=>
 R (gD g9 true (
 R (pickP iV (au true) py) fun C6=>
 some C6
)) fun C6=>
 R (pickP g9 C6 (au false)) fun pE=>
 oif pE (
 aU (
 aU (
 aU (
 some (D.aO [I ls 1,J 2])
)
)
)
) (
 some (.inl [I ls 0,I ls 1])
)
)
)
)<|a7 fun ls=>
 R (binP false .add (I ls 1) (J 1)) fun v11=>
 some (.inl [I ls 0,v11])
) (
 aU (
 some (.inl [])
)
)
def agk(n:Nat)(ab:D):Option D:=
 R (
 bk (wX n) n [ab,J 0]
)<|a7 fun ls=>
 some (D.aO [J 0,J 0])
def Dt(n:Nat):List D→Option D
 |[ab]=>agk n ab
 |_=>none
def Hv(n:Nat)(ls:List D):Option (List D⊕(List D⊕D)):=
 R (binP false .gtr (I ls 0) (J 1)) fun j8=>
 oif j8 (
 R (binP false .quo (I ls 0) (J 2)) fun b1=>
 R (binP false .rem (I ls 0) (J 2)) fun bM=>
 R (binP false .add b1 bM) fun v10=>
 R (binP false .add (I ls 1) (J 1)) fun bY=>
 some (.inl [v10,bY])
) (
 aU (
 some (.inl [I ls 1])
)
)
def TY(n:Nat)(ab:D):Option D:=
 R (
 bk (Hv n) n [ab,J 0]
)<|a7 fun ls=>
 some (I ls 0)
def Du(n:Nat):List D→Option D
 |[ab]=>TY n ab
 |_=>none
def Hw(n:Nat)(ls:List D):Option (List D⊕(List D⊕D)):=
 R (lenP (I ls 2)) fun cl=>
 R (binP false .lss (I ls 1) cl) fun bM=>
 oif bM (
 R (a2 4 (I ls 2) (I ls 1)) fun pC=>
 R (aW true 4 0 pC) fun bw=>
 R (wW n [bw]) fun bE=>
 R (Du n [bE]) fun cb=>
 R (binP false .add (I ls 0) cb) fun v20=>
 R (binP false .add (I ls 1) (J 1)) fun v11=>
 some (.inl [v20,v11,I ls 2,I ls 3,I ls 4,I ls 5,I ls 6,I ls 7,I ls 8,I ls 9])
) (
 aU (
 some (.inl [I ls 0])
)
)
def TZ(n:Nat)(ab:D):Option D:=
 aw (aL 8 ab)<|
 R (
 bk (Hw n) n [J 0,J 0,aa ab 0,aa ab 1,aa ab 2,aa ab 3,aa ab 4,aa ab 5,aa ab 6,aa ab 7]
)<|a7 fun ls=>
 some (I ls 0)
def Dv(n:Nat):List D→Option D
 |[ab]=>TZ n ab
 |_=>none
def Dw(n:Nat)(ls:List D):Option (List D⊕(List D⊕D)):=
 R (lenP (I ls 2)) fun bM=>
 R (binP false .lss (I ls 1) bM) fun v10=>
 oif v10 (
 R (a2 4 (I ls 2) (I ls 1)) fun pC=>
 R (aW false 1 0 pC) fun bE=>
 R (binP false .eql bE (I ls 0)) fun v20=>
 oif v20 (
 aU (
 aU (
 some (I ls 1)
)
)
) (
 R (binP false .add (I ls 1) (J 1)) fun bY=>
 some (.inl [I ls 0,bY,I ls 2,I ls 3,I ls 4,I ls 5,I ls 6,I ls 7,I ls 8,I ls 9])
)
) (
 aU (
 some (.inl [])
)
)
def T0(n:Nat)(ab:D)(ah:D):Option D:=
 aw (aL 8 ab)<|
 R (
 bk (Dw n) n [ah,J 0,aa ab 0,aa ab 1,aa ab 2,aa ab 3,aa ab 4,aa ab 5,aa ab 6,aa ab 7]
)<|a7 fun ls=>
 some (J (-1))
def wY(n:Nat):List D→Option D
 |[ab,ah]=>T0 n ab ah
 |_=>none
def Dx(n:Nat)(ls:List D):Option (List D⊕(List D⊕D)):=
 R (lenP (I ls 3)) fun bM=>
 R (binP false .lss (I ls 1) bM) fun v10=>
 oif v10 (
 R (a2 5 (I ls 3) (I ls 1)) fun pC=>
 R (aW false 1 0 pC) fun bE=>
 R (binP false .eql bE (I ls 0)) fun v20=>
 oif v20 (
 aU (
 aU (
 some (I ls 1)
)
)
) (
 R (binP false .add (I ls 1) (J 1)) fun bY=>
 some (.inl [I ls 0,bY,I ls 2,I ls 3,I ls 4,I ls 5,I ls 6,I ls 7,I ls 8,I ls 9])
)
) (
 aU (
 some (.inl [])
)
)
def T1(n:Nat)(ab:D)(ah:D):Option D:=
 aw (aL 8 ab)<|
 R (
 bk (Dx n) n [ah,J 0,aa ab 0,aa ab 1,aa ab 2,aa ab 3,aa ab 4,aa ab 5,aa ab 6,aa ab 7]
)<|a7 fun ls=>
 some (J (-1))
def wZ(n:Nat):List D→Option D
 |[ab,ah]=>T1 n ab ah
 |_=>none
def Dy(n:Nat)(ls:List D):Option (List D⊕(List D⊕D)):=
 R (lenP (I ls 0)) fun cl=>
 R (binP false .lss (I ls 2) cl) fun bM=>
 oif bM (
 R (a2 1 (I ls 0) (I ls 2)) fun eV=>
 R (aW false 1 0 eV) fun bh=>
 R (binP false .eql bh (I ls 1)) fun bw=>
 oif bw (
 aU (
 aU (
 some (au true)
)
)
) (
 R (binP false .add (I ls 2) (J 1)) fun v11=>
 some (.inl [I ls 0,I ls 1,v11])
)
) (
 aU (
 some (.inl [])
)
)
def T2(n:Nat)(ab:D)(ah:D):Option D:=
 R (
 bk (Dy n) n [ab,ah,J 0]
)<|a7 fun ls=>
 some (au false)
def Dz(n:Nat):List D→Option D
 |[ab,ah]=>T2 n ab ah
 |_=>none
def zq(n:Nat)(ls:List D):Option (List D⊕(List D⊕D)):=
 R (lenP (I ls 0)) fun bh=>
 R (binP false .lss (I ls 3) bh) fun bF=>
 oif bF (
 R (unP .not (I ls 2)) fun v20=>
 R (gD v20 true (
 R (a2 1 (I ls 0) (I ls 3)) fun Df=>
 R (aW false 1 0 Df) fun cM=>
 R (binP false .gtr cM (I ls 1)) fun cE=>
 some cE
)) fun cE=>
 R (pickP v20 cE (au false)) fun cj=>
 R (
 oif cj (
 aw (bC (I ls 1))<|
 aw (c7 (((esD (I ls 4))).length+([[I ls 1]]).length) 16)<|
 some (.inl [I ls 0,I ls 1,au true,I ls 3,D.aD 1 ((esD (I ls 4))++[[I ls 1]])])
) (
 some (.inl [I ls 0,I ls 1,I ls 2,I ls 3,D.aD 1 (esD (I ls 4))])
)
)<|a7 fun ls=>
 R (a2 1 (I ls 0) (I ls 3)) fun wa=>
 R (aW false 1 0 wa) fun dy=>
 aw (bC dy)<|
 aw (c7 (((esD (I ls 4))).length+([[dy]]).length) 16)<|
 R (binP false .add (I ls 3) (J 1)) fun bE=>
 some (.inl [I ls 0,I ls 1,I ls 2,bE,D.aD 1 ((esD (I ls 4))++[[dy]])])
) (
 aU (
 some (.inl [I ls 1,I ls 2,D.aD 1 (esD (I ls 4))])
)
)
def Hx(n:Nat)(ab:D)(ah:D):Option D:=
 R (Dz n [ab,ah]) fun v10=>
 oif v10 (
 some ab
) (
 R (
 bk (zq n) n [ab,ah,au false,J 0,D.aD 1 ([]:List (List D))]
)<|a7 fun ls=>
 R (unP .not (I ls 1)) fun eU=>
 R (
 oif eU (
 aw (bC (I ls 0))<|
 aw (c7 (((esD (I ls 2))).length+([[I ls 0]]).length) 16)<|
 some (.inl [D.aD 1 ((esD (I ls 2))++[[I ls 0]])])
) (
 some (.inl [D.aD 1 (esD (I ls 2))])
)
)<|a7 fun ls=>
 some (D.aD 1 (esD (I ls 0)))
)
def w1(n:Nat):List D→Option D
 |[ab,ah]=>Hx n ab ah
 |_=>none
def Hy(w2:List D→Option D)(n:Nat)(ls:List D):Option (List D⊕(List D⊕D)):=
 R (lenP (I ls 6)) fun cb=>
 R (binP false .lss (I ls 2) cb) fun v20=>
 oif v20 (
 R (a2 4 (I ls 6) (I ls 2)) fun L7=>
 R (aW true 4 0 L7) fun cE=>
 R (w2 [cE,I ls 0,I ls 1]) fun v30=>
 R (binP false .add (I ls 2) (J 1)) fun bQ=>
 some (.inl [I ls 0,v30,bQ,I ls 3,I ls 4,I ls 5,I ls 6])
) (
 aU (
 some (.inl [I ls 1])
)
)
def DA(w2:List D→Option D)(n:Nat)(ab:D)(ah:D)(aT:D):Option D:=
 aw (aL 4 ab)<|
 R (binP false .eql (aa ab 0) ah) fun v11=>
 R (
 oif v11 (
 R (w1 n [aT,aa ab 2]) fun bh=>
 some (.inl [ah,bh,aa ab 0,aa ab 1,aa ab 2,aa ab 3])
) (
 some (.inl [ah,aT,aa ab 0,aa ab 1,aa ab 2,aa ab 3])
)
)<|a7 fun ls=>
 R (
 bk (Hy w2 n) n [I ls 0,I ls 1,J 0,I ls 2,I ls 3,I ls 4,I ls 5]
)<|a7 fun ls=>
 some (I ls 0)
def pK:Nat→List D→Option D
 |0,_=>none
 |n+1,aF=>match aF with
  |[ab,ah,aT]=>DA (pK n) n ab ah aT
  |_=>none
def T3(n:Nat)(ab:D):Option D:=
 aw (aL 4 ab)<|
 R (pK n [D.agg [aa ab 0,aa ab 1,aa ab 2,aa ab 3],J 3,D.val (.slice none 0 0)]) fun j8=>
 R (pK n [D.agg [aa ab 0,aa ab 1,aa ab 2,aa ab 3],J 4,D.val (.slice none 0 0)]) fun b1=>
 some (D.aO [j8,b1])
def sh(n:Nat):List D→Option D
 |[ab]=>T3 n ab
 |_=>none
def w3(n:Nat)(ls:List D):Option (List D⊕(List D⊕(List D⊕(List D⊕(List D⊕D))))):=
 R (lenP (I ls 1)) fun eA=>
 R (binP false .lss (I ls 2) eA) fun du=>
 oif du (
 R (
 R (a2 1 (I ls 1) (I ls 2)) fun agl=>
 R (aW false 1 0 agl) fun iU=>
 R (wZ n [D.agg [I ls 3,I ls 4,I ls 5,I ls 6,I ls 7,I ls 8,I ls 9,I ls 10],iU]) fun gu=>
 R (binP false .geq gu (J 0)) fun c8=>
 R (gD c8 true (
 R (cH ((esD (I ls 11))).length gu) fun agm=>
 R (((esD (I ls 11)))[agm]?) fun agn=>
 R (aW false 1 0 agn) fun e0=>
 R (unP .not e0) fun e1=>
 some e1
)) fun e1=>
 R (pickP c8 e1 (au false)) fun ho=>
 R (
 oif ho (
 R (cH ((esD (I ls 11))).length gu) fun T4=>
 R (((esD (I ls 11)))[T4]?) fun lv=>
 aw (bC gu)<|
 aw (c7 (((esD (I ls 12))).length+([[gu]]).length) 8)<|
 some (.inl [I ls 0,I ls 1,I ls 2,I ls 3,I ls 4,I ls 5,I ls 6,I ls 7,I ls 8,I ls 9,I ls 10,D.aD 1 (((esD (I ls 11))).set T4 (lk lv 0 [au true])),D.aD 1 ((esD (I ls 12))++[[gu]])])
) (
 some (.inl [I ls 0,I ls 1,I ls 2,I ls 3,I ls 4,I ls 5,I ls 6,I ls 7,I ls 8,I ls 9,I ls 10,D.aD 1 (esD (I ls 11)),D.aD 1 (esD (I ls 12))])
)
)<|a7 fun ls=>
 some (.inl [I ls 0,I ls 1,I ls 2,I ls 3,I ls 4,I ls 5,I ls 6,I ls 7,I ls 8,I ls 9,I ls 10,D.aD 1 (esD (I ls 11)),D.aD 1 (esD (I ls 12))])
)<|a7 fun ls=>
 R (binP false .add (I ls 2) (J 1)) fun c2=>
 some (.inl [I ls 0,I ls 1,c2,I ls 3,I ls 4,I ls 5,I ls 6,I ls 7,I ls 8,I ls 9,I ls 10,D.aD 1 (esD (I ls 11)),D.aD 1 (esD (I ls 12))])
) (
 aU (
 some (.inl [I ls 0,I ls 3,I ls 4,I ls 5,I ls 6,I ls 7,I ls 8,I ls 9,I ls 10,D.aD 1 (esD (I ls 11)),D.aD 1 (esD (I ls 12))])
)
)
def Hz(n:Nat)(ls:List D):Option (List D⊕(List D⊕D)):=
 R (binP false .lss (I ls 0) (J ((esD (I ls 10))).length)) fun bK=>
 oif bK (
 R (
 R (cH ((esD (I ls 10))).length (I ls 0)) fun ago=>
 R (((esD (I ls 10)))[ago]?) fun agp=>
 R (aW false 1 0 agp) fun v30=>
 R (a2 5 (I ls 2) v30) fun sa=>
 R (aW true 4 1 sa) fun dB=>
 R (sh n [dB]) fun ds=>
 R (extP 0 ds) fun fK=>
 R (extP 1 ds) fun dh=>
 R (
 bk (w3 n) n [I ls 0,fK,J 0,I ls 1,I ls 2,I ls 3,I ls 4,I ls 5,I ls 6,I ls 7,I ls 8,D.aD 1 (esD (I ls 9)),D.aD 1 (esD (I ls 10))]
)<|a7 fun ls=>
 some (.inl [I ls 0,I ls 1,I ls 2,I ls 3,I ls 4,I ls 5,I ls 6,I ls 7,I ls 8,D.aD 1 (esD (I ls 9)),D.aD 1 (esD (I ls 10))])
)<|a7 fun ls=>
 R (binP false .add (I ls 0) (J 1)) fun b6=>
 some (.inl [b6,I ls 1,I ls 2,I ls 3,I ls 4,I ls 5,I ls 6,I ls 7,I ls 8,D.aD 1 (esD (I ls 9)),D.aD 1 (esD (I ls 10))])
) (
 aU (
 some (.inl [D.aD 1 (esD (I ls 9))])
)
)
def T5(n:Nat)(ab:D)(ah:D):Option D:=
 aw (aL 8 ab)<|
 R (lenP (aa ab 1)) fun bq=>
 R (makeP 1 bq bq) fun agq=>
 aw (bC ah)<|
 R (
 bk (Hz n) n [J 0,aa ab 0,aa ab 1,aa ab 2,aa ab 3,aa ab 4,aa ab 5,aa ab 6,aa ab 7,D.aD 1 (List.replicate agq [au false]),D.aD 1 [[ah]]]
)<|a7 fun ls=>
 some (D.aD 1 (esD (I ls 0)))
def DB(n:Nat):List D→Option D
 |[ab,ah]=>T5 n ab ah
 |_=>none
def MF(n:Nat)(ab:D):Option D:=
 R (
 R (binP false .eql ab (J 1)) fun v6=>
 R (
 oif v6 (
 some (.inl [ab,ab,v6])
) (
 R (binP false .eql ab (J 2)) fun b1=>
 R (
 oif b1 (
 some (.inl [ab,ab,b1])
) (
 R (binP false .eql ab (J 3)) fun cl=>
 R (
 oif cl (
 some (.inl [ab,ab,cl])
) (
 R (binP false .eql ab (J 4)) fun bM=>
 some (.inl [ab,ab,bM])
)
)<|a7 fun ls=>
 some (.inl [I ls 0,I ls 1,I ls 2])
)
)<|a7 fun ls=>
 some (.inl [I ls 0,I ls 1,I ls 2])
)
)<|a7 fun ls=>
 oif (I ls 2) (
 aU (
 some (D.aO [J 0,J 0])
)
) (
 R (binP false .eql (I ls 1) (J 5)) fun v11=>
 oif v11 (
 aU (
 some (D.aO [J 1,J 1])
)
) (
 R (binP false .eql (I ls 1) (J 6)) fun bZ=>
 R (
 oif bZ (
 some (.inl [I ls 0,I ls 1,bZ])
) (
 R (binP false .eql (I ls 1) (J 7)) fun bq=>
 some (.inl [I ls 0,I ls 1,bq])
)
)<|a7 fun ls=>
 oif (I ls 2) (
 aU (
 some (D.aO [J 1,J 64])
)
) (
 R (binP false .eql (I ls 1) (J 18)) fun bF=>
 oif bF (
 aU (
 some (D.aO [J 3,J 3])
)
) (
 some (.inl [I ls 0])
)
)
)
)
)<|a7 fun ls=>
 R (binP false .lss (I ls 0) (J 1)) fun bE=>
 R (gD bE false (
 R (binP false .gtr (I ls 0) (J 18)) fun bK=>
 some bK
)) fun bK=>
 R (pickP bE (au true) bK) fun bQ=>
 oif bQ (
 some (D.aO [J (-1),J (-1)])
) (
 some (D.aO [J 2,J 2])
)
def zr(n:Nat):List D→Option D
 |[ab]=>MF n ab
 |_=>none
def T6(n:Nat)(ab:D)(ah:D):Option D:=
 aw (aL 4 ab)<|
 R (binP false .gtr ah (J 64)) fun v11=>
 oif v11 (
 some (J 17)
) (
 R (zr n [aa ab 0]) fun bh=>
 R (extP 0 bh) fun bF=>
 R (extP 1 bh) fun bw=>
 R (binP false .lss bF (J 0)) fun cb=>
 oif cb (
 some (J 11)
) (
 R (binP false .eql (aa ab 0) (J 1)) fun bQ=>
 R (
 oif bQ (
 some (.inl [bF,bw,J (-255),J 255,aa ab 0,aa ab 1,aa ab 2,aa ab 3])
) (
 some (.inl [bF,bw,J 0,J 0,aa ab 0,aa ab 1,aa ab 2,aa ab 3])
)
)<|a7 fun ls=>
 R (binP false .eql (I ls 4) (J 2)) fun cM=>
 R (
 oif cM (
 some (.inl [I ls 0,I ls 1,I ls 2,J 1,I ls 4,I ls 5,I ls 6,I ls 7])
) (
 some (.inl [I ls 0,I ls 1,I ls 2,I ls 3,I ls 4,I ls 5,I ls 6,I ls 7])
)
)<|a7 fun ls=>
 R (binP false .lss (I ls 5) (I ls 2)) fun cC=>
 R (gD cC false (
 R (binP false .gtr (I ls 5) (I ls 3)) fun ds=>
 some ds
)) fun ds=>
 R (pickP cC (au true) ds) fun fK=>
 oif fK (
 some (J 2)
) (
 R (binP false .eql (I ls 4) (J 3)) fun dm=>
 R (gD dm false (
 R (binP false .eql (I ls 4) (J 4)) fun c2=>
 some c2
)) fun c2=>
 R (pickP dm (au true) c2) fun ed=>
 R (gD ed true (
 R (nr (I ls 6)) fun gu=>
 R (binP false .lss gu (J 1)) fun eD=>
 some eD
)) fun c8=>
 R (gD c8 false (
 R (nr (I ls 6)) fun hn=>
 R (binP false .gtr hn (J 24)) fun hI=>
 some hI
)) fun hI=>
 R (gD ed true (
 R (pickP c8 (au true) hI) fun e0=>
 some e0
)) fun e0=>
 R (pickP ed e0 (au false)) fun e1=>
 R (gD e1 false (
 R (unP .not ed) fun j9=>
 some j9
)) fun eB=>
 R (gD eB true (
 R (binP false .neq (I ls 6) (aJ ⟨#[]⟩)) fun k2=>
 some k2
)) fun k2=>
 R (gD e1 false (
 R (pickP eB k2 (au false)) fun g9=>
 some g9
)) fun g9=>
 R (pickP e1 (au true) g9) fun iw=>
 oif iw (
 some (J 12)
) (
 R (lenP (I ls 7)) fun fJ=>
 R (binP false .lss fJ (I ls 0)) fun iT=>
 R (gD iT false (
 R (lenP (I ls 7)) fun gF=>
 R (binP false .gtr gF (I ls 1)) fun gW=>
 some gW
)) fun gW=>
 R (pickP iT (au true) gW) fun gv=>
 oif gv (
 some (J 3)
) (
 some (J 0)
)
)
)
)
)
def w4(n:Nat):List D→Option D
 |[ab,ah]=>T6 n ab ah
 |_=>none
def HA(w5:List D→Option D)(n:Nat)(ls:List D):Option (List D⊕(List D⊕D)):=
 R (lenP (I ls 6)) fun cE=>
 R (binP false .lss (I ls 2) cE) fun cj=>
 oif cj (
 R (a2 4 (I ls 6) (I ls 2)) fun wT=>
 R (aW true 4 0 wT) fun dh=>
 R (binP false .add (I ls 0) (J 1)) fun dm=>
 R (w5 [dh,dm,I ls 1]) fun du=>
 R (extP 0 du) fun eU=>
 R (extP 1 du) fun c2=>
 R (binP false .neq eU (J 0)) fun dN=>
 oif dN (
 aU (
 aU (
 some (D.aO [eU,c2])
)
)
) (
 R (binP false .add (I ls 2) (J 1)) fun v30=>
 some (.inl [I ls 0,c2,v30,I ls 3,I ls 4,I ls 5,I ls 6])
)
) (
 aU (
 some (.inl [I ls 1])
)
)
def MG(w5:List D→Option D)(n:Nat)(ab:D)(ah:D)(aT:D):Option D:=
 aw (aL 4 ab)<|
 R (binP false .add aT (J 1)) fun bZ=>
 R (w4 n [D.agg [aa ab 0,aa ab 1,aa ab 2,aa ab 3],ah]) fun bF=>
 R (binP false .neq bF (J 0)) fun bE=>
 oif bE (
 some (D.aO [bF,bZ])
) (
 R (binP false .gtr bZ (J 4096)) fun bQ=>
 oif bQ (
 some (D.aO [J 4,bZ])
) (
 R (
 bk (HA w5 n) n [ah,bZ,J 0,aa ab 0,aa ab 1,aa ab 2,aa ab 3]
)<|a7 fun ls=>
 some (D.aO [J 0,I ls 0])
)
)
def qU:Nat→List D→Option D
 |0,_=>none
 |n+1,aF=>match aF with
  |[ab,ah,aT]=>MG (qU n) n ab ah aT
  |_=>none
def T7(n:Nat)(ab:D):Option D:=
 aw (aL 4 ab)<|
 R (qU n [D.agg [aa ab 0,aa ab 1,aa ab 2,aa ab 3],J 1,J 0]) fun b1=>
 R (extP 0 b1) fun cl=>
 R (extP 1 b1) fun bM=>
 some cl
def si(n:Nat):List D→Option D
 |[ab]=>T7 n ab
 |_=>none
def DC(n:Nat)(ls:List D):Option (List D⊕(List D⊕D)):=
 R (lenP (I ls 0)) fun cl=>
 R (binP false .lss (I ls 2) cl) fun bM=>
 oif bM (
 R (a2 5 (I ls 0) (I ls 2)) fun eV=>
 R (aW false 1 0 eV) fun bF=>
 R (binP false .eql bF (I ls 1)) fun bE=>
 oif bE (
 aU (
 aU (
 some (I ls 2)
)
)
) (
 R (binP false .add (I ls 2) (J 1)) fun v11=>
 some (.inl [I ls 0,I ls 1,v11])
)
) (
 aU (
 some (.inl [])
)
)
def T8(n:Nat)(ab:D)(ah:D):Option D:=
 R (
 bk (DC n) n [ab,ah,J 0]
)<|a7 fun ls=>
 some (J (-1))
def tO(n:Nat):List D→Option D
 |[ab,ah]=>T8 n ab ah
 |_=>none
def DD(n:Nat)(ls:List D):Option (List D⊕(List D⊕D)):=
 R (lenP (I ls 1)) fun bE=>
 R (binP false .lss (I ls 2) bE) fun cb=>
 oif cb (
 R (
 R (a2 1 (I ls 1) (I ls 2)) fun MH=>
 R (aW false 1 0 MH) fun cp=>
 R (tO n [I ls 0,cp]) fun cE=>
 R (binP false .geq cE (J 0)) fun cC=>
 R (
 oif cC (
 aw (bC cE)<|
 aw (c7 (((esD (I ls 3))).length+([[cE]]).length) 8)<|
 some (.inl [I ls 0,I ls 1,I ls 2,D.aD 1 ((esD (I ls 3))++[[cE]])])
) (
 some (.inl [I ls 0,I ls 1,I ls 2,D.aD 1 (esD (I ls 3))])
)
)<|a7 fun ls=>
 some (.inl [I ls 0,I ls 1,I ls 2,D.aD 1 (esD (I ls 3))])
)<|a7 fun ls=>
 R (binP false .add (I ls 2) (J 1)) fun bK=>
 some (.inl [I ls 0,I ls 1,bK,D.aD 1 (esD (I ls 3))])
) (
 aU (
 some (.inl [D.aD 1 (esD (I ls 3))])
)
)
def T9(n:Nat)(ab:D)(ah:D):Option D:=
 aw (aL 4 ab)<|
 R (sh n [D.agg [aa ab 0,aa ab 1,aa ab 2,aa ab 3]]) fun bZ=>
 R (extP 0 bZ) fun bq=>
 R (extP 1 bZ) fun bh=>
 R (
 bk (DD n) n [ah,bq,J 0,D.aD 1 ([]:List (List D))]
)<|a7 fun ls=>
 some (D.aD 1 (esD (I ls 0)))
def DE(n:Nat):List D→Option D
 |[ab,ah]=>T9 n ab ah
 |_=>none
def zs(n:Nat)(ls:List D):Option (List D⊕(List D⊕D)):=
 R (lenP (I ls 0)) fun cl=>
 R (binP false .lss (I ls 2) cl) fun bM=>
 oif bM (
 R (a2 1 (I ls 0) (I ls 2)) fun eV=>
 R (aW false 1 0 eV) fun bh=>
 R (binP false .eql bh (I ls 1)) fun bw=>
 oif bw (
 aU (
 aU (
 some (au true)
)
)
) (
 R (binP false .add (I ls 2) (J 1)) fun v11=>
 some (.inl [I ls 0,I ls 1,v11])
)
) (
 aU (
 some (.inl [])
)
)
def MI(n:Nat)(ab:D)(ah:D):Option D:=
 R (
 bk (zs n) n [ab,ah,J 0]
)<|a7 fun ls=>
 some (au false)
def tP(n:Nat):List D→Option D
 |[ab,ah]=>MI n ab ah
 |_=>none
def DF(w6:List D→Option D)(n:Nat)(ls:List D):Option (List D⊕(List D⊕D)):=
 R (lenP (I ls 2)) fun bq=>
 R (binP false .lss (I ls 3) bq) fun bh=>
 oif bh (
 R (
 R (a2 1 (I ls 2) (I ls 3)) fun r9=>
 R (aW false 1 0 r9) fun bQ=>
 R (tP n [I ls 1,bQ]) fun b6=>
 R (unP .not b6) fun cD=>
 R (
 oif cD (
 R (a2 1 (I ls 2) (I ls 3)) fun rV=>
 R (aW false 1 0 rV) fun cC=>
 R (a2 5 (I ls 0) cC) fun MJ=>
 R (aW true 4 1 MJ) fun dt=>
 R (a2 1 (I ls 2) (I ls 3)) fun nD=>
 R (aW false 1 0 nD) fun du=>
 R (elP (I ls 1)) fun DG=>
 aw (decide (DG.1=1∨DG.2=[])&&decide (0<1))<|
 aw (c7 ((([]:List (List D))).length+(DG.2).length) 8)<|
 aw (bC du)<|
 aw (c7 (((([]:List (List D))++DG.2)).length+([[du]]).length) 8)<|
 R (w6 [dt,I ls 0,D.aD 1 ((([]:List (List D))++DG.2)++[[du]])]) fun ed=>
 some (.inl [I ls 0,ed,I ls 2,I ls 3])
) (
 some (.inl [I ls 0,I ls 1,I ls 2,I ls 3])
)
)<|a7 fun ls=>
 some (.inl [I ls 0,I ls 1,I ls 2,I ls 3])
)<|a7 fun ls=>
 R (binP false .add (I ls 3) (J 1)) fun bw=>
 some (.inl [I ls 0,I ls 1,I ls 2,bw])
) (
 aU (
 some (.inl [I ls 1])
)
)
def HB(w6:List D→Option D)(n:Nat)(ab:D)(ah:D)(aT:D):Option D:=
 aw (aL 4 ab)<|
 R (DE n [D.agg [aa ab 0,aa ab 1,aa ab 2,aa ab 3],ah]) fun v11=>
 R (
 bk (DF w6 n) n [ah,aT,v11,J 0]
)<|a7 fun ls=>
 some (I ls 0)
def ox:Nat→List D→Option D
 |0,_=>none
 |n+1,aF=>match aF with
  |[ab,ah,aT]=>HB (ox n) n ab ah aT
  |_=>none
def Ua(n:Nat)(ab:D)(ah:D):Option D:=
 R (a2 5 ab ah) fun cJ=>
 R (aW true 4 1 cJ) fun bM=>
 R (ox n [bM,ab,D.val (.slice none 0 0)]) fun v11=>
 R (tP n [v11,ah]) fun bZ=>
 some bZ
def DH(n:Nat):List D→Option D
 |[ab,ah]=>Ua n ab ah
 |_=>none
def DI(tQ:List D→Option D)(n:Nat)(ls:List D):Option (List D⊕(List D⊕D)):=
 R (lenP (I ls 7)) fun ho=>
 R (binP false .lss (I ls 3) ho) fun eL=>
 oif eL (
 R (a2 4 (I ls 7) (I ls 3)) fun wO=>
 R (aW true 4 0 wO) fun dU=>
 R (binP false .add (I ls 1) (J 1)) fun eh=>
 R (tQ [dU,I ls 0,eh,I ls 2]) fun om=>
 R (extP 0 om) fun gw=>
 R (extP 1 om) fun gx=>
 R (extP 2 om) fun gF=>
 aw (aL 4 gw)<|
 R (binP false .neq gF (J 0)) fun gW=>
 oif gW (
 aU (
 aU (
 some (D.aO [D.agg [J 0,J 0,aJ ⟨#[]⟩,D.val (.slice none 0 0)],gx,gF])
)
)
) (
 aw (aL 4 (D.agg [aa gw 0,aa gw 1,aa gw 2,aa gw 3]))<|
 aw (c7 (((esD (I ls 12))).length+([[aa gw 0,aa gw 1,aa gw 2,aa gw 3]]).length) 56)<|
 R (binP false .add (I ls 3) (J 1)) fun eB=>
 some (.inl [I ls 0,I ls 1,gx,eB,I ls 4,I ls 5,I ls 6,I ls 7,I ls 8,I ls 9,I ls 10,I ls 11,D.aD 4 ((esD (I ls 12))++[[aa gw 0,aa gw 1,aa gw 2,aa gw 3]])])
)
) (
 aU (
 some (.inl [I ls 2,I ls 4,I ls 5,I ls 6,I ls 7,I ls 8,I ls 9,I ls 10,I ls 11,D.aD 4 (esD (I ls 12))])
)
)
def pL(tQ:List D→Option D)(n:Nat)(ab:D)(ah:D)(aT:D)(bR:D):Option D:=
 aw (aL 4 ab)<|
 R (binP false .eql (aa ab 0) (J 3)) fun v20=>
 R (
 oif v20 (
 R (tO n [ah,aa ab 2]) fun cD=>
 R (binP false .geq cD (J 0)) fun cp=>
 oif cp (
 R (a2 5 ah cD) fun r5=>
 R (aW true 4 1 r5) fun dJ=>
 R (tQ [dJ,ah,aT,bR]) fun fK=>
 R (extP 0 fK) fun dh=>
 R (extP 1 fK) fun dy=>
 R (extP 2 fK) fun dm=>
 aw (aL 4 dh)<|
 aU (
 some (D.aO [D.agg [aa dh 0,aa dh 1,aa dh 2,aa dh 3],dy,dm])
)
) (
 some (.inl [ah,aT,bR,aa ab 0,aa ab 1,aa ab 2,aa ab 3,J 0,J 0,aJ ⟨#[]⟩,D.val (.slice none 0 0)])
)
) (
 some (.inl [ah,aT,bR,aa ab 0,aa ab 1,aa ab 2,aa ab 3,J 0,J 0,aJ ⟨#[]⟩,D.val (.slice none 0 0)])
)
)<|a7 fun ls=>
 R (binP false .add (I ls 2) (J 1)) fun du=>
 R (w4 n [D.agg [I ls 3,I ls 4,I ls 5,I ls 6],I ls 1]) fun ed=>
 R (binP false .neq ed (J 0)) fun c3=>
 oif c3 (
 some (D.aO [D.agg [J 0,J 0,aJ ⟨#[]⟩,D.val (.slice none 0 0)],du,ed])
) (
 R (binP false .gtr du (J 4096)) fun c8=>
 oif c8 (
 some (D.aO [D.agg [J 0,J 0,aJ ⟨#[]⟩,D.val (.slice none 0 0)],du,J 4])
) (
 R (
 bk (DI tQ n) n [I ls 0,I ls 1,du,J 0,I ls 3,I ls 4,I ls 5,I ls 6,I ls 7,I ls 8,I ls 9,I ls 10,D.aD 4 ([]:List (List D))]
)<|a7 fun ls=>
 aw (bC (I ls 1))<|
 aw (bC (I ls 2))<|
 aw (bC (I ls 3))<|
 some (D.aO [D.agg [I ls 1,I ls 2,I ls 3,D.aD 4 (esD (I ls 9))],I ls 0,J 0])
)
)
def pM:Nat→List D→Option D
 |0,_=>none
 |n+1,aF=>match aF with
  |[ab,ah,aT,bR]=>pL (pM n) n ab ah aT bR
  |_=>none
def DJ(n:Nat)(ls:List D):Option (List D⊕(List D⊕D)):=
 R (lenP (I ls 1)) fun b6=>
 R (binP false .lss (I ls 2) b6) fun cD=>
 oif cD (
 R (a2 1 (I ls 1) (I ls 2)) fun MJ=>
 R (aW false 1 0 MJ) fun dJ=>
 R (DH n [I ls 0,dJ]) fun dt=>
 oif dt (
 aU (
 aU (
 some (D.aO [D.agg [J 0,J 0,aJ ⟨#[]⟩,D.val (.slice none 0 0)],J 14])
)
)
) (
 R (binP false .add (I ls 2) (J 1)) fun cp=>
 some (.inl [I ls 0,I ls 1,cp,I ls 3,I ls 4,I ls 5,I ls 6,I ls 7,I ls 8,I ls 9,I ls 10])
)
) (
 aU (
 some (.inl [I ls 0,I ls 3,I ls 4,I ls 5,I ls 6,I ls 7,I ls 8,I ls 9,I ls 10])
)
)
def DK(n:Nat)(ab:D)(ah:D):Option D:=
 aw (aL 4 ab)<|
 R (si n [D.agg [aa ab 0,aa ab 1,aa ab 2,aa ab 3]]) fun bZ=>
 R (binP false .neq bZ (J 0)) fun bh=>
 oif bh (
 some (D.aO [D.agg [J 0,J 0,aJ ⟨#[]⟩,D.val (.slice none 0 0)],bZ])
) (
 R (ox n [D.agg [aa ab 0,aa ab 1,aa ab 2,aa ab 3],ah,D.val (.slice none 0 0)]) fun v20=>
 R (
 bk (DJ n) n [ah,v20,J 0,aa ab 0,aa ab 1,aa ab 2,aa ab 3,J 0,J 0,aJ ⟨#[]⟩,D.val (.slice none 0 0)]
)<|a7 fun ls=>
 R (pM n [D.agg [I ls 1,I ls 2,I ls 3,I ls 4],I ls 0,J 1,J 0]) fun dy=>
 R (extP 0 dy) fun dm=>
 R (extP 1 dy) fun eA=>
 R (extP 2 dy) fun du=>
 aw (aL 4 dm)<|
 aw (aL 4 (D.agg [aa dm 0,aa dm 1,aa dm 2,aa dm 3]))<|
 some (D.aO [D.agg [aa dm 0,aa dm 1,aa dm 2,aa dm 3],du])
)
def kE(n:Nat):List D→Option D
 |[ab,ah]=>DK n ab ah
 |_=>none
def Ub(n:Nat)(ab:D)(ah:D):Option D:=
 R (unP .neg (J 1048576)) fun bM=>
 R (binP false .lss ab bM) fun v10=>
 R (gD v10 false (
 R (binP false .gtr ab (J 1048576)) fun bq=>
 some bq
)) fun bq=>
 R (pickP v10 (au true) bq) fun bh=>
 R (gD bh false (
 R (unP .neg (J 1048576)) fun cb=>
 R (binP false .lss ah cb) fun v20=>
 some v20
)) fun v20=>
 R (pickP bh (au true) v20) fun bK=>
 R (gD bK false (
 R (binP false .gtr ah (J 1048576)) fun cM=>
 some cM
)) fun cM=>
 R (pickP bK (au true) cM) fun cp=>
 R (gD cp false (
 R (binP false .lss ah ab) fun v30=>
 some v30
)) fun v30=>
 R (pickP cp (au true) v30) fun dJ=>
 R (gD dJ false (
 R (binP false .sub ah ab) fun fK=>
 R (binP false .gtr fK (J 4096)) fun dh=>
 some dh
)) fun dh=>
 R (pickP dJ (au true) dh) fun dy=>
 oif dy (
 some (D.aO [D.agg [au false,J 0,J 0],J 2])
) (
 aw (bC ab)<|
 aw (bC ah)<|
 aw (aL 3 (D.agg [au false,ab,ah]))<|
 some (D.aO [D.agg [au false,ab,ah],J 0])
)
def oy(n:Nat):List D→Option D
 |[ab,ah]=>Ub n ab ah
 |_=>none
def DL(n:Nat)(ls:List D):Option (List D⊕(List D⊕D)):=
 R (lenP (I ls 0)) fun cl=>
 R (binP false .lss (I ls 2) cl) fun bM=>
 oif bM (
 R (a2 4 (I ls 0) (I ls 2)) fun eV=>
 R (aW false 1 0 eV) fun bF=>
 R (binP false .eql bF (I ls 1)) fun bE=>
 oif bE (
 aU (
 aU (
 some (I ls 2)
)
)
) (
 R (binP false .add (I ls 2) (J 1)) fun v11=>
 some (.inl [I ls 0,I ls 1,v11])
)
) (
 aU (
 some (.inl [])
)
)
def Uc(n:Nat)(ab:D)(ah:D):Option D:=
 R (
 bk (DL n) n [ab,ah,J 0]
)<|a7 fun ls=>
 some (J (-1))
def sj(n:Nat):List D→Option D
 |[ab,ah]=>Uc n ab ah
 |_=>none
def DM(n:Nat)(ls:List D):Option (List D⊕(List D⊕D)):=
 R (lenP (I ls 0)) fun v6=>
 R (binP false .lss (I ls 1) v6) fun b1=>
 oif b1 (
 R (a2 3 (I ls 0) (I ls 1)) fun agr=>
 R (aW false 1 0 agr) fun bq=>
 R (unP .not bq) fun bh=>
 oif bh (
 aU (
 aU (
 some (au false)
)
)
) (
 R (binP false .add (I ls 1) (J 1)) fun bM=>
 some (.inl [I ls 0,bM])
)
) (
 aU (
 some (.inl [])
)
)
def Ud(n:Nat)(ab:D):Option D:=
 R (
 bk (DM n) n [ab,J 0]
)<|a7 fun ls=>
 some (au true)
def DN(n:Nat):List D→Option D
 |[ab]=>Ud n ab
 |_=>none
def HC(n:Nat)(ls:List D):Option (List D⊕(List D⊕D)):=
 R (binP false .lss (I ls 2) (J 4)) fun dm=>
 oif dm (
 R (cH ((esD (I ls 3))).length (I ls 2)) fun ags=>
 R (((esD (I ls 3)))[ags]?) fun agt=>
 R (aW false 1 0 agt) fun c3=>
 R (jI false [I ls 0,c3]) fun gk=>
 R (cH ((esD (I ls 3))).length (I ls 2)) fun agu=>
 R (((esD (I ls 3)))[agu]?) fun agv=>
 R (aW false 1 0 agv) fun fz=>
 R (jI true [I ls 1,fz]) fun e5=>
 R (binP false .add (I ls 2) (J 1)) fun du=>
 some (.inl [gk,e5,du,D.aD 1 (esD (I ls 3))])
) (
 aU (
 some (.inl [I ls 0,I ls 1])
)
)
def Ue(n:Nat)(ab:D)(ah:D):Option D:=
 aw (aL 3 ab)<|
 aw (aL 3 ah)<|
 R (binP false .mul (aa ab 1) (aa ah 1)) fun bq=>
 R (binP false .mul (aa ab 1) (aa ah 2)) fun cb=>
 R (binP false .mul (aa ab 2) (aa ah 1)) fun cD=>
 R (binP false .mul (aa ab 2) (aa ah 2)) fun cC=>
 aw (bC bq)<|
 aw (bC cb)<|
 aw (bC cD)<|
 aw (bC cC)<|
 R (cH ([[bq],[cb],[cD],[cC]]).length (J 0)) fun agw=>
 R (([[bq],[cb],[cD],[cC]])[agw]?) fun agx=>
 R (aW false 1 0 agx) fun dB=>
 R (cH ([[bq],[cb],[cD],[cC]]).length (J 0)) fun agy=>
 R (([[bq],[cb],[cD],[cC]])[agy]?) fun agz=>
 R (aW false 1 0 agz) fun dh=>
 R (
 bk (HC n) n [dB,dh,J 1,D.aD 1 [[bq],[cb],[cD],[cC]]]
)<|a7 fun ls=>
 some (D.aO [I ls 0,I ls 1])
def DO(n:Nat):List D→Option D
 |[ab,ah]=>Ue n ab ah
 |_=>none
def HD(n:Nat)(ab:D)(ah:D):Option D:=
 aw (aL 4 ab)<|
 R (
 R (binP false .eql (aa ab 0) (J 5)) fun bq=>
 R (
 oif bq (
 some (.inl [ah,J 13,aa ab 0,bq,aa ab 0,aa ab 1,aa ab 2,aa ab 3,au false,J 0,J 0,au true,J 0,J 0])
) (
 R (binP false .eql (aa ab 0) (J 6)) fun bh=>
 R (
 oif bh (
 some (.inl [ah,J 13,aa ab 0,bh,aa ab 0,aa ab 1,aa ab 2,aa ab 3,au false,J 0,J 0,au true,J 0,J 0])
) (
 R (binP false .eql (aa ab 0) (J 7)) fun bF=>
 R (
 oif bF (
 some (.inl [ah,J 13,aa ab 0,bF,aa ab 0,aa ab 1,aa ab 2,aa ab 3,au false,J 0,J 0,au true,J 0,J 0])
) (
 R (binP false .eql (aa ab 0) (J 8)) fun bw=>
 R (
 oif bw (
 some (.inl [ah,J 13,aa ab 0,bw,aa ab 0,aa ab 1,aa ab 2,aa ab 3,au false,J 0,J 0,au true,J 0,J 0])
) (
 R (binP false .eql (aa ab 0) (J 9)) fun bE=>
 some (.inl [ah,J 13,aa ab 0,bE,aa ab 0,aa ab 1,aa ab 2,aa ab 3,au false,J 0,J 0,au true,J 0,J 0])
)
)<|a7 fun ls=>
 some (.inl [I ls 0,I ls 1,I ls 2,I ls 3,I ls 4,I ls 5,I ls 6,I ls 7,I ls 8,I ls 9,I ls 10,I ls 11,I ls 12,I ls 13])
)
)<|a7 fun ls=>
 some (.inl [I ls 0,I ls 1,I ls 2,I ls 3,I ls 4,I ls 5,I ls 6,I ls 7,I ls 8,I ls 9,I ls 10,I ls 11,I ls 12,I ls 13])
)
)<|a7 fun ls=>
 some (.inl [I ls 0,I ls 1,I ls 2,I ls 3,I ls 4,I ls 5,I ls 6,I ls 7,I ls 8,I ls 9,I ls 10,I ls 11,I ls 12,I ls 13])
)
)<|a7 fun ls=>
 oif (I ls 3) (
 R (DN n [I ls 0]) fun v20=>
 R (unP .not v20) fun bK=>
 oif bK (
 aU (
 some (D.aO [D.agg [au false,J 0,J 0],I ls 1])
)
) (
 aw (aL 3 (D.agg [I ls 11,I ls 12,I ls 13]))<|
 aU (
 some (D.aO [D.agg [I ls 11,I ls 12,I ls 13],J 0])
)
)
) (
 R (binP false .eql (I ls 2) (J 10)) fun cp=>
 R (
 oif cp (
 some (.inl [I ls 0,I ls 1,I ls 2,cp,I ls 4,I ls 5,I ls 6,I ls 7,I ls 8,I ls 9,I ls 10,I ls 11,I ls 12,I ls 13])
) (
 R (binP false .eql (I ls 2) (J 11)) fun cE=>
 some (.inl [I ls 0,I ls 1,I ls 2,cE,I ls 4,I ls 5,I ls 6,I ls 7,I ls 8,I ls 9,I ls 10,I ls 11,I ls 12,I ls 13])
)
)<|a7 fun ls=>
 oif (I ls 3) (
 R (a2 3 (I ls 0) (J 0)) fun r5=>
 R (aW false 1 0 r5) fun dJ=>
 R (a2 3 (I ls 0) (J 1)) fun L8=>
 R (aW false 1 0 L8) fun fK=>
 R (binP true .neq dJ fK) fun dh=>
 oif dh (
 aU (
 some (D.aO [D.agg [au false,J 0,J 0],I ls 1])
)
) (
 aw (aL 3 (D.agg [I ls 11,I ls 12,I ls 13]))<|
 aU (
 some (D.aO [D.agg [I ls 11,I ls 12,I ls 13],J 0])
)
)
) (
 R (binP false .eql (I ls 2) (J 18)) fun eU=>
 oif eU (
 R (a2 3 (I ls 0) (J 0)) fun agA=>
 R (aW false 1 0 agA) fun c3=>
 R (unP .not c3) fun gk=>
 R (gD gk false (
 R (a2 3 (I ls 0) (J 1)) fun sf=>
 R (aW false 1 0 sf) fun fz=>
 R (a2 3 (I ls 0) (J 2)) fun MK=>
 R (aW false 1 0 MK) fun e0=>
 R (binP true .neq fz e0) fun e1=>
 some e1
)) fun e1=>
 R (pickP gk (au true) e1) fun ho=>
 oif ho (
 aU (
 some (D.aO [D.agg [au false,J 0,J 0],I ls 1])
)
) (
 R (a2 3 (I ls 0) (J 1)) fun Cq=>
 R (aW false 1 0 Cq) fun k2=>
 oif k2 (
 aw (aL 3 (D.agg [I ls 11,I ls 12,I ls 13]))<|
 aU (
 some (D.aO [D.agg [I ls 11,I ls 12,I ls 13],J 0])
)
) (
 R (a2 3 (I ls 0) (J 1)) fun Mh=>
 R (aW false 1 1 Mh) fun fJ=>
 R (a2 3 (I ls 0) (J 2)) fun agB=>
 R (aW false 1 1 agB) fun gw=>
 R (jI false [fJ,gw]) fun gx=>
 R (a2 3 (I ls 0) (J 1)) fun C5=>
 R (aW false 1 2 C5) fun gv=>
 R (a2 3 (I ls 0) (J 2)) fun ML=>
 R (aW false 1 2 ML) fun ie=>
 R (jI true [gv,ie]) fun k3=>
 R (oy n [gx,k3]) fun ju=>
 R (extP 0 ju) fun hb=>
 R (extP 1 ju) fun hp=>
 aw (aL 3 hb)<|
 aU (
 some (D.aO [D.agg [aa hb 0,aa hb 1,aa hb 2],hp])
)
)
)
) (
 some (.inl [I ls 0,I ls 1,I ls 4,I ls 5,I ls 6,I ls 7,I ls 8,I ls 9,I ls 10,I ls 11,I ls 12,I ls 13])
)
)
)
)<|a7 fun ls=>
 R (a2 3 (I ls 0) (J 0)) fun Mi=>
 R (aW false 1 0 Mi) fun Uf=>
 R (gD Uf false (
 R (a2 3 (I ls 0) (J 1)) fun LW=>
 R (aW false 1 0 LW) fun iz=>
 some iz
)) fun iz=>
 R (pickP Uf (au true) iz) fun iV=>
 oif iV (
 some (D.aO [D.agg [au false,J 0,J 0],I ls 1])
) (
 R (binP false .eql (I ls 2) (J 14)) fun py=>
 oif py (
 R (a2 3 (I ls 0) (J 0)) fun LX=>
 R (aW false 1 1 LX) fun l6=>
 R (a2 3 (I ls 0) (J 1)) fun agC=>
 R (aW false 1 1 agC) fun wq=>
 R (binP false .add l6 wq) fun wz=>
 R (a2 3 (I ls 0) (J 0)) fun agD=>
 R (aW false 1 2 agD) fun kD=>
 R (a2 3 (I ls 0) (J 1)) fun agE=>
 R (aW false 1 2 agE) fun LB=>
 R (binP false .add kD LB) fun C7=>
 R (oy n [wz,C7]) fun yM=>
 R (extP 0 yM) fun qH=>
 R (extP 1 yM) fun oo=>
 aw (aL 3 qH)<|
 some (D.aO [D.agg [aa qH 0,aa qH 1,aa qH 2],oo])
) (
 R (binP false .eql (I ls 2) (J 15)) fun qI=>
 oif qI (
 R (a2 3 (I ls 0) (J 0)) fun agF=>
 R (aW false 1 1 agF) fun Cy=>
 R (a2 3 (I ls 0) (J 1)) fun Cz=>
 R (aW false 1 2 Cz) fun iA=>
 R (binP false .sub Cy iA) fun vF=>
 R (a2 3 (I ls 0) (J 0)) fun MM=>
 R (aW false 1 2 MM) fun v3=>
 R (a2 3 (I ls 0) (J 1)) fun agG=>
 R (aW false 1 1 agG) fun hJ=>
 R (binP false .sub v3 hJ) fun HE=>
 R (oy n [vF,HE]) fun r3=>
 R (extP 0 r3) fun tR=>
 R (extP 1 r3) fun MN=>
 aw (aL 3 tR)<|
 some (D.aO [D.agg [aa tR 0,aa tR 1,aa tR 2],MN])
) (
 R (binP false .eql (I ls 2) (J 16)) fun MO=>
 oif MO (
 R (a2 3 (I ls 0) (J 0)) fun agH=>
 R (aW true 3 0 agH) fun agI=>
 R (a2 3 (I ls 0) (J 1)) fun agJ=>
 R (aW true 3 0 agJ) fun MP=>
 R (DO n [agI,MP]) fun y9=>
 R (extP 0 y9) fun tK=>
 R (extP 1 y9) fun CF=>
 R (oy n [tK,CF]) fun qJ=>
 R (extP 0 qJ) fun v7=>
 R (extP 1 qJ) fun y1=>
 aw (aL 3 v7)<|
 some (D.aO [D.agg [aa v7 0,aa v7 1,aa v7 2],y1])
) (
 R (binP false .eql (I ls 2) (J 17)) fun C8=>
 oif C8 (
 R (a2 4 (I ls 5) (J 1)) fun agK=>
 R (aW false 1 0 agK) fun CB=>
 R (binP false .neq CB (J 1)) fun wF=>
 R (gD wF false (
 R (a2 4 (I ls 5) (J 1)) fun agL=>
 R (aW false 1 1 agL) fun yZ=>
 R (binP false .lss yZ (J 1)) fun MQ=>
 some MQ
)) fun MQ=>
 R (pickP wF (au true) MQ) fun agM=>
 oif agM (
 some (D.aO [D.agg [au false,J 0,J 0],J 2])
) (
 R (a2 4 (I ls 5) (J 1)) fun agN=>
 R (aW false 1 1 agN) fun agO=>
 R (binP false .sub agO (J 1)) fun MR=>
 R (oy n [J 0,MR]) fun Ug=>
 R (extP 0 Ug) fun y0=>
 R (extP 1 Ug) fun CD=>
 aw (aL 3 y0)<|
 some (D.aO [D.agg [aa y0 0,aa y0 1,aa y0 2],CD])
)
) (
 aw (aL 3 (D.agg [I ls 9,I ls 10,I ls 11]))<|
 some (D.aO [D.agg [I ls 9,I ls 10,I ls 11],J 0])
)
)
)
)
)
def w7(n:Nat):List D→Option D
 |[ab,ah]=>HD n ab ah
 |_=>none
def zt(w8:List D→Option D)(n:Nat)(ls:List D):Option (List D⊕(List D⊕D)):=
 R (lenP (I ls 6)) fun fJ=>
 R (binP false .lss (I ls 2) fJ) fun eh=>
 oif eh (
 R (a2 4 (I ls 6) (I ls 2)) fun agP=>
 R (aW true 4 0 agP) fun lE=>
 R (w8 [I ls 0,lE,I ls 1]) fun jO=>
 R (extP 0 jO) fun ie=>
 R (extP 1 jO) fun k3=>
 aw (aL 3 ie)<|
 R (binP false .neq k3 (J 0)) fun hb=>
 oif hb (
 aU (
 aU (
 some (D.aO [D.agg [au false,J 0,J 0],k3])
)
)
) (
 aw (aL 3 (D.agg [aa ie 0,aa ie 1,aa ie 2]))<|
 aw (c7 (((esD (I ls 10))).length+([[aa ie 0,aa ie 1,aa ie 2]]).length) 24)<|
 R (binP false .add (I ls 2) (J 1)) fun om=>
 some (.inl [I ls 0,I ls 1,om,I ls 3,I ls 4,I ls 5,I ls 6,I ls 7,I ls 8,I ls 9,D.aD 3 ((esD (I ls 10))++[[aa ie 0,aa ie 1,aa ie 2]])])
)
) (
 aU (
 some (.inl [I ls 3,I ls 4,I ls 5,I ls 6,I ls 7,I ls 8,I ls 9,D.aD 3 (esD (I ls 10))])
)
)
def sk(w8:List D→Option D)(n:Nat)(ab:D)(ah:D)(aT:D):Option D:=
 aw (aL 4 ah)<|
 R (binP false .eql (aa ah 0) (J 1)) fun bF=>
 oif bF (
 R (oy n [aa ah 1,aa ah 1]) fun bK=>
 R (extP 0 bK) fun bQ=>
 R (extP 1 bK) fun b6=>
 aw (aL 3 bQ)<|
 some (D.aO [D.agg [aa bQ 0,aa bQ 1,aa bQ 2],b6])
) (
 R (binP false .eql (aa ah 0) (J 2)) fun cM=>
 oif cM (
 some (D.aO [D.agg [au true,J 0,J 0],J 0])
) (
 R (binP false .eql (aa ah 0) (J 3)) fun cj=>
 R (
 oif cj (
 some (.inl [ab,aT,cj,aa ah 0,aa ah 1,aa ah 2,aa ah 3,au false,J 0,J 0])
) (
 R (binP false .eql (aa ah 0) (J 4)) fun cC=>
 some (.inl [ab,aT,cC,aa ah 0,aa ah 1,aa ah 2,aa ah 3,au false,J 0,J 0])
)
)<|a7 fun ls=>
 oif (I ls 2) (
 R (sj n [I ls 0,I ls 5]) fun dB=>
 R (binP false .lss dB (J 0)) fun fK=>
 oif fK (
 some (D.aO [D.agg [au false,J 0,J 0],J 12])
) (
 R (binP false .eql (I ls 3) (J 4)) fun eA=>
 R (gD eA true (
 R (unP .not (I ls 1)) fun c2=>
 some c2
)) fun c2=>
 R (pickP eA c2 (au false)) fun ed=>
 oif ed (
 some (D.aO [D.agg [au false,J 0,J 0],J 24])
) (
 R (a2 4 (I ls 0) dB) fun wg=>
 R (aW false 1 1 wg) fun eD=>
 oif eD (
 some (D.aO [D.agg [au true,J 0,J 0],J 0])
) (
 R (a2 4 (I ls 0) dB) fun MK=>
 R (aW false 1 2 MK) fun e0=>
 R (a2 4 (I ls 0) dB) fun Cw=>
 R (aW false 1 3 Cw) fun eB=>
 R (oy n [e0,eB]) fun ha=>
 R (extP 0 ha) fun iy=>
 R (extP 1 ha) fun k2=>
 aw (aL 3 iy)<|
 some (D.aO [D.agg [aa iy 0,aa iy 1,aa iy 2],k2])
)
)
)
) (
 R (
 bk (zt w8 n) n [I ls 0,I ls 1,J 0,I ls 3,I ls 4,I ls 5,I ls 6,I ls 7,I ls 8,I ls 9,D.aD 3 ([]:List (List D))]
)<|a7 fun ls=>
 R (w7 n [D.agg [I ls 0,I ls 1,I ls 2,I ls 3],D.aD 3 (esD (I ls 7))]) fun l5=>
 aw l5.flat<|
 R (extP 0 l5) fun iz=>
 R (extP 1 l5) fun iV=>
 aw (aL 3 iz)<|
 some (D.aO [D.agg [aa iz 0,aa iz 1,aa iz 2],iV])
)
)
)
def k4:Nat→List D→Option D
 |0,_=>none
 |n+1,aF=>match aF with
  |[ab,ah,aT]=>sk (k4 n) n ab ah aT
  |_=>none
def MS(n:Nat)(ab:D)(ah:D)(aT:D):Option D:=
 aw (aL 4 ah)<|
 R (si n [D.agg [aa ah 0,aa ah 1,aa ah 2,aa ah 3]]) fun v10=>
 R (binP false .neq v10 (J 0)) fun bY=>
 oif bY (
 some (D.aO [D.agg [au false,J 0,J 0],v10])
) (
 R (k4 n [ab,D.agg [aa ah 0,aa ah 1,aa ah 2,aa ah 3],aT]) fun bE=>
 R (extP 0 bE) fun cb=>
 R (extP 1 bE) fun v20=>
 aw (aL 3 cb)<|
 some (D.aO [D.agg [aa cb 0,aa cb 1,aa cb 2],v20])
)
def tS(n:Nat):List D→Option D
 |[ab,ah,aT]=>MS n ab ah aT
 |_=>none
def MT(n:Nat)(ab:D)(ah:D)(aT:D):Option D:=
 aw (aL 8 ab)<|
 aw (aL 4 ah)<|
 R (kE n [D.agg [aa ah 0,aa ah 1,aa ah 2,aa ah 3],aa ab 1]) fun bq=>
 R (extP 0 bq) fun bh=>
 R (extP 1 bq) fun bF=>
 aw (aL 4 bh)<|
 R (binP false .neq bF (J 0)) fun bE=>
 oif bE (
 some (D.aO [D.agg [au false,J 0,J 0],bF])
) (
 R (tS n [aa ab 0,D.agg [aa bh 0,aa bh 1,aa bh 2,aa bh 3],aT]) fun cM=>
 R (extP 0 cM) fun cp=>
 R (extP 1 cM) fun cE=>
 aw (aL 3 cp)<|
 some (D.aO [D.agg [aa cp 0,aa cp 1,aa cp 2],cE])
)
def qV(n:Nat):List D→Option D
 |[ab,ah,aT]=>MT n ab ah aT
 |_=>none
def w9(n:Nat)(ls:List D):Option (List D⊕(List D⊕D)):=
 R (lenP (I ls 2)) fun bY=>
 R (binP false .lss (I ls 0) bY) fun bZ=>
 oif bZ (
 R (a2 5 (I ls 2) (I ls 0)) fun ps=>
 R (aW false 1 0 ps) fun bK=>
 R (qT n [bK]) fun bQ=>
 R (unP .not bQ) fun b6=>
 oif b6 (
 aU (
 aU (
 some (D.aO [I ls 0,J 12])
)
)
) (
 R (a2 5 (I ls 2) (I ls 0)) fun r5=>
 R (aW false 1 0 r5) fun dJ=>
 R (wY n [D.agg [I ls 1,I ls 2,I ls 3,I ls 4,I ls 5,I ls 6,I ls 7,I ls 8],dJ]) fun dt=>
 R (binP false .geq dt (J 0)) fun dB=>
 R (gD dB false (
 R (a2 5 (I ls 2) (I ls 0)) fun nD=>
 R (aW false 1 0 nD) fun eU=>
 R (wZ n [D.agg [I ls 1,I ls 2,I ls 3,I ls 4,I ls 5,I ls 6,I ls 7,I ls 8],eU]) fun c2=>
 R (binP false .lss c2 (I ls 0)) fun dN=>
 some dN
)) fun dN=>
 R (pickP dB (au true) dN) fun c3=>
 oif c3 (
 aU (
 aU (
 some (D.aO [I ls 0,J 6])
)
)
) (
 R (binP false .add (I ls 0) (J 1)) fun bh=>
 some (.inl [bh,I ls 1,I ls 2,I ls 3,I ls 4,I ls 5,I ls 6,I ls 7,I ls 8])
)
)
) (
 aU (
 some (.inl [I ls 1,I ls 2,I ls 3,I ls 4,I ls 5,I ls 6,I ls 7,I ls 8])
)
)
def DP(n:Nat)(ls:List D):Option (List D⊕(List D⊕D)):=
 R (lenP (I ls 2)) fun c8=>
 R (binP false .lss (I ls 0) c8) fun fz=>
 oif fz (
 R (DB n [D.agg [I ls 1,I ls 2,I ls 3,I ls 4,I ls 5,I ls 6,I ls 7,I ls 8],I ls 0]) fun e1=>
 R (a2 1 e1 (I ls 0)) fun Cw=>
 R (aW false 1 0 Cw) fun j9=>
 oif j9 (
 aU (
 aU (
 some (D.aO [I ls 0,J 14])
)
)
) (
 R (binP false .add (I ls 0) (J 1)) fun hn=>
 some (.inl [hn,I ls 1,I ls 2,I ls 3,I ls 4,I ls 5,I ls 6,I ls 7,I ls 8])
)
) (
 aU (
 some (.inl [I ls 1,I ls 2,I ls 3,I ls 4,I ls 5,I ls 6,I ls 7,I ls 8])
)
)
def DQ(n:Nat)(ls:List D):Option (List D⊕(List D⊕D)):=
 R (lenP (I ls 2)) fun g9=>
 R (binP false .lss (I ls 0) g9) fun iw=>
 oif iw (
 R (a2 5 (I ls 2) (I ls 0)) fun Dl=>
 R (aW true 4 1 Dl) fun mZ=>
 R (qV n [D.agg [I ls 1,I ls 2,I ls 3,I ls 4,I ls 5,I ls 6,I ls 7,I ls 8],mZ,au false]) fun gW=>
 R (extP 0 gW) fun gv=>
 R (extP 1 gW) fun lE=>
 aw (aL 3 gv)<|
 R (binP false .neq lE (J 0)) fun jO=>
 oif jO (
 aU (
 aU (
 some (D.aO [I ls 0,lE])
)
)
) (
 R (binP false .add (I ls 0) (J 1)) fun fA=>
 some (.inl [fA,I ls 1,I ls 2,I ls 3,I ls 4,I ls 5,I ls 6,I ls 7,I ls 8])
)
) (
 aU (
 some (.inl [])
)
)
def DR(n:Nat)(ab:D):Option D:=
 aw (aL 8 ab)<|
 R (
 bk (w9 n) n [J 0,aa ab 0,aa ab 1,aa ab 2,aa ab 3,aa ab 4,aa ab 5,aa ab 6,aa ab 7]
)<|a7 fun ls=>
 R (
 bk (DP n) n [J 0,I ls 0,I ls 1,I ls 2,I ls 3,I ls 4,I ls 5,I ls 6,I ls 7]
)<|a7 fun ls=>
 R (
 bk (DQ n) n [J 0,I ls 0,I ls 1,I ls 2,I ls 3,I ls 4,I ls 5,I ls 6,I ls 7]
)<|a7 fun ls=>
 some (D.aO [J 0,J 0])
def tT(n:Nat):List D→Option D
 |[ab]=>DR n ab
 |_=>none
def MU(n:Nat)(ab:D)(ah:D)(aT:D):Option D:=
 aw (aL 8 ab)<|
 aw (aL 4 ah)<|
 R (qV n [D.agg [aa ab 0,aa ab 1,aa ab 2,aa ab 3,aa ab 4,aa ab 5,aa ab 6,aa ab 7],D.agg [aa ah 0,aa ah 1,aa ah 2,aa ah 3],aT]) fun bZ=>
 R (extP 0 bZ) fun bq=>
 R (extP 1 bZ) fun bh=>
 aw (aL 3 bq)<|
 R (binP false .eql bh (J 0)) fun bw=>
 R (gD bw true (
 R (unP .not (aa bq 0)) fun bK=>
 some bK
)) fun bK=>
 R (pickP bw bK (au false)) fun bQ=>
 oif bQ (
 some (J 13)
) (
 some bh
)
def tU(n:Nat):List D→Option D
 |[ab,ah,aT]=>MU n ab ah aT
 |_=>none
def DS(n:Nat)(ls:List D):Option (List D⊕(List D⊕D)):=
 R (lenP (I ls 0)) fun bY=>
 R (binP false .lss (I ls 2) bY) fun bZ=>
 oif bZ (
 R (a2 4 (I ls 0) (I ls 2)) fun ps=>
 R (aW true 4 0 ps) fun v20=>
 R (tU n [D.agg [I ls 3,I ls 4,I ls 5,I ls 6,I ls 7,I ls 8,I ls 9,I ls 10],v20,I ls 1]) fun bQ=>
 R (binP false .neq bQ (J 0)) fun cD=>
 oif cD (
 aU (
 aU (
 some (D.aO [I ls 2,bQ])
)
)
) (
 R (binP false .add (I ls 2) (J 1)) fun bh=>
 some (.inl [I ls 0,I ls 1,bh,I ls 3,I ls 4,I ls 5,I ls 6,I ls 7,I ls 8,I ls 9,I ls 10])
)
) (
 aU (
 some (.inl [])
)
)
def MV(n:Nat)(ab:D)(ah:D)(aT:D):Option D:=
 aw (aL 8 ab)<|
 R (
 bk (DS n) n [ah,aT,J 0,aa ab 0,aa ab 1,aa ab 2,aa ab 3,aa ab 4,aa ab 5,aa ab 6,aa ab 7]
)<|a7 fun ls=>
 some (D.aO [J 0,J 0])
def sl(n:Nat):List D→Option D
 |[ab,ah,aT]=>MV n ab ah aT
 |_=>none
def zu(n:Nat)(ls:List D):Option (List D⊕(List D⊕(List D⊕(List D⊕(List D⊕D))))):=
 R (binP false .lss (I ls 2) (I ls 0)) fun cC=>
 oif cC (
 R (a2 5 (I ls 7) (I ls 2)) fun wT=>
 R (aW false 1 0 wT) fun dy=>
 R (a2 5 (I ls 7) (I ls 0)) fun wL=>
 R (aW false 1 0 wL) fun ed=>
 R (binP false .eql dy ed) fun dN=>
 oif dN (
 aU (
 aU (
 aU (
 aU (
 aU (
 some (D.aO [I ls 0,J 6])
)
)
)
)
)
) (
 R (binP false .add (I ls 2) (J 1)) fun dJ=>
 some (.inl [I ls 0,I ls 1,dJ,I ls 3,I ls 4,I ls 5,I ls 6,I ls 7,I ls 8,I ls 9,I ls 10])
)
) (
 aU (
 some (.inl [I ls 0,I ls 1,I ls 3,I ls 4,I ls 5,I ls 6,I ls 7,I ls 8,I ls 9,I ls 10])
)
)
def tV(n:Nat)(ls:List D):Option (List D⊕(List D⊕D)):=
 R (lenP (I ls 5)) fun bY=>
 R (binP false .lss (I ls 0) bY) fun bZ=>
 oif bZ (
 R (
 R (a2 5 (I ls 5) (I ls 0)) fun r0=>
 R (aW false 1 0 r0) fun bQ=>
 R (wY n [D.agg [I ls 1,I ls 2,I ls 3,I ls 4,I ls 5,I ls 6,I ls 7,I ls 8],bQ]) fun b6=>
 R (binP false .lss b6 (J 0)) fun cM=>
 oif cM (
 aU (
 aU (
 aU (
 some (D.aO [I ls 0,J 12])
)
)
)
) (
 R (
 bk (zu n) n [I ls 0,b6,J 0,I ls 1,I ls 2,I ls 3,I ls 4,I ls 5,I ls 6,I ls 7,I ls 8]
)<|a7 fun ls=>
 R (a2 5 (I ls 6) (I ls 0)) fun C4=>
 R (aW true 4 1 C4) fun hn=>
 R (qV n [D.agg [I ls 2,I ls 3,I ls 4,I ls 5,I ls 6,I ls 7,I ls 8,I ls 9],hn,au false]) fun hI=>
 R (extP 0 hI) fun e0=>
 R (extP 1 hI) fun e1=>
 aw (aL 3 e0)<|
 R (binP false .eql e1 (J 0)) fun eL=>
 R (gD eL true (
 R (a2 4 (I ls 2) (I ls 1)) fun wO=>
 R (aW false 1 1 wO) fun fA=>
 R (binP true .neq (aa e0 0) fA) fun fJ=>
 some fJ
)) fun fJ=>
 R (pickP eL fJ (au false)) fun eh=>
 R (
 oif eh (
 some (.inl [I ls 0,J 13,I ls 2,I ls 3,I ls 4,I ls 5,I ls 6,I ls 7,I ls 8,I ls 9])
) (
 some (.inl [I ls 0,e1,I ls 2,I ls 3,I ls 4,I ls 5,I ls 6,I ls 7,I ls 8,I ls 9])
)
)<|a7 fun ls=>
 R (binP false .neq (I ls 1) (J 0)) fun om=>
 oif om (
 aU (
 aU (
 aU (
 some (D.aO [I ls 0,I ls 1])
)
)
)
) (
 some (.inl [I ls 0,I ls 2,I ls 3,I ls 4,I ls 5,I ls 6,I ls 7,I ls 8,I ls 9])
)
)
)<|a7 fun ls=>
 R (binP false .add (I ls 0) (J 1)) fun bh=>
 some (.inl [bh,I ls 1,I ls 2,I ls 3,I ls 4,I ls 5,I ls 6,I ls 7,I ls 8])
) (
 aU (
 some (.inl [])
)
)
def MW(n:Nat)(ab:D):Option D:=
 aw (aL 8 ab)<|
 R (
 bk (tV n) n [J 0,aa ab 0,aa ab 1,aa ab 2,aa ab 3,aa ab 4,aa ab 5,aa ab 6,aa ab 7]
)<|a7 fun ls=>
 some (D.aO [J 0,J 0])
def zv(n:Nat):List D→Option D
 |[ab]=>MW n ab
 |_=>none
def Uh(n:Nat)(ab:D):Option D:=
 R (
 R (binP false .eql ab (J 1)) fun j8=>
 oif j8 (
 aU (
 some (J 0)
)
) (
 R (binP false .eql ab (J 2)) fun b1=>
 R (
 oif b1 (
 some (.inl [ab,b1])
) (
 R (binP false .eql ab (J 6)) fun cl=>
 R (
 oif cl (
 some (.inl [ab,cl])
) (
 R (binP false .eql ab (J 7)) fun bM=>
 R (
 oif bM (
 some (.inl [ab,bM])
) (
 R (binP false .eql ab (J 8)) fun v10=>
 R (
 oif v10 (
 some (.inl [ab,v10])
) (
 R (binP false .eql ab (J 10)) fun v11=>
 R (
 oif v11 (
 some (.inl [ab,v11])
) (
 R (binP false .eql ab (J 11)) fun bY=>
 R (
 oif bY (
 some (.inl [ab,bY])
) (
 R (binP false .eql ab (J 12)) fun bZ=>
 some (.inl [ab,bZ])
)
)<|a7 fun ls=>
 some (.inl [I ls 0,I ls 1])
)
)<|a7 fun ls=>
 some (.inl [I ls 0,I ls 1])
)
)<|a7 fun ls=>
 some (.inl [I ls 0,I ls 1])
)
)<|a7 fun ls=>
 some (.inl [I ls 0,I ls 1])
)
)<|a7 fun ls=>
 some (.inl [I ls 0,I ls 1])
)
)<|a7 fun ls=>
 oif (I ls 1) (
 aU (
 some (J 1)
)
) (
 R (binP false .eql (I ls 0) (J 3)) fun bh=>
 R (
 oif bh (
 some (.inl [bh])
) (
 R (binP false .eql (I ls 0) (J 4)) fun bF=>
 R (
 oif bF (
 some (.inl [bF])
) (
 R (binP false .eql (I ls 0) (J 5)) fun bw=>
 R (
 oif bw (
 some (.inl [bw])
) (
 R (binP false .eql (I ls 0) (J 9)) fun bE=>
 R (
 oif bE (
 some (.inl [bE])
) (
 R (binP false .eql (I ls 0) (J 13)) fun cb=>
 some (.inl [cb])
)
)<|a7 fun ls=>
 some (.inl [I ls 0])
)
)<|a7 fun ls=>
 some (.inl [I ls 0])
)
)<|a7 fun ls=>
 some (.inl [I ls 0])
)
)<|a7 fun ls=>
 oif (I ls 0) (
 aU (
 some (J 2)
)
) (
 some (.inl [])
)
)
)
)<|a7 fun ls=>
 some (J (-1))
def zw(n:Nat):List D→Option D
 |[ab]=>Uh n ab
 |_=>none
def Ui(n:Nat)(ab:D):Option D:=
 aw (aL 4 ab)<|
 R (binP false .eql (aa ab 0) (J 0)) fun j8=>
 R (gD j8 true (
 R (binP false .eql (aa ab 1) (J 0)) fun bM=>
 some bM
)) fun bM=>
 R (pickP j8 bM (au false)) fun v10=>
 R (gD v10 true (
 R (binP false .eql (aa ab 2) (aJ ⟨#[]⟩)) fun bq=>
 some bq
)) fun bq=>
 R (pickP v10 bq (au false)) fun bh=>
 R (gD bh true (
 R (lenP (aa ab 3)) fun cb=>
 R (binP false .eql cb (J 0)) fun v20=>
 some v20
)) fun v20=>
 R (pickP bh v20 (au false)) fun bK=>
 some bK
def DT(n:Nat):List D→Option D
 |[ab]=>Ui n ab
 |_=>none
def zx(n:Nat)(ab:D):Option D:=
 aw (aL 6 ab)<|
 R (zw n [aa ab 0]) fun cl=>
 R (binP false .lss cl (J 0)) fun bM=>
 oif bM (
 some (J 11)
) (
 R (binP false .eql (aa ab 0) (J 1)) fun bY=>
 R (
 oif bY (
 R (si n [D.agg [aa ab 1,aa ab 2,aa ab 3,aa ab 4]]) fun bh=>
 R (binP false .neq bh (J 0)) fun bw=>
 oif bw (
 aU (
 some bh
)
) (
 R (sh n [D.agg [aa ab 1,aa ab 2,aa ab 3,aa ab 4]]) fun bQ=>
 R (extP 0 bQ) fun b6=>
 R (extP 1 bQ) fun cD=>
 R (lenP cD) fun cp=>
 R (binP false .gtr cp (J 0)) fun cE=>
 oif cE (
 aU (
 some (J 24)
)
) (
 some (.inl [aa ab 0,aa ab 1,aa ab 2,aa ab 3,aa ab 4,aa ab 5])
)
)
) (
 some (.inl [aa ab 0,aa ab 1,aa ab 2,aa ab 3,aa ab 4,aa ab 5])
)
)<|a7 fun ls=>
 R (lenP (I ls 5)) fun v30=>
 R (zw n [I ls 0]) fun dB=>
 R (binP false .neq v30 dB) fun ds=>
 R (gD ds false (
 R (binP false .neq (I ls 0) (J 1)) fun dm=>
 some dm
)) fun eA=>
 R (gD eA true (
 R (DT n [D.agg [I ls 1,I ls 2,I ls 3,I ls 4]]) fun c2=>
 R (unP .not c2) fun ed=>
 some ed
)) fun ed=>
 R (gD ds false (
 R (pickP eA ed (au false)) fun dN=>
 some dN
)) fun dN=>
 R (pickP ds (au true) dN) fun c3=>
 oif c3 (
 some (J 3)
) (
 some (J 0)
)
)
def sm(n:Nat):List D→Option D
 |[ab]=>zx n ab
 |_=>none
def HF(xa:List D→Option D)(n:Nat)(ls:List D):Option (List D⊕(List D⊕D)):=
 R (lenP (I ls 8)) fun cE=>
 R (binP false .lss (I ls 2) cE) fun cj=>
 oif cj (
 R (a2 6 (I ls 8) (I ls 2)) fun wT=>
 R (aW true 6 0 wT) fun dh=>
 R (binP false .add (I ls 0) (J 1)) fun dm=>
 R (xa [dh,dm,I ls 1]) fun du=>
 R (extP 0 du) fun eU=>
 R (extP 1 du) fun c2=>
 R (binP false .neq eU (J 0)) fun dN=>
 oif dN (
 aU (
 aU (
 some (D.aO [eU,c2])
)
)
) (
 R (binP false .add (I ls 2) (J 1)) fun v30=>
 some (.inl [I ls 0,c2,v30,I ls 3,I ls 4,I ls 5,I ls 6,I ls 7,I ls 8])
)
) (
 aU (
 some (.inl [I ls 1])
)
)
def MX(xa:List D→Option D)(n:Nat)(ab:D)(ah:D)(aT:D):Option D:=
 aw (aL 6 ab)<|
 R (binP false .gtr ah (J 64)) fun v11=>
 oif v11 (
 some (D.aO [J 17,aT])
) (
 R (sm n [D.agg [aa ab 0,aa ab 1,aa ab 2,aa ab 3,aa ab 4,aa ab 5]]) fun bq=>
 R (binP false .neq bq (J 0)) fun bF=>
 oif bF (
 some (D.aO [bq,aT])
) (
 R (binP false .add aT (J 1)) fun v20=>
 R (binP false .gtr v20 (J 4096)) fun bQ=>
 oif bQ (
 some (D.aO [J 4,v20])
) (
 R (
 bk (HF xa n) n [ah,v20,J 0,aa ab 0,aa ab 1,aa ab 2,aa ab 3,aa ab 4,aa ab 5]
)<|a7 fun ls=>
 some (D.aO [J 0,I ls 0])
)
)
)
def qW:Nat→List D→Option D
 |0,_=>none
 |n+1,aF=>match aF with
  |[ab,ah,aT]=>MX (qW n) n ab ah aT
  |_=>none
def Uj(n:Nat)(ab:D):Option D:=
 aw (aL 6 ab)<|
 R (qW n [D.agg [aa ab 0,aa ab 1,aa ab 2,aa ab 3,aa ab 4,aa ab 5],J 1,J 0]) fun b1=>
 R (extP 0 b1) fun cl=>
 R (extP 1 b1) fun bM=>
 some cl
def xb(n:Nat):List D→Option D
 |[ab]=>Uj n ab
 |_=>none
def DU(xc:List D→Option D)(n:Nat)(ls:List D):Option (List D⊕(List D⊕D)):=
 R (lenP (I ls 14)) fun bw=>
 R (binP false .lss (I ls 0) bw) fun bE=>
 oif bE (
 R (a2 6 (I ls 14) (I ls 0)) fun MH=>
 R (aW true 6 0 MH) fun cp=>
 R (xc [D.agg [I ls 1,I ls 2,I ls 3,I ls 4,I ls 5,I ls 6,I ls 7,I ls 8],cp]) fun cE=>
 R (binP false .neq cE (J 0)) fun cC=>
 oif cC (
 aU (
 aU (
 some cE
)
)
) (
 R (binP false .add (I ls 0) (J 1)) fun v20=>
 some (.inl [v20,I ls 1,I ls 2,I ls 3,I ls 4,I ls 5,I ls 6,I ls 7,I ls 8,I ls 9,I ls 10,I ls 11,I ls 12,I ls 13,I ls 14])
)
) (
 aU (
 some (.inl [])
)
)
def DV(xc:List D→Option D)(n:Nat)(ab:D)(ah:D):Option D:=
 aw (aL 8 ab)<|
 aw (aL 6 ah)<|
 R (binP false .eql (aa ah 0) (J 1)) fun bM=>
 oif bM (
 R (tU n [D.agg [aa ab 0,aa ab 1,aa ab 2,aa ab 3,aa ab 4,aa ab 5,aa ab 6,aa ab 7],D.agg [aa ah 1,aa ah 2,aa ah 3,aa ah 4],au false]) fun bZ=>
 some bZ
) (
 R (
 bk (DU xc n) n [J 0,aa ab 0,aa ab 1,aa ab 2,aa ab 3,aa ab 4,aa ab 5,aa ab 6,aa ab 7,aa ah 0,aa ah 1,aa ah 2,aa ah 3,aa ah 4,aa ah 5]
)<|a7 fun ls=>
 some (J 0)
)
def qX:Nat→List D→Option D
 |0,_=>none
 |n+1,aF=>match aF with
  |[ab,ah]=>DV (qX n) n ab ah
  |_=>none
def zy(n:Nat)(ls:List D):Option (List D⊕(List D⊕(List D⊕(List D⊕(List D⊕D))))):=
 R (binP false .lss (I ls 1) (I ls 0)) fun cM=>
 oif cM (
 R (a2 7 (I ls 9) (I ls 1)) fun sa=>
 R (aW false 1 0 sa) fun dB=>
 R (a2 7 (I ls 9) (I ls 0)) fun DW=>
 R (aW false 1 0 DW) fun eA=>
 R (binP false .eql dB eA) fun du=>
 oif du (
 aU (
 aU (
 aU (
 aU (
 aU (
 some (D.aO [I ls 0,J 6])
)
)
)
)
)
) (
 R (binP false .add (I ls 1) (J 1)) fun cE=>
 some (.inl [I ls 0,cE,I ls 2,I ls 3,I ls 4,I ls 5,I ls 6,I ls 7,I ls 8,I ls 9])
)
) (
 aU (
 some (.inl [I ls 0,I ls 2,I ls 3,I ls 4,I ls 5,I ls 6,I ls 7,I ls 8,I ls 9])
)
)
def tW(n:Nat)(ls:List D):Option (List D⊕(List D⊕D)):=
 R (lenP (I ls 8)) fun v10=>
 R (binP false .lss (I ls 0) v10) fun v11=>
 oif v11 (
 R (
 R (a2 7 (I ls 8) (I ls 0)) fun De=>
 R (aW false 1 0 De) fun cb=>
 R (qT n [cb]) fun v20=>
 R (unP .not v20) fun bK=>
 oif bK (
 aU (
 aU (
 aU (
 some (D.aO [I ls 0,J 12])
)
)
)
) (
 R (
 bk (zy n) n [I ls 0,J 0,I ls 1,I ls 2,I ls 3,I ls 4,I ls 5,I ls 6,I ls 7,I ls 8]
)<|a7 fun ls=>
 R (a2 7 (I ls 8) (I ls 0)) fun Ds=>
 R (aW true 6 1 Ds) fun iU=>
 R (xb n [iU]) fun gu=>
 R (binP false .eql gu (J 0)) fun c8=>
 R (
 oif c8 (
 R (a2 7 (I ls 8) (I ls 0)) fun wP=>
 R (aW true 6 1 wP) fun ho=>
 R (qX n [D.agg [I ls 1,I ls 2,I ls 3,I ls 4,I ls 5,I ls 6,I ls 7,I ls 8],ho]) fun eL=>
 some (.inl [I ls 0,eL,I ls 1,I ls 2,I ls 3,I ls 4,I ls 5,I ls 6,I ls 7,I ls 8])
) (
 some (.inl [I ls 0,gu,I ls 1,I ls 2,I ls 3,I ls 4,I ls 5,I ls 6,I ls 7,I ls 8])
)
)<|a7 fun ls=>
 R (binP false .neq (I ls 1) (J 0)) fun eB=>
 oif eB (
 aU (
 aU (
 aU (
 some (D.aO [I ls 0,I ls 1])
)
)
)
) (
 some (.inl [I ls 0,I ls 2,I ls 3,I ls 4,I ls 5,I ls 6,I ls 7,I ls 8,I ls 9])
)
)
)<|a7 fun ls=>
 R (binP false .add (I ls 0) (J 1)) fun bZ=>
 some (.inl [bZ,I ls 1,I ls 2,I ls 3,I ls 4,I ls 5,I ls 6,I ls 7,I ls 8])
) (
 aU (
 some (.inl [])
)
)
def MY(n:Nat)(ab:D):Option D:=
 aw (aL 8 ab)<|
 R (
 bk (tW n) n [J 0,aa ab 0,aa ab 1,aa ab 2,aa ab 3,aa ab 4,aa ab 5,aa ab 6,aa ab 7]
)<|a7 fun ls=>
 some (D.aO [J 0,J 0])
def zz(n:Nat):List D→Option D
 |[ab]=>MY n ab
 |_=>none
def pN(n:Nat)(ls:List D):Option (List D⊕(List D⊕D)):=
 R (binP false .lss (I ls 0) (J ((esD (I ls 11))).length)) fun dy=>
 oif dy (
 R (cH ((esD (I ls 11))).length (I ls 0)) fun agQ=>
 R (((esD (I ls 11)))[agQ]?) fun agR=>
 R (aW false 1 0 agR) fun ed=>
 R (binP false .gtr ed (J 64)) fun dN=>
 oif dN (
 R (binP false .add (I ls 0) (J 1)) fun gk=>
 aw (bC gk)<|
 aw (aL 2 (D.agg [gk,J 64]))<|
 aU (
 aU (
 some (D.aO [D.agg [gk,J 64],J 18])
)
)
) (
 R (binP false .add (I ls 0) (J 1)) fun eA=>
 some (.inl [eA,I ls 1,I ls 2,I ls 3,I ls 4,I ls 5,I ls 6,I ls 7,I ls 8,I ls 9,I ls 10,D.aD 1 (esD (I ls 11))])
)
) (
 aU (
 some (.inl [I ls 1,I ls 2,I ls 3,I ls 4,I ls 5,I ls 6,I ls 7,I ls 8,I ls 9,I ls 10])
)
)
def hU(n:Nat)(ls:List D):Option (List D⊕(List D⊕D)):=
 R (binP false .leq (I ls 2) (J 8)) fun g9=>
 oif g9 (
 R (
 R (
 R (binP false .eql (I ls 2) (J 2)) fun eh=>
 R (
 oif eh (
 R (tT n [D.agg [I ls 3,I ls 4,I ls 5,I ls 6,I ls 7,I ls 8,I ls 9,I ls 10]]) fun gw=>
 R (extP 0 gw) fun gx=>
 R (extP 1 gw) fun gF=>
 some (.inl [gx,gF,I ls 2,I ls 3,I ls 4,I ls 5,I ls 6,I ls 7,I ls 8,I ls 9,I ls 10,I ls 11,I ls 12])
) (
 R (binP false .eql (I ls 2) (J 3)) fun gW=>
 R (
 oif gW (
 R (sl n [D.agg [I ls 3,I ls 4,I ls 5,I ls 6,I ls 7,I ls 8,I ls 9,I ls 10],I ls 5,au false]) fun ie=>
 R (extP 0 ie) fun k3=>
 R (extP 1 ie) fun ju=>
 some (.inl [k3,ju,I ls 2,I ls 3,I ls 4,I ls 5,I ls 6,I ls 7,I ls 8,I ls 9,I ls 10,I ls 11,I ls 12])
) (
 R (binP false .eql (I ls 2) (J 4)) fun hp=>
 R (
 oif hp (
 R (sl n [D.agg [I ls 3,I ls 4,I ls 5,I ls 6,I ls 7,I ls 8,I ls 9,I ls 10],I ls 6,au false]) fun hT=>
 R (extP 0 hT) fun wB=>
 R (extP 1 hT) fun tI=>
 some (.inl [wB,tI,I ls 2,I ls 3,I ls 4,I ls 5,I ls 6,I ls 7,I ls 8,I ls 9,I ls 10,I ls 11,I ls 12])
) (
 R (binP false .eql (I ls 2) (J 5)) fun iz=>
 R (
 oif iz (
 R (zv n [D.agg [I ls 3,I ls 4,I ls 5,I ls 6,I ls 7,I ls 8,I ls 9,I ls 10]]) fun qA=>
 R (extP 0 qA) fun qB=>
 R (extP 1 qA) fun wC=>
 some (.inl [qB,wC,I ls 2,I ls 3,I ls 4,I ls 5,I ls 6,I ls 7,I ls 8,I ls 9,I ls 10,I ls 11,I ls 12])
) (
 R (binP false .eql (I ls 2) (J 6)) fun py=>
 R (
 oif py (
 R (sl n [D.agg [I ls 3,I ls 4,I ls 5,I ls 6,I ls 7,I ls 8,I ls 9,I ls 10],I ls 8,au true]) fun r8=>
 R (extP 0 r8) fun vA=>
 R (extP 1 r8) fun ix=>
 some (.inl [vA,ix,I ls 2,I ls 3,I ls 4,I ls 5,I ls 6,I ls 7,I ls 8,I ls 9,I ls 10,I ls 11,I ls 12])
) (
 R (binP false .eql (I ls 2) (J 7)) fun wz=>
 R (
 oif wz (
 R (sl n [D.agg [I ls 3,I ls 4,I ls 5,I ls 6,I ls 7,I ls 8,I ls 9,I ls 10],I ls 9,au false]) fun tL=>
 R (extP 0 tL) fun wE=>
 R (extP 1 tL) fun mY=>
 some (.inl [wE,mY,I ls 2,I ls 3,I ls 4,I ls 5,I ls 6,I ls 7,I ls 8,I ls 9,I ls 10,I ls 11,I ls 12])
) (
 R (binP false .eql (I ls 2) (J 8)) fun C7=>
 R (
 oif C7 (
 R (zz n [D.agg [I ls 3,I ls 4,I ls 5,I ls 6,I ls 7,I ls 8,I ls 9,I ls 10]]) fun oo=>
 R (extP 0 oo) fun yY=>
 R (extP 1 oo) fun qI=>
 some (.inl [yY,qI,I ls 2,I ls 3,I ls 4,I ls 5,I ls 6,I ls 7,I ls 8,I ls 9,I ls 10,I ls 11,I ls 12])
) (
 some (.inl [I ls 0,I ls 1,I ls 2,I ls 3,I ls 4,I ls 5,I ls 6,I ls 7,I ls 8,I ls 9,I ls 10,I ls 11,I ls 12])
)
)<|a7 fun ls=>
 some (.inl [I ls 0,I ls 1,I ls 2,I ls 3,I ls 4,I ls 5,I ls 6,I ls 7,I ls 8,I ls 9,I ls 10,I ls 11,I ls 12])
)
)<|a7 fun ls=>
 some (.inl [I ls 0,I ls 1,I ls 2,I ls 3,I ls 4,I ls 5,I ls 6,I ls 7,I ls 8,I ls 9,I ls 10,I ls 11,I ls 12])
)
)<|a7 fun ls=>
 some (.inl [I ls 0,I ls 1,I ls 2,I ls 3,I ls 4,I ls 5,I ls 6,I ls 7,I ls 8,I ls 9,I ls 10,I ls 11,I ls 12])
)
)<|a7 fun ls=>
 some (.inl [I ls 0,I ls 1,I ls 2,I ls 3,I ls 4,I ls 5,I ls 6,I ls 7,I ls 8,I ls 9,I ls 10,I ls 11,I ls 12])
)
)<|a7 fun ls=>
 some (.inl [I ls 0,I ls 1,I ls 2,I ls 3,I ls 4,I ls 5,I ls 6,I ls 7,I ls 8,I ls 9,I ls 10,I ls 11,I ls 12])
)
)<|a7 fun ls=>
 some (.inl [I ls 0,I ls 1,I ls 2,I ls 3,I ls 4,I ls 5,I ls 6,I ls 7,I ls 8,I ls 9,I ls 10,I ls 11,I ls 12])
)
)<|a7 fun ls=>
 some (.inl [I ls 0,I ls 1,I ls 2,I ls 3,I ls 4,I ls 5,I ls 6,I ls 7,I ls 8,I ls 9,I ls 10,I ls 11,I ls 12])
)<|a7 fun ls=>
 R (binP false .neq (I ls 1) (J 0)) fun za=>
 oif za (
 aw (bC (I ls 2))<|
 aw (bC (I ls 0))<|
 aw (aL 2 (D.agg [I ls 2,I ls 0]))<|
 aU (
 aU (
 aU (
 some (D.aO [D.agg [I ls 2,I ls 0],I ls 1])
)
)
)
) (
 some (.inl [I ls 0,I ls 1,I ls 2,I ls 3,I ls 4,I ls 5,I ls 6,I ls 7,I ls 8,I ls 9,I ls 10,I ls 11,I ls 12])
)
)<|a7 fun ls=>
 R (binP false .add (I ls 2) (J 1)) fun dU=>
 some (.inl [I ls 0,I ls 1,dU,I ls 3,I ls 4,I ls 5,I ls 6,I ls 7,I ls 8,I ls 9,I ls 10,I ls 11,I ls 12])
) (
 aU (
 some (.inl [I ls 11,I ls 12])
)
)
def xd(n:Nat)(ab:D):Option D:=
 aw (aL 8 ab)<|
 R (lenP (aa ab 0)) fun v11=>
 R (lenP (aa ab 1)) fun bq=>
 R (lenP (aa ab 2)) fun bw=>
 R (lenP (aa ab 3)) fun v20=>
 R (lenP (aa ab 4)) fun b6=>
 R (lenP (aa ab 5)) fun cp=>
 R (lenP (aa ab 6)) fun cC=>
 R (lenP (aa ab 7)) fun dt=>
 aw (bC v11)<|
 aw (bC bq)<|
 aw (bC bw)<|
 aw (bC v20)<|
 aw (bC b6)<|
 aw (bC cp)<|
 aw (bC cC)<|
 aw (bC dt)<|
 R (
 bk (pN n) n [J 0,aa ab 0,aa ab 1,aa ab 2,aa ab 3,aa ab 4,aa ab 5,aa ab 6,aa ab 7,J 0,J 0,D.aD 1 [[v11],[bq],[bw],[v20],[b6],[cp],[cC],[dt]]]
)<|a7 fun ls=>
 R (Dt n [I ls 0]) fun fz=>
 R (extP 0 fz) fun e5=>
 R (extP 1 fz) fun hn=>
 R (binP false .neq hn (J 0)) fun e0=>
 oif e0 (
 aw (bC e5)<|
 aw (aL 2 (D.agg [J 1,e5]))<|
 some (D.aO [D.agg [J 1,e5],hn])
) (
 R (Dv n [D.agg [I ls 0,I ls 1,I ls 2,I ls 3,I ls 4,I ls 5,I ls 6,I ls 7]]) fun eB=>
 R (binP false .gtr eB (J 30)) fun ha=>
 oif ha (
 some (D.aO [D.agg [J 1,J 0],J 18])
) (
 R (
 bk (hU n) n [e5,hn,J 2,I ls 0,I ls 1,I ls 2,I ls 3,I ls 4,I ls 5,I ls 6,I ls 7,I ls 8,I ls 9]
)<|a7 fun ls=>
 some (D.aO [D.agg [J 0,J 0],J 0])
)
)
def oz(n:Nat):List D→Option D
 |[ab]=>xd n ab
 |_=>none
def Uk(n:Nat)(ab:D):Option D:=
 aw (aL 8 ab)<|
 R (oz n [D.agg [aa ab 0,aa ab 1,aa ab 2,aa ab 3,aa ab 4,aa ab 5,aa ab 6,aa ab 7]]) fun b1=>
 R (extP 0 b1) fun cl=>
 R (extP 1 b1) fun bM=>
 aw (aL 2 cl)<|
 R (binP false .eql bM (J 0)) fun v11=>
 some v11
def DX(n:Nat):List D→Option D
 |[ab]=>Uk n ab
 |_=>none
def HG(n:Nat)(ls:List D):Option (List D⊕(List D⊕D)):=
 R (lenP (I ls 0)) fun bq=>
 R (binP false .lss (I ls 2) bq) fun bh=>
 oif bh (
 R (a2 4 (I ls 0) (I ls 2)) fun r9=>
 R (aW true 4 0 r9) fun bQ=>
 R (kE n [bQ,I ls 1]) fun cD=>
 R (extP 0 cD) fun cM=>
 R (extP 1 cD) fun cp=>
 aw (aL 4 cM)<|
 R (binP false .neq cp (J 0)) fun cj=>
 oif cj (
 aU (
 aU (
 some (D.aO [D.val (.slice none 0 0),I ls 2,cp])
)
)
) (
 aw (aL 4 (D.agg [aa cM 0,aa cM 1,aa cM 2,aa cM 3]))<|
 aw (c7 (((esD (I ls 3))).length+([[aa cM 0,aa cM 1,aa cM 2,aa cM 3]]).length) 56)<|
 R (binP false .add (I ls 2) (J 1)) fun bw=>
 some (.inl [I ls 0,I ls 1,bw,D.aD 4 ((esD (I ls 3))++[[aa cM 0,aa cM 1,aa cM 2,aa cM 3]])])
)
) (
 aU (
 some (.inl [D.aD 4 (esD (I ls 3))])
)
)
def Ul(n:Nat)(ab:D)(ah:D):Option D:=
 R (
 bk (HG n) n [ab,ah,J 0,D.aD 4 ([]:List (List D))]
)<|a7 fun ls=>
 some (D.aO [D.aD 4 (esD (I ls 0)),J 0,J 0])
def nO(n:Nat):List D→Option D
 |[ab,ah]=>Ul n ab ah
 |_=>none
def zA(xe:List D→Option D)(n:Nat)(ls:List D):Option (List D⊕(List D⊕D)):=
 R (lenP (I ls 7)) fun dB=>
 R (binP false .lss (I ls 1) dB) fun ds=>
 oif ds (
 R (a2 6 (I ls 7) (I ls 1)) fun wL=>
 R (aW true 6 0 wL) fun c2=>
 R (xe [c2,I ls 0]) fun dN=>
 R (extP 0 dN) fun c3=>
 R (extP 1 dN) fun gk=>
 aw (aL 6 c3)<|
 R (binP false .neq gk (J 0)) fun gu=>
 oif gu (
 aU (
 aU (
 some (D.aO [D.agg [J 0,J 0,J 0,aJ ⟨#[]⟩,D.val (.slice none 0 0),D.val (.slice none 0 0)],gk])
)
)
) (
 aw (aL 6 (D.agg [aa c3 0,aa c3 1,aa c3 2,aa c3 3,aa c3 4,aa c3 5]))<|
 aw (c7 (((esD (I ls 14))).length+([[aa c3 0,aa c3 1,aa c3 2,aa c3 3,aa c3 4,aa c3 5]]).length) 88)<|
 R (binP false .add (I ls 1) (J 1)) fun dh=>
 some (.inl [I ls 0,dh,I ls 2,I ls 3,I ls 4,I ls 5,I ls 6,I ls 7,I ls 8,I ls 9,I ls 10,I ls 11,I ls 12,I ls 13,D.aD 6 ((esD (I ls 14))++[[aa c3 0,aa c3 1,aa c3 2,aa c3 3,aa c3 4,aa c3 5]])])
)
) (
 aU (
 some (.inl [I ls 2,I ls 3,I ls 4,I ls 5,I ls 6,I ls 7,I ls 8,I ls 9,I ls 10,I ls 11,I ls 12,I ls 13,D.aD 6 (esD (I ls 14))])
)
)
def qY(xe:List D→Option D)(n:Nat)(ab:D)(ah:D):Option D:=
 aw (aL 6 ab)<|
 R (binP false .eql (aa ab 0) (J 1)) fun bq=>
 oif bq (
 R (kE n [D.agg [aa ab 1,aa ab 2,aa ab 3,aa ab 4],ah]) fun cb=>
 R (extP 0 cb) fun v20=>
 R (extP 1 cb) fun bK=>
 aw (aL 4 v20)<|
 R (binP false .neq bK (J 0)) fun b6=>
 oif b6 (
 some (D.aO [D.agg [J 0,J 0,J 0,aJ ⟨#[]⟩,D.val (.slice none 0 0),D.val (.slice none 0 0)],bK])
) (
 aw (aL 4 (D.agg [aa v20 0,aa v20 1,aa v20 2,aa v20 3]))<|
 aw (aL 6 (D.agg [aa ab 0,aa v20 0,aa v20 1,aa v20 2,aa v20 3,aa ab 5]))<|
 some (D.aO [D.agg [aa ab 0,aa v20 0,aa v20 1,aa v20 2,aa v20 3,aa ab 5],J 0])
)
) (
 R (
 bk (zA xe n) n [ah,J 0,aa ab 0,aa ab 1,aa ab 2,aa ab 3,aa ab 4,aa ab 5,J 0,J 0,J 0,aJ ⟨#[]⟩,D.val (.slice none 0 0),D.val (.slice none 0 0),D.aD 6 ([]:List (List D))]
)<|a7 fun ls=>
 aw (bC (I ls 0))<|
 aw (bC (I ls 1))<|
 aw (bC (I ls 2))<|
 aw (bC (I ls 3))<|
 aw (bC (I ls 4))<|
 some (D.aO [D.agg [I ls 0,I ls 1,I ls 2,I ls 3,I ls 4,D.aD 6 (esD (I ls 12))],J 0])
)
def m2:Nat→List D→Option D
 |0,_=>none
 |n+1,aF=>match aF with
  |[ab,ah]=>qY (m2 n) n ab ah
  |_=>none
def MZ(n:Nat)(ab:D)(ah:D):Option D:=
 aw (aL 6 ab)<|
 R (xb n [D.agg [aa ab 0,aa ab 1,aa ab 2,aa ab 3,aa ab 4,aa ab 5]]) fun cl=>
 R (binP false .neq cl (J 0)) fun v10=>
 oif v10 (
 some (D.aO [D.agg [J 0,J 0,J 0,aJ ⟨#[]⟩,D.val (.slice none 0 0),D.val (.slice none 0 0)],cl])
) (
 R (m2 n [D.agg [aa ab 0,aa ab 1,aa ab 2,aa ab 3,aa ab 4,aa ab 5],ah]) fun bh=>
 R (extP 0 bh) fun bF=>
 R (extP 1 bh) fun bw=>
 aw (aL 6 bF)<|
 some (D.aO [D.agg [aa bF 0,aa bF 1,aa bF 2,aa bF 3,aa bF 4,aa bF 5],bw])
)
def xf(n:Nat):List D→Option D
 |[ab,ah]=>MZ n ab ah
 |_=>none
def zB(n:Nat)(ls:List D):Option (List D⊕(List D⊕D)):=
 R (lenP (I ls 5)) fun e0=>
 R (binP false .lss (I ls 0) e0) fun e1=>
 oif e1 (
 R (a2 5 (I ls 5) (I ls 0)) fun Cx=>
 R (aW true 4 1 Cx) fun iw=>
 R (kE n [iw,I ls 2]) fun fJ=>
 R (extP 0 fJ) fun eh=>
 R (extP 1 fJ) fun iT=>
 aw (aL 4 eh)<|
 R (binP false .neq iT (J 0)) fun gw=>
 oif gw (
 aw (bC (I ls 0))<|
 aw (aL 2 (D.agg [J 5,I ls 0]))<|
 aU (
 aU (
 some (D.aO [D.agg [D.val (.slice none 0 0),D.val (.slice none 0 0),D.val (.slice none 0 0),D.val (.slice none 0 0),D.val (.slice none 0 0),D.val (.slice none 0 0),D.val (.slice none 0 0),D.val (.slice none 0 0)],D.agg [J 5,I ls 0],iT])
)
)
) (
 R (a2 5 (I ls 5) (I ls 0)) fun LV=>
 R (aW false 1 0 LV) fun hb=>
 aw (bC hb)<|
 aw (aL 4 (D.agg [aa eh 0,aa eh 1,aa eh 2,aa eh 3]))<|
 aw (aL 5 (D.agg [hb,aa eh 0,aa eh 1,aa eh 2,aa eh 3]))<|
 aw (c7 (((esD (I ls 26))).length+([[hb,aa eh 0,aa eh 1,aa eh 2,aa eh 3]]).length) 72)<|
 R (binP false .add (I ls 0) (J 1)) fun eL=>
 some (.inl [eL,I ls 1,I ls 2,I ls 3,I ls 4,I ls 5,I ls 6,I ls 7,I ls 8,I ls 9,I ls 10,I ls 11,I ls 12,I ls 13,I ls 14,I ls 15,I ls 16,I ls 17,I ls 18,I ls 19,I ls 20,I ls 21,I ls 22,I ls 23,I ls 24,I ls 25,D.aD 5 ((esD (I ls 26))++[[hb,aa eh 0,aa eh 1,aa eh 2,aa eh 3]])])
)
) (
 aU (
 some (.inl [I ls 1,I ls 2,I ls 3,I ls 4,I ls 5,I ls 6,I ls 7,I ls 8,I ls 9,I ls 10,I ls 11,I ls 12,I ls 13,I ls 14,I ls 15,I ls 16,I ls 17,I ls 18,I ls 19,I ls 20,I ls 21,I ls 22,I ls 23,I ls 24,I ls 25,D.aD 5 (esD (I ls 26))])
)
)
def zC(n:Nat)(ls:List D):Option (List D⊕(List D⊕D)):=
 R (lenP (I ls 8)) fun qC=>
 R (binP false .lss (I ls 0) qC) fun Cy=>
 oif Cy (
 R (a2 7 (I ls 8) (I ls 0)) fun MM=>
 R (aW true 6 1 MM) fun v3=>
 R (xf n [v3,I ls 2]) fun zb=>
 R (extP 0 zb) fun hJ=>
 R (extP 1 zb) fun HE=>
 aw (aL 6 hJ)<|
 R (binP false .neq HE (J 0)) fun tR=>
 oif tR (
 aw (bC (I ls 0))<|
 aw (aL 2 (D.agg [J 8,I ls 0]))<|
 aU (
 aU (
 some (D.aO [D.agg [D.val (.slice none 0 0),D.val (.slice none 0 0),D.val (.slice none 0 0),D.val (.slice none 0 0),D.val (.slice none 0 0),D.val (.slice none 0 0),D.val (.slice none 0 0),D.val (.slice none 0 0)],D.agg [J 8,I ls 0],HE])
)
)
) (
 R (a2 7 (I ls 8) (I ls 0)) fun agS=>
 R (aW false 1 0 agS) fun tK=>
 aw (bC tK)<|
 aw (aL 6 (D.agg [aa hJ 0,aa hJ 1,aa hJ 2,aa hJ 3,aa hJ 4,aa hJ 5]))<|
 aw (aL 7 (D.agg [tK,aa hJ 0,aa hJ 1,aa hJ 2,aa hJ 3,aa hJ 4,aa hJ 5]))<|
 aw (c7 (((esD (I ls 26))).length+([[tK,aa hJ 0,aa hJ 1,aa hJ 2,aa hJ 3,aa hJ 4,aa hJ 5]]).length) 104)<|
 R (binP false .add (I ls 0) (J 1)) fun vD=>
 some (.inl [vD,I ls 1,I ls 2,I ls 3,I ls 4,I ls 5,I ls 6,I ls 7,I ls 8,I ls 9,I ls 10,I ls 11,I ls 12,I ls 13,I ls 14,I ls 15,I ls 16,I ls 17,I ls 18,I ls 19,I ls 20,I ls 21,I ls 22,I ls 23,I ls 24,D.aD 5 (esD (I ls 25)),D.aD 7 ((esD (I ls 26))++[[tK,aa hJ 0,aa hJ 1,aa hJ 2,aa hJ 3,aa hJ 4,aa hJ 5]])])
)
) (
 aU (
 some (.inl [I ls 9,I ls 10,I ls 11,I ls 12,I ls 13,I ls 14,I ls 15,I ls 16,I ls 17,I ls 18,I ls 19,I ls 20,I ls 21,I ls 22,I ls 23,I ls 24,D.aD 5 (esD (I ls 25)),D.aD 7 (esD (I ls 26))])
)
)
def M0(n:Nat)(ab:D):Option D:=
 aw (aL 8 ab)<|
 aw (bC (aa ab 0))<|
 aw (aL 8 (D.agg [aa ab 0,D.val (.slice none 0 0),D.val (.slice none 0 0),D.val (.slice none 0 0),D.val (.slice none 0 0),D.val (.slice none 0 0),D.val (.slice none 0 0),D.val (.slice none 0 0)]))<|
 R (nO n [aa ab 2,aa ab 1]) fun b6=>
 R (extP 0 b6) fun cD=>
 R (extP 1 b6) fun cM=>
 R (extP 2 b6) fun cp=>
 R (binP false .neq cp (J 0)) fun cj=>
 oif cj (
 aw (bC cM)<|
 aw (aL 2 (D.agg [J 3,cM]))<|
 some (D.aO [D.agg [D.val (.slice none 0 0),D.val (.slice none 0 0),D.val (.slice none 0 0),D.val (.slice none 0 0),D.val (.slice none 0 0),D.val (.slice none 0 0),D.val (.slice none 0 0),D.val (.slice none 0 0)],D.agg [J 3,cM],cp])
) (
 aw (bC cD)<|
 R (nO n [aa ab 3,aa ab 1]) fun du=>
 R (extP 0 du) fun eU=>
 R (extP 1 du) fun c2=>
 R (extP 2 du) fun ed=>
 R (binP false .neq ed (J 0)) fun c3=>
 oif c3 (
 aw (bC c2)<|
 aw (aL 2 (D.agg [J 4,c2]))<|
 some (D.aO [D.agg [D.val (.slice none 0 0),D.val (.slice none 0 0),D.val (.slice none 0 0),D.val (.slice none 0 0),D.val (.slice none 0 0),D.val (.slice none 0 0),D.val (.slice none 0 0),D.val (.slice none 0 0)],D.agg [J 4,c2],ed])
) (
 aw (bC eU)<|
 R (
 bk (zB n) n [J 0,aa ab 0,aa ab 1,aa ab 2,aa ab 3,aa ab 4,aa ab 5,aa ab 6,aa ab 7,D.val (.slice none 0 0),D.val (.slice none 0 0),D.val (.slice none 0 0),D.val (.slice none 0 0),D.val (.slice none 0 0),D.val (.slice none 0 0),D.val (.slice none 0 0),D.val (.slice none 0 0),J 0,J 0,aa ab 0,D.val (.slice none 0 0),cD,eU,D.val (.slice none 0 0),D.val (.slice none 0 0),D.val (.slice none 0 0),D.aD 5 []]
)<|a7 fun ls=>
 R (nO n [I ls 5,I ls 1]) fun iV=>
 R (extP 0 iV) fun lF=>
 R (extP 1 iV) fun qA=>
 R (extP 2 iV) fun qB=>
 R (binP false .neq qB (J 0)) fun vB=>
 oif vB (
 aw (bC qA)<|
 aw (aL 2 (D.agg [J 6,qA]))<|
 some (D.aO [D.agg [D.val (.slice none 0 0),D.val (.slice none 0 0),D.val (.slice none 0 0),D.val (.slice none 0 0),D.val (.slice none 0 0),D.val (.slice none 0 0),D.val (.slice none 0 0),D.val (.slice none 0 0)],D.agg [J 6,qA],qB])
) (
 aw (bC lF)<|
 R (nO n [I ls 6,I ls 1]) fun vC=>
 R (extP 0 vC) fun pq=>
 R (extP 1 vC) fun kD=>
 R (extP 2 vC) fun tL=>
 R (binP false .neq tL (J 0)) fun mY=>
 oif mY (
 aw (bC kD)<|
 aw (aL 2 (D.agg [J 7,kD]))<|
 some (D.aO [D.agg [D.val (.slice none 0 0),D.val (.slice none 0 0),D.val (.slice none 0 0),D.val (.slice none 0 0),D.val (.slice none 0 0),D.val (.slice none 0 0),D.val (.slice none 0 0),D.val (.slice none 0 0)],D.agg [J 7,kD],tL])
) (
 aw (bC pq)<|
 R (
 aw (nilP (I ls 24))<|
 bk (zC n) n [J 0,I ls 0,I ls 1,I ls 2,I ls 3,I ls 4,I ls 5,I ls 6,I ls 7,I ls 8,I ls 9,I ls 10,I ls 11,I ls 12,I ls 13,I ls 14,I ls 15,I ls 16,I ls 17,I ls 18,I ls 19,I ls 20,I ls 21,lF,pq,D.aD 5 (esD (I ls 25)),D.aD 7 []]
)<|a7 fun ls=>
 aw (aL 8 (D.agg [I ls 10,I ls 11,I ls 12,I ls 13,D.aD 5 (esD (I ls 16)),I ls 14,I ls 15,D.aD 7 (esD (I ls 17))]))<|
 some (D.aO [D.agg [I ls 10,I ls 11,I ls 12,I ls 13,D.aD 5 (esD (I ls 16)),I ls 14,I ls 15,D.aD 7 (esD (I ls 17))],D.agg [J 0,J 0],J 0])
)
)
)
)
def tX(n:Nat):List D→Option D
 |[ab]=>M0 n ab
 |_=>none
def HH(n:Nat)(ab:D):Option D:=
 aw (aL 8 ab)<|
 R (lenP (aa ab 1)) fun cl=>
 R (binP false .eql cl (J 0)) fun bM=>
 oif bM (
 aw (aL 8 (D.agg [aa ab 0,aa ab 1,aa ab 2,aa ab 3,aa ab 4,aa ab 5,aa ab 6,aa ab 7]))<|
 some (D.agg [aa ab 0,aa ab 1,aa ab 2,aa ab 3,aa ab 4,aa ab 5,aa ab 6,aa ab 7])
) (
 R (tX n [D.agg [aa ab 0,aa ab 1,aa ab 2,aa ab 3,aa ab 4,aa ab 5,aa ab 6,aa ab 7]]) fun bZ=>
 R (extP 0 bZ) fun bq=>
 R (extP 1 bZ) fun bh=>
 R (extP 2 bZ) fun bF=>
 aw (aL 8 bq)<|
 aw (aL 2 bh)<|
 aw (aL 8 (D.agg [aa bq 0,aa bq 1,aa bq 2,aa bq 3,aa bq 4,aa bq 5,aa bq 6,aa bq 7]))<|
 some (D.agg [aa bq 0,aa bq 1,aa bq 2,aa bq 3,aa bq 4,aa bq 5,aa bq 6,aa bq 7])
)
def sn(n:Nat):List D→Option D
 |[ab]=>HH n ab
 |_=>none
def pO(n:Nat)(ls:List D):Option (List D⊕(List D⊕D)):=
 R (lenP (I ls 0)) fun bh=>
 R (binP false .lss (I ls 1) bh) fun bF=>
 oif bF (
 R (a2 4 (I ls 2) (I ls 1)) fun Dg=>
 R (aW true 4 0 Dg) fun b6=>
 aw (aL 4 b6)<|
 R (gD (aa b6 1) true (
 R (a2 1 (I ls 0) (I ls 1)) fun r5=>
 R (aW false 1 0 r5) fun v30=>
 R (binP false .neq v30 (J 0)) fun dJ=>
 some dJ
)) fun dJ=>
 R (pickP (aa b6 1) dJ (au false)) fun dt=>
 R (gD dt true (
 R (a2 1 (I ls 0) (I ls 1)) fun wa=>
 R (aW false 1 0 wa) fun dy=>
 R (binP false .neq dy (J 1)) fun dm=>
 some dm
)) fun dm=>
 R (pickP dt dm (au false)) fun eA=>
 R (gD eA false (
 R (unP .not (aa b6 1)) fun ed=>
 some ed
)) fun dN=>
 R (gD dN true (
 R (a2 1 (I ls 0) (I ls 1)) fun wg=>
 R (aW false 1 0 wg) fun gu=>
 R (binP false .lss gu (aa b6 2)) fun fz=>
 some fz
)) fun e5=>
 R (gD e5 false (
 R (a2 1 (I ls 0) (I ls 1)) fun wP=>
 R (aW false 1 0 wP) fun e1=>
 R (binP false .gtr e1 (aa b6 3)) fun j9=>
 some j9
)) fun j9=>
 R (gD dN true (
 R (pickP e5 (au true) j9) fun eB=>
 some eB
)) fun eB=>
 R (gD eA false (
 R (pickP dN eB (au false)) fun ha=>
 some ha
)) fun ha=>
 R (pickP eA (au true) ha) fun iy=>
 oif iy (
 aU (
 aU (
 some (au false)
)
)
) (
 R (binP false .add (I ls 1) (J 1)) fun bE=>
 some (.inl [I ls 0,bE,I ls 2,I ls 3,I ls 4,I ls 5,I ls 6,I ls 7,I ls 8,I ls 9])
)
) (
 aU (
 some (.inl [])
)
)
def Um(n:Nat)(ab:D)(ah:D):Option D:=
 aw (aL 8 ab)<|
 R (lenP ah) fun cl=>
 R (lenP (aa ab 0)) fun v11=>
 R (binP false .neq cl v11) fun bY=>
 oif bY (
 some (au false)
) (
 R (
 bk (pO n) n [ah,J 0,aa ab 0,aa ab 1,aa ab 2,aa ab 3,aa ab 4,aa ab 5,aa ab 6,aa ab 7]
)<|a7 fun ls=>
 some (au true)
)
def zD(n:Nat):List D→Option D
 |[ab,ah]=>Um n ab ah
 |_=>none
def DY(xg:List D→Option D)(n:Nat)(ls:List D):Option (List D⊕(List D⊕D)):=
 R (lenP (I ls 4)) fun v10=>
 R (binP false .lss (I ls 0) v10) fun v11=>
 oif v11 (
 R (a2 4 (I ls 4) (I ls 0)) fun De=>
 R (aW true 4 0 De) fun bE=>
 R (xg [bE]) fun cb=>
 oif cb (
 aU (
 aU (
 some (au true)
)
)
) (
 R (binP false .add (I ls 0) (J 1)) fun bZ=>
 some (.inl [bZ,I ls 1,I ls 2,I ls 3,I ls 4])
)
) (
 aU (
 some (.inl [])
)
)
def HI(xg:List D→Option D)(n:Nat)(ab:D):Option D:=
 aw (aL 4 ab)<|
 R (binP false .eql (aa ab 0) (J 4)) fun v6=>
 oif v6 (
 some (au true)
) (
 R (
 bk (DY xg n) n [J 0,aa ab 0,aa ab 1,aa ab 2,aa ab 3]
)<|a7 fun ls=>
 some (au false)
)
def pP:Nat→List D→Option D
 |0,_=>none
 |n+1,aF=>match aF with
  |[ab]=>HI (pP n) n ab
  |_=>none
def Un(n:Nat)(ab:D):Option D:=
 oif ab (
 some (J 1)
) (
 some (J 0)
)
def nP(n:Nat):List D→Option D
 |[ab]=>Un n ab
 |_=>none
def HJ(n:Nat)(ab:D):Option D:=
 R (binP false .lss ab (J (-9007199254740992))) fun v4=>
 R (gD v4 false (
 R (binP false .gtr ab (J 9007199254740992)) fun b1=>
 some b1
)) fun b1=>
 R (pickP v4 (au true) b1) fun cl=>
 some cl
def tY(n:Nat):List D→Option D
 |[ab]=>HJ n ab
 |_=>none
def Uo(n:Nat)(ab:D):Option D:=
 R (unP .neg ab) fun j8=>
 R (jI true [ab,j8]) fun v6=>
 some v6
def zE(n:Nat):List D→Option D
 |[ab]=>Uo n ab
 |_=>none
def tZ(xh:List D→Option D)(n:Nat)(ls:List D):Option (List D⊕(List D⊕D)):=
 R (lenP (I ls 8)) fun j9=>
 R (binP false .lss (I ls 4) j9) fun eB=>
 oif eB (
 R (
 R (a2 4 (I ls 8) (I ls 4)) fun ME=>
 R (aW true 4 0 ME) fun eh=>
 R (xh [I ls 0,eh,I ls 1,I ls 2]) fun gw=>
 R (extP 0 gw) fun gx=>
 R (extP 1 gw) fun gF=>
 R (unP .not gF) fun gW=>
 oif gW (
 aU (
 aU (
 aU (
 some (D.aO [J 0,au false])
)
)
)
) (
 aw (bC gx)<|
 aw (c7 (((esD (I ls 9))).length+([[gx]]).length) 8)<|
 R (binP false .eql (I ls 5) (J 6)) fun ju=>
 R (gD ju false (
 R (binP false .eql (I ls 5) (J 7)) fun pD=>
 some pD
)) fun pD=>
 R (pickP ju (au true) pD) fun r2=>
 R (
 oif r2 (
 R (binP false .add (I ls 3) gx) fun wB=>
 some (.inl [I ls 0,I ls 1,I ls 2,wB,I ls 4,I ls 5,I ls 6,I ls 7,I ls 8,D.aD 1 ((esD (I ls 9))++[[gx]])])
) (
 some (.inl [I ls 0,I ls 1,I ls 2,I ls 3,I ls 4,I ls 5,I ls 6,I ls 7,I ls 8,D.aD 1 ((esD (I ls 9))++[[gx]])])
)
)<|a7 fun ls=>
 some (.inl [I ls 0,I ls 1,I ls 2,I ls 3,I ls 4,I ls 5,I ls 6,I ls 7,I ls 8,D.aD 1 (esD (I ls 9))])
)
)<|a7 fun ls=>
 R (binP false .add (I ls 4) (J 1)) fun iy=>
 some (.inl [I ls 0,I ls 1,I ls 2,I ls 3,iy,I ls 5,I ls 6,I ls 7,I ls 8,D.aD 1 (esD (I ls 9))])
) (
 aU (
 some (.inl [I ls 3,I ls 5,I ls 6,I ls 7,I ls 8,D.aD 1 (esD (I ls 9))])
)
)
def ke(xh:List D→Option D)(n:Nat)(ab:D)(ah:D)(aT:D)(bR:D):Option D:=
 aw (aL 4 ah)<|
 R (binP false .eql (aa ah 0) (J 1)) fun bK=>
 R (
 oif bK (
 some (.inl [ab,aT,bR,aa ah 0,bK,aa ah 0,aa ah 1,aa ah 2,aa ah 3])
) (
 R (binP false .eql (aa ah 0) (J 2)) fun bQ=>
 some (.inl [ab,aT,bR,aa ah 0,bQ,aa ah 0,aa ah 1,aa ah 2,aa ah 3])
)
)<|a7 fun ls=>
 oif (I ls 4) (
 some (D.aO [I ls 6,au true])
) (
 R (binP false .eql (I ls 3) (J 3)) fun cp=>
 R (
 oif cp (
 some (.inl [I ls 0,I ls 1,I ls 2,cp,I ls 5,I ls 6,I ls 7,I ls 8])
) (
 R (binP false .eql (I ls 3) (J 4)) fun cE=>
 some (.inl [I ls 0,I ls 1,I ls 2,cE,I ls 5,I ls 6,I ls 7,I ls 8])
)
)<|a7 fun ls=>
 oif (I ls 3) (
 R (sj n [I ls 0,I ls 6]) fun dJ=>
 R (binP false .eql (I ls 4) (J 3)) fun ds=>
 R (
 oif ds (
 R (a2 1 (I ls 1) dJ) fun DW=>
 R (aW false 1 0 DW) fun dm=>
 some (.inl [I ls 0,dJ,dm])
) (
 R (a2 1 (I ls 2) dJ) fun wL=>
 R (aW false 1 0 wL) fun c2=>
 some (.inl [I ls 0,dJ,c2])
)
)<|a7 fun ls=>
 R (a2 4 (I ls 0) (I ls 1)) fun Ds=>
 R (aW false 1 1 Ds) fun iU=>
 oif iU (
 R (binP false .neq (I ls 2) (J 0)) fun eD=>
 R (nP n [eD]) fun c8=>
 some (D.aO [c8,au true])
) (
 R (tY n [I ls 2]) fun hn=>
 R (unP .not hn) fun hI=>
 some (D.aO [I ls 2,hI])
)
) (
 R (
 bk (tZ xh n) n [I ls 0,I ls 1,I ls 2,J 0,J 0,I ls 4,I ls 5,I ls 6,I ls 7,D.aD 1 ([]:List (List D))]
)<|a7 fun ls=>
 R (
 R (binP false .eql (I ls 1) (J 5)) fun iV=>
 R (
 oif iV (
 R (cH ((esD (I ls 5))).length (J 0)) fun agT=>
 R (((esD (I ls 5)))[agT]?) fun agU=>
 R (aW false 1 0 agU) fun qB=>
 R (binP false .sub (J 1) qB) fun wC=>
 some (.inl [wC])
) (
 R (binP false .eql (I ls 1) (J 6)) fun py=>
 R (
 oif py (
 R (binP false .eql (I ls 0) (J ((esD (I ls 5))).length)) fun l6=>
 R (nP n [l6]) fun r8=>
 some (.inl [r8])
) (
 R (binP false .eql (I ls 1) (J 7)) fun ix=>
 R (
 oif ix (
 R (binP false .gtr (I ls 0) (J 0)) fun wz=>
 R (nP n [wz]) fun wD=>
 some (.inl [wD])
) (
 R (binP false .eql (I ls 1) (J 8)) fun pq=>
 R (
 oif pq (
 R (cH ((esD (I ls 5))).length (J 0)) fun agV=>
 R (((esD (I ls 5)))[agV]?) fun agW=>
 R (aW false 1 0 agW) fun wE=>
 R (binP false .eql wE (J 0)) fun mY=>
 R (gD mY false (
 R (cH ((esD (I ls 5))).length (J 1)) fun agX=>
 R (((esD (I ls 5)))[agX]?) fun agY=>
 R (aW false 1 0 agY) fun qH=>
 R (binP false .eql qH (J 1)) fun oo=>
 some oo
)) fun oo=>
 R (pickP mY (au true) oo) fun yY=>
 R (nP n [yY]) fun qI=>
 some (.inl [qI])
) (
 R (binP false .eql (I ls 1) (J 9)) fun za=>
 R (
 oif za (
 some (.inl [J 0,I ls 1,za,D.aD 1 (esD (I ls 5))])
) (
 R (binP false .eql (I ls 1) (J 10)) fun qC=>
 some (.inl [J 0,I ls 1,qC,D.aD 1 (esD (I ls 5))])
)
)<|a7 fun ls=>
 R (
 oif (I ls 2) (
 R (cH ((esD (I ls 3))).length (J 0)) fun agZ=>
 R (((esD (I ls 3)))[agZ]?) fun ag0=>
 R (aW false 1 0 ag0) fun vD=>
 R (cH ((esD (I ls 3))).length (J 1)) fun ag1=>
 R (((esD (I ls 3)))[ag1]?) fun ag2=>
 R (aW false 1 0 ag2) fun vF=>
 R (binP false .eql vD vF) fun Ml=>
 R (nP n [Ml]) fun ag3=>
 some (.inl [ag3])
) (
 R (binP false .eql (I ls 1) (J 11)) fun v3=>
 R (
 oif v3 (
 R (cH ((esD (I ls 3))).length (J 0)) fun ag4=>
 R (((esD (I ls 3)))[ag4]?) fun ag5=>
 R (aW false 1 0 ag5) fun zb=>
 R (cH ((esD (I ls 3))).length (J 1)) fun ag6=>
 R (((esD (I ls 3)))[ag6]?) fun ag7=>
 R (aW false 1 0 ag7) fun r3=>
 R (binP false .neq zb r3) fun tR=>
 R (nP n [tR]) fun MN=>
 some (.inl [MN])
) (
 R (binP false .eql (I ls 1) (J 12)) fun MO=>
 R (
 oif MO (
 R (cH ((esD (I ls 3))).length (J 0)) fun ag8=>
 R (((esD (I ls 3)))[ag8]?) fun ag9=>
 R (aW false 1 0 ag9) fun Me=>
 R (cH ((esD (I ls 3))).length (J 1)) fun aha=>
 R (((esD (I ls 3)))[aha]?) fun ahb=>
 R (aW false 1 0 ahb) fun ahc=>
 R (binP false .lss Me ahc) fun MP=>
 R (nP n [MP]) fun y9=>
 some (.inl [y9])
) (
 R (binP false .eql (I ls 1) (J 13)) fun CF=>
 R (
 oif CF (
 R (cH ((esD (I ls 3))).length (J 0)) fun ahd=>
 R (((esD (I ls 3)))[ahd]?) fun ahe=>
 R (aW false 1 0 ahe) fun qJ=>
 R (cH ((esD (I ls 3))).length (J 1)) fun ahf=>
 R (((esD (I ls 3)))[ahf]?) fun ahg=>
 R (aW false 1 0 ahg) fun L2=>
 R (binP false .leq qJ L2) fun C8=>
 R (nP n [C8]) fun v5=>
 some (.inl [v5])
) (
 R (binP false .eql (I ls 1) (J 14)) fun C9=>
 R (
 oif C9 (
 R (cH ((esD (I ls 3))).length (J 0)) fun ahh=>
 R (((esD (I ls 3)))[ahh]?) fun ahi=>
 R (aW false 1 0 ahi) fun wF=>
 R (cH ((esD (I ls 3))).length (J 1)) fun ahj=>
 R (((esD (I ls 3)))[ahj]?) fun ahk=>
 R (aW false 1 0 ahk) fun CC=>
 R (binP false .add wF CC) fun ahl=>
 some (.inl [ahl])
) (
 R (binP false .eql (I ls 1) (J 15)) fun yZ=>
 R (
 oif yZ (
 R (cH ((esD (I ls 3))).length (J 0)) fun ahm=>
 R (((esD (I ls 3)))[ahm]?) fun ahn=>
 R (aW false 1 0 ahn) fun aho=>
 R (cH ((esD (I ls 3))).length (J 1)) fun ahp=>
 R (((esD (I ls 3)))[ahp]?) fun ahq=>
 R (aW false 1 0 ahq) fun ahr=>
 R (binP false .sub aho ahr) fun ahs=>
 some (.inl [ahs])
) (
 R (binP false .eql (I ls 1) (J 16)) fun MR=>
 R (
 oif MR (
 R (cH ((esD (I ls 3))).length (J 0)) fun aht=>
 R (((esD (I ls 3)))[aht]?) fun ahu=>
 R (aW false 1 0 ahu) fun CD=>
 R (binP false .neq CD (J 0)) fun CE=>
 R (gD CE true (
 R (cH ((esD (I ls 3))).length (J 1)) fun ahv=>
 R (((esD (I ls 3)))[ahv]?) fun ahw=>
 R (aW false 1 0 ahw) fun ahx=>
 R (zE n [ahx]) fun ahy=>
 R (cH ((esD (I ls 3))).length (J 0)) fun ahz=>
 R (((esD (I ls 3)))[ahz]?) fun ahA=>
 R (aW false 1 0 ahA) fun ahB=>
 R (zE n [ahB]) fun ahC=>
 R (binP false .quo (J 9007199254740992) ahC) fun ahD=>
 R (binP false .gtr ahy ahD) fun M1=>
 some M1
)) fun M1=>
 R (pickP CE M1 (au false)) fun ahE=>
 oif ahE (
 aU (
 aU (
 aU (
 aU (
 aU (
 aU (
 aU (
 aU (
 aU (
 aU (
 aU (
 aU (
 some (D.aO [J 0,au false])
)
)
)
)
)
)
)
)
)
)
)
)
) (
 R (cH ((esD (I ls 3))).length (J 0)) fun ahF=>
 R (((esD (I ls 3)))[ahF]?) fun ahG=>
 R (aW false 1 0 ahG) fun ahH=>
 R (cH ((esD (I ls 3))).length (J 1)) fun ahI=>
 R (((esD (I ls 3)))[ahI]?) fun ahJ=>
 R (aW false 1 0 ahJ) fun ahK=>
 R (binP false .mul ahH ahK) fun ahL=>
 some (.inl [ahL])
)
) (
 R (binP false .eql (I ls 1) (J 17)) fun ahM=>
 R (
 oif ahM (
 R (cH ((esD (I ls 3))).length (J 0)) fun ahN=>
 R (((esD (I ls 3)))[ahN]?) fun ahO=>
 R (aW false 1 0 ahO) fun ahP=>
 R (cH ((esD (I ls 3))).length (J 1)) fun ahQ=>
 R (((esD (I ls 3)))[ahQ]?) fun ahR=>
 R (aW false 1 0 ahR) fun ahS=>
 R (binP false .rem ahP ahS) fun ahT=>
 R (cH ((esD (I ls 3))).length (J 1)) fun ahU=>
 R (((esD (I ls 3)))[ahU]?) fun ahV=>
 R (aW false 1 0 ahV) fun ahW=>
 R (binP false .add ahT ahW) fun ahX=>
 R (cH ((esD (I ls 3))).length (J 1)) fun ahY=>
 R (((esD (I ls 3)))[ahY]?) fun ahZ=>
 R (aW false 1 0 ahZ) fun ah0=>
 R (binP false .rem ahX ah0) fun ah1=>
 some (.inl [ah1])
) (
 R (binP false .eql (I ls 1) (J 18)) fun ah2=>
 R (
 oif ah2 (
 R (cH ((esD (I ls 3))).length (J 2)) fun ah3=>
 R (((esD (I ls 3)))[ah3]?) fun ah4=>
 R (aW false 1 0 ah4) fun ah5=>
 R (cH ((esD (I ls 3))).length (J 0)) fun ah6=>
 R (((esD (I ls 3)))[ah6]?) fun ah7=>
 R (aW false 1 0 ah7) fun ah8=>
 R (binP false .eql ah8 (J 1)) fun ah9=>
 R (
 oif ah9 (
 R (cH ((esD (I ls 3))).length (J 1)) fun aia=>
 R (((esD (I ls 3)))[aia]?) fun aib=>
 R (aW false 1 0 aib) fun aic=>
 some (.inl [aic])
) (
 some (.inl [ah5])
)
)<|a7 fun ls=>
 some (.inl [I ls 0])
) (
 some (.inl [I ls 0])
)
)<|a7 fun ls=>
 some (.inl [I ls 0])
)
)<|a7 fun ls=>
 some (.inl [I ls 0])
)
)<|a7 fun ls=>
 some (.inl [I ls 0])
)
)<|a7 fun ls=>
 some (.inl [I ls 0])
)
)<|a7 fun ls=>
 some (.inl [I ls 0])
)
)<|a7 fun ls=>
 some (.inl [I ls 0])
)
)<|a7 fun ls=>
 some (.inl [I ls 0])
)
)<|a7 fun ls=>
 some (.inl [I ls 0])
)
)<|a7 fun ls=>
 some (.inl [I ls 0])
)
)<|a7 fun ls=>
 some (.inl [I ls 0])
)
)<|a7 fun ls=>
 some (.inl [I ls 0])
)
)<|a7 fun ls=>
 some (.inl [I ls 0])
)
)<|a7 fun ls=>
 some (.inl [I ls 0])
)<|a7 fun ls=>
 R (tY n [I ls 0]) fun aid=>
 R (unP .not aid) fun aie=>
 some (D.aO [I ls 0,aie])
)
)
def pQ:Nat→List D→Option D
 |0,_=>none
 |n+1,aF=>match aF with
  |[ab,ah,aT,bR]=>ke (pQ n) n ab ah aT bR
  |_=>none
def zF(n:Nat)(ab:D)(ah:D)(aT:D)(bR:D):Option D:=
 aw (aL 4 ah)<|
 R (tS n [ab,D.agg [aa ah 0,aa ah 1,aa ah 2,aa ah 3],au true]) fun bw=>
 R (extP 0 bw) fun bE=>
 R (extP 1 bw) fun cb=>
 aw (aL 3 bE)<|
 R (binP false .neq cb (J 0)) fun bK=>
 R (gD bK false (
 R (lenP aT) fun cD=>
 R (lenP ab) fun cp=>
 R (binP false .neq cD cp) fun cE=>
 some cE
)) fun cE=>
 R (pickP bK (au true) cE) fun cj=>
 R (gD cj false (
 R (pP n [D.agg [aa ah 0,aa ah 1,aa ah 2,aa ah 3]]) fun dJ=>
 some dJ
)) fun dt=>
 R (gD dt true (
 R (lenP bR) fun ds=>
 R (lenP ab) fun dh=>
 R (binP false .neq ds dh) fun dy=>
 some dy
)) fun dy=>
 R (gD cj false (
 R (pickP dt dy (au false)) fun dm=>
 some dm
)) fun dm=>
 R (pickP cj (au true) dm) fun eA=>
 oif eA (
 some (D.aO [J 0,au false])
) (
 R (pQ n [ab,D.agg [aa ah 0,aa ah 1,aa ah 2,aa ah 3],aT,bR]) fun c3=>
 R (extP 0 c3) fun gk=>
 R (extP 1 c3) fun iU=>
 R (unP .not iU) fun eD=>
 oif eD (
 some (D.aO [J 0,au false])
) (
 some (D.aO [gk,au true])
)
)
def nQ(n:Nat):List D→Option D
 |[ab,ah,aT,bR]=>zF n ab ah aT bR
 |_=>none
def DZ(n:Nat)(ls:List D):Option (List D⊕(List D⊕D)):=
 R (lenP (I ls 1)) fun bq=>
 R (binP false .lss (I ls 4) bq) fun bh=>
 oif bh (
 R (a2 4 (I ls 1) (I ls 4)) fun Dg=>
 R (aW true 4 0 Dg) fun b6=>
 R (nQ n [I ls 0,b6,I ls 2,I ls 3]) fun cp=>
 R (extP 0 cp) fun cE=>
 R (extP 1 cp) fun cj=>
 R (unP .not cj) fun v30=>
 R (gD v30 false (
 R (binP false .neq cE (J 1)) fun dB=>
 some dB
)) fun dB=>
 R (pickP v30 (au true) dB) fun ds=>
 oif ds (
 aU (
 aU (
 some (au false)
)
)
) (
 R (binP false .add (I ls 4) (J 1)) fun bw=>
 some (.inl [I ls 0,I ls 1,I ls 2,I ls 3,bw])
)
) (
 aU (
 some (.inl [])
)
)
def M3(n:Nat)(ab:D)(ah:D)(aT:D)(bR:D):Option D:=
 R (
 bk (DZ n) n [ab,ah,aT,bR,J 0]
)<|a7 fun ls=>
 some (au true)
def qZ(n:Nat):List D→Option D
 |[ab,ah,aT,bR]=>M3 n ab ah aT bR
 |_=>none
def M4(n:Nat)(ab:D)(ah:D):Option D:=
 aw (aL 8 ab)<|
 R (zD n [D.agg [aa ab 0,aa ab 1,aa ab 2,aa ab 3,aa ab 4,aa ab 5,aa ab 6,aa ab 7],ah]) fun b1=>
 R (gD b1 true (
 R (qZ n [aa ab 0,aa ab 3,ah,D.val (.slice none 0 0)]) fun bq=>
 some bq
)) fun bq=>
 R (pickP b1 bq (au false)) fun bh=>
 some bh
def xi(n:Nat):List D→Option D
 |[ab,ah]=>M4 n ab ah
 |_=>none
def zG(n:Nat)(ls:List D):Option (List D⊕(List D⊕D)):=
 R (lenP (I ls 7)) fun cE=>
 R (binP false .lss (I ls 2) cE) fun cj=>
 oif cj (
 R (a2 5 (I ls 7) (I ls 2)) fun DW=>
 R (aW true 4 1 DW) fun eA=>
 R (nQ n [I ls 3,eA,I ls 0,D.val (.slice none 0 0)]) fun eU=>
 R (extP 0 eU) fun c2=>
 R (extP 1 eU) fun ed=>
 R (a2 5 (I ls 7) (I ls 2)) fun sf=>
 R (aW false 1 0 sf) fun fz=>
 R (sj n [I ls 3,fz]) fun e5=>
 R (unP .not ed) fun hI=>
 R (gD hI false (
 R (binP false .lss e5 (J 0)) fun ho=>
 some ho
)) fun ho=>
 R (pickP hI (au true) ho) fun eL=>
 R (gD eL false (
 R (a2 1 (I ls 1) e5) fun aif=>
 R (aW false 1 0 aif) fun k2=>
 R (binP false .neq k2 c2) fun iw=>
 some iw
)) fun iw=>
 R (pickP eL (au true) iw) fun dU=>
 oif dU (
 aU (
 aU (
 some (au false)
)
)
) (
 R (binP false .add (I ls 2) (J 1)) fun v30=>
 some (.inl [I ls 0,I ls 1,v30,I ls 3,I ls 4,I ls 5,I ls 6,I ls 7,I ls 8,I ls 9,I ls 10])
)
) (
 aU (
 some (.inl [I ls 0,I ls 1,I ls 3,I ls 4,I ls 5,I ls 6,I ls 7,I ls 8,I ls 9,I ls 10])
)
)
def D0(n:Nat)(ab:D)(ah:D)(aT:D):Option D:=
 aw (aL 8 ab)<|
 R (sn n [D.agg [aa ab 0,aa ab 1,aa ab 2,aa ab 3,aa ab 4,aa ab 5,aa ab 6,aa ab 7]]) fun bZ=>
 aw (aL 8 bZ)<|
 R (xi n [D.agg [aa bZ 0,aa bZ 1,aa bZ 2,aa bZ 3,aa bZ 4,aa bZ 5,aa bZ 6,aa bZ 7],ah]) fun bF=>
 R (unP .not bF) fun bw=>
 R (gD bw false (
 R (xi n [D.agg [aa bZ 0,aa bZ 1,aa bZ 2,aa bZ 3,aa bZ 4,aa bZ 5,aa bZ 6,aa bZ 7],aT]) fun bK=>
 R (unP .not bK) fun bQ=>
 some bQ
)) fun bQ=>
 R (pickP bw (au true) bQ) fun b6=>
 oif b6 (
 some (au false)
) (
 R (
 bk (zG n) n [ah,aT,J 0,aa bZ 0,aa bZ 1,aa bZ 2,aa bZ 3,aa bZ 4,aa bZ 5,aa bZ 6,aa bZ 7]
)<|a7 fun ls=>
 R (qZ n [I ls 2,I ls 7,I ls 0,I ls 1]) fun gx=>
 some gx
)
def ua(n:Nat):List D→Option D
 |[ab,ah,aT]=>D0 n ab ah aT
 |_=>none
def HK(n:Nat)(ls:List D):Option (List D⊕(List D⊕D)):=
 R (lenP (I ls 8)) fun bq=>
 R (binP false .lss (I ls 1) bq) fun bh=>
 oif bh (
 R (binP false .add (I ls 1) (J 1)) fun cM=>
 R (ji 4 (I ls 8) (some (I ls 1)) (some cM)) fun cp=>
 R (qZ n [I ls 2,cp,I ls 0,D.val (.slice none 0 0)]) fun cj=>
 aw (bC cj)<|
 aw (c7 (((esD (I ls 10))).length+([[cj]]).length) 1)<|
 R (binP false .add (I ls 1) (J 1)) fun bw=>
 some (.inl [I ls 0,bw,I ls 2,I ls 3,I ls 4,I ls 5,I ls 6,I ls 7,I ls 8,I ls 9,D.aD 1 ((esD (I ls 10))++[[cj]])])
) (
 aU (
 some (.inl [D.aD 1 (esD (I ls 10))])
)
)
def Up(n:Nat)(ab:D)(ah:D):Option D:=
 aw (aL 8 ab)<|
 R (sn n [D.agg [aa ab 0,aa ab 1,aa ab 2,aa ab 3,aa ab 4,aa ab 5,aa ab 6,aa ab 7]]) fun bM=>
 aw (aL 8 bM)<|
 R (
 bk (HK n) n [ah,J 0,aa bM 0,aa bM 1,aa bM 2,aa bM 3,aa bM 4,aa bM 5,aa bM 6,aa bM 7,D.aD 1 ([]:List (List D))]
)<|a7 fun ls=>
 some (D.aD 1 (esD (I ls 0)))
def D1(n:Nat):List D→Option D
 |[ab,ah]=>Up n ab ah
 |_=>none
def ub(n:Nat)(ls:List D):Option (List D⊕(List D⊕D)):=
 R (lenP (I ls 0)) fun dB=>
 R (binP false .lss (I ls 2) dB) fun ds=>
 oif ds (
 R (binP false .add (I ls 2) (J 1)) fun eA=>
 R (lenP (I ls 0)) fun eU=>
 R (binP false .lss eA eU) fun c2=>
 R (
 oif c2 (
 R (binP false .add (I ls 2) (J 1)) fun dN=>
 some (.inl [I ls 0,I ls 1,I ls 2,dN,I ls 3,I ls 4,I ls 5,I ls 6,I ls 7,I ls 8,I ls 9,I ls 10])
) (
 some (.inl [I ls 0,I ls 1,I ls 2,I ls 1,I ls 3,I ls 4,I ls 5,I ls 6,I ls 7,I ls 8,I ls 9,I ls 10])
)
)<|a7 fun ls=>
 R (a2 1 (I ls 0) (I ls 2)) fun LS=>
 R (aW false 1 0 LS) fun eD=>
 R (a2 1 (I ls 0) (I ls 3)) fun Cv=>
 R (aW false 1 0 Cv) fun hn=>
 R (ua n [D.agg [I ls 4,I ls 5,I ls 6,I ls 7,I ls 8,I ls 9,I ls 10,I ls 11],eD,hn]) fun hI=>
 R (unP .not hI) fun e0=>
 oif e0 (
 aU (
 aU (
 some (au false)
)
)
) (
 R (binP false .add (I ls 2) (J 1)) fun dh=>
 some (.inl [I ls 0,I ls 1,dh,I ls 4,I ls 5,I ls 6,I ls 7,I ls 8,I ls 9,I ls 10,I ls 11])
)
) (
 aU (
 some (.inl [I ls 0,I ls 1,I ls 3,I ls 4,I ls 5,I ls 6,I ls 7,I ls 8,I ls 9,I ls 10])
)
)
def zH(n:Nat)(ls:List D):Option (List D⊕(List D⊕(List D⊕(List D⊕(List D⊕D))))):=
 R (lenP (I ls 0)) fun dU=>
 R (binP false .lss (I ls 4) dU) fun fA=>
 oif fA (
 R (gD (I ls 3) false (
 R (a2 1 (I ls 0) (I ls 4)) fun C5=>
 R (aW false 1 0 C5) fun gW=>
 R (D1 n [D.agg [I ls 5,I ls 6,I ls 7,I ls 8,I ls 9,I ls 10,I ls 11,I ls 12],gW]) fun gv=>
 R (a2 1 gv (I ls 2)) fun ML=>
 R (aW false 1 0 ML) fun jO=>
 some jO
)) fun jO=>
 R (pickP (I ls 3) (au true) jO) fun ie=>
 R (binP false .add (I ls 4) (J 1)) fun eh=>
 some (.inl [I ls 0,I ls 1,I ls 2,ie,eh,I ls 5,I ls 6,I ls 7,I ls 8,I ls 9,I ls 10,I ls 11,I ls 12])
) (
 aU (
 some (.inl [I ls 0,I ls 1,I ls 2,I ls 3,I ls 5,I ls 6,I ls 7,I ls 8,I ls 9,I ls 10,I ls 11,I ls 12])
)
)
def zI(n:Nat)(ls:List D):Option (List D⊕(List D⊕D)):=
 R (lenP (I ls 9)) fun j9=>
 R (binP false .lss (I ls 2) j9) fun eB=>
 oif eB (
 R (
 R (
 bk (zH n) n [I ls 0,I ls 1,I ls 2,au false,I ls 1,I ls 3,I ls 4,I ls 5,I ls 6,I ls 7,I ls 8,I ls 9,I ls 10]
)<|a7 fun ls=>
 R (unP .not (I ls 3)) fun ju=>
 oif ju (
 aU (
 aU (
 aU (
 some (au false)
)
)
)
) (
 some (.inl [I ls 0,I ls 1,I ls 2,I ls 4,I ls 5,I ls 6,I ls 7,I ls 8,I ls 9,I ls 10,I ls 11])
)
)<|a7 fun ls=>
 R (binP false .add (I ls 2) (J 1)) fun iy=>
 some (.inl [I ls 0,I ls 1,iy,I ls 3,I ls 4,I ls 5,I ls 6,I ls 7,I ls 8,I ls 9,I ls 10])
) (
 aU (
 some (.inl [])
)
)
def xj(n:Nat)(ab:D)(ah:D)(aT:D):Option D:=
 aw (aL 8 ab)<|
 R (DX n [D.agg [aa ab 0,aa ab 1,aa ab 2,aa ab 3,aa ab 4,aa ab 5,aa ab 6,aa ab 7]]) fun bZ=>
 R (unP .not bZ) fun bq=>
 R (gD bq false (
 R (binP false .lss aT (J 0)) fun bw=>
 some bw
)) fun bw=>
 R (pickP bq (au true) bw) fun bE=>
 R (gD bE false (
 R (lenP ah) fun bQ=>
 R (binP false .geq aT bQ) fun b6=>
 some b6
)) fun b6=>
 R (pickP bE (au true) b6) fun cD=>
 oif cD (
 some (au false)
) (
 R (tX n [D.agg [aa ab 0,aa ab 1,aa ab 2,aa ab 3,aa ab 4,aa ab 5,aa ab 6,aa ab 7]]) fun cE=>
 R (extP 0 cE) fun cj=>
 R (extP 1 cE) fun cC=>
 R (extP 2 cE) fun v30=>
 aw (aL 8 cj)<|
 R (
 bk (ub n) n [ah,aT,J 0,aa cj 0,aa cj 1,aa cj 2,aa cj 3,aa cj 4,aa cj 5,aa cj 6,aa cj 7]
)<|a7 fun ls=>
 R (
 bk (zI n) n [I ls 0,I ls 1,J 0,I ls 2,I ls 3,I ls 4,I ls 5,I ls 6,I ls 7,I ls 8,I ls 9]
)<|a7 fun ls=>
 some (au true)
)
def q0(n:Nat):List D→Option D
 |[ab,ah,aT]=>xj n ab ah aT
 |_=>none
def M5(n:Nat)(ab:D)(ah:D)(aT:D):Option D:=
 aw (aL 8 ab)<|
 R (vH n [D.agg [aa ab 0,aa ab 1,aa ab 2,aa ab 3,aa ab 4,aa ab 5,aa ab 6,aa ab 7],ah]) fun bM=>
 R (unP .not bM) fun v10=>
 oif v10 (
 R (zm n []) fun v11=>
 some v11
) (
 R (qS n [D.agg [aa ab 0,aa ab 1,aa ab 2,aa ab 3,aa ab 4,aa ab 5,aa ab 6,aa ab 7],ah,aT]) fun bh=>
 R (q0 n [D.agg [aa ab 0,aa ab 1,aa ab 2,aa ab 3,aa ab 4,aa ab 5,aa ab 6,aa ab 7],ah,aT]) fun cb=>
 R (binP true .eql bh cb) fun v20=>
 R (gD v20 true (
 R (zm n []) fun bQ=>
 some bQ
)) fun bQ=>
 R (pickP v20 bQ (au false)) fun b6=>
 some b6
)
def HL(n:Nat):List D→Option D
 |[ab,ah,aT]=>M5 n ab ah aT
 |_=>none
end Go.Am
