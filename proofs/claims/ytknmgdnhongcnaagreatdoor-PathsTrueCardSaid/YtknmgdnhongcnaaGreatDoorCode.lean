/- What each function of the seat computes, on data. No condition. -/
import Derived.Test.YtknmgdnhongcnaaGreatDoorEngC
set_option linter.all false
set_option linter.unnecessarySimpa false
namespace Go.Am
set_option linter.unusedVariables false
def BP:List D:=[aI ⟨#[65]⟩,aI ⟨#[65,70]⟩,aI ⟨#[65,71]⟩,aI ⟨#[65,88]⟩,aI ⟨#[69]⟩,aI ⟨#[69,70]⟩,aI ⟨#[69,71]⟩,aI ⟨#[69,88]⟩,aI ⟨#[85]⟩,aI ⟨#[98,111,111,108]⟩,aI ⟨#[100,101,102]⟩,aI ⟨#[101,108,115,101]⟩,aI ⟨#[102,97,105,114]⟩,aI ⟨#[102,97,108,115,101]⟩,aI ⟨#[105,102]⟩,aI ⟨#[105,110,105,116]⟩,aI ⟨#[105,110,118,97,114]⟩,aI ⟨#[109,111,100]⟩,aI ⟨#[110,101,120,116]⟩,aI ⟨#[115,112,101,99]⟩,aI ⟨#[116,104,101,110]⟩,aI ⟨#[116,114,97,110,115]⟩,aI ⟨#[116,114,117,101]⟩,aI ⟨#[118,97,114]⟩]
abbrev Td:Nat:=77
abbrev GN:Nat:=83
abbrev vI:Nat:=86
abbrev pk:Nat:=101
abbrev GO:Nat:=104
abbrev qF:Nat:=112
abbrev GP:Nat:=113
abbrev pn:Nat:=117
abbrev vJ:Nat:=148
abbrev qG:Nat:=155
abbrev Te:Nat:=177
abbrev Tf:Nat:=179
abbrev BQ:Nat:=190
abbrev tO:Nat:=192
abbrev tP:Nat:=193
abbrev po:Nat:=228
abbrev pq:Nat:=230
abbrev yV:Nat:=236
abbrev yW:Nat:=248
abbrev pr:Nat:=250
abbrev ps:Nat:=256
def BR(vK:List D→Option D)(n:Nat)(ls:List D):Option (List D⊕(List D⊕D)):=
 R (lenP (I ls 6)) fun v10=>
 R (binP false .lss (I ls 2) v10) fun v11=>
 R (gD v11 true (
 R (binP false .leq (I ls 1) (I ls 0)) fun bf=>
 some bf
)) fun bf=>
 R (pickP v11 bf (ar false)) fun bE=>
 oif bE (
 R (a3 4 (I ls 6) (I ls 2)) fun BS=>
 R (aX true 4 0 BS) fun cv=>
 R (binP false .sub (I ls 0) (I ls 1)) fun cA=>
 R (vK [cv,cA]) fun cp=>
 R (binP false .add (I ls 1) cp) fun cB=>
 R (binP false .add (I ls 2) (J 1)) fun bF=>
 some (.inl [I ls 0,cB,bF,I ls 3,I ls 4,I ls 5,I ls 6])
) (
 aU (
 some (.inl [I ls 1])
)
)
def GQ(vK:List D→Option D)(n:Nat)(ab:D)(ag:D):Option D:=
 aw (aK 4 ab)<|
 R (
 bo (BR vK n) n [ag,J 1,J 0,aa ab 0,aa ab 1,aa ab 2,aa ab 3]
)<|a6 fun ls=>
 some (I ls 0)
def oi:Nat→List D→Option D
 |0,_=>none
 |n+1,aD=>match aD with
  |[ab,ag]=>GQ (oi n) n ab ag
  |_=>none
def BT(vL:List D→Option D)(n:Nat)(ls:List D):Option (List D⊕(List D⊕D)):=
 R (lenP (I ls 8)) fun bf=>
 R (binP false .lss (I ls 2) bf) fun bE=>
 R (gD bE true (
 R (binP false .leq (I ls 1) (I ls 0)) fun v20=>
 some v20
)) fun v20=>
 R (pickP bE v20 (ar false)) fun bH=>
 oif bH (
 R (a3 6 (I ls 8) (I ls 2)) fun r6=>
 R (aX true 6 0 r6) fun cB=>
 R (binP false .sub (I ls 0) (I ls 1)) fun dt=>
 R (vL [cB,dt]) fun dg=>
 R (binP false .add (I ls 1) dg) fun cZ=>
 R (binP false .add (I ls 2) (J 1)) fun b4=>
 some (.inl [I ls 0,cZ,b4,I ls 3,I ls 4,I ls 5,I ls 6,I ls 7,I ls 8])
) (
 aU (
 some (.inl [I ls 1])
)
)
def GR(vL:List D→Option D)(n:Nat)(ab:D)(ag:D):Option D:=
 aw (aK 6 ab)<|
 R (oi n [D.agg [aa ab 1,aa ab 2,aa ab 3,aa ab 4],ag]) fun v10=>
 R (binP false .add (J 1) v10) fun v11=>
 R (
 bo (BT vL n) n [ag,v11,J 0,aa ab 0,aa ab 1,aa ab 2,aa ab 3,aa ab 4,aa ab 5]
)<|a6 fun ls=>
 some (I ls 0)
def qH:Nat→List D→Option D
 |0,_=>none
 |n+1,aD=>match aD with
  |[ab,ag]=>GR (qH n) n ab ag
  |_=>none
def BU(n:Nat)(ls:List D):Option (List D⊕(List D⊕D)):=
 R (lenP (I ls 4)) fun gi=>
 R (binP false .lss (I ls 2) gi) fun ei=>
 oif ei (
 R (a3 5 (I ls 4) (I ls 2)) fun afc=>
 R (aX true 4 1 afc) fun eW=>
 aw (aK 4 eW)<|
 aw (c2 (((esD (I ls 11))).length+([[aa eW 0,aa eW 1,aa eW 2,aa eW 3]]).length) 56)<|
 R (binP false .add (I ls 2) (J 1)) fun fu=>
 some (.inl [I ls 0,I ls 1,fu,I ls 3,I ls 4,I ls 5,I ls 6,I ls 7,I ls 8,I ls 9,I ls 10,D.aE 4 ((esD (I ls 11))++[[aa eW 0,aa eW 1,aa eW 2,aa eW 3]])])
) (
 aU (
 some (.inl [I ls 0,I ls 1,I ls 3,I ls 4,I ls 5,I ls 6,I ls 7,I ls 8,I ls 9,I ls 10,D.aE 4 (esD (I ls 11))])
)
)
def BV(n:Nat)(ls:List D):Option (List D⊕(List D⊕D)):=
 R (lenP (I ls 7)) fun g4=>
 R (binP false .lss (I ls 2) g4) fun jj=>
 oif jj (
 R (a3 5 (I ls 7) (I ls 2)) fun LY=>
 R (aX true 4 1 LY) fun gv=>
 aw (aK 4 gv)<|
 aw (c2 (((esD (I ls 11))).length+([[aa gv 0,aa gv 1,aa gv 2,aa gv 3]]).length) 56)<|
 R (binP false .add (I ls 2) (J 1)) fun fK=>
 some (.inl [I ls 0,I ls 1,fK,I ls 3,I ls 4,I ls 5,I ls 6,I ls 7,I ls 8,I ls 9,I ls 10,D.aE 4 ((esD (I ls 11))++[[aa gv 0,aa gv 1,aa gv 2,aa gv 3]])])
) (
 aU (
 some (.inl [I ls 0,I ls 1,I ls 3,I ls 4,I ls 5,I ls 6,I ls 7,I ls 8,I ls 9,I ls 10,D.aE 4 (esD (I ls 11))])
)
)
def yX(n:Nat)(ls:List D):Option (List D⊕(List D⊕D)):=
 R (binP false .lss (I ls 2) (J ((esD (I ls 11))).length)) fun lU=>
 R (gD lU true (
 R (binP false .leq (I ls 1) (I ls 0)) fun oj=>
 some oj
)) fun oj=>
 R (pickP lU oj (ar false)) fun qI=>
 oif qI (
 R (ct ((esD (I ls 11))).length (I ls 2)) fun LZ=>
 R (((esD (I ls 11)))[LZ]?) fun L0=>
 R (aX true 4 0 L0) fun j1=>
 R (oi n [j1,I ls 0]) fun vM=>
 R (binP false .add (I ls 1) vM) fun ic=>
 R (binP false .add (I ls 2) (J 1)) fun r7=>
 some (.inl [I ls 0,ic,r7,I ls 3,I ls 4,I ls 5,I ls 6,I ls 7,I ls 8,I ls 9,I ls 10,D.aE 4 (esD (I ls 11))])
) (
 aU (
 some (.inl [I ls 0,I ls 1,I ls 3,I ls 4,I ls 5,I ls 6,I ls 7,I ls 8,I ls 9,I ls 10])
)
)
def yY(n:Nat)(ls:List D):Option (List D⊕(List D⊕D)):=
 R (lenP (I ls 10)) fun vN=>
 R (binP false .lss (I ls 2) vN) fun pt=>
 R (gD pt true (
 R (binP false .leq (I ls 1) (I ls 0)) fun mQ=>
 some mQ
)) fun mQ=>
 R (pickP pt mQ (ar false)) fun L1=>
 oif L1 (
 R (a3 7 (I ls 10) (I ls 2)) fun afd=>
 R (aX true 6 1 afd) fun qJ=>
 R (qH n [qJ,I ls 0]) fun L2=>
 R (binP false .add (I ls 1) L2) fun vO=>
 R (binP false .add (I ls 2) (J 1)) fun yZ=>
 some (.inl [I ls 0,vO,yZ,I ls 3,I ls 4,I ls 5,I ls 6,I ls 7,I ls 8,I ls 9,I ls 10])
) (
 aU (
 some (.inl [I ls 0,I ls 1])
)
)
def L3(n:Nat)(ab:D)(ag:D):Option D:=
 aw (aK 8 ab)<|
 R (lenP (aa ab 0)) fun cd=>
 R (lenP (aa ab 1)) fun bE=>
 R (binP false .add cd bE) fun bC=>
 R (lenP (aa ab 2)) fun v20=>
 R (binP false .add bC v20) fun bH=>
 R (lenP (aa ab 3)) fun cv=>
 R (binP false .add bH cv) fun cF=>
 R (lenP (aa ab 4)) fun cp=>
 R (binP false .add cF cp) fun cB=>
 R (lenP (aa ab 5)) fun dt=>
 R (binP false .add cB dt) fun dg=>
 R (lenP (aa ab 6)) fun dh=>
 R (binP false .add dg dh) fun dk=>
 R (lenP (aa ab 7)) fun dr=>
 R (binP false .add dk dr) fun fl=>
 R (binP false .gtr fl ag) fun dH=>
 oif dH (
 some (ar false)
) (
 R (
 bo (BU n) n [ag,fl,J 0,aa ab 0,aa ab 1,aa ab 2,aa ab 3,aa ab 4,aa ab 5,aa ab 6,aa ab 7,D.aE 4 []]
)<|a6 fun ls=>
 R (
 bo (BV n) n [I ls 0,I ls 1,J 0,I ls 2,I ls 3,I ls 4,I ls 5,I ls 6,I ls 7,I ls 8,I ls 9,D.aE 4 (esD (I ls 10))]
)<|a6 fun ls=>
 R (elP (I ls 4)) fun vP=>
 aw (decide (vP.1=4∨vP.2=[])&&decide (0<4))<|
 aw (c2 (((esD (I ls 10))).length+(vP.2).length) 56)<|
 R (elP (I ls 5)) fun y0=>
 aw (decide (y0.1=4∨y0.2=[])&&decide (0<4))<|
 aw (c2 ((((esD (I ls 10))++vP.2)).length+(y0.2).length) 56)<|
 R (elP (I ls 7)) fun BW=>
 aw (decide (BW.1=4∨BW.2=[])&&decide (0<4))<|
 aw (c2 (((((esD (I ls 10))++vP.2)++y0.2)).length+(BW.2).length) 56)<|
 R (elP (I ls 8)) fun GS=>
 aw (decide (GS.1=4∨GS.2=[])&&decide (0<4))<|
 aw (c2 ((((((esD (I ls 10))++vP.2)++y0.2)++BW.2)).length+(GS.2).length) 56)<|
 R (
 bo (yX n) n [I ls 0,I ls 1,J 0,I ls 2,I ls 3,I ls 4,I ls 5,I ls 6,I ls 7,I ls 8,I ls 9,D.aE 4 (((((esD (I ls 10))++vP.2)++y0.2)++BW.2)++GS.2)]
)<|a6 fun ls=>
 R (
 bo (yY n) n [I ls 0,I ls 1,J 0,I ls 2,I ls 3,I ls 4,I ls 5,I ls 6,I ls 7,I ls 8,I ls 9]
)<|a6 fun ls=>
 R (binP false .leq (I ls 1) (I ls 0)) fun vQ=>
 some vQ
)
def y1(n:Nat):List D→Option D
 |[ab,ag]=>L3 n ab ag
 |_=>none
def BX(n:Nat)(ls:List D):Option (List D⊕(List D⊕D)):=
 R (binP false .lss (I ls 3) (I ls 2)) fun v10=>
 oif v10 (
 R (a3 1 (I ls 1) (I ls 3)) fun vR=>
 R (aX false 1 0 vR) fun bX=>
 R (lenP bX) fun bq=>
 R (binP false .gtr bq (J 20)) fun bf=>
 oif bf (
 aU (
 aU (
 some (ar false)
)
)
) (
 R (binP false .add (I ls 3) (J 1)) fun bE=>
 some (.inl [I ls 0,I ls 1,I ls 2,bE,I ls 4,I ls 5,I ls 6,I ls 7,I ls 8,I ls 9,I ls 10,I ls 11])
)
) (
 aU (
 some (.inl [I ls 0,I ls 4,I ls 5,I ls 6,I ls 7,I ls 8,I ls 9,I ls 10,I ls 11])
)
)
def GU(n:Nat)(ab:D)(ag:D):Option D:=
 aw (aK 8 ab)<|
 R (lenP ag) fun cf=>
 R (
 bo (BX n) n [ag,ag,cf,J 0,aa ab 0,aa ab 1,aa ab 2,aa ab 3,aa ab 4,aa ab 5,aa ab 6,aa ab 7]
)<|a6 fun ls=>
 R (lenP (I ls 0)) fun bF=>
 R (binP false .leq bF (J 40)) fun b7=>
 R (gD b7 true (
 R (y1 n [D.agg [I ls 1,I ls 2,I ls 3,I ls 4,I ls 5,I ls 6,I ls 7,I ls 8],J 600]) fun bU=>
 some bU
)) fun bU=>
 R (pickP b7 bU (ar false)) fun b4=>
 some b4
def vS(n:Nat):List D→Option D
 |[ab,ag]=>GU n ab ag
 |_=>none
def BY(vT:List D→Option D)(n:Nat)(ls:List D):Option (List D⊕(List D⊕D)):=
 R (lenP (I ls 5)) fun bR=>
 R (binP false .lss (I ls 1) bR) fun v10=>
 R (gD v10 true (
 R (binP false .geq (I ls 0) (J 0)) fun cd=>
 some cd
)) fun cd=>
 R (pickP v10 cd (ar false)) fun bq=>
 oif bq (
 R (a3 4 (I ls 5) (I ls 1)) fun pw=>
 R (aX true 4 0 pw) fun bH=>
 R (binP false .sub (I ls 0) (J 1)) fun b4=>
 R (vT [bH,b4]) fun cv=>
 R (binP false .add (I ls 1) (J 1)) fun bE=>
 some (.inl [cv,bE,I ls 2,I ls 3,I ls 4,I ls 5])
) (
 aU (
 some (.inl [I ls 0])
)
)
def L4(vT:List D→Option D)(n:Nat)(ab:D)(ag:D):Option D:=
 aw (aK 4 ab)<|
 R (
 bo (BY vT n) n [ag,J 0,aa ab 0,aa ab 1,aa ab 2,aa ab 3]
)<|a6 fun ls=>
 some (I ls 0)
def qK:Nat→List D→Option D
 |0,_=>none
 |n+1,aD=>match aD with
  |[ab,ag]=>L4 (qK n) n ab ag
  |_=>none
def BZ(vU:List D→Option D)(n:Nat)(ls:List D):Option (List D⊕(List D⊕D)):=
 R (lenP (I ls 7)) fun bq=>
 R (binP false .lss (I ls 1) bq) fun bf=>
 R (gD bf true (
 R (binP false .geq (I ls 0) (J 0)) fun bF=>
 some bF
)) fun bF=>
 R (pickP bf bF (ar false)) fun b7=>
 oif b7 (
 R (a3 6 (I ls 7) (I ls 1)) fun B0=>
 R (aX true 6 0 B0) fun ch=>
 R (vU [ch,I ls 0]) fun cp=>
 R (binP false .add (I ls 1) (J 1)) fun bH=>
 some (.inl [cp,bH,I ls 2,I ls 3,I ls 4,I ls 5,I ls 6,I ls 7])
) (
 aU (
 some (.inl [I ls 0])
)
)
def L5(vU:List D→Option D)(n:Nat)(ab:D)(ag:D):Option D:=
 aw (aK 6 ab)<|
 R (binP false .sub ag (J 1)) fun bR=>
 R (qK n [D.agg [aa ab 1,aa ab 2,aa ab 3,aa ab 4],bR]) fun v10=>
 R (
 bo (BZ vU n) n [v10,J 0,aa ab 0,aa ab 1,aa ab 2,aa ab 3,aa ab 4,aa ab 5]
)<|a6 fun ls=>
 some (I ls 0)
def qL:Nat→List D→Option D
 |0,_=>none
 |n+1,aD=>match aD with
  |[ab,ag]=>L5 (qL n) n ab ag
  |_=>none
def Tg(n:Nat)(ab:D)(ag:D):Option D:=
 aw (aK 6 ab)<|
 R (qL n [D.agg [aa ab 0,aa ab 1,aa ab 2,aa ab 3,aa ab 4,aa ab 5],ag]) fun bZ=>
 R (binP false .geq bZ (J 0)) fun cf=>
 some cf
def B1(n:Nat):List D→Option D
 |[ab,ag]=>Tg n ab ag
 |_=>none
def afe(n:Nat)(ab:D):Option D:=
 aw (bD ab)<|
 aw (aK 4 (D.agg [J 1,ab,aI ⟨#[]⟩,D.val (.slice none 0 0)]))<|
 some (D.agg [J 1,ab,aI ⟨#[]⟩,D.val (.slice none 0 0)])
def vV(n:Nat):List D→Option D
 |[ab]=>afe n ab
 |_=>none
def aff(n:Nat)(ab:D)(ag:D):Option D:=
 aw (bD ab)<|
 aw (bD ag)<|
 aw (aK 4 (D.agg [ab,J 0,aI ⟨#[]⟩,ag]))<|
 some (D.agg [ab,J 0,aI ⟨#[]⟩,ag])
def vW(n:Nat):List D→Option D
 |[ab,ag]=>aff n ab ag
 |_=>none
def afg(n:Nat):Option D:=
 R (vV n [J 2]) fun v10=>
 aw (aK 4 v10)<|
 R (vW n [J 10,D.aE 4 [[J 3,J 0,aI ⟨#[120]⟩,D.val (.slice none 0 0)],[aa v10 0,aa v10 1,aa v10 2,aa v10 3]]]) fun bX=>
 R (vV n [J 0]) fun bq=>
 R (vV n [J 1]) fun bF=>
 aw (aK 4 bF)<|
 R (vW n [J 14,D.aE 4 [[J 3,J 0,aI ⟨#[120]⟩,D.val (.slice none 0 0)],[aa bF 0,aa bF 1,aa bF 2,aa bF 3]]]) fun v20=>
 aw (aK 4 bX)<|
 aw (aK 4 bq)<|
 aw (aK 4 v20)<|
 R (vW n [J 18,D.aE 4 [[aa bX 0,aa bX 1,aa bX 2,aa bX 3],[aa bq 0,aa bq 1,aa bq 2,aa bq 3],[aa v20 0,aa v20 1,aa v20 2,aa v20 3]]]) fun bU=>
 aw (aK 4 bU)<|
 aw (aK 4 (D.agg [aa bU 0,aa bU 1,aa bU 2,aa bU 3]))<|
 R (vV n [J 0]) fun cp=>
 aw (aK 4 cp)<|
 R (vW n [J 10,D.aE 4 [[J 3,J 0,aI ⟨#[120]⟩,D.val (.slice none 0 0)],[aa cp 0,aa cp 1,aa cp 2,aa cp 3]]]) fun v30=>
 R (vV n [J 1]) fun c8=>
 aw (aK 4 c8)<|
 R (vW n [J 10,D.aE 4 [[J 3,J 0,aI ⟨#[120]⟩,D.val (.slice none 0 0)],[aa c8 0,aa c8 1,aa c8 2,aa c8 3]]]) fun dr=>
 aw (aK 4 v30)<|
 aw (aK 5 (D.agg [aI ⟨#[120]⟩,aa bU 0,aa bU 1,aa bU 2,aa bU 3]))<|
 aw (aK 4 dr)<|
 some (D.agg [D.aE 4 [[aI ⟨#[120]⟩,ar false,J 0,J 2]],D.val (.slice none 0 0),D.aE 4 [[aa v30 0,aa v30 1,aa v30 2,aa v30 3]],D.val (.slice none 0 0),D.aE 5 [[aI ⟨#[120]⟩,aa bU 0,aa bU 1,aa bU 2,aa bU 3]],D.val (.slice none 0 0),D.aE 4 [[aa dr 0,aa dr 1,aa dr 2,aa dr 3]],D.val (.slice none 0 0)])
def L6(n:Nat):List D→Option D
 |[]=>afg n
 |_=>none
def Th(n:Nat)(ab:D):Option D:=
 R (binP false .geq ab (D.val (.int .u8 97))) fun v4=>
 R (gD v4 true (
 R (binP false .leq ab (D.val (.int .u8 122))) fun bZ=>
 some bZ
)) fun bZ=>
 R (pickP v4 bZ (ar false)) fun cf=>
 R (gD cf false (
 R (binP false .geq ab (D.val (.int .u8 65))) fun v11=>
 some v11
)) fun bX=>
 R (gD bX true (
 R (binP false .leq ab (D.val (.int .u8 90))) fun bq=>
 some bq
)) fun bq=>
 R (gD cf false (
 R (pickP bX bq (ar false)) fun bf=>
 some bf
)) fun bf=>
 R (pickP cf (ar true) bf) fun bE=>
 some bE
def vX(n:Nat):List D→Option D
 |[ab]=>Th n ab
 |_=>none
def Ti(n:Nat)(ab:D):Option D:=
 R (binP false .geq ab (D.val (.int .u8 48))) fun v4=>
 R (gD v4 true (
 R (binP false .leq ab (D.val (.int .u8 57))) fun bZ=>
 some bZ
)) fun bZ=>
 R (pickP v4 bZ (ar false)) fun cf=>
 some cf
def B2(n:Nat):List D→Option D
 |[ab]=>Ti n ab
 |_=>none
def Tj(n:Nat)(ab:D):Option D:=
 R (vX n [ab]) fun v4=>
 R (gD v4 false (
 R (B2 n [ab]) fun bZ=>
 some bZ
)) fun bZ=>
 R (pickP v4 (ar true) bZ) fun cf=>
 R (gD cf false (
 R (binP false .eql ab (D.val (.int .u8 95))) fun v11=>
 some v11
)) fun v11=>
 R (pickP cf (ar true) v11) fun bX=>
 some bX
def B3(n:Nat):List D→Option D
 |[ab]=>Tj n ab
 |_=>none
def B4(n:Nat)(ls:List D):Option (List D⊕(List D⊕D)):=
 R (nq (I ls 0)) fun cf=>
 R (binP false .lss (I ls 1) cf) fun bR=>
 R (gD bR true (
 R (sixP (I ls 0) (I ls 1)) fun bq=>
 R (B3 n [bq]) fun bf=>
 some bf
)) fun bf=>
 R (pickP bR bf (ar false)) fun bE=>
 oif bE (
 R (binP false .add (I ls 1) (J 1)) fun bF=>
 some (.inl [I ls 0,bF])
) (
 aU (
 some (.inl [I ls 1])
)
)
def L7(n:Nat)(ab:D):Option D:=
 R (
 bo (B4 n) n [ab,J 0]
)<|a6 fun ls=>
 some (I ls 0)
def y2(n:Nat):List D→Option D
 |[ab,ag]=>aw (isFc BQ ag) (L7 n ab)
 |_=>none
def y3(n:Nat)(ls:List D):Option (List D⊕(List D⊕D)):=
 R (binP false .lss (I ls 3) (I ls 2)) fun bR=>
 oif bR (
 R (a3 1 (I ls 0) (I ls 3)) fun eQ=>
 R (aX false 1 0 eQ) fun bf=>
 R (binP false .eql (I ls 1) bf) fun bE=>
 oif bE (
 aU (
 aU (
 some (I ls 3)
)
)
) (
 R (binP false .add (I ls 3) (J 1)) fun bF=>
 some (.inl [I ls 0,I ls 1,I ls 2,bF])
)
) (
 aU (
 some (.inl [])
)
)
def L8(n:Nat)(ab:D)(ag:D):Option D:=
 R (lenP ab) fun bZ=>
 R (
 bo (y3 n) n [ab,ag,bZ,J 0]
)<|a6 fun ls=>
 some (J (-1))
def y4(n:Nat):List D→Option D
 |[ab,ag]=>L8 n ab ag
 |_=>none
def Tk(n:Nat)(ab:D)(ag:D):Option D:=
 R (y4 n [ab,ag]) fun bZ=>
 R (binP false .geq bZ (J 0)) fun cf=>
 some cf
def B5(n:Nat):List D→Option D
 |[ab,ag]=>Tk n ab ag
 |_=>none
def L9(n:Nat)(ab:D):Option D:=
 R (binP false .neq ab (aI ⟨#[]⟩)) fun v4=>
 R (gD v4 true (
 R (nq ab) fun bZ=>
 R (binP false .leq bZ (J 24)) fun cf=>
 some cf
)) fun cf=>
 R (pickP v4 cf (ar false)) fun bR=>
 R (gD bR true (
 R (sixP ab (J 0)) fun bX=>
 R (vX n [bX]) fun cd=>
 some cd
)) fun cd=>
 R (pickP bR cd (ar false)) fun bq=>
 R (gD bq true (
 R (y2 n [ab,(D.val (.func (.func BQ) #[] #[]))]) fun bC=>
 R (nq ab) fun b7=>
 R (binP false .eql bC b7) fun v20=>
 some v20
)) fun v20=>
 R (pickP bq v20 (ar false)) fun bH=>
 R (gD bH true (
 R (B5 n [(D.aE 1 ((BP).map fun c=>[c])),ab]) fun cF=>
 R (unP .not cF) fun ch=>
 some ch
)) fun ch=>
 R (pickP bH ch (ar false)) fun cA=>
 some cA
def qM(n:Nat):List D→Option D
 |[ab]=>L9 n ab
 |_=>none
def Ma(n:Nat)(ab:D)(cJ:List D):Option D:=
 aw (aK 4 ab)<|
 R (aX false 1 0 cJ) fun bZ=>
 R (binP false .eql (aa ab 0) bZ) fun cf=>
 some cf
def y5(n:Nat):List D→Option D
 |[ab,ag]=>(match ag with| .ref cJ 0=>Ma n ab cJ|_=>none)
 |_=>none
def vY(n:Nat)(ls:List D):Option (List D⊕(List D⊕D)):=
 R (binP false .lss (I ls 3) (I ls 2)) fun bR=>
 oif bR (
 R (a3 4 (I ls 0) (I ls 3)) fun eQ=>
 R (aX true 4 0 eQ) fun bf=>
 R (y5 n [bf,I ls 1]) fun bE=>
 oif bE (
 aU (
 aU (
 some (I ls 3)
)
)
) (
 R (binP false .add (I ls 3) (J 1)) fun bF=>
 some (.inl [I ls 0,I ls 1,I ls 2,bF])
)
) (
 aU (
 some (.inl [])
)
)
def Mb(n:Nat)(ab:D)(b5:D):Option D:=
 R (lenP ab) fun bZ=>
 R (
 bo (vY n) n [ab,b5,bZ,J 0]
)<|a6 fun ls=>
 some (J (-1))
def vZ(n:Nat):List D→Option D
 |[ab,ag]=>(match fnOf qG ag with|some [b5]=>Mb n ab b5|_=>none)
 |_=>none
def Mc(n:Nat)(ab:D)(b5:D):Option D:=
 R (vZ n [ab,(D.fn (.func qG) [] [b5])]) fun bZ=>
 R (binP false .geq bZ (J 0)) fun cf=>
 some cf
def y6(n:Nat):List D→Option D
 |[ab,ag]=>(match fnOf qG ag with|some [b5]=>Mc n ab b5|_=>none)
 |_=>none
def v3(n:Nat)(ls:List D):Option (List D⊕(List D⊕D)):=
 R (binP false .lss (I ls 3) (I ls 2)) fun v11=>
 oif v11 (
 R (a3 4 (I ls 1) (I ls 3)) fun B6=>
 R (aX true 4 0 B6) fun bq=>
 aw (aK 4 bq)<|
 R (jz true [aa bq 2,aa bq 3]) fun v20=>
 R (binP false .gtr v20 (J 255)) fun bH=>
 R (gD bH false (
 R (jz false [aa bq 2,aa bq 3]) fun cA=>
 R (binP false .lss cA (J (-255))) fun cp=>
 some cp
)) fun cp=>
 R (pickP bH (ar true) cp) fun cB=>
 R (qM n [aa bq 0]) fun dg=>
 R (unP .not dg) fun cZ=>
 oif cZ (
 aU (
 aU (
 some (D.aL [I ls 3,J 12])
)
)
) (
 R (nm 4 (I ls 0) none (some (I ls 3))) fun ey=>
 R (y6 n [ey,(D.fn (.func qG) [] [D.ref [aa bq 0,aa bq 1,aa bq 2,aa bq 3] 0])]) fun fl=>
 aw fl.flat<|
 oif fl (
 aU (
 aU (
 some (D.aL [I ls 3,J 6])
)
)
) (
 R (gD (aa bq 1) true (
 R (binP false .neq (aa bq 2) (J 0)) fun ei=>
 some ei
)) fun cV=>
 R (gD cV false (
 R (binP false .neq (aa bq 3) (J 0)) fun hH=>
 some hH
)) fun hH=>
 R (gD (aa bq 1) true (
 R (pickP cV (ar true) hH) fun iG=>
 some iG
)) fun iG=>
 R (pickP (aa bq 1) iG (ar false)) fun e7=>
 oif e7 (
 aU (
 aU (
 some (D.aL [I ls 3,J 3])
)
)
) (
 R (unP .not (aa bq 1)) fun eG=>
 R (gD eG true (
 R (binP false .gtr (aa bq 2) (aa bq 3)) fun ee=>
 some ee
)) fun fK=>
 R (gD fK false (
 some cB
)) fun fB=>
 R (gD eG true (
 R (pickP fK (ar true) fB) fun ep=>
 some ep
)) fun iH=>
 R (gD iH false (
 R (binP false .sub (aa bq 3) (aa bq 2)) fun mR=>
 R (binP false .geq mR (J 64)) fun gQ=>
 some gQ
)) fun gQ=>
 R (gD eG true (
 R (pickP iH (ar true) gQ) fun gj=>
 some gj
)) fun gj=>
 R (pickP eG gj (ar false)) fun lv=>
 oif lv (
 aU (
 aU (
 some (D.aL [I ls 3,J 2])
)
)
) (
 R (binP false .add (I ls 3) (J 1)) fun lx=>
 some (.inl [I ls 0,I ls 1,I ls 2,lx])
)
)
)
)
) (
 aU (
 some (.inl [])
)
)
def Tl(n:Nat)(ab:D):Option D:=
 R (lenP ab) fun bR=>
 R (
 bo (v3 n) n [ab,ab,bR,J 0]
)<|a6 fun ls=>
 some (D.aL [J 0,J 0])
def y7(n:Nat):List D→Option D
 |[ab]=>Tl n ab
 |_=>none
def Tn(n:Nat)(ab:D):Option D:=
 aw (aK 4 ab)<|
 oif (aa ab 1) (
 some (J 2)
) (
 R (binP false .gtr (aa ab 2) (aa ab 3)) fun bX=>
 oif bX (
 some (J 0)
) (
 R (cvP .u64 (aa ab 3)) fun bf=>
 R (cvP .u64 (aa ab 2)) fun bF=>
 R (binP false .sub bf bF) fun b7=>
 R (binP false .lss b7 (D.val (.int .u64 1073741824))) fun bH=>
 oif bH (
 R (cvP .i64 b7) fun b4=>
 R (binP false .add b4 (J 1)) fun cv=>
 some cv
) (
 some (J 1073741825)
)
)
)
def B7(n:Nat):List D→Option D
 |[ab]=>Tn n ab
 |_=>none
def GV(n:Nat)(ls:List D):Option (List D⊕(List D⊕D)):=
 R (binP false .lss (I ls 1) (J 63)) fun j2=>
 oif j2 (
 R (binP false .shl (J 1) (I ls 1)) fun bR=>
 R (binP false .leq (I ls 0) bR) fun v10=>
 oif v10 (
 aU (
 aU (
 some (I ls 1)
)
)
) (
 R (binP false .add (I ls 1) (J 1)) fun bX=>
 some (.inl [I ls 0,bX])
)
) (
 aU (
 some (.inl [])
)
)
def To(n:Nat)(ab:D):Option D:=
 R (
 bo (GV n) n [ab,J 0]
)<|a6 fun ls=>
 some (J 63)
def B8(n:Nat):List D→Option D
 |[ab]=>To n ab
 |_=>none
def GW(n:Nat)(ls:List D):Option (List D⊕(List D⊕D)):=
 R (binP false .lss (I ls 3) (I ls 2)) fun v10=>
 oif v10 (
 R (a3 4 (I ls 1) (I ls 3)) fun vR=>
 R (aX true 4 0 vR) fun bX=>
 aw (aK 4 bX)<|
 R (B7 n [D.agg [aa bX 0,aa bX 1,aa bX 2,aa bX 3]]) fun bf=>
 R (B8 n [bf]) fun bE=>
 R (binP false .add (I ls 0) bE) fun bC=>
 R (binP false .add (I ls 3) (J 1)) fun bF=>
 some (.inl [bC,I ls 1,I ls 2,bF])
) (
 aU (
 some (.inl [I ls 0])
)
)
def Tp(n:Nat)(ab:D):Option D:=
 aw (aK 8 ab)<|
 R (lenP (aa ab 0)) fun cf=>
 R (
 bo (GW n) n [J 0,aa ab 0,cf,J 0]
)<|a6 fun ls=>
 some (I ls 0)
def B9(n:Nat):List D→Option D
 |[ab]=>Tp n ab
 |_=>none
def Tq(n:Nat)(ab:D):Option D:=
 R (lenP ab) fun v4=>
 some v4
def Ca(n:Nat):List D→Option D
 |[ab]=>Tq n ab
 |_=>none
def Tr(n:Nat)(ab:D):Option D:=
 R (lenP ab) fun v4=>
 some v4
def Cb(n:Nat):List D→Option D
 |[ab]=>Tr n ab
 |_=>none
def Cc(n:Nat)(ab:D):Option D:=
 aw (aK 3 ab)<|
 R (lenP (aa ab 1)) fun j2=>
 some j2
def px(n:Nat):List D→Option D
 |[ab]=>Cc n ab
 |_=>none
def Ts(n:Nat)(ab:D):Option D:=
 R (lenP ab) fun v4=>
 some v4
def Cd(n:Nat):List D→Option D
 |[ab]=>Ts n ab
 |_=>none
def Tt(n:Nat)(ab:D):Option D:=
 R (lenP ab) fun v4=>
 some v4
def Ce(n:Nat):List D→Option D
 |[ab]=>Tt n ab
 |_=>none
def Tu(n:Nat)(ab:D):Option D:=
 R (lenP ab) fun v4=>
 some v4
def Cf(n:Nat):List D→Option D
 |[ab]=>Tu n ab
 |_=>none
def GX(n:Nat)(ab:D)(cJ:List D):Option D:=
 aw (aK 7 ab)<|
 R (aX false 1 0 cJ) fun v6=>
 R (binP false .eql (aa ab 0) v6) fun bZ=>
 some bZ
def Cg(n:Nat):List D→Option D
 |[ab,ag]=>(match ag with| .ref cJ 0=>GX n ab cJ|_=>none)
 |_=>none
def Ch(n:Nat)(ls:List D):Option (List D⊕(List D⊕D)):=
 R (binP false .lss (I ls 3) (I ls 2)) fun bR=>
 oif bR (
 R (a3 7 (I ls 0) (I ls 3)) fun eQ=>
 R (aX true 7 0 eQ) fun bf=>
 R (Cg n [bf,I ls 1]) fun bE=>
 oif bE (
 aU (
 aU (
 some (I ls 3)
)
)
) (
 R (binP false .add (I ls 3) (J 1)) fun bF=>
 some (.inl [I ls 0,I ls 1,I ls 2,bF])
)
) (
 aU (
 some (.inl [])
)
)
def Ci(n:Nat)(ab:D)(b5:D):Option D:=
 R (lenP ab) fun bZ=>
 R (
 bo (Ch n) n [ab,b5,bZ,J 0]
)<|a6 fun ls=>
 some (J (-1))
def v5(n:Nat):List D→Option D
 |[ab,ag]=>(match fnOf ps ag with|some [b5]=>Ci n ab b5|_=>none)
 |_=>none
def GY(n:Nat)(ab:D)(b5:D):Option D:=
 R (v5 n [ab,(D.fn (.func ps) [] [b5])]) fun bZ=>
 R (binP false .geq bZ (J 0)) fun cf=>
 some cf
def v7(n:Nat):List D→Option D
 |[ab,ag]=>(match fnOf ps ag with|some [b5]=>GY n ab b5|_=>none)
 |_=>none
def Tv(n:Nat)(ab:D):Option D:=
 R (binP false .eql ab (J 1)) fun v6=>
 R (
 oif v6 (
 some (.inl [ab,v6])
) (
 R (binP false .eql ab (J 2)) fun bZ=>
 R (
 oif bZ (
 some (.inl [ab,bZ])
) (
 R (binP false .eql ab (J 3)) fun cf=>
 R (
 oif cf (
 some (.inl [ab,cf])
) (
 R (binP false .eql ab (J 4)) fun bR=>
 some (.inl [ab,bR])
)
)<|a6 fun ls=>
 some (.inl [I ls 0,I ls 1])
)
)<|a6 fun ls=>
 some (.inl [I ls 0,I ls 1])
)
)<|a6 fun ls=>
 oif (I ls 1) (
 some (D.aL [J 0,J 0])
) (
 R (binP false .eql (I ls 0) (J 5)) fun v11=>
 oif v11 (
 some (D.aL [J 1,J 1])
) (
 R (binP false .eql (I ls 0) (J 6)) fun cd=>
 R (
 oif cd (
 some (.inl [I ls 0,cd])
) (
 R (binP false .eql (I ls 0) (J 7)) fun bq=>
 some (.inl [I ls 0,bq])
)
)<|a6 fun ls=>
 oif (I ls 1) (
 some (D.aL [J 1,J 64])
) (
 R (binP false .eql (I ls 0) (J 8)) fun bE=>
 R (
 oif bE (
 some (.inl [I ls 0,bE])
) (
 R (binP false .eql (I ls 0) (J 9)) fun bC=>
 R (
 oif bC (
 some (.inl [I ls 0,bC])
) (
 R (binP false .eql (I ls 0) (J 10)) fun bF=>
 R (
 oif bF (
 some (.inl [I ls 0,bF])
) (
 R (binP false .eql (I ls 0) (J 11)) fun b7=>
 R (
 oif b7 (
 some (.inl [I ls 0,b7])
) (
 R (binP false .eql (I ls 0) (J 12)) fun v20=>
 R (
 oif v20 (
 some (.inl [I ls 0,v20])
) (
 R (binP false .eql (I ls 0) (J 13)) fun bH=>
 R (
 oif bH (
 some (.inl [I ls 0,bH])
) (
 R (binP false .eql (I ls 0) (J 14)) fun bU=>
 R (
 oif bU (
 some (.inl [I ls 0,bU])
) (
 R (binP false .eql (I ls 0) (J 15)) fun b4=>
 R (
 oif b4 (
 some (.inl [I ls 0,b4])
) (
 R (binP false .eql (I ls 0) (J 16)) fun cv=>
 R (
 oif cv (
 some (.inl [I ls 0,cv])
) (
 R (binP false .eql (I ls 0) (J 17)) fun cF=>
 some (.inl [I ls 0,cF])
)
)<|a6 fun ls=>
 some (.inl [I ls 0,I ls 1])
)
)<|a6 fun ls=>
 some (.inl [I ls 0,I ls 1])
)
)<|a6 fun ls=>
 some (.inl [I ls 0,I ls 1])
)
)<|a6 fun ls=>
 some (.inl [I ls 0,I ls 1])
)
)<|a6 fun ls=>
 some (.inl [I ls 0,I ls 1])
)
)<|a6 fun ls=>
 some (.inl [I ls 0,I ls 1])
)
)<|a6 fun ls=>
 some (.inl [I ls 0,I ls 1])
)
)<|a6 fun ls=>
 some (.inl [I ls 0,I ls 1])
)
)<|a6 fun ls=>
 oif (I ls 1) (
 some (D.aL [J 2,J 2])
) (
 R (binP false .eql (I ls 0) (J 18)) fun cA=>
 oif cA (
 some (D.aL [J 3,J 3])
) (
 some (D.aL [J (-1),J (-1)])
)
)
)
)
)
def Cj(n:Nat):List D→Option D
 |[ab]=>Tv n ab
 |_=>none
def Tw(n:Nat)(ab:D):Option D:=
 aw (aK 4 ab)<|
 R (Cj n [aa ab 0]) fun v11=>
 R (extP 0 v11) fun bX=>
 R (extP 1 v11) fun cd=>
 R (binP false .lss bX (J 0)) fun bf=>
 oif bf (
 some (J 11)
) (
 R (
 R (binP false .eql (aa ab 0) (J 1)) fun b7=>
 R (
 oif b7 (
 some (.inl [bX,cd,J (-255),J 255,aa ab 0,aa ab 1,aa ab 2,aa ab 3])
) (
 R (binP false .eql (aa ab 0) (J 2)) fun bH=>
 R (
 oif bH (
 some (.inl [bX,cd,J 0,J 1,aa ab 0,aa ab 1,aa ab 2,aa ab 3])
) (
 some (.inl [bX,cd,J 0,J 0,aa ab 0,aa ab 1,aa ab 2,aa ab 3])
)
)<|a6 fun ls=>
 some (.inl [I ls 0,I ls 1,I ls 2,I ls 3,I ls 4,I ls 5,I ls 6,I ls 7])
)
)<|a6 fun ls=>
 some (.inl [I ls 0,I ls 1,I ls 2,I ls 3,I ls 4,I ls 5,I ls 6,I ls 7])
)<|a6 fun ls=>
 R (binP false .eql (I ls 4) (J 3)) fun cv=>
 R (gD cv false (
 R (binP false .eql (I ls 4) (J 4)) fun cp=>
 some cp
)) fun cp=>
 R (pickP cv (ar true) cp) fun cB=>
 R (binP false .lss (I ls 5) (I ls 2)) fun cZ=>
 R (gD cZ false (
 R (binP false .gtr (I ls 5) (I ls 3)) fun ey=>
 some ey
)) fun ey=>
 R (pickP cZ (ar true) ey) fun dr=>
 oif dr (
 some (J 2)
) (
 R (gD cB true (
 R (binP false .eql (I ls 6) (aI ⟨#[]⟩)) fun fL=>
 some fL
)) fun iI=>
 R (gD iI false (
 R (nq (I ls 6)) fun cV=>
 R (binP false .gtr cV (J 24)) fun fu=>
 some fu
)) fun fu=>
 R (gD cB true (
 R (pickP iI (ar true) fu) fun e8=>
 some e8
)) fun e8=>
 R (pickP cB e8 (ar false)) fun hH=>
 R (gD hH false (
 R (unP .not cB) fun eX=>
 some eX
)) fun h2=>
 R (gD h2 true (
 R (binP false .neq (I ls 6) (aI ⟨#[]⟩)) fun eG=>
 some eG
)) fun eG=>
 R (gD hH false (
 R (pickP h2 eG (ar false)) fun gw=>
 some gw
)) fun gw=>
 R (pickP hH (ar true) gw) fun hT=>
 oif hT (
 some (J 12)
) (
 R (lenP (I ls 7)) fun ee=>
 R (binP false .lss ee (I ls 0)) fun fB=>
 R (gD fB false (
 R (lenP (I ls 7)) fun gk=>
 R (binP false .gtr gk (I ls 1)) fun gv=>
 some gv
)) fun gv=>
 R (pickP fB (ar true) gv) fun mR=>
 oif mR (
 some (J 3)
) (
 some (J 0)
)
)
)
)
def Ck(n:Nat):List D→Option D
 |[ab]=>Tw n ab
 |_=>none
def Cl(n:Nat)(ls:List D):Option (List D):=
 aw (aK 4 (I ls 0))<|
 R (binP false .add (I ls 2) (J 1)) fun cf=>
 aw (bD cf)<|
 R (binP false .gtr (I ls 1) (J 64)) fun v10=>
 R (
 oif v10 (
 some (.inl [J 17,cf])
) (
 R (Ck n [D.agg [aa (I ls 0) 0,aa (I ls 0) 1,aa (I ls 0) 2,aa (I ls 0) 3]]) fun bX=>
 aw (bD bX)<|
 R (binP false .eql bX (J 0)) fun bq=>
 R (gD bq true (
 R (binP false .gtr cf (J 4096)) fun bC=>
 some bC
)) fun bC=>
 R (pickP bq bC (ar false)) fun bF=>
 R (
 oif bF (
 some (.inl [J 4,cf])
) (
 some (.inl [bX,cf])
)
)<|a6 fun ls=>
 some (.inl [I ls 0,I ls 1])
)
)<|a6 fun ls=>
 R (binP false .eql (I ls 0) (J 0)) fun v20=>
 some [v20,I ls 1,I ls 0]
def Cm(n:Nat)(ls:List D):Option (List D⊕(List D⊕(List D))):=
 R (binP false .gtr (I ls 1) (J 0)) fun bR=>
 R (gD bR true (
 R (binP false .sub (I ls 1) (J 1)) fun cd=>
 R (ct ((esD (I ls 2))).length cd) fun Md=>
 R (((esD (I ls 2)))[Md]?) fun afh=>
 R (aX false 1 0 afh) fun bf=>
 R (binP false .gtr bf (I ls 0)) fun bC=>
 some bC
)) fun bC=>
 R (pickP bR bC (ar false)) fun bF=>
 oif bF (
 R (binP false .sub (I ls 1) (J 1)) fun v20=>
 some (.inl [I ls 0,v20,D.aE 1 (esD (I ls 2))])
) (
 aU (
 some (.inl [I ls 0,I ls 1,D.aE 1 (esD (I ls 2))])
)
)
def tQ(n:Nat)(ls:List D):Option (List D):=
 R (
 bo (Cm n) n [I ls 0,J ((esD (I ls 1))).length,D.aE 1 (esD (I ls 1))]
)<|a6 fun ls=>
 R (binP false .gtr (I ls 1) (J 0)) fun bU=>
 R (gD bU true (
 R (binP false .sub (I ls 1) (J 1)) fun ch=>
 R (ct ((esD (I ls 2))).length ch) fun Cn=>
 R (((esD (I ls 2)))[Cn]?) fun Co=>
 R (aX false 1 0 Co) fun cp=>
 R (binP false .eql cp (I ls 0)) fun v30=>
 some v30
)) fun v30=>
 R (pickP bU v30 (ar false)) fun dB=>
 oif dB (
 some [D.aE 1 (esD (I ls 2))]
) (
 aw (c2 (((esD (I ls 2))).length+([[aI ⟨#[]⟩]]).length) 16)<|
 R (binP false .add (I ls 1) (J 1)) fun c8=>
 R (np (((esD (I ls 2))++[[aI ⟨#[]⟩]])).length (some c8) none) fun mS=>
 R (np (((esD (I ls 2))++[[aI ⟨#[]⟩]])).length (some (I ls 1)) none) fun jH=>
 aw (decide (jH.1+jH.2≤(((esD (I ls 2))++[[aI ⟨#[]⟩]])).length))<|
 aw (decide (mS.1+mS.2≤(((esD (I ls 2))++[[aI ⟨#[]⟩]])).length))<|
 R (ct (((((esD (I ls 2))++[[aI ⟨#[]⟩]])).take mS.1++(((((esD (I ls 2))++[[aI ⟨#[]⟩]])).drop jH.1).take jH.2).take (min (((((esD (I ls 2))++[[aI ⟨#[]⟩]])).drop jH.1).take jH.2).length mS.2)++(((esD (I ls 2))++[[aI ⟨#[]⟩]])).drop (mS.1+(min (((((esD (I ls 2))++[[aI ⟨#[]⟩]])).drop jH.1).take jH.2).length mS.2)))).length (I ls 1)) fun Tx=>
 aw (bD (I ls 0))<|
 R ((((((esD (I ls 2))++[[aI ⟨#[]⟩]])).take mS.1++(((((esD (I ls 2))++[[aI ⟨#[]⟩]])).drop jH.1).take jH.2).take (min (((((esD (I ls 2))++[[aI ⟨#[]⟩]])).drop jH.1).take jH.2).length mS.2)++(((esD (I ls 2))++[[aI ⟨#[]⟩]])).drop (mS.1+(min (((((esD (I ls 2))++[[aI ⟨#[]⟩]])).drop jH.1).take jH.2).length mS.2))))[Tx]?) fun lg=>
 some [D.aE 1 ((((((esD (I ls 2))++[[aI ⟨#[]⟩]])).take mS.1++(((((esD (I ls 2))++[[aI ⟨#[]⟩]])).drop jH.1).take jH.2).take (min (((((esD (I ls 2))++[[aI ⟨#[]⟩]])).drop jH.1).take jH.2).length mS.2)++(((esD (I ls 2))++[[aI ⟨#[]⟩]])).drop (mS.1+(min (((((esD (I ls 2))++[[aI ⟨#[]⟩]])).drop jH.1).take jH.2).length mS.2)))).set Tx (la lg 0 [I ls 0]))]
)
def v8(n:Nat)(ls:List D):Option (List D):=
 aw (aK 4 (I ls 0))<|
 R (
 R (binP false .eql (aa (I ls 0) 0) (J 3)) fun v10=>
 R (
 oif v10 (
 R (tQ n [aa (I ls 0) 2,D.aE 1 (esD (I ls 2))]) fun ad=>
 some (.inl [D.aE 1 (esD (I ad 0)),D.aE 1 (esD (I ls 3))])
) (
 R (binP false .eql (aa (I ls 0) 0) (J 4)) fun bE=>
 R (
 oif bE (
 R (tQ n [aa (I ls 0) 2,D.aE 1 (esD (I ls 3))]) fun ae=>
 some (.inl [D.aE 1 (esD (I ls 2)),D.aE 1 (esD (I ae 0))])
) (
 some (.inl [D.aE 1 (esD (I ls 2)),D.aE 1 (esD (I ls 3))])
)
)<|a6 fun ls=>
 some (.inl [D.aE 1 (esD (I ls 0)),D.aE 1 (esD (I ls 1))])
)
)<|a6 fun ls=>
 some (.inl [D.aE 1 (esD (I ls 0)),D.aE 1 (esD (I ls 1))])
)<|a6 fun ls=>
 some [ar true,D.aE 1 (esD (I ls 0)),D.aE 1 (esD (I ls 1))]
def GZ(v9:List D→Option (List D))(n:Nat)(ls:List D):Option (List D⊕(List D⊕(List D))):=
 R (binP false .lss (I ls 3) (I ls 2)) fun bF=>
 oif bF (
 R (a3 4 (I ls 1) (I ls 3)) fun py=>
 R (aX true 4 0 py) fun v20=>
 aw (aK 4 v20)<|
 R (binP false .add (I ls 0) (J 1)) fun b4=>
 R (v9 [D.agg [aa v20 0,aa v20 1,aa v20 2,aa v20 3],b4,I ls 4,I ls 5]) fun ae=>
 R (unP .not (I ae 0)) fun ch=>
 oif ch (
 aU (
 aU (
 some [ar false,I ae 1,I ae 2]
)
)
) (
 R (binP false .add (I ls 3) (J 1)) fun cA=>
 some (.inl [I ls 0,I ls 1,I ls 2,cA,I ae 1,I ae 2])
)
) (
 aU (
 some (.inl [I ls 4,I ls 5])
)
)
def Me(v9:List D→Option (List D))(n:Nat)(ls:List D):Option (List D):=
 aw (aK 4 (I ls 0))<|
 R (Cl n [D.agg [aa (I ls 0) 0,aa (I ls 0) 1,aa (I ls 0) 2,aa (I ls 0) 3],I ls 1,I ls 2,I ls 3]) fun ad=>
 R (unP .not (I ad 0)) fun cd=>
 oif cd (
 some [ar false,I ad 1,I ad 2]
) (
 R (lenP (aa (I ls 0) 3)) fun bE=>
 R (
 bo (GZ v9 n) n [I ls 1,aa (I ls 0) 3,bE,J 0,I ad 1,I ad 2]
)<|a6 fun ls=>
 some [ar true,I ls 0,I ls 1]
)
def r8:Nat→List D→Option (List D)
 |0,_=>none
 |n+1,ls=>Me (r8 n) n ls
def Tz(n:Nat)(ab:D):Option D:=
 aw (aK 4 ab)<|
 R (r8 n [D.agg [aa ab 0,aa ab 1,aa ab 2,aa ab 3],J 1,J 0,J 0]) fun ad=>
 some (I ad 2)
def qN(n:Nat):List D→Option D
 |[ab]=>Tz n ab
 |_=>none
def G0(wa:List D→Option (List D))(n:Nat)(ls:List D):Option (List D⊕(List D⊕(List D))):=
 R (binP false .lss (I ls 3) (I ls 2)) fun bF=>
 oif bF (
 R (a3 4 (I ls 1) (I ls 3)) fun py=>
 R (aX true 4 0 py) fun v20=>
 aw (aK 4 v20)<|
 R (binP false .add (I ls 0) (J 1)) fun b4=>
 R (wa [D.agg [aa v20 0,aa v20 1,aa v20 2,aa v20 3],b4,D.aE 1 (esD (I ls 4)),D.aE 1 (esD (I ls 5))]) fun ae=>
 R (unP .not (I ae 0)) fun ch=>
 oif ch (
 aU (
 aU (
 some [ar false,D.aE 1 (esD (I ae 1)),D.aE 1 (esD (I ae 2))]
)
)
) (
 R (binP false .add (I ls 3) (J 1)) fun cA=>
 some (.inl [I ls 0,I ls 1,I ls 2,cA,D.aE 1 (esD (I ae 1)),D.aE 1 (esD (I ae 2))])
)
) (
 aU (
 some (.inl [D.aE 1 (esD (I ls 4)),D.aE 1 (esD (I ls 5))])
)
)
def Mf(wa:List D→Option (List D))(n:Nat)(ls:List D):Option (List D):=
 aw (aK 4 (I ls 0))<|
 R (v8 n [D.agg [aa (I ls 0) 0,aa (I ls 0) 1,aa (I ls 0) 2,aa (I ls 0) 3],I ls 1,D.aE 1 (esD (I ls 2)),D.aE 1 (esD (I ls 3))]) fun ad=>
 R (unP .not (I ad 0)) fun cd=>
 oif cd (
 some [ar false,D.aE 1 (esD (I ad 1)),D.aE 1 (esD (I ad 2))]
) (
 R (lenP (aa (I ls 0) 3)) fun bE=>
 R (
 bo (G0 wa n) n [I ls 1,aa (I ls 0) 3,bE,J 0,D.aE 1 (esD (I ad 1)),D.aE 1 (esD (I ad 2))]
)<|a6 fun ls=>
 some [ar true,D.aE 1 (esD (I ls 0)),D.aE 1 (esD (I ls 1))]
)
def r9:Nat→List D→Option (List D)
 |0,_=>none
 |n+1,ls=>Mf (r9 n) n ls
def TA(n:Nat)(ab:D):Option D:=
 aw (aK 4 ab)<|
 R (r9 n [D.agg [aa ab 0,aa ab 1,aa ab 2,aa ab 3],J 1,D.aE 1 [],D.aE 1 []]) fun ad=>
 some (D.aL [D.aE 1 (esD (I ad 1)),D.aE 1 (esD (I ad 2))])
def pz(n:Nat):List D→Option D
 |[ab]=>TA n ab
 |_=>none
def G1(n:Nat)(ab:D):Option D:=
 aw (aK 6 ab)<|
 R (binP false .neq (aa ab 0) (J 1)) fun cf=>
 oif cf (
 some (J 0)
) (
 R (qN n [D.agg [aa ab 1,aa ab 2,aa ab 3,aa ab 4]]) fun v11=>
 R (binP false .neq v11 (J 0)) fun cd=>
 oif cd (
 some v11
) (
 R (pz n [D.agg [aa ab 1,aa ab 2,aa ab 3,aa ab 4]]) fun bF=>
 R (extP 0 bF) fun b7=>
 R (extP 1 bF) fun v20=>
 R (lenP v20) fun bU=>
 R (binP false .gtr bU (J 0)) fun b4=>
 oif b4 (
 some (J 24)
) (
 some (J 0)
)
)
)
def wb(n:Nat):List D→Option D
 |[ab]=>G1 n ab
 |_=>none
def TB(n:Nat)(ab:D):Option D:=
 R (
 R (binP false .eql ab (J 1)) fun j2=>
 oif j2 (
 aU (
 some (J 0)
)
) (
 R (binP false .eql ab (J 3)) fun bZ=>
 R (
 oif bZ (
 some (.inl [ab,bZ])
) (
 R (binP false .eql ab (J 4)) fun cf=>
 R (
 oif cf (
 some (.inl [ab,cf])
) (
 R (binP false .eql ab (J 5)) fun bR=>
 R (
 oif bR (
 some (.inl [ab,bR])
) (
 R (binP false .eql ab (J 9)) fun v10=>
 R (
 oif v10 (
 some (.inl [ab,v10])
) (
 R (binP false .eql ab (J 13)) fun v11=>
 some (.inl [ab,v11])
)
)<|a6 fun ls=>
 some (.inl [I ls 0,I ls 1])
)
)<|a6 fun ls=>
 some (.inl [I ls 0,I ls 1])
)
)<|a6 fun ls=>
 some (.inl [I ls 0,I ls 1])
)
)<|a6 fun ls=>
 oif (I ls 1) (
 aU (
 some (J 2)
)
) (
 R (binP false .eql (I ls 0) (J 2)) fun cd=>
 R (
 oif cd (
 some (.inl [cd])
) (
 R (binP false .eql (I ls 0) (J 6)) fun bq=>
 R (
 oif bq (
 some (.inl [bq])
) (
 R (binP false .eql (I ls 0) (J 7)) fun bf=>
 R (
 oif bf (
 some (.inl [bf])
) (
 R (binP false .eql (I ls 0) (J 8)) fun bE=>
 R (
 oif bE (
 some (.inl [bE])
) (
 R (binP false .eql (I ls 0) (J 10)) fun bC=>
 R (
 oif bC (
 some (.inl [bC])
) (
 R (binP false .eql (I ls 0) (J 11)) fun bF=>
 R (
 oif bF (
 some (.inl [bF])
) (
 R (binP false .eql (I ls 0) (J 12)) fun b7=>
 some (.inl [b7])
)
)<|a6 fun ls=>
 some (.inl [I ls 0])
)
)<|a6 fun ls=>
 some (.inl [I ls 0])
)
)<|a6 fun ls=>
 some (.inl [I ls 0])
)
)<|a6 fun ls=>
 some (.inl [I ls 0])
)
)<|a6 fun ls=>
 some (.inl [I ls 0])
)
)<|a6 fun ls=>
 oif (I ls 0) (
 aU (
 some (J 1)
)
) (
 some (.inl [])
)
)
)
)<|a6 fun ls=>
 some (J (-1))
def Cp(n:Nat):List D→Option D
 |[ab]=>TB n ab
 |_=>none
def Cq(n:Nat)(ls:List D):Option (List D):=
 aw (aK 6 (I ls 0))<|
 R (binP false .add (I ls 2) (J 1)) fun v11=>
 aw (bD v11)<|
 R (binP false .eql (aa (I ls 0) 1) (J 0)) fun bf=>
 R (gD bf true (
 R (binP false .eql (aa (I ls 0) 2) (J 0)) fun v20=>
 some v20
)) fun v20=>
 R (pickP bf v20 (ar false)) fun bH=>
 R (gD bH true (
 R (binP false .eql (aa (I ls 0) 3) (aI ⟨#[]⟩)) fun ch=>
 some ch
)) fun ch=>
 R (pickP bH ch (ar false)) fun cA=>
 R (gD cA true (
 R (lenP (aa (I ls 0) 4)) fun dt=>
 R (binP false .eql dt (J 0)) fun dg=>
 some dg
)) fun dg=>
 R (pickP cA dg (ar false)) fun cZ=>
 R (wb n [D.agg [aa (I ls 0) 0,aa (I ls 0) 1,aa (I ls 0) 2,aa (I ls 0) 3,aa (I ls 0) 4,aa (I ls 0) 5]]) fun dh=>
 R (Cp n [aa (I ls 0) 0]) fun ey=>
 R (
 R (binP false .gtr (I ls 1) (J 64)) fun cY=>
 R (
 oif cY (
 some (.inl [J 17,v11])
) (
 R (binP false .lss ey (J 0)) fun cR=>
 R (
 oif cR (
 some (.inl [J 11,v11])
) (
 R (binP false .neq dh (J 0)) fun gi=>
 R (
 oif gi (
 aw (bD dh)<|
 some (.inl [dh,v11])
) (
 R (lenP (aa (I ls 0) 5)) fun hH=>
 R (binP false .neq hH ey) fun e7=>
 R (gD e7 false (
 R (binP false .neq (aa (I ls 0) 0) (J 1)) fun j3=>
 some j3
)) fun eG=>
 R (gD eG true (
 R (unP .not cZ) fun hT=>
 some hT
)) fun hT=>
 R (gD e7 false (
 R (pickP eG hT (ar false)) fun k0=>
 some k0
)) fun k0=>
 R (pickP e7 (ar true) k0) fun g4=>
 R (
 oif g4 (
 some (.inl [J 3,v11])
) (
 R (binP false .gtr v11 (J 4096)) fun fK=>
 R (
 oif fK (
 some (.inl [J 4,v11])
) (
 some (.inl [I ls 3,v11])
)
)<|a6 fun ls=>
 some (.inl [I ls 0,I ls 1])
)
)<|a6 fun ls=>
 some (.inl [I ls 0,I ls 1])
)
)<|a6 fun ls=>
 some (.inl [I ls 0,I ls 1])
)
)<|a6 fun ls=>
 some (.inl [I ls 0,I ls 1])
)
)<|a6 fun ls=>
 some (.inl [I ls 0,I ls 1])
)<|a6 fun ls=>
 R (binP false .eql (I ls 0) (J 0)) fun ep=>
 some [ep,I ls 1,I ls 0]
def G2(wc:List D→Option (List D))(n:Nat)(ls:List D):Option (List D⊕(List D⊕(List D))):=
 R (binP false .lss (I ls 3) (I ls 2)) fun bF=>
 oif bF (
 R (a3 6 (I ls 1) (I ls 3)) fun py=>
 R (aX true 6 0 py) fun v20=>
 aw (aK 6 v20)<|
 R (binP false .add (I ls 0) (J 1)) fun b4=>
 R (wc [D.agg [aa v20 0,aa v20 1,aa v20 2,aa v20 3,aa v20 4,aa v20 5],b4,I ls 4,I ls 5]) fun ae=>
 R (unP .not (I ae 0)) fun ch=>
 oif ch (
 aU (
 aU (
 some [ar false,I ae 1,I ae 2]
)
)
) (
 R (binP false .add (I ls 3) (J 1)) fun cA=>
 some (.inl [I ls 0,I ls 1,I ls 2,cA,I ae 1,I ae 2])
)
) (
 aU (
 some (.inl [I ls 4,I ls 5])
)
)
def Mg(wc:List D→Option (List D))(n:Nat)(ls:List D):Option (List D):=
 aw (aK 6 (I ls 0))<|
 R (Cq n [D.agg [aa (I ls 0) 0,aa (I ls 0) 1,aa (I ls 0) 2,aa (I ls 0) 3,aa (I ls 0) 4,aa (I ls 0) 5],I ls 1,I ls 2,I ls 3]) fun ad=>
 R (unP .not (I ad 0)) fun cd=>
 oif cd (
 some [ar false,I ad 1,I ad 2]
) (
 R (lenP (aa (I ls 0) 5)) fun bE=>
 R (
 bo (G2 wc n) n [I ls 1,aa (I ls 0) 5,bE,J 0,I ad 1,I ad 2]
)<|a6 fun ls=>
 some [ar true,I ls 0,I ls 1]
)
def sa:Nat→List D→Option (List D)
 |0,_=>none
 |n+1,ls=>Mg (sa n) n ls
def TC(n:Nat)(ab:D):Option D:=
 aw (aK 6 ab)<|
 R (sa n [D.agg [aa ab 0,aa ab 1,aa ab 2,aa ab 3,aa ab 4,aa ab 5],J 1,J 0,J 0]) fun ad=>
 some (I ad 2)
def nB(n:Nat):List D→Option D
 |[ab]=>TC n ab
 |_=>none
def Cr(n:Nat)(ls:List D):Option (List D⊕(List D⊕D)):=
 R (binP false .lss (I ls 2) (I ls 1)) fun bX=>
 oif bX (
 R (
 R (a3 5 (I ls 0) (I ls 2)) fun eQ=>
 R (aX true 5 0 eQ) fun bf=>
 aw (aK 5 bf)<|
 R (lookP (.string) (.int .i64 0) true (fq (I ls 3)) (aa bf 0)) fun v20=>
 R (extP 0 v20) fun bH=>
 R (extP 1 v20) fun bU=>
 R (unP .not bU) fun cv=>
 R (
 oif cv (
 R (o4 (.string) (fq (I ls 3)) (aa bf 0) (I ls 2)) fun Mh=>
 some (.inl [I ls 0,I ls 1,I ls 2,D.mp Mh])
) (
 some (.inl [I ls 0,I ls 1,I ls 2,D.mp (fq (I ls 3))])
)
)<|a6 fun ls=>
 some (.inl [I ls 0,I ls 1,I ls 2,D.mp (fq (I ls 3))])
)<|a6 fun ls=>
 R (binP false .add (I ls 2) (J 1)) fun cB=>
 some (.inl [I ls 0,I ls 1,cB,D.mp (fq (I ls 3))])
) (
 aU (
 some (.inl [D.mp (fq (I ls 3))])
)
)
def TD(n:Nat)(ab:D):Option D:=
 R (lenP ab) fun v10=>
 R (
 bo (Cr n) n [ab,v10,J 0,D.mp []]
)<|a6 fun ls=>
 some (D.mp (fq (I ls 0)))
def sb(n:Nat):List D→Option D
 |[ab]=>TD n ab
 |_=>none
def Cs(n:Nat)(ls:List D):Option (List D⊕(List D⊕(List D⊕(List D⊕(List D⊕D))))):=
 R (binP false .lss (I ls 6) (I ls 5)) fun dB=>
 oif dB (
 R (
 R (a3 1 (I ls 4) (I ls 6)) fun Mi=>
 R (aX false 1 0 Mi) fun dg=>
 R (kS (I ls 0)) fun afi=>
 R (lookP (.string) (.int .i64 0) true afi dg) fun dk=>
 R (extP 0 dk) fun c8=>
 R (extP 1 dk) fun ey=>
 R (
 oif ey (
 aw (bD c8)<|
 aw (c2 (((esD (I ls 8))).length+([[c8]]).length) 8)<|
 some (.inl [I ls 0,I ls 1,I ls 2,I ls 3,I ls 4,I ls 5,I ls 6,D.aE 1 (esD (I ls 7)),D.aE 1 ((esD (I ls 8))++[[c8]])])
) (
 some (.inl [I ls 0,I ls 1,I ls 2,I ls 3,I ls 4,I ls 5,I ls 6,D.aE 1 (esD (I ls 7)),D.aE 1 (esD (I ls 8))])
)
)<|a6 fun ls=>
 some (.inl [I ls 0,I ls 1,I ls 2,I ls 3,I ls 4,I ls 5,I ls 6,D.aE 1 (esD (I ls 7)),D.aE 1 (esD (I ls 8))])
)<|a6 fun ls=>
 R (binP false .add (I ls 6) (J 1)) fun cR=>
 some (.inl [I ls 0,I ls 1,I ls 2,I ls 3,I ls 4,I ls 5,cR,D.aE 1 (esD (I ls 7)),D.aE 1 (esD (I ls 8))])
) (
 aU (
 some (.inl [I ls 0,I ls 1,I ls 2,I ls 3,D.aE 1 (esD (I ls 7)),D.aE 1 (esD (I ls 8))])
)
)
def G3(n:Nat)(ls:List D):Option (List D⊕(List D⊕D)):=
 R (binP false .lss (I ls 3) (I ls 2)) fun b7=>
 oif b7 (
 R (
 R (a3 5 (I ls 1) (I ls 3)) fun pw=>
 R (aX true 5 0 pw) fun bH=>
 aw (aK 5 bH)<|
 R (pz n [D.agg [aa bH 1,aa bH 2,aa bH 3,aa bH 4]]) fun cF=>
 R (extP 0 cF) fun ch=>
 R (extP 1 cF) fun cA=>
 R (lenP ch) fun cB=>
 R (
 bo (Cs n) n [I ls 0,I ls 1,I ls 2,I ls 3,ch,cB,J 0,D.aE 1 (esD (I ls 4)),D.aE 1 []]
)<|a6 fun ls=>
 aw (bD (D.aE 1 (esD (I ls 5))))<|
 aw (c2 (((esD (I ls 4))).length+([[D.aE 1 (esD (I ls 5))]]).length) 24)<|
 some (.inl [I ls 0,I ls 1,I ls 2,I ls 3,D.aE 1 ((esD (I ls 4))++[[D.aE 1 (esD (I ls 5))]])])
)<|a6 fun ls=>
 R (binP false .add (I ls 3) (J 1)) fun cV=>
 some (.inl [I ls 0,I ls 1,I ls 2,cV,D.aE 1 (esD (I ls 4))])
) (
 aU (
 some (.inl [D.aE 1 (esD (I ls 4))])
)
)
def TE(n:Nat)(ab:D):Option D:=
 R (sb n [ab]) fun bf=>
 R (lenP ab) fun bC=>
 R (
 bo (G3 n) n [bf,ab,bC,J 0,D.aE 1 []]
)<|a6 fun ls=>
 some (D.aE 1 (esD (I ls 0)))
def Ct(n:Nat):List D→Option D
 |[ab]=>TE n ab
 |_=>none
def Cu(we:List D→Option (List D))(n:Nat)(ls:List D):Option (List D⊕(List D⊕(List D))):=
 R (binP false .lss (I ls 2) (I ls 1)) fun cd=>
 oif cd (
 R (
 R (a3 1 (I ls 0) (I ls 2)) fun eQ=>
 R (aX false 1 0 eQ) fun bf=>
 R (lookP (.int .i64) (.bool false) false (fq (I ls 4)) bf) fun bF=>
 R (unP .not bF) fun b7=>
 R (
 oif b7 (
 R (o4 (.int .i64) (fq (I ls 4)) bf (ar true)) fun afj=>
 R (we [bf,I ls 3,D.mp afj]) fun ae=>
 some (.inl [I ls 0,I ls 1,I ls 2,I ae 1,D.mp (fq (I ae 2))])
) (
 some (.inl [I ls 0,I ls 1,I ls 2,I ls 3,D.mp (fq (I ls 4))])
)
)<|a6 fun ls=>
 some (.inl [I ls 0,I ls 1,I ls 2,I ls 3,D.mp (fq (I ls 4))])
)<|a6 fun ls=>
 R (binP false .add (I ls 2) (J 1)) fun cF=>
 some (.inl [I ls 0,I ls 1,cF,I ls 3,D.mp (fq (I ls 4))])
) (
 aU (
 some (.inl [I ls 3,D.mp (fq (I ls 4))])
)
)
def G4(we:List D→Option (List D))(n:Nat)(ls:List D):Option (List D):=
 R (a3 1 (I ls 1) (I ls 0)) fun afk=>
 R (aX false 1 0 afk) fun v10=>
 R (lenP v10) fun v11=>
 R (
 bo (Cu we n) n [v10,v11,J 0,I ls 1,D.mp (fq (I ls 2))]
)<|a6 fun ls=>
 some [D.aL [],I ls 0,D.mp (fq (I ls 1))]
def pA:Nat→List D→Option (List D)
 |0,_=>none
 |n+1,ls=>G4 (pA n) n ls
def G5(n:Nat)(ls:List D):Option (List D⊕(List D⊕(List D))):=
 R (binP false .lss (I ls 2) (I ls 1)) fun bq=>
 oif bq (
 R (a3 1 (I ls 0) (I ls 2)) fun Cv=>
 R (aX false 1 0 Cv) fun bE=>
 R (pA n [bE,I ls 4,D.mp (fq (I ls 3))]) fun ad=>
 R (binP false .add (I ls 2) (J 1)) fun v20=>
 some (.inl [I ls 0,I ls 1,v20,D.mp (fq (I ad 2)),I ad 1])
) (
 aU (
 some (.inl [D.mp (fq (I ls 3))])
)
)
def Cw(n:Nat)(ls:List D):Option (List D):=
 aw (bD (I ls 0))<|
 R (lenP (I ls 1)) fun bX=>
 R (
 bo (G5 n) n [I ls 1,bX,J 0,D.mp [],I ls 0]
)<|a6 fun ls=>
 some [D.mp (fq (I ls 0))]
def G6(n:Nat)(ls:List D):Option (List D⊕(List D⊕D)):=
 R (binP false .lss (I ls 2) (I ls 1)) fun bq=>
 oif bq (
 R (a3 1 (I ls 0) (I ls 2)) fun Cv=>
 R (aX false 1 0 Cv) fun bE=>
 R (pA n [bE,I ls 4,D.mp (fq (I ls 3))]) fun ad=>
 R (binP false .add (I ls 2) (J 1)) fun v20=>
 some (.inl [I ls 0,I ls 1,v20,D.mp (fq (I ad 2)),I ad 1])
) (
 aU (
 some (.inl [D.mp (fq (I ls 3))])
)
)
def TF(n:Nat)(ab:D)(ag:D):Option D:=
 aw (bD ab)<|
 R (lenP ag) fun bX=>
 R (
 bo (G6 n) n [ag,bX,J 0,D.mp [],ab]
)<|a6 fun ls=>
 some (D.mp (fq (I ls 0)))
def y8(n:Nat):List D→Option D
 |[ab,ag]=>TF n ab ag
 |_=>none
def Cx(sc:List D→Option (List D))(n:Nat)(ls:List D):Option (List D⊕(List D⊕(List D))):=
 R (binP false .eql (I ls 4) (J 3)) fun bE=>
 oif bE (
 R (kS (I ls 1)) fun afl=>
 R (lookP (.string) (.int .i64 0) true afl (I ls 6)) fun bH=>
 R (extP 0 bH) fun bU=>
 R (extP 1 bH) fun b4=>
 R (unP .not b4) fun cF=>
 oif cF (
 aU (
 some (.inl [I ls 0,I ls 3,I ls 4,I ls 5,I ls 6,I ls 7,I ls 8,I ls 9,I ls 10,I ls 11,I ls 1,I ls 2])
)
) (
 R (a3 5 (I ls 2) bU) fun r6=>
 R (aX true 4 1 r6) fun v30=>
 aw (aK 4 v30)<|
 some (.inl [I ls 0,I ls 1,I ls 2,I ls 3,aa v30 0,aa v30 1,aa v30 2,aa v30 3,I ls 8,I ls 9,I ls 10,I ls 11])
)
) (
 aU (
 some (.inl [I ls 0,I ls 3,I ls 4,I ls 5,I ls 6,I ls 7,I ls 8,I ls 9,I ls 10,I ls 11,I ls 1,I ls 2])
)
)
def y9(sc:List D→Option (List D))(n:Nat)(ls:List D):Option (List D⊕(List D⊕(List D))):=
 R (binP false .lss (I ls 3) (I ls 2)) fun fL=>
 oif fL (
 R (
 R (a3 4 (I ls 1) (I ls 3)) fun afm=>
 R (aX true 4 0 afm) fun ei=>
 aw (aK 4 ei)<|
 R (binP false .leq (I ls 0) (J 64)) fun fu=>
 R (gD fu true (
 R (binP false .leq (I ls 4) (J 4096)) fun iG=>
 some iG
)) fun iG=>
 R (pickP fu iG (ar false)) fun e7=>
 R (
 oif e7 (
 R (binP false .add (I ls 0) (J 1)) fun gw=>
 R (sc [D.agg [aa ei 0,aa ei 1,aa ei 2,aa ei 3],gw,I ls 14,I ls 15,I ls 4]) fun ad=>
 R (ct ((esD (I ls 13))).length (I ls 3)) fun G7=>
 aw (aK 4 (I ad 0))<|
 R (((esD (I ls 13)))[G7]?) fun jI=>
 some (.inl [I ls 0,I ls 1,I ls 2,I ls 3,I ad 3,I ls 5,I ls 6,I ls 7,I ls 8,I ls 9,I ls 10,I ls 11,I ls 12,D.aE 4 (((esD (I ls 13))).set G7 (la jI 0 [aa (I ad 0) 0,aa (I ad 0) 1,aa (I ad 0) 2,aa (I ad 0) 3])),I ad 1,I ad 2])
) (
 some (.inl [I ls 0,I ls 1,I ls 2,I ls 3,I ls 4,I ls 5,I ls 6,I ls 7,I ls 8,I ls 9,I ls 10,I ls 11,I ls 12,D.aE 4 (esD (I ls 13)),I ls 14,I ls 15])
)
)<|a6 fun ls=>
 some (.inl [I ls 0,I ls 1,I ls 2,I ls 3,I ls 4,I ls 5,I ls 6,I ls 7,I ls 8,I ls 9,I ls 10,I ls 11,I ls 12,D.aE 4 (esD (I ls 13)),I ls 14,I ls 15])
)<|a6 fun ls=>
 R (binP false .add (I ls 3) (J 1)) fun g4=>
 some (.inl [I ls 0,I ls 1,I ls 2,g4,I ls 4,I ls 5,I ls 6,I ls 7,I ls 8,I ls 9,I ls 10,I ls 11,I ls 12,D.aE 4 (esD (I ls 13)),I ls 14,I ls 15])
) (
 aU (
 some (.inl [I ls 5,I ls 6,I ls 7,I ls 8,I ls 9,I ls 10,I ls 11,I ls 12,D.aE 4 (esD (I ls 13)),I ls 14,I ls 15,I ls 4])
)
)
def Cy(sc:List D→Option (List D))(n:Nat)(ls:List D):Option (List D):=
 aw (aK 4 (I ls 0))<|
 R (
 bo (Cx sc n) n [I ls 1,I ls 2,I ls 3,I ls 4,aa (I ls 0) 0,aa (I ls 0) 1,aa (I ls 0) 2,aa (I ls 0) 3,J 0,J 0,aI ⟨#[]⟩,D.val (.slice none 0 0)]
)<|a6 fun ls=>
 R (binP false .add (I ls 1) (J 1)) fun dt=>
 aw (bD dt)<|
 R (lenP (I ls 5)) fun e2=>
 R (binP false .eql e2 (J 0)) fun dh=>
 oif dh (
 aw (aK 4 (D.agg [I ls 2,I ls 3,I ls 4,I ls 5]))<|
 some [D.agg [I ls 2,I ls 3,I ls 4,I ls 5],I ls 10,I ls 11,dt]
) (
 R (lenP (I ls 5)) fun dr=>
 R (makeP 56 dr dr) fun afn=>
 R (lenP (I ls 5)) fun dH=>
 R (
 bo (y9 sc n) n [I ls 0,I ls 5,dH,J 0,dt,I ls 2,I ls 3,I ls 4,I ls 5,I ls 6,I ls 7,I ls 8,I ls 9,D.aE 4 (List.replicate afn [D.val (.int .i64 0),D.val (.int .i64 0),D.val (.string ⟨#[]⟩),D.val (.slice none 0 0)]),I ls 10,I ls 11]
)<|a6 fun ls=>
 aw (bD (D.aE 4 (esD (I ls 8))))<|
 aw (aK 4 (D.agg [I ls 0,I ls 1,I ls 2,D.aE 4 (esD (I ls 8))]))<|
 some [D.agg [I ls 0,I ls 1,I ls 2,D.aE 4 (esD (I ls 8))],I ls 9,I ls 10,I ls 11]
)
def qO:Nat→List D→Option (List D)
 |0,_=>none
 |n+1,ls=>Cy (qO n) n ls
def TG(n:Nat)(ab:D)(ag:D):Option D:=
 aw (aK 4 ab)<|
 aw (bD ag)<|
 R (sb n [ag]) fun bR=>
 aw (bD bR)<|
 R (qO n [D.agg [aa ab 0,aa ab 1,aa ab 2,aa ab 3],J 1,bR,ag,J 0]) fun ad=>
 aw (aK 4 (I ad 0))<|
 some (D.agg [aa (I ad 0) 0,aa (I ad 0) 1,aa (I ad 0) 2,aa (I ad 0) 3])
def Cz(n:Nat):List D→Option D
 |[ab,ag]=>TG n ab ag
 |_=>none
def za(n:Nat)(ls:List D):Option (List D⊕(List D⊕D)):=
 R (binP false .lss (I ls 5) (I ls 4)) fun ey=>
 oif ey (
 R (
 R (a3 1 (I ls 3) (I ls 5)) fun afo=>
 R (aX false 1 0 afo) fun fl=>
 R (kS (I ls 1)) fun afp=>
 R (lookP (.string) (.int .i64 0) true afp fl) fun cR=>
 R (extP 0 cR) fun fL=>
 R (extP 1 cR) fun iI=>
 R (
 oif iI (
 aw (bD fL)<|
 aw (c2 (((esD (I ls 14))).length+([[fL]]).length) 8)<|
 some (.inl [I ls 0,I ls 1,I ls 2,I ls 3,I ls 4,I ls 5,I ls 6,I ls 7,I ls 8,I ls 9,I ls 10,I ls 11,I ls 12,I ls 13,D.aE 1 ((esD (I ls 14))++[[fL]])])
) (
 some (.inl [I ls 0,I ls 1,I ls 2,I ls 3,I ls 4,I ls 5,I ls 6,I ls 7,I ls 8,I ls 9,I ls 10,I ls 11,I ls 12,I ls 13,D.aE 1 (esD (I ls 14))])
)
)<|a6 fun ls=>
 some (.inl [I ls 0,I ls 1,I ls 2,I ls 3,I ls 4,I ls 5,I ls 6,I ls 7,I ls 8,I ls 9,I ls 10,I ls 11,I ls 12,I ls 13,D.aE 1 (esD (I ls 14))])
)<|a6 fun ls=>
 R (binP false .add (I ls 5) (J 1)) fun hH=>
 some (.inl [I ls 0,I ls 1,I ls 2,I ls 3,I ls 4,hH,I ls 6,I ls 7,I ls 8,I ls 9,I ls 10,I ls 11,I ls 12,I ls 13,D.aE 1 (esD (I ls 14))])
) (
 aU (
 some (.inl [I ls 0,I ls 2,I ls 6,I ls 7,I ls 8,I ls 9,I ls 10,I ls 11,I ls 12,I ls 13,D.aE 1 (esD (I ls 14))])
)
)
def G8(n:Nat)(ls:List D):Option (List D⊕(List D⊕D)):=
 R (binP false .lss (I ls 4) (I ls 3)) fun eG=>
 oif eG (
 R (a3 1 (I ls 2) (I ls 4)) fun CA=>
 R (aX false 1 0 CA) fun hT=>
 R (o4 (.int .i64) (fq (I ls 13)) hT (ar true)) fun afq=>
 R (binP false .add (I ls 4) (J 1)) fun jj=>
 some (.inl [I ls 0,I ls 1,I ls 2,I ls 3,jj,I ls 5,I ls 6,I ls 7,I ls 8,I ls 9,I ls 10,I ls 11,I ls 12,D.mp afq])
) (
 aU (
 some (.inl [I ls 0,I ls 1,I ls 5,I ls 6,I ls 7,I ls 8,I ls 9,I ls 10,I ls 11,I ls 12,D.mp (fq (I ls 13))])
)
)
def wg(n:Nat)(ls:List D):Option (List D⊕(List D⊕D)):=
 R (binP false .lss (I ls 3) (I ls 2)) fun ep=>
 oif ep (
 R (lookP (.int .i64) (.bool false) false (fq (I ls 12)) (I ls 3)) fun gl=>
 R (gD gl true (
 aw (bD (I ls 3))<|
 R (y8 n [I ls 1,D.aE 1 [[I ls 3]]]) fun lv=>
 R (kS lv) fun afr=>
 R (lookP (.int .i64) (.bool false) false afr (I ls 3)) fun lx=>
 some lx
)) fun lx=>
 R (pickP gl lx (ar false)) fun iJ=>
 oif iJ (
 aU (
 aU (
 some (D.aL [D.agg [J 0,J 0,aI ⟨#[]⟩,D.val (.slice none 0 0)],J 14])
)
)
) (
 R (binP false .add (I ls 3) (J 1)) fun j4=>
 some (.inl [I ls 0,I ls 1,I ls 2,j4,I ls 4,I ls 5,I ls 6,I ls 7,I ls 8,I ls 9,I ls 10,I ls 11,D.mp (fq (I ls 12))])
)
) (
 aU (
 some (.inl [I ls 0,I ls 4,I ls 5,I ls 6,I ls 7,I ls 8,I ls 9,I ls 10,I ls 11])
)
)
def CB(n:Nat)(ab:D)(ag:D):Option D:=
 aw (aK 4 ab)<|
 R (qN n [D.agg [aa ab 0,aa ab 1,aa ab 2,aa ab 3]]) fun bU=>
 R (binP false .neq bU (J 0)) fun cv=>
 oif cv (
 some (D.aL [D.agg [J 0,J 0,aI ⟨#[]⟩,D.val (.slice none 0 0)],bU])
) (
 R (sb n [ag]) fun cp=>
 R (Ct n [ag]) fun v30=>
 R (pz n [D.agg [aa ab 0,aa ab 1,aa ab 2,aa ab 3]]) fun dg=>
 R (extP 0 dg) fun cZ=>
 R (extP 1 dg) fun e2=>
 R (lenP cZ) fun dk=>
 R (
 bo (za n) n [ag,cp,v30,cZ,dk,J 0,aa ab 0,aa ab 1,aa ab 2,aa ab 3,J 0,J 0,aI ⟨#[]⟩,D.val (.slice none 0 0),D.aE 1 []]
)<|a6 fun ls=>
 R (Cw n [I ls 1,D.aE 1 (esD (I ls 10))]) fun ad=>
 R (lenP (D.aE 1 (esD (I ls 10)))) fun eW=>
 R (
 bo (G8 n) n [I ls 0,I ls 1,D.aE 1 (esD (I ls 10)),eW,J 0,I ls 2,I ls 3,I ls 4,I ls 5,I ls 6,I ls 7,I ls 8,I ls 9,D.mp (fq (I ad 0))]
)<|a6 fun ls=>
 R (lenP (I ls 0)) fun fK=>
 R (
 bo (wg n) n [I ls 0,I ls 1,fK,J 0,I ls 2,I ls 3,I ls 4,I ls 5,I ls 6,I ls 7,I ls 8,I ls 9,D.mp (fq (I ls 10))]
)<|a6 fun ls=>
 R (Cz n [D.agg [I ls 1,I ls 2,I ls 3,I ls 4],I ls 0]) fun h3=>
 aw (aK 4 h3)<|
 R (qN n [D.agg [aa h3 0,aa h3 1,aa h3 2,aa h3 3]]) fun sd=>
 R (binP false .neq sd (J 0)) fun hI=>
 oif hI (
 some (D.aL [D.agg [J 0,J 0,aI ⟨#[]⟩,D.val (.slice none 0 0)],sd])
) (
 aw (aK 4 (D.agg [aa h3 0,aa h3 1,aa h3 2,aa h3 3]))<|
 some (D.aL [D.agg [aa h3 0,aa h3 1,aa h3 2,aa h3 3],J 0])
)
)
def kz(n:Nat):List D→Option D
 |[ab,ag]=>CB n ab ag
 |_=>none
def CC(n:Nat)(ls:List D):Option (List D⊕(List D⊕D)):=
 R (binP false .lss (I ls 2) (I ls 1)) fun bX=>
 oif bX (
 R (
 R (a3 4 (I ls 0) (I ls 2)) fun eQ=>
 R (aX true 4 0 eQ) fun bf=>
 aw (aK 4 bf)<|
 R (lookP (.string) (.int .i64 0) true (fq (I ls 3)) (aa bf 0)) fun v20=>
 R (extP 0 v20) fun bH=>
 R (extP 1 v20) fun bU=>
 R (unP .not bU) fun cv=>
 R (
 oif cv (
 R (o4 (.string) (fq (I ls 3)) (aa bf 0) (I ls 2)) fun Mh=>
 some (.inl [I ls 0,I ls 1,I ls 2,D.mp Mh])
) (
 some (.inl [I ls 0,I ls 1,I ls 2,D.mp (fq (I ls 3))])
)
)<|a6 fun ls=>
 some (.inl [I ls 0,I ls 1,I ls 2,D.mp (fq (I ls 3))])
)<|a6 fun ls=>
 R (binP false .add (I ls 2) (J 1)) fun cB=>
 some (.inl [I ls 0,I ls 1,cB,D.mp (fq (I ls 3))])
) (
 aU (
 some (.inl [D.mp (fq (I ls 3))])
)
)
def TH(n:Nat)(ab:D):Option D:=
 R (lenP ab) fun v10=>
 R (
 bo (CC n) n [ab,v10,J 0,D.mp []]
)<|a6 fun ls=>
 some (D.mp (fq (I ls 0)))
def wh(n:Nat):List D→Option D
 |[ab]=>TH n ab
 |_=>none
def TI(n:Nat)(ab:D)(ag:D):Option D:=
 R (binP false .lss ab (J (-1048576))) fun bZ=>
 R (gD bZ false (
 R (binP false .gtr ag (J 1048576)) fun v10=>
 some v10
)) fun v10=>
 R (pickP bZ (ar true) v10) fun v11=>
 R (gD v11 false (
 R (binP false .gtr ab ag) fun bf=>
 some bf
)) fun bf=>
 R (pickP v11 (ar true) bf) fun bE=>
 R (gD bE false (
 R (binP false .sub ag ab) fun v20=>
 R (binP false .gtr v20 (J 4096)) fun bH=>
 some bH
)) fun bH=>
 R (pickP bE (ar true) bH) fun bU=>
 oif bU (
 some (D.aL [D.agg [ar false,J 0,J 0],J 2])
) (
 aw (bD ab)<|
 aw (bD ag)<|
 aw (aK 3 (D.agg [ar false,ab,ag]))<|
 some (D.aL [D.agg [ar false,ab,ag],J 0])
)
def pB(n:Nat):List D→Option D
 |[ab,ag]=>TI n ab ag
 |_=>none
def CD(n:Nat)(ls:List D):Option (List D⊕(List D⊕D)):=
 R (binP false .lss (I ls 2) (I ls 1)) fun bR=>
 oif bR (
 R (a3 3 (I ls 0) (I ls 2)) fun Mj=>
 R (aX true 3 0 Mj) fun v11=>
 aw (aK 3 v11)<|
 R (unP .not (aa v11 0)) fun bq=>
 oif bq (
 aU (
 aU (
 some (D.aL [D.agg [ar false,J 0,J 0],J 13])
)
)
) (
 R (binP false .add (I ls 2) (J 1)) fun bE=>
 some (.inl [I ls 0,I ls 1,bE,I ls 3,I ls 4,I ls 5])
)
) (
 aU (
 some (.inl [I ls 3,I ls 4,I ls 5])
)
)
def TJ(n:Nat)(ab:D):Option D:=
 R (lenP ab) fun bZ=>
 R (
 bo (CD n) n [ab,bZ,J 0,ar false,J 0,J 0]
)<|a6 fun ls=>
 some (D.aL [D.agg [ar true,J 0,J 0],J 0])
def CE(n:Nat):List D→Option D
 |[ab]=>TJ n ab
 |_=>none
def G9(n:Nat)(ab:D)(ag:D)(aS:D):Option D:=
 aw (aK 3 ag)<|
 aw (aK 3 aS)<|
 R (binP false .eql ab (J 15)) fun cd=>
 R (
 oif cd (
 R (unP .neg (aa aS 2)) fun bE=>
 R (unP .neg (aa aS 1)) fun b7=>
 aw (bD bE)<|
 aw (bD b7)<|
 aw (aK 3 (D.agg [ar false,bE,b7]))<|
 some (.inl [J 14,aa ag 0,aa ag 1,aa ag 2,ar false,bE,b7,ar false,J 0,J 0])
) (
 some (.inl [ab,aa ag 0,aa ag 1,aa ag 2,aa aS 0,aa aS 1,aa aS 2,ar false,J 0,J 0])
)
)<|a6 fun ls=>
 R (binP false .eql (I ls 0) (J 14)) fun bU=>
 oif bU (
 R (binP false .add (I ls 2) (I ls 5)) fun cA=>
 R (binP false .add (I ls 3) (I ls 6)) fun dt=>
 R (pB n [cA,dt]) fun dg=>
 R (extP 0 dg) fun cZ=>
 R (extP 1 dg) fun e2=>
 aw (aK 3 cZ)<|
 some (D.aL [D.agg [aa cZ 0,aa cZ 1,aa cZ 2],e2])
) (
 R (binP false .mul (I ls 2) (I ls 5)) fun dr=>
 R (binP false .mul (I ls 2) (I ls 6)) fun cR=>
 R (binP false .mul (I ls 3) (I ls 5)) fun cV=>
 R (binP false .mul (I ls 3) (I ls 6)) fun e7=>
 R (jz false [dr,cR,cV,e7]) fun eG=>
 R (jz true [dr,cR,cV,e7]) fun jj=>
 R (pB n [eG,jj]) fun ee=>
 R (extP 0 ee) fun fK=>
 R (extP 1 ee) fun fB=>
 aw (aK 3 fK)<|
 some (D.aL [D.agg [aa fK 0,aa fK 1,aa fK 2],fB])
)
def wi(n:Nat):List D→Option D
 |[ab,ag,aS]=>G9 n ab ag aS
 |_=>none
def qP(n:Nat)(ab:D)(ag:D)(aS:D)(bN:D)(en:D):Option D:=
 aw (aK 4 aS)<|
 R (
 R (binP false .eql (aa aS 0) (J 1)) fun bF=>
 oif bF (
 R (pB n [aa aS 1,aa aS 1]) fun b4=>
 R (extP 0 b4) fun cv=>
 R (extP 1 b4) fun cF=>
 aw (aK 3 cv)<|
 aU (
 some (D.aL [D.agg [aa cv 0,aa cv 1,aa cv 2],cF])
)
) (
 R (binP false .eql (aa aS 0) (J 2)) fun cA=>
 oif cA (
 aU (
 some (D.aL [D.agg [ar true,J 0,J 0],J 0])
)
) (
 R (binP false .eql (aa aS 0) (J 3)) fun v30=>
 R (
 oif v30 (
 some (.inl [ab,ag,bN,en,aa aS 0,v30,aa aS 0,aa aS 1,aa aS 2,aa aS 3,ar false,J 0,J 0])
) (
 R (binP false .eql (aa aS 0) (J 4)) fun dB=>
 some (.inl [ab,ag,bN,en,aa aS 0,dB,aa aS 0,aa aS 1,aa aS 2,aa aS 3,ar false,J 0,J 0])
)
)<|a6 fun ls=>
 oif (I ls 5) (
 R (kS (I ls 1)) fun afs=>
 R (lookP (.string) (.int .i64 0) true afs (I ls 8)) fun dh=>
 R (extP 0 dh) fun dk=>
 R (extP 1 dh) fun c8=>
 R (unP .not c8) fun dr=>
 oif dr (
 aU (
 some (D.aL [D.agg [ar false,J 0,J 0],J 12])
)
) (
 R (binP false .eql (I ls 6) (J 4)) fun dH=>
 R (gD dH true (
 R (unP .not (I ls 2)) fun iI=>
 some iI
)) fun iI=>
 R (pickP dH iI (ar false)) fun gi=>
 oif gi (
 aU (
 some (D.aL [D.agg [ar false,J 0,J 0],J 24])
)
) (
 R (a3 4 (I ls 0) dk) fun Mk=>
 R (aX false 1 1 Mk) fun iG=>
 oif iG (
 aU (
 some (D.aL [D.agg [ar true,J 0,J 0],J 0])
)
) (
 R (a3 4 (I ls 0) dk) fun wj=>
 R (aX false 1 2 wj) fun eG=>
 R (a3 4 (I ls 0) dk) fun CF=>
 R (aX false 1 3 CF) fun jj=>
 R (pB n [eG,jj]) fun ee=>
 R (extP 0 ee) fun fK=>
 R (extP 1 ee) fun fB=>
 aw (aK 3 fK)<|
 aU (
 some (D.aL [D.agg [aa fK 0,aa fK 1,aa fK 2],fB])
)
)
)
)
) (
 R (binP false .eql (I ls 4) (J 5)) fun iH=>
 R (
 oif iH (
 some (.inl [I ls 3,I ls 4,iH,I ls 6,I ls 7,I ls 8,I ls 9,I ls 10,I ls 11,I ls 12])
) (
 R (binP false .eql (I ls 4) (J 6)) fun om=>
 R (
 oif om (
 some (.inl [I ls 3,I ls 4,om,I ls 6,I ls 7,I ls 8,I ls 9,I ls 10,I ls 11,I ls 12])
) (
 R (binP false .eql (I ls 4) (J 7)) fun gk=>
 R (
 oif gk (
 some (.inl [I ls 3,I ls 4,gk,I ls 6,I ls 7,I ls 8,I ls 9,I ls 10,I ls 11,I ls 12])
) (
 R (binP false .eql (I ls 4) (J 8)) fun gl=>
 R (
 oif gl (
 some (.inl [I ls 3,I ls 4,gl,I ls 6,I ls 7,I ls 8,I ls 9,I ls 10,I ls 11,I ls 12])
) (
 R (binP false .eql (I ls 4) (J 9)) fun gv=>
 some (.inl [I ls 3,I ls 4,gv,I ls 6,I ls 7,I ls 8,I ls 9,I ls 10,I ls 11,I ls 12])
)
)<|a6 fun ls=>
 some (.inl [I ls 0,I ls 1,I ls 2,I ls 3,I ls 4,I ls 5,I ls 6,I ls 7,I ls 8,I ls 9])
)
)<|a6 fun ls=>
 some (.inl [I ls 0,I ls 1,I ls 2,I ls 3,I ls 4,I ls 5,I ls 6,I ls 7,I ls 8,I ls 9])
)
)<|a6 fun ls=>
 some (.inl [I ls 0,I ls 1,I ls 2,I ls 3,I ls 4,I ls 5,I ls 6,I ls 7,I ls 8,I ls 9])
)
)<|a6 fun ls=>
 oif (I ls 2) (
 R (CE n [I ls 0]) fun gQ=>
 R (extP 0 gQ) fun gj=>
 R (extP 1 gQ) fun lv=>
 aw (aK 3 gj)<|
 aU (
 some (D.aL [D.agg [aa gj 0,aa gj 1,aa gj 2],lv])
)
) (
 R (binP false .eql (I ls 1) (J 18)) fun lx=>
 oif lx (
 R (a3 3 (I ls 0) (J 0)) fun Ml=>
 R (aX false 1 0 Ml) fun g5=>
 R (unP .not g5) fun hi=>
 R (gD hi false (
 R (a3 3 (I ls 0) (J 1)) fun aft=>
 R (aX false 1 0 aft) fun hI=>
 R (a3 3 (I ls 0) (J 2)) fun Mm=>
 R (aX false 1 0 Mm) fun ie=>
 R (binP true .neq hI ie) fun iK=>
 some iK
)) fun iK=>
 R (pickP hi (ar true) iK) fun jJ=>
 oif jJ (
 aU (
 some (D.aL [D.agg [ar false,J 0,J 0],J 13])
)
) (
 R (a3 3 (I ls 0) (J 1)) fun afu=>
 R (aX false 1 0 afu) fun mT=>
 oif mT (
 R (a3 3 (I ls 0) (J 1)) fun Mn=>
 R (aX true 3 0 Mn) fun pC=>
 aw (aK 3 pC)<|
 aU (
 some (D.aL [D.agg [aa pC 0,aa pC 1,aa pC 2],J 0])
)
) (
 R (a3 3 (I ls 0) (J 1)) fun Mo=>
 R (aX false 1 1 Mo) fun ic=>
 R (a3 3 (I ls 0) (J 2)) fun Mp=>
 R (aX false 1 1 Mp) fun vN=>
 R (jz false [ic,vN]) fun pt=>
 R (a3 3 (I ls 0) (J 1)) fun afv=>
 R (aX false 1 2 afv) fun mQ=>
 R (a3 3 (I ls 0) (J 2)) fun afw=>
 R (aX false 1 2 afw) fun qQ=>
 R (jz true [mQ,qQ]) fun oo=>
 R (pB n [pt,oo]) fun zb=>
 R (extP 0 zb) fun qR=>
 R (extP 1 zb) fun wk=>
 aw (aK 3 qR)<|
 aU (
 some (D.aL [D.agg [aa qR 0,aa qR 1,aa qR 2],wk])
)
)
)
) (
 R (binP false .eql (I ls 1) (J 10)) fun qJ=>
 R (
 oif qJ (
 some (.inl [I ls 0,qJ,I ls 3,I ls 4,I ls 5,I ls 6,I ls 7,I ls 8,I ls 9])
) (
 R (binP false .eql (I ls 1) (J 11)) fun CG=>
 some (.inl [I ls 0,CG,I ls 3,I ls 4,I ls 5,I ls 6,I ls 7,I ls 8,I ls 9])
)
)<|a6 fun ls=>
 oif (I ls 1) (
 R (a3 3 (I ls 0) (J 0)) fun CH=>
 R (aX false 1 0 CH) fun ig=>
 R (a3 3 (I ls 0) (J 1)) fun afx=>
 R (aX false 1 0 afx) fun Mq=>
 R (binP true .neq ig Mq) fun wm=>
 oif wm (
 aU (
 some (D.aL [D.agg [ar false,J 0,J 0],J 13])
)
) (
 aU (
 some (D.aL [D.agg [ar true,J 0,J 0],J 0])
)
)
) (
 some (.inl [I ls 0,I ls 2,I ls 3,I ls 4,I ls 5,I ls 6,I ls 7,I ls 8])
)
)
)
)
)
)
)<|a6 fun ls=>
 R (a3 3 (I ls 0) (J 0)) fun afy=>
 R (aX false 1 0 afy) fun se=>
 R (gD se false (
 R (a3 3 (I ls 0) (J 1)) fun afz=>
 R (aX false 1 0 afz) fun CI=>
 some CI
)) fun CI=>
 R (pickP se (ar true) CI) fun afA=>
 oif afA (
 some (D.aL [D.agg [ar false,J 0,J 0],J 13])
) (
 R (binP false .eql (I ls 1) (J 12)) fun wo=>
 R (
 oif wo (
 some (.inl [I ls 0,I ls 1,wo,I ls 1,I ls 2,I ls 3,I ls 4,I ls 5,I ls 6,I ls 7])
) (
 R (binP false .eql (I ls 1) (J 13)) fun afB=>
 some (.inl [I ls 0,I ls 1,afB,I ls 1,I ls 2,I ls 3,I ls 4,I ls 5,I ls 6,I ls 7])
)
)<|a6 fun ls=>
 oif (I ls 2) (
 some (D.aL [D.agg [ar true,J 0,J 0],J 0])
) (
 R (binP false .eql (I ls 1) (J 17)) fun CJ=>
 oif CJ (
 R (a3 4 (I ls 6) (J 1)) fun afC=>
 R (aX true 4 0 afC) fun CK=>
 aw (aK 4 CK)<|
 R (binP false .neq (aa CK 0) (J 1)) fun zc=>
 R (gD zc false (
 R (binP false .lss (aa CK 1) (J 1)) fun Mr=>
 some Mr
)) fun Mr=>
 R (pickP zc (ar true) Mr) fun afD=>
 oif afD (
 some (D.aL [D.agg [ar false,J 0,J 0],J 2])
) (
 R (a3 4 (I ls 6) (J 1)) fun afE=>
 R (aX false 1 1 afE) fun zd=>
 R (binP false .sub zd (J 1)) fun CL=>
 R (pB n [J 0,CL]) fun CM=>
 R (extP 0 CM) fun Ha=>
 R (extP 1 CM) fun afF=>
 aw (aK 3 Ha)<|
 some (D.aL [D.agg [aa Ha 0,aa Ha 1,aa Ha 2],afF])
)
) (
 R (a3 3 (I ls 0) (J 0)) fun afG=>
 R (aX true 3 0 afG) fun CN=>
 R (a3 3 (I ls 0) (J 1)) fun afH=>
 R (aX true 3 0 afH) fun qS=>
 R (wi n [I ls 3,CN,qS]) fun wq=>
 R (extP 0 wq) fun ze=>
 R (extP 1 wq) fun Ms=>
 aw (aK 3 ze)<|
 some (D.aL [D.agg [aa ze 0,aa ze 1,aa ze 2],Ms])
)
)
)
def mU(n:Nat):List D→Option D
 |[ab,ag,aS,bN,en]=>qP n ab ag aS bN en
 |_=>none
def zf(wu:List D→Option D)(n:Nat)(ls:List D):Option (List D⊕(List D⊕D)):=
 R (binP false .lss (I ls 5) (I ls 4)) fun b7=>
 oif b7 (
 R (a3 4 (I ls 3) (I ls 5)) fun pw=>
 R (aX true 4 0 pw) fun bH=>
 aw (aK 4 bH)<|
 R (wu [I ls 0,I ls 1,D.agg [aa bH 0,aa bH 1,aa bH 2,aa bH 3],I ls 2]) fun cA=>
 R (extP 0 cA) fun cp=>
 R (extP 1 cA) fun cB=>
 aw (aK 3 cp)<|
 R (binP false .neq cB (J 0)) fun dB=>
 oif dB (
 aU (
 aU (
 some (D.aL [D.agg [ar false,J 0,J 0],cB])
)
)
) (
 aw (aK 3 (D.agg [aa cp 0,aa cp 1,aa cp 2]))<|
 aw (c2 (((esD (I ls 13))).length+([[aa cp 0,aa cp 1,aa cp 2]]).length) 24)<|
 R (binP false .add (I ls 5) (J 1)) fun c8=>
 some (.inl [I ls 0,I ls 1,I ls 2,I ls 3,I ls 4,c8,I ls 6,I ls 7,I ls 8,I ls 9,I ls 10,I ls 11,I ls 12,D.aE 3 ((esD (I ls 13))++[[aa cp 0,aa cp 1,aa cp 2]])])
)
) (
 aU (
 some (.inl [I ls 0,I ls 1,I ls 2,I ls 6,I ls 7,I ls 8,I ls 9,I ls 10,I ls 11,I ls 12,D.aE 3 (esD (I ls 13))])
)
)
def Mt(wu:List D→Option D)(n:Nat)(ab:D)(ag:D)(aS:D)(bN:D):Option D:=
 aw (aK 4 aS)<|
 R (lenP (aa aS 3)) fun bC=>
 R (
 bo (zf wu n) n [ab,ag,bN,aa aS 3,bC,J 0,aa aS 0,aa aS 1,aa aS 2,aa aS 3,ar false,J 0,J 0,D.aE 3 []]
)<|a6 fun ls=>
 R (mU n [I ls 0,I ls 1,D.agg [I ls 3,I ls 4,I ls 5,I ls 6],I ls 2,D.aE 3 (esD (I ls 10))]) fun dH=>
 aw dH.flat<|
 R (extP 0 dH) fun cR=>
 R (extP 1 dH) fun fL=>
 aw (aK 3 cR)<|
 some (D.aL [D.agg [aa cR 0,aa cR 1,aa cR 2],fL])
def pD:Nat→List D→Option D
 |0,_=>none
 |n+1,aD=>match aD with
  |[ab,ag,aS,bN]=>Mt (pD n) n ab ag aS bN
  |_=>none
def Mu(n:Nat)(ab:D)(ag:D)(aS:D):Option D:=
 aw (aK 4 ag)<|
 R (qN n [D.agg [aa ag 0,aa ag 1,aa ag 2,aa ag 3]]) fun v10=>
 R (binP false .neq v10 (J 0)) fun bX=>
 oif bX (
 some (D.aL [D.agg [ar false,J 0,J 0],v10])
) (
 R (wh n [ab]) fun bC=>
 R (pD n [ab,bC,D.agg [aa ag 0,aa ag 1,aa ag 2,aa ag 3],aS]) fun v20=>
 R (extP 0 v20) fun bH=>
 R (extP 1 v20) fun bU=>
 aw (aK 3 bH)<|
 some (D.aL [D.agg [aa bH 0,aa bH 1,aa bH 2],bU])
)
def qT(n:Nat):List D→Option D
 |[ab,ag,aS]=>Mu n ab ag aS
 |_=>none
def Mv(n:Nat)(ab:D)(ag:D)(aS:D):Option D:=
 aw (aK 8 ab)<|
 aw (aK 4 ag)<|
 R (kz n [D.agg [aa ag 0,aa ag 1,aa ag 2,aa ag 3],aa ab 1]) fun bq=>
 R (extP 0 bq) fun bf=>
 R (extP 1 bq) fun bE=>
 aw (aK 4 bf)<|
 R (binP false .neq bE (J 0)) fun bF=>
 oif bF (
 some (D.aL [D.agg [ar false,J 0,J 0],bE])
) (
 R (qT n [aa ab 0,D.agg [aa bf 0,aa bf 1,aa bf 2,aa bf 3],aS]) fun cF=>
 R (extP 0 cF) fun ch=>
 R (extP 1 cF) fun cA=>
 aw (aK 3 ch)<|
 some (D.aL [D.agg [aa ch 0,aa ch 1,aa ch 2],cA])
)
def qU(n:Nat):List D→Option D
 |[ab,ag,aS]=>Mv n ab ag aS
 |_=>none
def Mw(n:Nat)(ab:D)(ag:D)(aS:D):Option D:=
 aw (aK 8 ab)<|
 aw (aK 4 ag)<|
 R (qU n [D.agg [aa ab 0,aa ab 1,aa ab 2,aa ab 3,aa ab 4,aa ab 5,aa ab 6,aa ab 7],D.agg [aa ag 0,aa ag 1,aa ag 2,aa ag 3],aS]) fun cd=>
 R (extP 0 cd) fun bq=>
 R (extP 1 cd) fun bf=>
 aw (aK 3 bq)<|
 R (binP false .eql bf (J 0)) fun bC=>
 R (gD bC true (
 R (unP .not (aa bq 0)) fun bH=>
 some bH
)) fun bH=>
 R (pickP bC bH (ar false)) fun bU=>
 oif bU (
 some (J 13)
) (
 some bf
)
def tR(n:Nat):List D→Option D
 |[ab,ag,aS]=>Mw n ab ag aS
 |_=>none
def CO(wv:List D→Option D)(n:Nat)(ls:List D):Option (List D⊕(List D⊕D)):=
 R (binP false .lss (I ls 2) (I ls 1)) fun b7=>
 oif b7 (
 R (a3 6 (I ls 0) (I ls 2)) fun pw=>
 R (aX true 6 0 pw) fun bH=>
 aw (aK 6 bH)<|
 R (wv [D.agg [I ls 3,I ls 4,I ls 5,I ls 6,I ls 7,I ls 8,I ls 9,I ls 10],D.agg [aa bH 0,aa bH 1,aa bH 2,aa bH 3,aa bH 4,aa bH 5]]) fun cv=>
 R (binP false .neq cv (J 0)) fun ch=>
 oif ch (
 aU (
 aU (
 some cv
)
)
) (
 R (binP false .add (I ls 2) (J 1)) fun cp=>
 some (.inl [I ls 0,I ls 1,cp,I ls 3,I ls 4,I ls 5,I ls 6,I ls 7,I ls 8,I ls 9,I ls 10])
)
) (
 aU (
 some (.inl [])
)
)
def CP(wv:List D→Option D)(n:Nat)(ab:D)(ag:D):Option D:=
 aw (aK 8 ab)<|
 aw (aK 6 ag)<|
 R (binP false .eql (aa ag 0) (J 1)) fun v10=>
 oif v10 (
 R (tR n [D.agg [aa ab 0,aa ab 1,aa ab 2,aa ab 3,aa ab 4,aa ab 5,aa ab 6,aa ab 7],D.agg [aa ag 1,aa ag 2,aa ag 3,aa ag 4],ar false]) fun bq=>
 some bq
) (
 R (lenP (aa ag 5)) fun bC=>
 R (
 bo (CO wv n) n [aa ag 5,bC,J 0,aa ab 0,aa ab 1,aa ab 2,aa ab 3,aa ab 4,aa ab 5,aa ab 6,aa ab 7]
)<|a6 fun ls=>
 some (J 0)
)
def qV:Nat→List D→Option D
 |0,_=>none
 |n+1,aD=>match aD with
  |[ab,ag]=>CP (qV n) n ab ag
  |_=>none
def CQ(n:Nat)(ab:D)(ag:D)(aS:D):Option D:=
 aw (aK 8 ag)<|
 R (a3 7 ab aS) fun vR=>
 R (aX false 1 0 vR) fun cd=>
 aw (bD cd)<|
 R (qM n [cd]) fun bE=>
 R (unP .not bE) fun bC=>
 oif bC (
 some (J 12)
) (
 R (nm 7 ab none (some aS)) fun bH=>
 R (v7 n [bH,(D.fn (.func ps) [] [D.ref [cd] 0])]) fun b4=>
 aw b4.flat<|
 oif b4 (
 some (J 6)
) (
 R (a3 7 ab aS) fun Mx=>
 R (aX true 6 1 Mx) fun cp=>
 R (nB n [cp]) fun cB=>
 R (binP false .neq cB (J 0)) fun dB=>
 oif dB (
 some cB
) (
 R (a3 7 ab aS) fun wx=>
 R (aX true 6 1 wx) fun c8=>
 R (qV n [D.agg [aa ag 0,aa ag 1,aa ag 2,aa ag 3,aa ag 4,aa ag 5,aa ag 6,aa ag 7],c8]) fun ey=>
 some ey
)
)
)
def sf(n:Nat):List D→Option D
 |[ab,ag,aS]=>CQ n ab ag aS
 |_=>none
def Hb(n:Nat)(ab:D)(cJ:List D):Option D:=
 aw (aK 4 ab)<|
 R (aX false 1 0 cJ) fun v6=>
 R (binP false .eql (aa ab 0) v6) fun bZ=>
 some bZ
def CR(n:Nat):List D→Option D
 |[ab,ag]=>(match ag with| .ref cJ 0=>Hb n ab cJ|_=>none)
 |_=>none
def CS(n:Nat)(ls:List D):Option (List D⊕(List D⊕D)):=
 R (binP false .lss (I ls 3) (I ls 2)) fun bR=>
 oif bR (
 R (a3 4 (I ls 0) (I ls 3)) fun eQ=>
 R (aX true 4 0 eQ) fun bf=>
 R (CR n [bf,I ls 1]) fun bE=>
 oif bE (
 aU (
 aU (
 some (I ls 3)
)
)
) (
 R (binP false .add (I ls 3) (J 1)) fun bF=>
 some (.inl [I ls 0,I ls 1,I ls 2,bF])
)
) (
 aU (
 some (.inl [])
)
)
def CT(n:Nat)(ab:D)(b5:D):Option D:=
 R (lenP ab) fun bZ=>
 R (
 bo (CS n) n [ab,b5,bZ,J 0]
)<|a6 fun ls=>
 some (J (-1))
def wy(n:Nat):List D→Option D
 |[ab,ag]=>(match fnOf yW ag with|some [b5]=>CT n ab b5|_=>none)
 |_=>none
def Hc(n:Nat)(ab:D)(cJ:List D):Option D:=
 aw (aK 5 ab)<|
 R (aX false 1 0 cJ) fun v6=>
 R (binP false .eql (aa ab 0) v6) fun bZ=>
 some bZ
def CU(n:Nat):List D→Option D
 |[ab,ag]=>(match ag with| .ref cJ 0=>Hc n ab cJ|_=>none)
 |_=>none
def CV(n:Nat)(ls:List D):Option (List D⊕(List D⊕D)):=
 R (binP false .lss (I ls 3) (I ls 2)) fun bR=>
 oif bR (
 R (a3 5 (I ls 0) (I ls 3)) fun eQ=>
 R (aX true 5 0 eQ) fun bf=>
 R (CU n [bf,I ls 1]) fun bE=>
 oif bE (
 aU (
 aU (
 some (I ls 3)
)
)
) (
 R (binP false .add (I ls 3) (J 1)) fun bF=>
 some (.inl [I ls 0,I ls 1,I ls 2,bF])
)
) (
 aU (
 some (.inl [])
)
)
def CW(n:Nat)(ab:D)(b5:D):Option D:=
 R (lenP ab) fun bZ=>
 R (
 bo (CV n) n [ab,b5,bZ,J 0]
)<|a6 fun ls=>
 some (J (-1))
def wz(n:Nat):List D→Option D
 |[ab,ag]=>(match fnOf pr ag with|some [b5]=>CW n ab b5|_=>none)
 |_=>none
def Hd(n:Nat)(ab:D)(b5:D):Option D:=
 R (wz n [ab,(D.fn (.func pr) [] [b5])]) fun bZ=>
 R (binP false .geq bZ (J 0)) fun cf=>
 some cf
def wA(n:Nat):List D→Option D
 |[ab,ag]=>(match fnOf pr ag with|some [b5]=>Hd n ab b5|_=>none)
 |_=>none
def He(n:Nat)(ab:D)(ag:D)(aS:D):Option D:=
 aw (aK 8 ag)<|
 R (a3 5 ab aS) fun B6=>
 R (aX false 1 0 B6) fun bf=>
 aw (bD bf)<|
 R (wy n [aa ag 0,(D.fn (.func yW) [] [D.ref [bf] 0])]) fun b7=>
 aw b7.flat<|
 R (binP false .lss b7 (J 0)) fun bU=>
 oif bU (
 some (J 12)
) (
 R (nm 5 ab none (some aS)) fun ch=>
 R (wA n [ch,(D.fn (.func pr) [] [D.ref [bf] 0])]) fun cp=>
 aw cp.flat<|
 oif cp (
 some (J 6)
) (
 R (a3 5 ab aS) fun My=>
 R (aX true 4 1 My) fun e2=>
 R (qU n [D.agg [aa ag 0,aa ag 1,aa ag 2,aa ag 3,aa ag 4,aa ag 5,aa ag 6,aa ag 7],e2,ar false]) fun dh=>
 R (extP 0 dh) fun dk=>
 R (extP 1 dh) fun c8=>
 aw (aK 3 dk)<|
 R (binP false .eql c8 (J 0)) fun dr=>
 R (gD dr true (
 R (a3 4 (aa ag 0) b7) fun wB=>
 R (aX false 1 1 wB) fun ei=>
 R (binP true .neq (aa dk 0) ei) fun cV=>
 some cV
)) fun cV=>
 R (pickP dr cV (ar false)) fun fu=>
 oif fu (
 some (J 13)
) (
 some c8
)
)
)
def tS(n:Nat):List D→Option D
 |[ab,ag,aS]=>He n ab ag aS
 |_=>none
def TK(n:Nat)(ab:D)(ag:D)(aS:D):Option D:=
 aw (aK 3 ab)<|
 aw (aK 8 ag)<|
 R (a3 4 (aa ab 1) aS) fun vR=>
 R (aX true 4 0 vR) fun bX=>
 R (tR n [D.agg [aa ag 0,aa ag 1,aa ag 2,aa ag 3,aa ag 4,aa ag 5,aa ag 6,aa ag 7],bX,aa ab 2]) fun bf=>
 some bf
def zg(n:Nat):List D→Option D
 |[ab,ag,aS]=>TK n ab ag aS
 |_=>none
def TL(n:Nat)(ab:D)(ag:D)(aS:D):Option D:=
 aw (aK 8 ag)<|
 R (a3 5 ab aS) fun B6=>
 R (aX true 4 1 B6) fun bf=>
 R (qU n [D.agg [aa ag 0,aa ag 1,aa ag 2,aa ag 3,aa ag 4,aa ag 5,aa ag 6,aa ag 7],bf,ar false]) fun bE=>
 R (extP 0 bE) fun bC=>
 R (extP 1 bE) fun bF=>
 aw (aK 3 bC)<|
 some bF
def zh(n:Nat):List D→Option D
 |[ab,ag,aS]=>TL n ab ag aS
 |_=>none
def Hf(n:Nat)(ab:D)(cJ:List D):Option D:=
 aw (aK 5 ab)<|
 R (aX false 1 0 cJ) fun v6=>
 R (binP false .eql (aa ab 0) v6) fun bZ=>
 some bZ
def CX(n:Nat):List D→Option D
 |[ab,ag]=>(match ag with| .ref cJ 0=>Hf n ab cJ|_=>none)
 |_=>none
def CY(n:Nat)(ls:List D):Option (List D⊕(List D⊕D)):=
 R (binP false .lss (I ls 3) (I ls 2)) fun bR=>
 oif bR (
 R (a3 5 (I ls 0) (I ls 3)) fun eQ=>
 R (aX true 5 0 eQ) fun bf=>
 R (CX n [bf,I ls 1]) fun bE=>
 oif bE (
 aU (
 aU (
 some (I ls 3)
)
)
) (
 R (binP false .add (I ls 3) (J 1)) fun bF=>
 some (.inl [I ls 0,I ls 1,I ls 2,bF])
)
) (
 aU (
 some (.inl [])
)
)
def CZ(n:Nat)(ab:D)(b5:D):Option D:=
 R (lenP ab) fun bZ=>
 R (
 bo (CY n) n [ab,b5,bZ,J 0]
)<|a6 fun ls=>
 some (J (-1))
def wC(n:Nat):List D→Option D
 |[ab,ag]=>(match fnOf yV ag with|some [b5]=>CZ n ab b5|_=>none)
 |_=>none
def wD(n:Nat)(ls:List D):Option (List D⊕(List D⊕(List D⊕(List D⊕(List D⊕D))))):=
 R (binP false .lss (I ls 4) (I ls 3)) fun c8=>
 oif c8 (
 R (
 R (a3 1 (I ls 2) (I ls 4)) fun nC=>
 R (aX false 1 0 nC) fun dr=>
 aw (bD dr)<|
 R (wC n [I ls 0,(D.fn (.func yV) [] [D.ref [dr] 0])]) fun dK=>
 aw dK.flat<|
 R (binP false .geq dK (J 0)) fun cR=>
 R (gD cR true (
 R (ct ((esD (I ls 5))).length dK) fun afI=>
 R (((esD (I ls 5)))[afI]?) fun afJ=>
 R (aX false 1 0 afJ) fun cV=>
 R (unP .not cV) fun fu=>
 some fu
)) fun fu=>
 R (pickP cR fu (ar false)) fun e8=>
 R (
 oif e8 (
 R (ct ((esD (I ls 5))).length dK) fun TM=>
 R (((esD (I ls 5)))[TM]?) fun lg=>
 aw (bD dK)<|
 aw (c2 (((esD (I ls 6))).length+([[dK]]).length) 8)<|
 some (.inl [I ls 0,I ls 1,I ls 2,I ls 3,I ls 4,D.aE 1 (((esD (I ls 5))).set TM (la lg 0 [ar true])),D.aE 1 ((esD (I ls 6))++[[dK]])])
) (
 some (.inl [I ls 0,I ls 1,I ls 2,I ls 3,I ls 4,D.aE 1 (esD (I ls 5)),D.aE 1 (esD (I ls 6))])
)
)<|a6 fun ls=>
 some (.inl [I ls 0,I ls 1,I ls 2,I ls 3,I ls 4,D.aE 1 (esD (I ls 5)),D.aE 1 (esD (I ls 6))])
)<|a6 fun ls=>
 R (binP false .add (I ls 4) (J 1)) fun eG=>
 some (.inl [I ls 0,I ls 1,I ls 2,I ls 3,eG,D.aE 1 (esD (I ls 5)),D.aE 1 (esD (I ls 6))])
) (
 aU (
 some (.inl [I ls 0,I ls 1,D.aE 1 (esD (I ls 5)),D.aE 1 (esD (I ls 6))])
)
)
def Hg(n:Nat)(ls:List D):Option (List D⊕(List D⊕D)):=
 R (binP false .gtr (J ((esD (I ls 3))).length) (J 0)) fun bH=>
 oif bH (
 R (
 R (ct ((esD (I ls 3))).length (J 0)) fun Cn=>
 R (((esD (I ls 3)))[Cn]?) fun Co=>
 R (aX false 1 0 Co) fun cp=>
 R (a3 5 (I ls 0) cp) fun sg=>
 R (aX true 4 1 sg) fun dB=>
 R (pz n [dB]) fun dt=>
 R (extP 0 dt) fun dg=>
 R (extP 1 dt) fun cZ=>
 R (lenP dg) fun dh=>
 R (
 bo (wD n) n [I ls 0,I ls 1,dg,dh,J 0,D.aE 1 (esD (I ls 2)),D.aE 1 (esD (I ls 3))]
)<|a6 fun ls=>
 some (.inl [I ls 0,I ls 1,D.aE 1 (esD (I ls 2)),D.aE 1 (esD (I ls 3))])
)<|a6 fun ls=>
 R (np ((esD (I ls 3))).length (some (J 1)) none) fun Hh=>
 aw (decide (Hh.1+Hh.2≤((esD (I ls 3))).length))<|
 some (.inl [I ls 0,I ls 1,D.aE 1 (esD (I ls 2)),D.aE 1 ((((esD (I ls 3))).drop Hh.1).take Hh.2)])
) (
 aU (
 some (.inl [I ls 1,D.aE 1 (esD (I ls 2))])
)
)
def TN(n:Nat)(ab:D)(ag:D)(aS:D):Option D:=
 aw (aK 8 ag)<|
 R (lenP ab) fun bf=>
 R (makeP 1 bf bf) fun afK=>
 aw (bD aS)<|
 R (
 bo (Hg n) n [ab,aS,D.aE 1 (List.replicate afK [ar false]),D.aE 1 [[aS]]]
)<|a6 fun ls=>
 R (ct ((esD (I ls 1))).length (I ls 0)) fun G7=>
 R (((esD (I ls 1)))[G7]?) fun afL=>
 R (aX false 1 0 afL) fun g4=>
 oif g4 (
 some (J 14)
) (
 some (J 0)
)
def zi(n:Nat):List D→Option D
 |[ab,ag,aS]=>TN n ab ag aS
 |_=>none
def Hi(n:Nat)(ab:D)(cJ:List D):Option D:=
 aw (aK 4 ab)<|
 R (aX false 1 0 cJ) fun v6=>
 R (binP false .eql (aa ab 0) v6) fun bZ=>
 some bZ
def C0(n:Nat):List D→Option D
 |[ab,ag]=>(match ag with| .ref cJ 0=>Hi n ab cJ|_=>none)
 |_=>none
def C1(n:Nat)(ls:List D):Option (List D⊕(List D⊕D)):=
 R (binP false .lss (I ls 3) (I ls 2)) fun bR=>
 oif bR (
 R (a3 4 (I ls 0) (I ls 3)) fun eQ=>
 R (aX true 4 0 eQ) fun bf=>
 R (C0 n [bf,I ls 1]) fun bE=>
 oif bE (
 aU (
 aU (
 some (I ls 3)
)
)
) (
 R (binP false .add (I ls 3) (J 1)) fun bF=>
 some (.inl [I ls 0,I ls 1,I ls 2,bF])
)
) (
 aU (
 some (.inl [])
)
)
def C2(n:Nat)(ab:D)(b5:D):Option D:=
 R (lenP ab) fun bZ=>
 R (
 bo (C1 n) n [ab,b5,bZ,J 0]
)<|a6 fun ls=>
 some (J (-1))
def wE(n:Nat):List D→Option D
 |[ab,ag]=>(match fnOf po ag with|some [b5]=>C2 n ab b5|_=>none)
 |_=>none
def Hj(n:Nat)(ab:D)(b5:D):Option D:=
 R (wE n [ab,(D.fn (.func po) [] [b5])]) fun bZ=>
 R (binP false .geq bZ (J 0)) fun cf=>
 some cf
def wF(n:Nat):List D→Option D
 |[ab,ag]=>(match fnOf po ag with|some [b5]=>Hj n ab b5|_=>none)
 |_=>none
def Hk(n:Nat)(ab:D)(cJ:List D):Option D:=
 aw (aK 5 ab)<|
 R (aX false 1 0 cJ) fun v6=>
 R (binP false .eql (aa ab 0) v6) fun bZ=>
 some bZ
def C3(n:Nat):List D→Option D
 |[ab,ag]=>(match ag with| .ref cJ 0=>Hk n ab cJ|_=>none)
 |_=>none
def C4(n:Nat)(ls:List D):Option (List D⊕(List D⊕D)):=
 R (binP false .lss (I ls 3) (I ls 2)) fun bR=>
 oif bR (
 R (a3 5 (I ls 0) (I ls 3)) fun eQ=>
 R (aX true 5 0 eQ) fun bf=>
 R (C3 n [bf,I ls 1]) fun bE=>
 oif bE (
 aU (
 aU (
 some (I ls 3)
)
)
) (
 R (binP false .add (I ls 3) (J 1)) fun bF=>
 some (.inl [I ls 0,I ls 1,I ls 2,bF])
)
) (
 aU (
 some (.inl [])
)
)
def C5(n:Nat)(ab:D)(b5:D):Option D:=
 R (lenP ab) fun bZ=>
 R (
 bo (C4 n) n [ab,b5,bZ,J 0]
)<|a6 fun ls=>
 some (J (-1))
def wG(n:Nat):List D→Option D
 |[ab,ag]=>(match fnOf pq ag with|some [b5]=>C5 n ab b5|_=>none)
 |_=>none
def Hl(n:Nat)(ab:D)(b5:D):Option D:=
 R (wG n [ab,(D.fn (.func pq) [] [b5])]) fun bZ=>
 R (binP false .geq bZ (J 0)) fun cf=>
 some cf
def wH(n:Nat):List D→Option D
 |[ab,ag]=>(match fnOf pq ag with|some [b5]=>Hl n ab b5|_=>none)
 |_=>none
def C6(n:Nat)(ab:D)(ag:D)(aS:D):Option D:=
 aw (aK 8 ag)<|
 R (a3 5 ab aS) fun Mj=>
 R (aX false 1 0 Mj) fun bX=>
 aw (bD bX)<|
 R (qM n [bX]) fun bf=>
 R (unP .not bf) fun bE=>
 oif bE (
 some (J 12)
) (
 R (wF n [aa ag 0,(D.fn (.func po) [] [D.ref [bX] 0])]) fun bH=>
 aw bH.flat<|
 R (
 oif bH (
 some (.inl [bH])
) (
 R (nm 5 ab none (some aS)) fun cv=>
 R (wH n [cv,(D.fn (.func pq) [] [D.ref [bX] 0])]) fun ch=>
 aw ch.flat<|
 some (.inl [ch])
)
)<|a6 fun ls=>
 oif (I ls 0) (
 some (J 6)
) (
 some (J 0)
)
)
def sh(n:Nat):List D→Option D
 |[ab,ag,aS]=>C6 n ab ag aS
 |_=>none
def TO(n:Nat)(ab:D):Option D:=
 some (J 8)
def Hm(n:Nat):List D→Option D
 |[ab]=>TO n ab
 |_=>none
def TP(n:Nat)(ab:D):Option D:=
 some (J 5)
def Hn(n:Nat):List D→Option D
 |[ab]=>TP n ab
 |_=>none
def TQ(n:Nat)(ab:D):Option D:=
 aw (aK 3 ab)<|
 some (aa ab 0)
def Ho(n:Nat):List D→Option D
 |[ab]=>TQ n ab
 |_=>none
def TR(n:Nat)(ab:D):Option D:=
 some (J 2)
def Hp(n:Nat):List D→Option D
 |[ab]=>TR n ab
 |_=>none
def TS(n:Nat)(ab:D):Option D:=
 some (J 2)
def Hq(n:Nat):List D→Option D
 |[ab]=>TS n ab
 |_=>none
def TT(n:Nat)(ab:D):Option D:=
 some (J 2)
def Hr(n:Nat):List D→Option D
 |[ab]=>TT n ab
 |_=>none
def pE(n:Nat)(ls:List D):Option (List D⊕(List D⊕D)):=
 R (binP false .lss (I ls 1) (J 8)) fun c8=>
 oif c8 (
 R (ct 8 (I ls 1)) fun afM=>
 R (jT false 1 (afM*1) (I ls 0)) fun dr=>
 R (binP false .gtr dr (J 64)) fun cY=>
 oif cY (
 R (binP false .add (J 1) (I ls 1)) fun dH=>
 aw (bD dH)<|
 aw (aK 2 (D.agg [dH,J 64]))<|
 aU (
 aU (
 some (D.aL [D.agg [dH,J 64],J 18])
)
)
) (
 R (binP false .add (I ls 1) (J 1)) fun fL=>
 some (.inl [I ls 0,fL,I ls 2,I ls 3,I ls 4,I ls 5,I ls 6,I ls 7,I ls 8,I ls 9,I ls 10,I ls 11])
)
) (
 aU (
 some (.inl [I ls 2,I ls 3,I ls 4,I ls 5,I ls 6,I ls 7,I ls 8,I ls 9,I ls 10,I ls 11])
)
)
def gL(n:Nat)(ls:List D):Option (List D⊕(List D⊕(List D⊕(List D⊕(List D⊕D))))):=
 R (binP false .lss (I ls 4) (I ls 3)) fun r7=>
 oif r7 (
 R (ifcP (I ls 0)) fun oq=>
 R (fh oq.1 151 (sh n [oq.2,D.agg [I ls 5,I ls 6,I ls 7,I ls 8,I ls 9,I ls 10,I ls 11,I ls 12],I ls 4]) (fh oq.1 152 (zi n [oq.2,D.agg [I ls 5,I ls 6,I ls 7,I ls 8,I ls 9,I ls 10,I ls 11,I ls 12],I ls 4]) (fh oq.1 153 (zh n [oq.2,D.agg [I ls 5,I ls 6,I ls 7,I ls 8,I ls 9,I ls 10,I ls 11,I ls 12],I ls 4]) (fh oq.1 155 (zg n [oq.2,D.agg [I ls 5,I ls 6,I ls 7,I ls 8,I ls 9,I ls 10,I ls 11,I ls 12],I ls 4]) (fh oq.1 156 (tS n [oq.2,D.agg [I ls 5,I ls 6,I ls 7,I ls 8,I ls 9,I ls 10,I ls 11,I ls 12],I ls 4]) (fh oq.1 157 (sf n [oq.2,D.agg [I ls 5,I ls 6,I ls 7,I ls 8,I ls 9,I ls 10,I ls 11,I ls 12],I ls 4]) (none))))))) fun j1=>
 R (binP false .neq j1 (J 0)) fun vM=>
 oif vM (
 R (ifcP (I ls 0)) fun ot=>
 R (fh ot.1 151 (Hr n [ot.2]) (fh ot.1 152 (Hq n [ot.2]) (fh ot.1 153 (Hp n [ot.2]) (fh ot.1 155 (Ho n [ot.2]) (fh ot.1 156 (Hn n [ot.2]) (fh ot.1 157 (Hm n [ot.2]) (none))))))) fun wI=>
 aw (bD wI)<|
 aw (bD (I ls 4))<|
 aw (aK 2 (D.agg [wI,I ls 4]))<|
 aU (
 aU (
 aU (
 aU (
 aU (
 some (D.aL [D.agg [wI,I ls 4],j1])
)
)
)
)
)
) (
 R (binP false .add (I ls 4) (J 1)) fun pt=>
 some (.inl [I ls 0,I ls 1,I ls 2,I ls 3,pt,I ls 5,I ls 6,I ls 7,I ls 8,I ls 9,I ls 10,I ls 11,I ls 12,I ls 13,I ls 14])
)
) (
 aU (
 some (.inl [I ls 1,I ls 2,I ls 5,I ls 6,I ls 7,I ls 8,I ls 9,I ls 10,I ls 11,I ls 12,I ls 13,I ls 14])
)
)
def gx(n:Nat)(ls:List D):Option (List D⊕(List D⊕D)):=
 R (binP false .lss (I ls 1) (J 9)) fun iK=>
 oif iK (
 R (
 R (ct 9 (I ls 1)) fun afN=>
 R (jT false 1 (afN*1) (I ls 0)) fun jJ=>
 R (ifcP jJ) fun ou=>
 R (fh ou.1 151 (Cf n [ou.2]) (fh ou.1 152 (Ce n [ou.2]) (fh ou.1 153 (Cd n [ou.2]) (fh ou.1 155 (px n [ou.2]) (fh ou.1 156 (Cb n [ou.2]) (fh ou.1 157 (Ca n [ou.2]) (none))))))) fun qI=>
 R (
 bo (gL n) n [jJ,I ls 0,I ls 1,qI,J 0,I ls 2,I ls 3,I ls 4,I ls 5,I ls 6,I ls 7,I ls 8,I ls 9,I ls 10,I ls 11]
)<|a6 fun ls=>
 some (.inl [I ls 0,I ls 1,I ls 2,I ls 3,I ls 4,I ls 5,I ls 6,I ls 7,I ls 8,I ls 9,I ls 10,I ls 11])
)<|a6 fun ls=>
 R (binP false .add (I ls 1) (J 1)) fun kA=>
 some (.inl [I ls 0,kA,I ls 2,I ls 3,I ls 4,I ls 5,I ls 6,I ls 7,I ls 8,I ls 9,I ls 10,I ls 11])
) (
 aU (
 some (.inl [I ls 10,I ls 11])
)
)
def wJ(n:Nat)(ab:D):Option D:=
 aw (aK 8 ab)<|
 R (lenP (aa ab 0)) fun bq=>
 R (lenP (aa ab 1)) fun bC=>
 R (lenP (aa ab 2)) fun v20=>
 R (lenP (aa ab 3)) fun b4=>
 R (lenP (aa ab 4)) fun ch=>
 R (lenP (aa ab 5)) fun cB=>
 R (lenP (aa ab 6)) fun dt=>
 R (lenP (aa ab 7)) fun e2=>
 aw (bD bq)<|
 aw (bD bC)<|
 aw (bD v20)<|
 aw (bD b4)<|
 aw (bD ch)<|
 aw (bD cB)<|
 aw (bD dt)<|
 aw (bD e2)<|
 R (
 bo (pE n) n [D.agg [bq,bC,v20,b4,ch,cB,dt,e2],J 0,aa ab 0,aa ab 1,aa ab 2,aa ab 3,aa ab 4,aa ab 5,aa ab 6,aa ab 7,J 0,J 0]
)<|a6 fun ls=>
 R (y7 n [I ls 0]) fun cV=>
 R (extP 0 cV) fun fu=>
 R (extP 1 cV) fun e8=>
 R (binP false .neq e8 (J 0)) fun iG=>
 oif iG (
 aw (bD fu)<|
 aw (aK 2 (D.agg [J 1,fu]))<|
 some (D.aL [D.agg [J 1,fu],e8])
) (
 R (B9 n [D.agg [I ls 0,I ls 1,I ls 2,I ls 3,I ls 4,I ls 5,I ls 6,I ls 7]]) fun j3=>
 R (binP false .gtr j3 (J 30)) fun eG=>
 oif eG (
 some (D.aL [D.agg [J 1,J 0],J 18])
) (
 aw (bD (I ls 2))<|
 aw (bD (I ls 3))<|
 aw (bD (I ls 5))<|
 aw (bD (I ls 6))<|
 aw (bD (D.di 151 (I ls 1)))<|
 aw (bD (D.di 152 (I ls 1)))<|
 aw (bD (D.di 153 (I ls 1)))<|
 aw (bD (D.di 155 (D.agg [J 3,I ls 2,ar false])))<|
 aw (bD (D.di 155 (D.agg [J 4,I ls 3,ar false])))<|
 aw (bD (D.di 156 (I ls 4)))<|
 aw (bD (D.di 155 (D.agg [J 6,I ls 5,ar true])))<|
 aw (bD (D.di 155 (D.agg [J 7,I ls 6,ar false])))<|
 aw (bD (D.di 157 (I ls 7)))<|
 R (
 bo (gx n) n [D.agg [D.di 151 (I ls 1),D.di 152 (I ls 1),D.di 153 (I ls 1),D.di 155 (D.agg [J 3,I ls 2,ar false]),D.di 155 (D.agg [J 4,I ls 3,ar false]),D.di 156 (I ls 4),D.di 155 (D.agg [J 6,I ls 5,ar true]),D.di 155 (D.agg [J 7,I ls 6,ar false]),D.di 157 (I ls 7)],J 0,I ls 0,I ls 1,I ls 2,I ls 3,I ls 4,I ls 5,I ls 6,I ls 7,I ls 8,I ls 9]
)<|a6 fun ls=>
 some (D.aL [D.agg [J 0,J 0],J 0])
)
)
def ov(n:Nat):List D→Option D
 |[ab]=>wJ n ab
 |_=>none
def Hs(n:Nat)(ls:List D):Option (List D⊕(List D⊕D)):=
 R (binP false .lss (I ls 3) (I ls 2)) fun bq=>
 oif bq (
 R (a3 4 (I ls 1) (I ls 3)) fun pF=>
 R (aX true 4 0 pF) fun bC=>
 aw (aK 4 bC)<|
 R (kz n [D.agg [aa bC 0,aa bC 1,aa bC 2,aa bC 3],I ls 0]) fun bH=>
 R (extP 0 bH) fun bU=>
 R (extP 1 bH) fun b4=>
 aw (aK 4 bU)<|
 R (binP false .neq b4 (J 0)) fun cF=>
 oif cF (
 aU (
 aU (
 some (D.aL [D.val (.slice none 0 0),I ls 3,b4])
)
)
) (
 aw (aK 4 (D.agg [aa bU 0,aa bU 1,aa bU 2,aa bU 3]))<|
 aw (c2 (((esD (I ls 4))).length+([[aa bU 0,aa bU 1,aa bU 2,aa bU 3]]).length) 56)<|
 R (binP false .add (I ls 3) (J 1)) fun dt=>
 some (.inl [I ls 0,I ls 1,I ls 2,dt,D.aE 4 ((esD (I ls 4))++[[aa bU 0,aa bU 1,aa bU 2,aa bU 3]])])
)
) (
 aU (
 some (.inl [D.aE 4 (esD (I ls 4))])
)
)
def TU(n:Nat)(ab:D)(ag:D):Option D:=
 R (lenP ab) fun bX=>
 R (
 bo (Hs n) n [ag,ab,bX,J 0,D.aE 4 []]
)<|a6 fun ls=>
 some (D.aL [D.aE 4 (esD (I ls 0)),J 0,J 0])
def nD(n:Nat):List D→Option D
 |[ab,ag]=>TU n ab ag
 |_=>none
def Ht(n:Nat)(ls:List D):Option (List D⊕(List D⊕D)):=
 R (binP false .lss (I ls 3) (I ls 2)) fun bq=>
 oif bq (
 R (a3 5 (I ls 1) (I ls 3)) fun pF=>
 R (aX true 5 0 pF) fun bC=>
 aw (aK 5 bC)<|
 R (kz n [D.agg [aa bC 1,aa bC 2,aa bC 3,aa bC 4],I ls 0]) fun bU=>
 R (extP 0 bU) fun b4=>
 R (extP 1 bU) fun cv=>
 aw (aK 4 b4)<|
 R (binP false .neq cv (J 0)) fun ch=>
 oif ch (
 aU (
 aU (
 some (D.aL [D.val (.slice none 0 0),I ls 3,cv])
)
)
) (
 aw (bD (aa bC 0))<|
 aw (aK 4 (D.agg [aa b4 0,aa b4 1,aa b4 2,aa b4 3]))<|
 aw (aK 5 (D.agg [aa bC 0,aa b4 0,aa b4 1,aa b4 2,aa b4 3]))<|
 aw (c2 (((esD (I ls 4))).length+([[aa bC 0,aa b4 0,aa b4 1,aa b4 2,aa b4 3]]).length) 72)<|
 R (binP false .add (I ls 3) (J 1)) fun dh=>
 some (.inl [I ls 0,I ls 1,I ls 2,dh,D.aE 5 ((esD (I ls 4))++[[aa bC 0,aa b4 0,aa b4 1,aa b4 2,aa b4 3]])])
)
) (
 aU (
 some (.inl [D.aE 5 (esD (I ls 4))])
)
)
def TV(n:Nat)(ab:D)(ag:D):Option D:=
 R (lenP ab) fun bX=>
 R (
 bo (Ht n) n [ag,ab,bX,J 0,D.aE 5 []]
)<|a6 fun ls=>
 some (D.aL [D.aE 5 (esD (I ls 0)),J 0,J 0])
def wK(n:Nat):List D→Option D
 |[ab,ag]=>TV n ab ag
 |_=>none
def zj(wL:List D→Option (List D))(n:Nat)(ls:List D):Option (List D⊕(List D⊕(List D))):=
 R (binP false .lss (I ls 2) (I ls 1)) fun e2=>
 oif e2 (
 R (a3 6 (I ls 0) (I ls 2)) fun wx=>
 R (aX true 6 0 wx) fun dk=>
 aw (aK 6 dk)<|
 R (wL [D.agg [aa dk 0,aa dk 1,aa dk 2,aa dk 3,aa dk 4,aa dk 5],I ls 16]) fun ae=>
 R (extP 0 (I ae 0)) fun cY=>
 R (extP 1 (I ae 0)) fun dK=>
 aw (aK 6 cY)<|
 R (binP false .neq dK (J 0)) fun cR=>
 oif cR (
 aU (
 aU (
 some [D.aL [D.agg [J 0,J 0,J 0,aI ⟨#[]⟩,D.val (.slice none 0 0),D.val (.slice none 0 0)],dK],I ae 1]
)
)
) (
 aw (aK 6 (D.agg [aa cY 0,aa cY 1,aa cY 2,aa cY 3,aa cY 4,aa cY 5]))<|
 aw (c2 (((esD (I ls 15))).length+([[aa cY 0,aa cY 1,aa cY 2,aa cY 3,aa cY 4,aa cY 5]]).length) 88)<|
 R (binP false .add (I ls 2) (J 1)) fun e8=>
 some (.inl [I ls 0,I ls 1,e8,I ls 3,I ls 4,I ls 5,I ls 6,I ls 7,I ls 8,I ls 9,I ls 10,I ls 11,I ls 12,I ls 13,I ls 14,D.aE 6 ((esD (I ls 15))++[[aa cY 0,aa cY 1,aa cY 2,aa cY 3,aa cY 4,aa cY 5]]),I ae 1])
)
) (
 aU (
 some (.inl [I ls 3,I ls 4,I ls 5,I ls 6,I ls 7,I ls 8,I ls 9,I ls 10,I ls 11,I ls 12,I ls 13,I ls 14,D.aE 6 (esD (I ls 15)),I ls 16])
)
)
def qW(wL:List D→Option (List D))(n:Nat)(ls:List D):Option (List D):=
 aw (aK 6 (I ls 0))<|
 R (binP false .eql (aa (I ls 0) 0) (J 1)) fun bf=>
 oif bf (
 R (kz n [D.agg [aa (I ls 0) 1,aa (I ls 0) 2,aa (I ls 0) 3,aa (I ls 0) 4],I ls 1]) fun v20=>
 R (extP 0 v20) fun bH=>
 R (extP 1 v20) fun bU=>
 aw (aK 4 bH)<|
 R (binP false .neq bU (J 0)) fun cv=>
 oif cv (
 some [D.aL [D.agg [J 0,J 0,J 0,aI ⟨#[]⟩,D.val (.slice none 0 0),D.val (.slice none 0 0)],bU],I ls 1]
) (
 aw (bD (aa (I ls 0) 0))<|
 aw (aK 4 (D.agg [aa bH 0,aa bH 1,aa bH 2,aa bH 3]))<|
 aw (aK 6 (D.agg [aa (I ls 0) 0,aa bH 0,aa bH 1,aa bH 2,aa bH 3,D.val (.slice none 0 0)]))<|
 some [D.aL [D.agg [aa (I ls 0) 0,aa bH 0,aa bH 1,aa bH 2,aa bH 3,D.val (.slice none 0 0)],J 0],I ls 1]
)
) (
 R (lenP (aa (I ls 0) 5)) fun dg=>
 R (
 bo (zj wL n) n [aa (I ls 0) 5,dg,J 0,aa (I ls 0) 0,aa (I ls 0) 1,aa (I ls 0) 2,aa (I ls 0) 3,aa (I ls 0) 4,aa (I ls 0) 5,J 0,J 0,J 0,aI ⟨#[]⟩,D.val (.slice none 0 0),D.val (.slice none 0 0),D.aE 6 [],I ls 1]
)<|a6 fun ls=>
 aw (bD (I ls 0))<|
 aw (aK 6 (D.agg [I ls 0,J 0,J 0,aI ⟨#[]⟩,D.val (.slice none 0 0),D.aE 6 (esD (I ls 12))]))<|
 some [D.aL [D.agg [I ls 0,J 0,J 0,aI ⟨#[]⟩,D.val (.slice none 0 0),D.aE 6 (esD (I ls 12))],J 0],I ls 13]
)
def nE:Nat→List D→Option (List D)
 |0,_=>none
 |n+1,ls=>qW (nE n) n ls
def Mz(n:Nat)(ab:D)(ag:D):Option D:=
 aw (aK 6 ab)<|
 aw (bD ag)<|
 R (nB n [D.agg [aa ab 0,aa ab 1,aa ab 2,aa ab 3,aa ab 4,aa ab 5]]) fun bR=>
 R (binP false .neq bR (J 0)) fun v11=>
 oif v11 (
 some (D.aL [D.agg [J 0,J 0,J 0,aI ⟨#[]⟩,D.val (.slice none 0 0),D.val (.slice none 0 0)],bR])
) (
 R (nE n [D.agg [aa ab 0,aa ab 1,aa ab 2,aa ab 3,aa ab 4,aa ab 5],ag]) fun ad=>
 R (extP 0 (I ad 0)) fun bF=>
 R (extP 1 (I ad 0)) fun b7=>
 aw (aK 6 bF)<|
 some (D.aL [D.agg [aa bF 0,aa bF 1,aa bF 2,aa bF 3,aa bF 4,aa bF 5],b7])
)
def si(n:Nat):List D→Option D
 |[ab,ag]=>Mz n ab ag
 |_=>none
def Hu(n:Nat)(ls:List D):Option (List D⊕(List D⊕D)):=
 R (binP false .lss (I ls 3) (I ls 2)) fun bq=>
 oif bq (
 R (a3 7 (I ls 1) (I ls 3)) fun pF=>
 R (aX true 7 0 pF) fun bC=>
 aw (aK 7 bC)<|
 R (si n [D.agg [aa bC 1,aa bC 2,aa bC 3,aa bC 4,aa bC 5,aa bC 6],I ls 0]) fun bU=>
 R (extP 0 bU) fun b4=>
 R (extP 1 bU) fun cv=>
 aw (aK 6 b4)<|
 R (binP false .neq cv (J 0)) fun ch=>
 oif ch (
 aU (
 aU (
 some (D.aL [D.val (.slice none 0 0),I ls 3,cv])
)
)
) (
 aw (bD (aa bC 0))<|
 aw (aK 6 (D.agg [aa b4 0,aa b4 1,aa b4 2,aa b4 3,aa b4 4,aa b4 5]))<|
 aw (aK 7 (D.agg [aa bC 0,aa b4 0,aa b4 1,aa b4 2,aa b4 3,aa b4 4,aa b4 5]))<|
 aw (c2 (((esD (I ls 4))).length+([[aa bC 0,aa b4 0,aa b4 1,aa b4 2,aa b4 3,aa b4 4,aa b4 5]]).length) 104)<|
 R (binP false .add (I ls 3) (J 1)) fun dh=>
 some (.inl [I ls 0,I ls 1,I ls 2,dh,D.aE 7 ((esD (I ls 4))++[[aa bC 0,aa b4 0,aa b4 1,aa b4 2,aa b4 3,aa b4 4,aa b4 5]])])
)
) (
 aU (
 some (.inl [D.aE 7 (esD (I ls 4))])
)
)
def TW(n:Nat)(ab:D)(ag:D):Option D:=
 R (lenP ab) fun bX=>
 R (
 bo (Hu n) n [ag,ab,bX,J 0,D.aE 7 []]
)<|a6 fun ls=>
 some (D.aL [D.aE 7 (esD (I ls 0)),J 0,J 0])
def wM(n:Nat):List D→Option D
 |[ab,ag]=>TW n ab ag
 |_=>none
def MA(n:Nat)(ab:D):Option D:=
 aw (aK 8 ab)<|
 aw (bD (aa ab 0))<|
 R (nD n [aa ab 2,aa ab 1]) fun cd=>
 R (extP 0 cd) fun bq=>
 R (extP 1 cd) fun bf=>
 R (extP 2 cd) fun bE=>
 aw (bD bq)<|
 aw (bD bf)<|
 R (binP false .neq bE (J 0)) fun v20=>
 oif v20 (
 aw (bD bf)<|
 aw (aK 2 (D.agg [J 3,bf]))<|
 some (D.aL [D.agg [D.val (.slice none 0 0),D.val (.slice none 0 0),D.val (.slice none 0 0),D.val (.slice none 0 0),D.val (.slice none 0 0),D.val (.slice none 0 0),D.val (.slice none 0 0),D.val (.slice none 0 0)],D.agg [J 3,bf],bE])
) (
 R (nD n [aa ab 3,aa ab 1]) fun dB=>
 R (extP 0 dB) fun dt=>
 R (extP 1 dB) fun dg=>
 R (extP 2 dB) fun cZ=>
 aw (bD dt)<|
 aw (bD dg)<|
 R (binP false .neq cZ (J 0)) fun c8=>
 oif c8 (
 aw (bD dg)<|
 aw (aK 2 (D.agg [J 4,dg]))<|
 some (D.aL [D.agg [D.val (.slice none 0 0),D.val (.slice none 0 0),D.val (.slice none 0 0),D.val (.slice none 0 0),D.val (.slice none 0 0),D.val (.slice none 0 0),D.val (.slice none 0 0),D.val (.slice none 0 0)],D.agg [J 4,dg],cZ])
) (
 R (wK n [aa ab 4,aa ab 1]) fun ei=>
 R (extP 0 ei) fun cV=>
 R (extP 1 ei) fun fu=>
 R (extP 2 ei) fun e8=>
 aw (bD cV)<|
 aw (bD fu)<|
 R (binP false .neq e8 (J 0)) fun eX=>
 oif eX (
 aw (bD fu)<|
 aw (aK 2 (D.agg [J 5,fu]))<|
 some (D.aL [D.agg [D.val (.slice none 0 0),D.val (.slice none 0 0),D.val (.slice none 0 0),D.val (.slice none 0 0),D.val (.slice none 0 0),D.val (.slice none 0 0),D.val (.slice none 0 0),D.val (.slice none 0 0)],D.agg [J 5,fu],e8])
) (
 R (nD n [aa ab 5,aa ab 1]) fun fK=>
 R (extP 0 fK) fun fB=>
 R (extP 1 fK) fun ep=>
 R (extP 2 fK) fun iH=>
 aw (bD fB)<|
 aw (bD ep)<|
 R (binP false .neq iH (J 0)) fun gv=>
 oif gv (
 aw (bD ep)<|
 aw (aK 2 (D.agg [J 6,ep]))<|
 some (D.aL [D.agg [D.val (.slice none 0 0),D.val (.slice none 0 0),D.val (.slice none 0 0),D.val (.slice none 0 0),D.val (.slice none 0 0),D.val (.slice none 0 0),D.val (.slice none 0 0),D.val (.slice none 0 0)],D.agg [J 6,ep],iH])
) (
 R (nD n [aa ab 6,aa ab 1]) fun hi=>
 R (extP 0 hi) fun h3=>
 R (extP 1 hi) fun nF=>
 R (extP 2 hi) fun sd=>
 aw (bD h3)<|
 aw (bD nF)<|
 R (binP false .neq sd (J 0)) fun pG=>
 oif pG (
 aw (bD nF)<|
 aw (aK 2 (D.agg [J 7,nF]))<|
 some (D.aL [D.agg [D.val (.slice none 0 0),D.val (.slice none 0 0),D.val (.slice none 0 0),D.val (.slice none 0 0),D.val (.slice none 0 0),D.val (.slice none 0 0),D.val (.slice none 0 0),D.val (.slice none 0 0)],D.agg [J 7,nF],sd])
) (
 R (wM n [aa ab 7,aa ab 1]) fun pH=>
 R (extP 0 pH) fun pC=>
 R (extP 1 pH) fun j1=>
 R (extP 2 pH) fun pI=>
 aw (bD pC)<|
 aw (bD j1)<|
 R (binP false .neq pI (J 0)) fun wN=>
 oif wN (
 aw (bD j1)<|
 aw (aK 2 (D.agg [J 8,j1]))<|
 some (D.aL [D.agg [D.val (.slice none 0 0),D.val (.slice none 0 0),D.val (.slice none 0 0),D.val (.slice none 0 0),D.val (.slice none 0 0),D.val (.slice none 0 0),D.val (.slice none 0 0),D.val (.slice none 0 0)],D.agg [J 8,j1],pI])
) (
 aw (aK 8 (D.agg [aa ab 0,D.val (.slice none 0 0),bq,dt,cV,fB,h3,pC]))<|
 some (D.aL [D.agg [aa ab 0,D.val (.slice none 0 0),bq,dt,cV,fB,h3,pC],D.agg [J 0,J 0],J 0])
)
)
)
)
)
)
def C7(n:Nat):List D→Option D
 |[ab]=>MA n ab
 |_=>none
def MB(n:Nat)(ab:D):Option D:=
 aw (aK 8 ab)<|
 R (ov n [D.agg [aa ab 0,aa ab 1,aa ab 2,aa ab 3,aa ab 4,aa ab 5,aa ab 6,aa ab 7]]) fun v11=>
 R (extP 0 v11) fun bX=>
 R (extP 1 v11) fun cd=>
 aw (aK 2 bX)<|
 R (binP false .neq cd (J 0)) fun bf=>
 oif bf (
 some (D.aL [D.agg [D.val (.slice none 0 0),D.val (.slice none 0 0),D.val (.slice none 0 0),D.val (.slice none 0 0),D.val (.slice none 0 0),D.val (.slice none 0 0),D.val (.slice none 0 0),D.val (.slice none 0 0),D.val (.slice none 0 0)],ar false])
) (
 R (C7 n [D.agg [aa ab 0,aa ab 1,aa ab 2,aa ab 3,aa ab 4,aa ab 5,aa ab 6,aa ab 7]]) fun b7=>
 R (extP 0 b7) fun v20=>
 R (extP 1 b7) fun bH=>
 R (extP 2 b7) fun bU=>
 aw (aK 8 v20)<|
 aw (aK 2 bH)<|
 aw (aK 8 (D.agg [aa v20 0,aa v20 1,aa v20 2,aa v20 3,aa v20 4,aa v20 5,aa v20 6,aa v20 7]))<|
 aw (bD (aa ab 1))<|
 R (binP false .eql bU (J 0)) fun cp=>
 aw (aK 9 (D.agg [aa v20 0,aa v20 1,aa v20 2,aa v20 3,aa v20 4,aa v20 5,aa v20 6,aa v20 7,aa ab 1]))<|
 some (D.aL [D.agg [aa v20 0,aa v20 1,aa v20 2,aa v20 3,aa v20 4,aa v20 5,aa v20 6,aa v20 7,aa ab 1],cp])
)
def nG(n:Nat):List D→Option D
 |[ab]=>MB n ab
 |_=>none
def zk(n:Nat)(ls:List D):Option (List D⊕(List D⊕D)):=
 R (binP false .lss (I ls 3) (I ls 2)) fun b7=>
 oif b7 (
 R (a3 4 (I ls 1) (I ls 3)) fun sj=>
 R (aX true 4 0 sj) fun bU=>
 aw (aK 4 bU)<|
 R (
 oif (aa bU 1) (
 some (.inl [I ls 0,I ls 3,J 0,J 1,I ls 1,I ls 2,I ls 3])
) (
 some (.inl [I ls 0,I ls 3,aa bU 2,aa bU 3,I ls 1,I ls 2,I ls 3])
)
)<|a6 fun ls=>
 R (a3 1 (I ls 0) (I ls 1)) fun sk=>
 R (aX false 1 0 sk) fun dt=>
 R (binP false .lss dt (I ls 2)) fun cZ=>
 R (gD cZ false (
 R (a3 1 (I ls 0) (I ls 1)) fun C8=>
 R (aX false 1 0 C8) fun ey=>
 R (binP false .gtr ey (I ls 3)) fun fl=>
 some fl
)) fun fl=>
 R (pickP cZ (ar true) fl) fun cY=>
 oif cY (
 aU (
 aU (
 some (ar false)
)
)
) (
 R (binP false .add (I ls 6) (J 1)) fun dK=>
 some (.inl [I ls 0,I ls 4,I ls 5,dK])
)
) (
 aU (
 some (.inl [])
)
)
def TX(n:Nat)(ab:D)(ag:D):Option D:=
 aw (aK 8 ab)<|
 R (lenP ag) fun v10=>
 R (lenP (aa ab 0)) fun cd=>
 R (binP false .neq v10 cd) fun bq=>
 oif bq (
 some (ar false)
) (
 R (lenP (aa ab 0)) fun bC=>
 R (
 bo (zk n) n [ag,aa ab 0,bC,J 0]
)<|a6 fun ls=>
 some (ar true)
)
def zl(n:Nat):List D→Option D
 |[ab,ag]=>TX n ab ag
 |_=>none
def TY(n:Nat)(ab:D):Option D:=
 oif ab (
 some (D.aL [J 1,ar true])
) (
 some (D.aL [J 0,ar true])
)
def nH(n:Nat):List D→Option D
 |[ab]=>TY n ab
 |_=>none
def TZ(n:Nat)(ab:D)(ag:D):Option D:=
 R (unP .not ag) fun bZ=>
 R (gD bZ false (
 R (binP false .lss ab (J (-9007199254740992))) fun v10=>
 some v10
)) fun v10=>
 R (pickP bZ (ar true) v10) fun v11=>
 R (gD v11 false (
 R (binP false .gtr ab (J 9007199254740992)) fun bq=>
 some bq
)) fun bq=>
 R (pickP v11 (ar true) bq) fun bf=>
 oif bf (
 some (D.aL [J 0,ar false])
) (
 some (D.aL [ab,ar true])
)
def C9(n:Nat):List D→Option D
 |[ab,ag]=>TZ n ab ag
 |_=>none
def Hv(n:Nat)(ab:D)(ag:D):Option D:=
 R (binP false .add ab ag) fun cf=>
 R (binP false .lss ab (J 0)) fun v11=>
 R (binP false .lss ag (J 0)) fun cd=>
 R (binP true .neq v11 cd) fun bq=>
 R (gD bq false (
 R (binP false .lss ab (J 0)) fun bC=>
 R (binP false .lss cf (J 0)) fun b7=>
 R (binP true .eql bC b7) fun v20=>
 some v20
)) fun v20=>
 R (pickP bq (ar true) v20) fun bH=>
 R (C9 n [cf,bH]) fun bU=>
 R (extP 0 bU) fun b4=>
 R (extP 1 bU) fun cv=>
 some (D.aL [b4,cv])
def qX(n:Nat):List D→Option D
 |[ab,ag]=>Hv n ab ag
 |_=>none
def MC(n:Nat)(ab:D):Option D:=
 R (binP false .lss ab (J 0)) fun v4=>
 oif v4 (
 R (cvP .u64 ab) fun v6=>
 R (unP .neg v6) fun bZ=>
 some bZ
) (
 R (cvP .u64 ab) fun bR=>
 some bR
)
def wO(n:Nat):List D→Option D
 |[ab]=>MC n ab
 |_=>none
def MD(n:Nat)(ab:D)(ag:D):Option D:=
 R (binP false .and ab (D.val (.int .u64 4294967295))) fun bf=>
 R (binP false .shr ab (D.val (.int .u64 32))) fun bC=>
 R (binP false .and ag (D.val (.int .u64 4294967295))) fun b7=>
 R (binP false .shr ag (D.val (.int .u64 32))) fun bH=>
 R (binP false .mul bf b7) fun cv=>
 R (binP false .mul bC b7) fun cA=>
 R (binP false .shr cv (D.val (.int .u64 32))) fun cB=>
 R (binP false .add cA cB) fun v30=>
 R (binP false .and v30 (D.val (.int .u64 4294967295))) fun dt=>
 R (binP false .shr v30 (D.val (.int .u64 32))) fun cZ=>
 R (binP false .mul bf bH) fun c8=>
 R (binP false .add dt c8) fun ey=>
 R (binP false .mul bC bH) fun cY=>
 R (binP false .add cY cZ) fun dH=>
 R (binP false .shr ey (D.val (.int .u64 32))) fun fL=>
 R (binP false .add dH fL) fun iI=>
 R (binP false .mul ab ag) fun cV=>
 some (D.aL [iI,cV])
def Hw(n:Nat):List D→Option D
 |[ab,ag]=>MD n ab ag
 |_=>none
def Da(n:Nat)(ab:D)(ag:D):Option D:=
 R (wO n [ab]) fun v10=>
 R (wO n [ag]) fun bX=>
 R (Hw n [v10,bX]) fun cd=>
 R (extP 0 cd) fun bq=>
 R (extP 1 cd) fun bf=>
 R (binP false .neq bq (D.val (.int .u64 0))) fun bC=>
 R (gD bC false (
 R (binP false .gtr bf (D.val (.int .u64 9007199254740992))) fun v20=>
 some v20
)) fun v20=>
 R (pickP bC (ar true) v20) fun bH=>
 oif bH (
 some (D.aL [J 0,ar false])
) (
 R (binP false .lss ab (J 0)) fun b4=>
 R (binP false .lss ag (J 0)) fun cF=>
 R (binP true .neq b4 cF) fun ch=>
 oif ch (
 R (cvP .i64 bf) fun cp=>
 R (unP .neg cp) fun cB=>
 some (D.aL [cB,ar true])
) (
 R (cvP .i64 bf) fun dB=>
 some (D.aL [dB,ar true])
)
)
def tT(n:Nat):List D→Option D
 |[ab,ag]=>Da n ab ag
 |_=>none
def Db(n:Nat)(ls:List D):Option (List D⊕(List D⊕D)):=
 R (binP false .lss (I ls 4) (I ls 3)) fun ME=>
 oif ME (
 R (a3 1 (I ls 2) (I ls 4)) fun afO=>
 R (aX false 1 0 afO) fun afP=>
 R (binP false .add (I ls 1) afP) fun zm=>
 R (binP false .add (I ls 4) (J 1)) fun tU=>
 some (.inl [I ls 0,zm,I ls 2,I ls 3,tU,I ls 5,I ls 6,I ls 7,I ls 8])
) (
 aU (
 some (.inl [I ls 0,I ls 1,I ls 5,I ls 6,I ls 7,I ls 8])
)
)
def jK(n:Nat)(ab:D)(ag:D):Option D:=
 aw (aK 4 ab)<|
 R (binP false .eql (aa ab 0) (J 5)) fun bX=>
 oif bX (
 R (a3 1 ag (J 0)) fun eQ=>
 R (aX false 1 0 eQ) fun bf=>
 R (binP false .eql bf (J 0)) fun bE=>
 R (nH n [bE]) fun bC=>
 R (extP 0 bC) fun bF=>
 R (extP 1 bC) fun b7=>
 some (D.aL [bF,b7])
) (
 R (binP false .eql (aa ab 0) (J 8)) fun bH=>
 oif bH (
 R (a3 1 ag (J 0)) fun BS=>
 R (aX false 1 0 BS) fun cv=>
 R (binP false .eql cv (J 0)) fun cF=>
 R (gD cF false (
 R (a3 1 ag (J 1)) fun r6=>
 R (aX false 1 0 r6) fun cB=>
 R (binP false .neq cB (J 0)) fun v30=>
 some v30
)) fun v30=>
 R (pickP cF (ar true) v30) fun dB=>
 R (nH n [dB]) fun dt=>
 R (extP 0 dt) fun dg=>
 R (extP 1 dt) fun cZ=>
 some (D.aL [dg,cZ])
) (
 R (binP false .eql (aa ab 0) (J 9)) fun dh=>
 R (
 oif dh (
 some (.inl [ag,aa ab 0,dh,aa ab 0,aa ab 1,aa ab 2,aa ab 3])
) (
 R (binP false .eql (aa ab 0) (J 10)) fun dk=>
 some (.inl [ag,aa ab 0,dk,aa ab 0,aa ab 1,aa ab 2,aa ab 3])
)
)<|a6 fun ls=>
 oif (I ls 2) (
 R (a3 1 (I ls 0) (J 0)) fun nC=>
 R (aX false 1 0 nC) fun dr=>
 R (a3 1 (I ls 0) (J 1)) fun MF=>
 R (aX false 1 0 MF) fun dK=>
 R (binP false .eql dr dK) fun dH=>
 R (nH n [dH]) fun cR=>
 R (extP 0 cR) fun fL=>
 R (extP 1 cR) fun iI=>
 some (D.aL [fL,iI])
) (
 R (binP false .eql (I ls 1) (J 11)) fun ei=>
 oif ei (
 R (a3 1 (I ls 0) (J 0)) fun Dc=>
 R (aX false 1 0 Dc) fun e8=>
 R (a3 1 (I ls 0) (J 1)) fun MG=>
 R (aX false 1 0 MG) fun e7=>
 R (binP false .neq e8 e7) fun eX=>
 R (nH n [eX]) fun h2=>
 R (extP 0 h2) fun eW=>
 R (extP 1 h2) fun j3=>
 some (D.aL [eW,j3])
) (
 R (binP false .eql (I ls 1) (J 12)) fun gw=>
 oif gw (
 R (a3 1 (I ls 0) (J 0)) fun CF=>
 R (aX false 1 0 CF) fun g4=>
 R (a3 1 (I ls 0) (J 1)) fun MH=>
 R (aX false 1 0 MH) fun fK=>
 R (binP false .lss g4 fK) fun fB=>
 R (nH n [fB]) fun ep=>
 R (extP 0 ep) fun iH=>
 R (extP 1 ep) fun om=>
 some (D.aL [iH,om])
) (
 R (binP false .eql (I ls 1) (J 13)) fun gl=>
 oif gl (
 R (a3 1 (I ls 0) (J 0)) fun MI=>
 R (aX false 1 0 MI) fun gQ=>
 R (a3 1 (I ls 0) (J 1)) fun afQ=>
 R (aX false 1 0 afQ) fun lV=>
 R (binP false .leq gQ lV) fun lx=>
 R (nH n [lx]) fun iJ=>
 R (extP 0 iJ) fun jL=>
 R (extP 1 iJ) fun j4=>
 some (D.aL [jL,j4])
) (
 R (binP false .eql (I ls 1) (J 14)) fun hi=>
 oif hi (
 R (a3 1 (I ls 0) (J 0)) fun MJ=>
 R (aX false 1 0 MJ) fun sd=>
 R (a3 1 (I ls 0) (J 1)) fun afR=>
 R (aX false 1 0 afR) fun wP=>
 R (qX n [sd,wP]) fun pG=>
 R (extP 0 pG) fun lU=>
 R (extP 1 pG) fun ie=>
 some (D.aL [lU,ie])
) (
 R (binP false .eql (I ls 1) (J 15)) fun jJ=>
 oif jJ (
 R (a3 1 (I ls 0) (J 0)) fun MK=>
 R (aX false 1 0 MK) fun wQ=>
 R (a3 1 (I ls 0) (J 1)) fun afS=>
 R (aX false 1 0 afS) fun Dd=>
 R (unP .neg Dd) fun pH=>
 R (qX n [wQ,pH]) fun pC=>
 R (extP 0 pC) fun j1=>
 R (extP 1 pC) fun pI=>
 some (D.aL [j1,pI])
) (
 R (binP false .eql (I ls 1) (J 16)) fun ic=>
 oif ic (
 R (a3 1 (I ls 0) (J 0)) fun Mp=>
 R (aX false 1 0 Mp) fun wR=>
 R (a3 1 (I ls 0) (J 1)) fun ML=>
 R (aX false 1 0 ML) fun kA=>
 R (tT n [wR,kA]) fun tV=>
 R (extP 0 tV) fun wS=>
 R (extP 1 tV) fun mQ=>
 some (D.aL [wS,mQ])
) (
 R (binP false .eql (I ls 1) (J 17)) fun De=>
 oif De (
 R (a3 1 (I ls 0) (J 0)) fun afT=>
 R (aX false 1 0 afT) fun oo=>
 R (a3 1 (I ls 0) (J 1)) fun afU=>
 R (aX false 1 0 afU) fun wk=>
 R (binP false .rem oo wk) fun zn=>
 R (a3 1 (I ls 0) (J 1)) fun afV=>
 R (aX false 1 0 afV) fun L2=>
 R (binP false .add zn L2) fun vO=>
 R (a3 1 (I ls 0) (J 1)) fun afW=>
 R (aX false 1 0 afW) fun vQ=>
 R (binP false .rem vO vQ) fun MM=>
 some (D.aL [MM,ar true])
) (
 R (binP false .eql (I ls 1) (J 18)) fun Mq=>
 oif Mq (
 R (a3 1 (I ls 0) (J 0)) fun afX=>
 R (aX false 1 0 afX) fun afY=>
 R (binP false .neq afY (J 0)) fun zo=>
 oif zo (
 R (a3 1 (I ls 0) (J 1)) fun afZ=>
 R (aX false 1 0 afZ) fun se=>
 some (D.aL [se,ar true])
) (
 R (a3 1 (I ls 0) (J 2)) fun af0=>
 R (aX false 1 0 af0) fun af1=>
 some (D.aL [af1,ar true])
)
) (
 R (lenP (I ls 0)) fun CI=>
 R (
 bo (Db n) n [I ls 0,J 0,I ls 0,CI,J 0,I ls 3,I ls 4,I ls 5,I ls 6]
)<|a6 fun ls=>
 R (lenP (I ls 0)) fun af2=>
 R (binP false .eql (I ls 1) af2) fun qS=>
 R (gD qS false (
 R (binP false .eql (I ls 2) (J 7)) fun Df=>
 some Df
)) fun wo=>
 R (gD wo true (
 R (binP false .gtr (I ls 1) (J 0)) fun Dg=>
 some Dg
)) fun Dg=>
 R (gD qS false (
 R (pickP wo Dg (ar false)) fun MN=>
 some MN
)) fun MN=>
 R (pickP qS (ar true) MN) fun CJ=>
 R (nH n [CJ]) fun wT=>
 R (extP 0 wT) fun af3=>
 R (extP 1 wT) fun af4=>
 some (D.aL [af3,af4])
)
)
)
)
)
)
)
)
)
)
)
def ij(n:Nat):List D→Option D
 |[ab,ag]=>jK n ab ag
 |_=>none
def Dh(wU:List D→Option (List D))(n:Nat)(ls:List D):Option (List D⊕(List D⊕(List D))):=
 R (binP false .lss (I ls 2) (I ls 1)) fun v20=>
 oif v20 (
 R (a3 4 (I ls 0) (I ls 2)) fun sj=>
 R (aX true 4 0 sj) fun bU=>
 aw (aK 4 bU)<|
 R (wU [D.agg [aa bU 0,aa bU 1,aa bU 2,aa bU 3],I ls 3,I ls 4,I ls 5,I ls 6]) fun ae=>
 R (extP 0 (I ae 0)) fun cA=>
 R (extP 1 (I ae 0)) fun cp=>
 R (unP .not cp) fun v30=>
 oif v30 (
 aU (
 aU (
 some [D.aL [J 0,ar false],I ae 1,I ae 2,I ae 3,I ae 4]
)
)
) (
 aw (bD cA)<|
 aw (c2 (((esD (I ls 11))).length+([[cA]]).length) 8)<|
 R (binP false .add (I ls 2) (J 1)) fun e2=>
 some (.inl [I ls 0,I ls 1,e2,I ae 1,I ae 2,I ae 3,I ae 4,I ls 7,I ls 8,I ls 9,I ls 10,D.aE 1 ((esD (I ls 11))++[[cA]])])
)
) (
 aU (
 some (.inl [I ls 3,I ls 4,I ls 5,I ls 6,I ls 7,I ls 8,I ls 9,I ls 10,D.aE 1 (esD (I ls 11))])
)
)
def sl(wU:List D→Option (List D))(n:Nat)(ls:List D):Option (List D):=
 aw (aK 4 (I ls 0))<|
 R (lenP (aa (I ls 0) 3)) fun bF=>
 R (
 bo (Dh wU n) n [aa (I ls 0) 3,bF,J 0,I ls 1,I ls 2,I ls 3,I ls 4,aa (I ls 0) 0,aa (I ls 0) 1,aa (I ls 0) 2,aa (I ls 0) 3,D.aE 1 []]
)<|a6 fun ls=>
 R (binP false .eql (I ls 4) (J 1)) fun dH=>
 R (
 oif dH (
 some (.inl [I ls 4,dH,I ls 0,I ls 1,I ls 2,I ls 3,I ls 4,I ls 5,I ls 6,I ls 7,D.aE 1 (esD (I ls 8))])
) (
 R (binP false .eql (I ls 4) (J 2)) fun cR=>
 some (.inl [I ls 4,cR,I ls 0,I ls 1,I ls 2,I ls 3,I ls 4,I ls 5,I ls 6,I ls 7,D.aE 1 (esD (I ls 8))])
)
)<|a6 fun ls=>
 oif (I ls 1) (
 some [D.aL [I ls 7,ar true],I ls 2,I ls 3,I ls 4,I ls 5]
) (
 R (binP false .eql (I ls 0) (J 3)) fun ei=>
 R (
 oif ei (
 some (.inl [ei,I ls 2,I ls 3,I ls 4,I ls 5,I ls 6,I ls 7,I ls 8,I ls 9,D.aE 1 (esD (I ls 10))])
) (
 R (binP false .eql (I ls 0) (J 4)) fun cV=>
 some (.inl [cV,I ls 2,I ls 3,I ls 4,I ls 5,I ls 6,I ls 7,I ls 8,I ls 9,D.aE 1 (esD (I ls 10))])
)
)<|a6 fun ls=>
 oif (I ls 0) (
 R (kS (I ls 2)) fun af5=>
 R (lookP (.string) (.int .i64 0) false af5 (I ls 7)) fun e7=>
 R (binP false .eql (I ls 5) (J 4)) fun eW=>
 R (
 oif eW (
 some (.inl [I ls 3,e7,I ls 4,I ls 1,I ls 2,I ls 3])
) (
 some (.inl [I ls 1,e7,I ls 4,I ls 1,I ls 2,I ls 3])
)
)<|a6 fun ls=>
 R (lenP (I ls 0)) fun gw=>
 R (lenP (I ls 2)) fun k0=>
 R (binP false .neq gw k0) fun g4=>
 oif g4 (
 some [D.aL [J 0,ar false],I ls 3,I ls 4,I ls 5,I ls 2]
) (
 R (a3 4 (I ls 2) (I ls 1)) fun af6=>
 R (aX false 1 1 af6) fun ep=>
 oif ep (
 R (a3 1 (I ls 0) (I ls 1)) fun LY=>
 R (aX false 1 0 LY) fun gl=>
 R (binP false .neq gl (J 0)) fun gv=>
 R (nH n [gv]) fun mR=>
 R (extP 0 mR) fun gQ=>
 R (extP 1 mR) fun gj=>
 some [D.aL [gQ,gj],I ls 3,I ls 4,I ls 5,I ls 2]
) (
 R (a3 1 (I ls 0) (I ls 1)) fun MO=>
 R (aX false 1 0 MO) fun iJ=>
 R (qX n [iJ,J 0]) fun jL=>
 R (extP 0 jL) fun j4=>
 R (extP 1 jL) fun g5=>
 some [D.aL [j4,g5],I ls 3,I ls 4,I ls 5,I ls 2]
)
)
) (
 R (ij n [D.agg [I ls 5,I ls 6,I ls 7,I ls 8],D.aE 1 (esD (I ls 9))]) fun dr=>
 aw dr.flat<|
 R (extP 0 dr) fun fl=>
 R (extP 1 dr) fun cY=>
 some [D.aL [fl,cY],I ls 1,I ls 2,I ls 3,I ls 4]
)
)
def sm:Nat→List D→Option (List D)
 |0,_=>none
 |n+1,ls=>sl (sm n) n ls
def Hx(n:Nat)(ab:D)(ag:D)(aS:D)(bN:D):Option D:=
 aw (bD ab)<|
 aw (aK 4 ag)<|
 aw (bD aS)<|
 aw (bD bN)<|
 R (qT n [ab,D.agg [aa ag 0,aa ag 1,aa ag 2,aa ag 3],ar true]) fun bC=>
 R (extP 0 bC) fun bF=>
 R (extP 1 bC) fun b7=>
 aw (aK 3 bF)<|
 R (binP false .neq b7 (J 0)) fun bH=>
 R (gD bH false (
 R (lenP aS) fun cv=>
 R (lenP ab) fun ch=>
 R (binP false .neq cv ch) fun cA=>
 some cA
)) fun cA=>
 R (pickP bH (ar true) cA) fun cp=>
 oif cp (
 some (D.aL [J 0,ar false])
) (
 R (wh n [ab]) fun v30=>
 aw (bD v30)<|
 R (sm n [D.agg [aa ag 0,aa ag 1,aa ag 2,aa ag 3],aS,v30,bN,ab]) fun ad=>
 R (extP 0 (I ad 0)) fun e2=>
 R (extP 1 (I ad 0)) fun dh=>
 some (D.aL [e2,dh])
)
def pJ(n:Nat):List D→Option D
 |[ab,ag,aS,bN]=>Hx n ab ag aS bN
 |_=>none
def MP(n:Nat)(ab:D)(ag:D)(aS:D)(bN:D):Option D:=
 aw (aK 9 ab)<|
 aw (aK 4 ag)<|
 R (pJ n [aa ab 0,D.agg [aa ag 0,aa ag 1,aa ag 2,aa ag 3],aS,bN]) fun bF=>
 R (extP 0 bF) fun b7=>
 R (extP 1 bF) fun v20=>
 R (gD v20 true (
 R (binP false .neq b7 (J 0)) fun cv=>
 some cv
)) fun cv=>
 R (pickP v20 cv (ar false)) fun cF=>
 some cF
def pK(n:Nat):List D→Option D
 |[ab,ag,aS,bN]=>MP n ab ag aS bN
 |_=>none
def Hy(n:Nat)(ab:D)(cJ:List D)(ht:List D)(tW:List D):Option D:=
 aw (aK 4 ab)<|
 R (aX true 9 0 cJ) fun v6=>
 R (aX false 1 0 ht) fun cf=>
 R (aX false 1 0 tW) fun bR=>
 R (pK n [v6,D.agg [aa ab 0,aa ab 1,aa ab 2,aa ab 3],cf,bR]) fun v10=>
 R (unP .not v10) fun v11=>
 some v11
def Di(n:Nat):List D→Option D
 |[ab,ag,aS,bN]=>(match ag with| .ref cJ 0=>(match aS with| .ref ht 0=>(match bN with| .ref tW 0=>Hy n ab cJ ht tW|_=>none)|_=>none)|_=>none)
 |_=>none
def Dj(n:Nat)(ls:List D):Option (List D⊕(List D⊕D)):=
 R (binP false .lss (I ls 5) (I ls 4)) fun bR=>
 oif bR (
 R (a3 4 (I ls 0) (I ls 5)) fun eQ=>
 R (aX true 4 0 eQ) fun bf=>
 R (Di n [bf,I ls 1,I ls 2,I ls 3]) fun bE=>
 oif bE (
 aU (
 aU (
 some (I ls 5)
)
)
) (
 R (binP false .add (I ls 5) (J 1)) fun bF=>
 some (.inl [I ls 0,I ls 1,I ls 2,I ls 3,I ls 4,bF])
)
) (
 aU (
 some (.inl [])
)
)
def Dk(n:Nat)(ab:D)(b5:D)(nI:D)(nJ:D):Option D:=
 R (lenP ab) fun bZ=>
 R (
 bo (Dj n) n [ab,b5,nI,nJ,bZ,J 0]
)<|a6 fun ls=>
 some (J (-1))
def wV(n:Nat):List D→Option D
 |[ab,ag]=>(match fnOf pk ag with|some [b5,nI,nJ]=>Dk n ab b5 nI nJ|_=>none)
 |_=>none
def Hz(n:Nat)(ab:D)(b5:D)(nI:D)(nJ:D):Option D:=
 R (wV n [ab,(D.fn (.func pk) [] [b5,nI,nJ])]) fun bZ=>
 R (binP false .geq bZ (J 0)) fun cf=>
 some cf
def wW(n:Nat):List D→Option D
 |[ab,ag]=>(match fnOf pk ag with|some [b5,nI,nJ]=>Hz n ab b5 nI nJ|_=>none)
 |_=>none
def T0(n:Nat)(ab:D)(ag:D)(aS:D)(bN:D):Option D:=
 aw (aK 9 ab)<|
 aw (bD aS)<|
 aw (bD bN)<|
 R (wW n [ag,(D.fn (.func pk) [] [D.ref [aa ab 0,aa ab 1,aa ab 2,aa ab 3,aa ab 4,aa ab 5,aa ab 6,aa ab 7,aa ab 8] 0,D.ref [aS] 0,D.ref [bN] 0])]) fun v11=>
 aw v11.flat<|
 R (unP .not v11) fun bX=>
 some bX
def wX(n:Nat):List D→Option D
 |[ab,ag,aS,bN]=>T0 n ab ag aS bN
 |_=>none
def MQ(n:Nat)(ab:D)(ag:D):Option D:=
 aw (aK 9 ab)<|
 R (zl n [D.agg [aa ab 0,aa ab 1,aa ab 2,aa ab 3,aa ab 4,aa ab 5,aa ab 6,aa ab 7],ag]) fun cf=>
 R (gD cf true (
 R (wX n [D.agg [aa ab 0,aa ab 1,aa ab 2,aa ab 3,aa ab 4,aa ab 5,aa ab 6,aa ab 7,aa ab 8],aa ab 3,ag,D.val (.slice none 0 0)]) fun bf=>
 some bf
)) fun bf=>
 R (pickP cf bf (ar false)) fun bE=>
 some bE
def nK(n:Nat):List D→Option D
 |[ab,ag]=>MQ n ab ag
 |_=>none
def af7(n:Nat)(ls:List D):Option (List D⊕(List D⊕D)):=
 R (binP false .lss (I ls 2) (J 4)) fun cd=>
 oif cd (
 R (ct 4 (I ls 2)) fun Md=>
 R (jT true 2 (Md*2) (I ls 1)) fun bq=>
 aw (aK 2 bq)<|
 R (binP false .eql (I ls 0) (aa bq 0)) fun b7=>
 oif b7 (
 aU (
 aU (
 some (aa bq 1)
)
)
) (
 R (binP false .eql (I ls 0) (aa bq 1)) fun cF=>
 oif cF (
 aU (
 aU (
 some (aa bq 0)
)
)
) (
 R (binP false .add (I ls 2) (J 1)) fun cp=>
 some (.inl [I ls 0,I ls 1,cp])
)
)
) (
 aU (
 some (.inl [I ls 0])
)
)
def af8(n:Nat)(ab:D):Option D:=
 R (
 bo (af7 n) n [ab,D.agg [J 3,J 4,J 6,J 10,J 7,J 12,J 8,J 11],J 0]
)<|a6 fun ls=>
 some (I ls 0)
def MR(n:Nat):List D→Option D
 |[ab]=>af8 n ab
 |_=>none
def af9(lW:List D→Option D)(nL:List D→Option D)(n:Nat)(ls:List D):Option (List D⊕(List D⊕D)):=
 R (binP false .lss (I ls 3) (I ls 2)) fun bf=>
 oif bf (
 R (a3 6 (I ls 1) (I ls 3)) fun Dl=>
 R (aX true 6 0 Dl) fun bF=>
 aw (aK 6 bF)<|
 R (a3 1 (I ls 0) (I ls 3)) fun Dm=>
 R (aX false 1 0 Dm) fun cF=>
 R (nL [D.agg [aa bF 0,aa bF 1,aa bF 2,aa bF 3,aa bF 4,aa bF 5],cF]) fun ch=>
 aw (aK 6 ch)<|
 aw (c2 (((esD (I ls 15))).length+([[aa ch 0,aa ch 1,aa ch 2,aa ch 3,aa ch 4,aa ch 5]]).length) 88)<|
 R (binP false .add (I ls 3) (J 1)) fun v30=>
 some (.inl [I ls 0,I ls 1,I ls 2,v30,I ls 4,I ls 5,I ls 6,I ls 7,I ls 8,I ls 9,I ls 10,I ls 11,I ls 12,I ls 13,I ls 14,D.aE 6 ((esD (I ls 15))++[[aa ch 0,aa ch 1,aa ch 2,aa ch 3,aa ch 4,aa ch 5]])])
) (
 aU (
 some (.inl [I ls 4,I ls 5,I ls 6,I ls 7,I ls 8,I ls 9,I ls 10,I ls 11,I ls 12,I ls 13,I ls 14,D.aE 6 (esD (I ls 15))])
)
)
def T1(lW:List D→Option D)(nL:List D→Option D)(n:Nat)(ab:D)(ag:D)(ht:List D):Option D:=
 aw (bD ab)<|
 aw (aK 6 (D.agg [ab,J 0,J 0,aI ⟨#[]⟩,D.val (.slice none 0 0),D.val (.slice none 0 0)]))<|
 R (aX false 1 5 ht) fun bX=>
 R (lenP bX) fun cd=>
 R (
 bo (af9 lW nL n) n [ag,bX,cd,J 0,J 0,J 0,J 0,aI ⟨#[]⟩,D.val (.slice none 0 0),D.val (.slice none 0 0),ab,J 0,J 0,aI ⟨#[]⟩,D.val (.slice none 0 0),D.aE 6 []]
)<|a6 fun ls=>
 aw (aK 6 (D.agg [I ls 6,I ls 7,I ls 8,I ls 9,I ls 10,D.aE 6 (esD (I ls 11))]))<|
 some (D.agg [I ls 6,I ls 7,I ls 8,I ls 9,I ls 10,D.aE 6 (esD (I ls 11))])
def T2(lW:List D→Option D)(nL:List D→Option D)(n:Nat)(ab:D)(ag:D):Option D:=
 aw (aK 6 ab)<|
 R (binP false .eql (aa ab 0) (J 2)) fun v11=>
 oif v11 (
 R (a3 6 (aa ab 5) (J 0)) fun eQ=>
 R (aX true 6 0 eQ) fun bf=>
 R (unP .not ag) fun bC=>
 R (nL [bf,bC]) fun bF=>
 aw (aK 6 bF)<|
 some (D.agg [aa bF 0,aa bF 1,aa bF 2,aa bF 3,aa bF 4,aa bF 5])
) (
 R (binP false .eql (aa ab 0) (J 1)) fun bU=>
 R (gD bU true (
 some ag
)) fun cv=>
 R (pickP bU cv (ar false)) fun cF=>
 oif cF (
 aw (aK 4 (D.agg [aa ab 1,aa ab 2,aa ab 3,aa ab 4]))<|
 aw (aK 6 (D.agg [J 1,J 5,J 0,aI ⟨#[]⟩,D.aE 4 [[aa ab 1,aa ab 2,aa ab 3,aa ab 4]],D.val (.slice none 0 0)]))<|
 some (D.agg [J 1,J 5,J 0,aI ⟨#[]⟩,D.aE 4 [[aa ab 1,aa ab 2,aa ab 3,aa ab 4]],D.val (.slice none 0 0)])
) (
 R (binP false .eql (aa ab 0) (J 1)) fun cZ=>
 oif cZ (
 aw (aK 6 (D.agg [aa ab 0,aa ab 1,aa ab 2,aa ab 3,aa ab 4,aa ab 5]))<|
 some (D.agg [aa ab 0,aa ab 1,aa ab 2,aa ab 3,aa ab 4,aa ab 5])
) (
 R (binP false .eql (aa ab 0) (J 5)) fun ey=>
 R (gD ey true (
 some ag
)) fun fl=>
 R (pickP ey fl (ar false)) fun cY=>
 oif cY (
 R (lW [J 3,D.aE 1 [[ar false],[ar true]],D.ref [aa ab 0,aa ab 1,aa ab 2,aa ab 3,aa ab 4,aa ab 5] 0]) fun cR=>
 aw (aK 6 cR)<|
 some (D.agg [aa cR 0,aa cR 1,aa cR 2,aa cR 3,aa cR 4,aa cR 5])
) (
 R (binP false .eql (aa ab 0) (J 5)) fun ei=>
 oif ei (
 R (lW [J 4,D.aE 1 [[ar true],[ar false]],D.ref [aa ab 0,aa ab 1,aa ab 2,aa ab 3,aa ab 4,aa ab 5] 0]) fun e8=>
 aw (aK 6 e8)<|
 some (D.agg [aa e8 0,aa e8 1,aa e8 2,aa e8 3,aa e8 4,aa e8 5])
) (
 R (binP false .eql (aa ab 0) (J 9)) fun eX=>
 R (gD eX false (
 R (binP false .eql (aa ab 0) (J 13)) fun eG=>
 some eG
)) fun eG=>
 R (pickP eX (ar true) eG) fun gw=>
 oif gw (
 R (lW [aa ab 0,D.aE 1 [[ar false],[ar false]],D.ref [aa ab 0,aa ab 1,aa ab 2,aa ab 3,aa ab 4,aa ab 5] 0]) fun ee=>
 aw (aK 6 ee)<|
 R (
 oif ag (
 aw (aK 6 (D.agg [aa ee 0,aa ee 1,aa ee 2,aa ee 3,aa ee 4,aa ee 5]))<|
 aw (aK 6 (D.agg [J 2,J 0,J 0,aI ⟨#[]⟩,D.val (.slice none 0 0),D.aE 6 [[aa ee 0,aa ee 1,aa ee 2,aa ee 3,aa ee 4,aa ee 5]]]))<|
 some (.inl [J 0,J 0,J 0,aI ⟨#[]⟩,D.val (.slice none 0 0),D.val (.slice none 0 0),J 2,J 0,J 0,aI ⟨#[]⟩,D.val (.slice none 0 0),D.aE 6 [[aa ee 0,aa ee 1,aa ee 2,aa ee 3,aa ee 4,aa ee 5]]])
) (
 some (.inl [J 0,J 0,J 0,aI ⟨#[]⟩,D.val (.slice none 0 0),D.val (.slice none 0 0),aa ee 0,aa ee 1,aa ee 2,aa ee 3,aa ee 4,aa ee 5])
)
)<|a6 fun ls=>
 aw (aK 6 (D.agg [I ls 6,I ls 7,I ls 8,I ls 9,I ls 10,I ls 11]))<|
 some (D.agg [I ls 6,I ls 7,I ls 8,I ls 9,I ls 10,I ls 11])
) (
 oif ag (
 R (MR n [aa ab 0]) fun gj=>
 R (lW [gj,D.aE 1 [[ar true],[ar true]],D.ref [aa ab 0,aa ab 1,aa ab 2,aa ab 3,aa ab 4,aa ab 5] 0]) fun lV=>
 aw (aK 6 lV)<|
 some (D.agg [aa lV 0,aa lV 1,aa lV 2,aa lV 3,aa lV 4,aa lV 5])
) (
 R (lW [aa ab 0,D.aE 1 [[ar false],[ar false]],D.ref [aa ab 0,aa ab 1,aa ab 2,aa ab 3,aa ab 4,aa ab 5] 0]) fun g5=>
 aw (aK 6 g5)<|
 some (D.agg [aa g5 0,aa g5 1,aa g5 2,aa g5 3,aa g5 4,aa g5 5])
)
)
)
)
)
)
)
mutual
def zp:Nat→List D→Option D
 |0,_=>none
 |n+1,aD=>match aD with
  |[ab,ag,aS]=>(match aS with| .ref ht 0=>T1 (zp n) (sn n) n ab ag ht|_=>none)
  |_=>none
def sn:Nat→List D→Option D
 |0,_=>none
 |n+1,aD=>match aD with
  |[ab,ag]=>T2 (zp n) (sn n) n ab ag
  |_=>none
end
def aga(n:Nat)(ab:D)(ag:D):Option D:=
 aw (aK 6 ab)<|
 R (nB n [D.agg [aa ab 0,aa ab 1,aa ab 2,aa ab 3,aa ab 4,aa ab 5]]) fun v6=>
 R (binP false .neq v6 (J 0)) fun bZ=>
 oif bZ (
 aw (aK 6 (D.agg [aa ab 0,aa ab 1,aa ab 2,aa ab 3,aa ab 4,aa ab 5]))<|
 some (D.agg [aa ab 0,aa ab 1,aa ab 2,aa ab 3,aa ab 4,aa ab 5])
) (
 R (sn n [D.agg [aa ab 0,aa ab 1,aa ab 2,aa ab 3,aa ab 4,aa ab 5],ag]) fun v11=>
 aw (aK 6 v11)<|
 some (D.agg [aa v11 0,aa v11 1,aa v11 2,aa v11 3,aa v11 4,aa v11 5])
)
def zq(n:Nat):List D→Option D
 |[ab,ag]=>aga n ab ag
 |_=>none
def agb(n:Nat)(ab:D):Option D:=
 aw (aK 6 ab)<|
 R (
 R (binP false .eql (aa ab 0) (J 1)) fun v6=>
 oif v6 (
 aU (
 some (J 1)
)
) (
 R (binP false .eql (aa ab 0) (J 3)) fun cf=>
 oif cf (
 aU (
 some (J 3)
)
) (
 R (binP false .eql (aa ab 0) (J 4)) fun v10=>
 oif v10 (
 aU (
 some (J 4)
)
) (
 R (binP false .eql (aa ab 0) (J 10)) fun bX=>
 R (
 oif bX (
 some (.inl [aa ab 0,bX,aa ab 0,aa ab 1,aa ab 2,aa ab 3,aa ab 4,aa ab 5])
) (
 R (binP false .eql (aa ab 0) (J 11)) fun cd=>
 R (
 oif cd (
 some (.inl [aa ab 0,cd,aa ab 0,aa ab 1,aa ab 2,aa ab 3,aa ab 4,aa ab 5])
) (
 R (binP false .eql (aa ab 0) (J 12)) fun bq=>
 R (
 oif bq (
 some (.inl [aa ab 0,bq,aa ab 0,aa ab 1,aa ab 2,aa ab 3,aa ab 4,aa ab 5])
) (
 R (binP false .eql (aa ab 0) (J 13)) fun bf=>
 some (.inl [aa ab 0,bf,aa ab 0,aa ab 1,aa ab 2,aa ab 3,aa ab 4,aa ab 5])
)
)<|a6 fun ls=>
 some (.inl [I ls 0,I ls 1,I ls 2,I ls 3,I ls 4,I ls 5,I ls 6,I ls 7])
)
)<|a6 fun ls=>
 some (.inl [I ls 0,I ls 1,I ls 2,I ls 3,I ls 4,I ls 5,I ls 6,I ls 7])
)
)<|a6 fun ls=>
 oif (I ls 1) (
 aU (
 some (J 2)
)
) (
 R (binP false .eql (I ls 0) (J 6)) fun bC=>
 R (
 oif bC (
 some (.inl [I ls 0,bC,I ls 2,I ls 3,I ls 4,I ls 5,I ls 6,I ls 7])
) (
 R (binP false .eql (I ls 0) (J 7)) fun bF=>
 R (
 oif bF (
 some (.inl [I ls 0,bF,I ls 2,I ls 3,I ls 4,I ls 5,I ls 6,I ls 7])
) (
 R (binP false .eql (I ls 0) (J 8)) fun b7=>
 R (
 oif b7 (
 some (.inl [I ls 0,b7,I ls 2,I ls 3,I ls 4,I ls 5,I ls 6,I ls 7])
) (
 R (binP false .eql (I ls 0) (J 9)) fun v20=>
 some (.inl [I ls 0,v20,I ls 2,I ls 3,I ls 4,I ls 5,I ls 6,I ls 7])
)
)<|a6 fun ls=>
 some (.inl [I ls 0,I ls 1,I ls 2,I ls 3,I ls 4,I ls 5,I ls 6,I ls 7])
)
)<|a6 fun ls=>
 some (.inl [I ls 0,I ls 1,I ls 2,I ls 3,I ls 4,I ls 5,I ls 6,I ls 7])
)
)<|a6 fun ls=>
 oif (I ls 1) (
 aU (
 some (J 5)
)
) (
 R (binP false .eql (I ls 0) (J 2)) fun bU=>
 R (
 oif bU (
 R (
 R (lenP (I ls 7)) fun ch=>
 R (binP false .neq ch (J 1)) fun cA=>
 R (
 oif cA (
 some (.inl [])
) (
 R (a3 6 (I ls 7) (J 0)) fun sk=>
 R (aX false 1 0 sk) fun dg=>
 R (binP false .eql dg (J 9)) fun cZ=>
 oif cZ (
 aU (
 aU (
 aU (
 aU (
 some (J 2)
)
)
)
)
) (
 R (a3 6 (I ls 7) (J 0)) fun C8=>
 R (aX false 1 0 C8) fun dr=>
 R (binP false .eql dr (J 13)) fun fl=>
 oif fl (
 aU (
 aU (
 aU (
 aU (
 some (J 5)
)
)
)
)
) (
 some (.inl [])
)
)
)
)<|a6 fun ls=>
 some (.inl [])
)<|a6 fun ls=>
 some (.inl [])
) (
 some (.inl [])
)
)<|a6 fun ls=>
 some (.inl [])
)
)
)
)
)
)<|a6 fun ls=>
 some (J 0)
def MS(n:Nat):List D→Option D
 |[ab]=>agb n ab
 |_=>none
def agc(n:Nat)(ls:List D):Option (List D⊕(List D⊕D)):=
 R (binP false .lss (I ls 3) (I ls 2)) fun bq=>
 oif bq (
 R (a3 1 (I ls 0) (I ls 3)) fun agd=>
 R (aX false 1 0 agd) fun b7=>
 R (a3 1 (I ls 1) (I ls 3)) fun wY=>
 R (aX false 1 0 wY) fun b4=>
 R (binP false .neq b7 b4) fun cv=>
 oif cv (
 aU (
 aU (
 some (ar false)
)
)
) (
 R (binP false .add (I ls 3) (J 1)) fun cF=>
 some (.inl [I ls 0,I ls 1,I ls 2,cF])
)
) (
 aU (
 some (.inl [])
)
)
def age(n:Nat)(ab:D)(ag:D):Option D:=
 R (lenP ab) fun bZ=>
 R (lenP ag) fun bR=>
 R (binP false .neq bZ bR) fun v10=>
 oif v10 (
 some (ar false)
) (
 R (lenP ab) fun bX=>
 R (
 bo (agc n) n [ab,ag,bX,J 0]
)<|a6 fun ls=>
 some (ar true)
)
def zr(n:Nat):List D→Option D
 |[ab,ag]=>age n ab ag
 |_=>none
def agf(wZ:List D→Option D)(n:Nat)(ls:List D):Option (List D⊕(List D⊕D)):=
 R (binP false .lss (I ls 2) (I ls 1)) fun ey=>
 oif ey (
 R (a3 4 (I ls 0) (I ls 2)) fun w1=>
 R (aX true 4 0 w1) fun cY=>
 aw (aK 4 cY)<|
 R (a3 4 (I ls 6) (I ls 2)) fun wB=>
 R (aX true 4 0 wB) fun gi=>
 R (wZ [D.agg [aa cY 0,aa cY 1,aa cY 2,aa cY 3],gi]) fun ei=>
 R (unP .not ei) fun cV=>
 oif cV (
 aU (
 aU (
 some (ar false)
)
)
) (
 R (binP false .add (I ls 2) (J 1)) fun fu=>
 some (.inl [I ls 0,I ls 1,fu,I ls 3,I ls 4,I ls 5,I ls 6])
)
) (
 aU (
 some (.inl [])
)
)
def T3(wZ:List D→Option D)(n:Nat)(ab:D)(ag:D):Option D:=
 aw (aK 4 ab)<|
 aw (aK 4 ag)<|
 R (binP false .neq (aa ab 0) (aa ag 0)) fun v11=>
 R (gD v11 false (
 R (binP false .neq (aa ab 1) (aa ag 1)) fun bC=>
 some bC
)) fun bC=>
 R (pickP v11 (ar true) bC) fun bF=>
 R (gD bF false (
 R (binP false .neq (aa ab 2) (aa ag 2)) fun cv=>
 some cv
)) fun cv=>
 R (pickP bF (ar true) cv) fun cF=>
 R (gD cF false (
 R (lenP (aa ab 3)) fun cB=>
 R (lenP (aa ag 3)) fun dt=>
 R (binP false .neq cB dt) fun dg=>
 some dg
)) fun dg=>
 R (pickP cF (ar true) dg) fun cZ=>
 oif cZ (
 some (ar false)
) (
 R (lenP (aa ab 3)) fun dk=>
 R (
 bo (agf wZ n) n [aa ab 3,dk,J 0,aa ag 0,aa ag 1,aa ag 2,aa ag 3]
)<|a6 fun ls=>
 some (ar true)
)
def w2:Nat→List D→Option D
 |0,_=>none
 |n+1,aD=>match aD with
  |[ab,ag]=>T3 (w2 n) n ab ag
  |_=>none
def agh(pL:List D→Option D)(pM:List D→Option D)(n:Nat)(ls:List D):Option (List D⊕(List D⊕D)):=
 R (binP false .lss (I ls 3) (I ls 2)) fun bF=>
 oif bF (
 R (a3 6 (I ls 1) (I ls 3)) fun pw=>
 R (aX true 6 0 pw) fun bH=>
 aw (aK 6 bH)<|
 R (a3 6 (I ls 0) (I ls 3)) fun Dm=>
 R (aX true 6 0 Dm) fun cF=>
 aw (aK 6 cF)<|
 R (pM [D.agg [aa bH 0,aa bH 1,aa bH 2,aa bH 3,aa bH 4,aa bH 5],D.agg [aa cF 0,aa cF 1,aa cF 2,aa cF 3,aa cF 4,aa cF 5]]) fun cB=>
 R (unP .not cB) fun v30=>
 oif v30 (
 aU (
 aU (
 some (ar false)
)
)
) (
 R (binP false .add (I ls 3) (J 1)) fun dB=>
 some (.inl [I ls 0,I ls 1,I ls 2,dB])
)
) (
 aU (
 some (.inl [])
)
)
def T4(pL:List D→Option D)(pM:List D→Option D)(n:Nat)(ab:D)(ag:D):Option D:=
 R (lenP ab) fun v11=>
 R (lenP ag) fun cd=>
 R (binP false .neq v11 cd) fun bq=>
 oif bq (
 some (ar false)
) (
 R (lenP ab) fun bE=>
 R (
 bo (agh pL pM n) n [ag,ab,bE,J 0]
)<|a6 fun ls=>
 some (ar true)
)
def T5(pL:List D→Option D)(pM:List D→Option D)(n:Nat)(ab:D)(ag:D):Option D:=
 aw (aK 6 ab)<|
 aw (aK 6 ag)<|
 R (binP false .eql (aa ab 0) (aa ag 0)) fun bR=>
 R (gD bR true (
 R (w2 n [D.agg [aa ab 1,aa ab 2,aa ab 3,aa ab 4],D.agg [aa ag 1,aa ag 2,aa ag 3,aa ag 4]]) fun bf=>
 some bf
)) fun bf=>
 R (pickP bR bf (ar false)) fun bE=>
 R (gD bE true (
 R (pL [aa ab 5,aa ag 5,(D.val (.func (.func GN) #[] #[]))]) fun bU=>
 some bU
)) fun bU=>
 R (pickP bE bU (ar false)) fun b4=>
 some b4
mutual
def zs:Nat→List D→Option D
 |0,_=>none
 |n+1,aD=>match aD with
  |[ab,ag,aS]=>aw (isFc GN aS) (T4 (zs n) (pN n) n ab ag)
  |_=>none
def pN:Nat→List D→Option D
 |0,_=>none
 |n+1,aD=>match aD with
  |[ab,ag]=>T5 (zs n) (pN n) n ab ag
  |_=>none
end
def T6(n:Nat)(ab:D)(cJ:List D):Option D:=
 aw (aK 4 ab)<|
 R (aX false 1 0 cJ) fun bZ=>
 R (binP false .eql (aa ab 0) bZ) fun cf=>
 some cf
def HA(n:Nat):List D→Option D
 |[ab,ag]=>(match ag with| .ref cJ 0=>T6 n ab cJ|_=>none)
 |_=>none
def agi(n:Nat)(ls:List D):Option (List D⊕(List D⊕D)):=
 R (binP false .lss (I ls 3) (I ls 2)) fun bR=>
 oif bR (
 R (a3 4 (I ls 0) (I ls 3)) fun eQ=>
 R (aX true 4 0 eQ) fun bf=>
 R (HA n [bf,I ls 1]) fun bE=>
 oif bE (
 aU (
 aU (
 some (I ls 3)
)
)
) (
 R (binP false .add (I ls 3) (J 1)) fun bF=>
 some (.inl [I ls 0,I ls 1,I ls 2,bF])
)
) (
 aU (
 some (.inl [])
)
)
def T7(n:Nat)(ab:D)(b5:D):Option D:=
 R (lenP ab) fun bZ=>
 R (
 bo (agi n) n [ab,b5,bZ,J 0]
)<|a6 fun ls=>
 some (J (-1))
def HB(n:Nat):List D→Option D
 |[ab,ag]=>(match fnOf GO ag with|some [b5]=>T7 n ab b5|_=>none)
 |_=>none
def agj(n:Nat)(ls:List D):Option (List D⊕(List D⊕D)):=
 R (binP false .lss (I ls 4) (I ls 3)) fun cA=>
 oif cA (
 R (a3 5 (I ls 2) (I ls 4)) fun r6=>
 R (aX true 5 0 r6) fun cB=>
 aw (aK 5 cB)<|
 R (pJ n [I ls 5,D.agg [aa cB 1,aa cB 2,aa cB 3,aa cB 4],I ls 0,D.val (.slice none 0 0)]) fun dk=>
 R (extP 0 dk) fun c8=>
 R (extP 1 dk) fun ey=>
 R (HB n [I ls 5,(D.fn (.func GO) [] [D.ref [aa cB 0,aa cB 1,aa cB 2,aa cB 3,aa cB 4] 0])]) fun dH=>
 aw dH.flat<|
 R (unP .not ey) fun fL=>
 R (gD fL false (
 R (binP false .lss dH (J 0)) fun ei=>
 some ei
)) fun ei=>
 R (pickP fL (ar true) ei) fun cV=>
 R (gD cV false (
 R (a3 1 (I ls 1) dH) fun MG=>
 R (aX false 1 0 MG) fun e7=>
 R (binP false .neq e7 c8) fun h2=>
 some h2
)) fun h2=>
 R (pickP cV (ar true) h2) fun eW=>
 oif eW (
 aU (
 aU (
 some (ar false)
)
)
) (
 R (binP false .add (I ls 4) (J 1)) fun j3=>
 some (.inl [I ls 0,I ls 1,I ls 2,I ls 3,j3,I ls 5,I ls 6,I ls 7,I ls 8,I ls 9,I ls 10,I ls 11,I ls 12,I ls 13])
)
) (
 aU (
 some (.inl [I ls 0,I ls 1,I ls 5,I ls 6,I ls 7,I ls 8,I ls 9,I ls 10,I ls 11,I ls 12,I ls 13])
)
)
def agk(n:Nat)(ab:D)(ag:D)(aS:D):Option D:=
 aw (aK 9 ab)<|
 R (nK n [D.agg [aa ab 0,aa ab 1,aa ab 2,aa ab 3,aa ab 4,aa ab 5,aa ab 6,aa ab 7,aa ab 8],ag]) fun bq=>
 R (unP .not bq) fun bf=>
 R (gD bf false (
 R (nK n [D.agg [aa ab 0,aa ab 1,aa ab 2,aa ab 3,aa ab 4,aa ab 5,aa ab 6,aa ab 7,aa ab 8],aS]) fun b7=>
 R (unP .not b7) fun v20=>
 some v20
)) fun v20=>
 R (pickP bf (ar true) v20) fun bH=>
 oif bH (
 some (ar false)
) (
 R (lenP (aa ab 4)) fun cF=>
 R (
 bo (agj n) n [ag,aS,aa ab 4,cF,J 0,aa ab 0,aa ab 1,aa ab 2,aa ab 3,aa ab 4,aa ab 5,aa ab 6,aa ab 7,aa ab 8]
)<|a6 fun ls=>
 R (wX n [D.agg [I ls 2,I ls 3,I ls 4,I ls 5,I ls 6,I ls 7,I ls 8,I ls 9,I ls 10],I ls 7,I ls 0,I ls 1]) fun ee=>
 some ee
)
def zt(n:Nat):List D→Option D
 |[ab,ag,aS]=>agk n ab ag aS
 |_=>none
def agl(n:Nat)(ls:List D):Option (List D⊕(List D⊕D)):=
 R (lenP (I ls 0)) fun v30=>
 R (binP false .lss (I ls 2) v30) fun dB=>
 oif dB (
 R (binP false .sub (I ls 2) (J 1)) fun dk=>
 R (a3 1 (I ls 0) dk) fun C8=>
 R (aX false 1 0 C8) fun ey=>
 R (a3 1 (I ls 0) (I ls 2)) fun MF=>
 R (aX false 1 0 MF) fun dK=>
 R (zt n [D.agg [I ls 3,I ls 4,I ls 5,I ls 6,I ls 7,I ls 8,I ls 9,I ls 10,I ls 11],ey,dK]) fun dH=>
 R (unP .not dH) fun cR=>
 oif cR (
 aU (
 aU (
 some (ar false)
)
)
) (
 R (binP false .add (I ls 2) (J 1)) fun dg=>
 some (.inl [I ls 0,I ls 1,dg,I ls 3,I ls 4,I ls 5,I ls 6,I ls 7,I ls 8,I ls 9,I ls 10,I ls 11])
)
) (
 aU (
 some (.inl [I ls 0,I ls 1,I ls 3,I ls 4,I ls 5,I ls 6,I ls 7,I ls 8,I ls 9,I ls 10,I ls 11])
)
)
def agm(n:Nat)(ls:List D):Option (List D⊕(List D⊕(List D⊕(List D⊕(List D⊕D))))):=
 R (binP false .lss (I ls 7) (I ls 6)) fun gk=>
 oif gk (
 R (a3 1 (I ls 5) (I ls 7)) fun Dn=>
 R (aX false 1 0 Dn) fun gv=>
 R (pK n [D.agg [I ls 8,I ls 9,I ls 10,I ls 11,I ls 12,I ls 13,I ls 14,I ls 15,I ls 16],D.agg [I ls 17,I ls 18,I ls 19,I ls 20],gv,D.val (.slice none 0 0)]) fun lv=>
 oif lv (
 aU (
 aU (
 some (.inl [I ls 0,I ls 1,I ls 2,I ls 3,I ls 4,I ls 8,I ls 9,I ls 10,I ls 11,I ls 12,I ls 13,I ls 14,I ls 15,I ls 16])
)
)
) (
 R (binP false .add (I ls 7) (J 1)) fun lV=>
 some (.inl [I ls 0,I ls 1,I ls 2,I ls 3,I ls 4,I ls 5,I ls 6,lV,I ls 8,I ls 9,I ls 10,I ls 11,I ls 12,I ls 13,I ls 14,I ls 15,I ls 16,I ls 17,I ls 18,I ls 19,I ls 20])
)
) (
 aU (
 some (.inl [])
)
)
def agn(n:Nat)(ls:List D):Option (List D⊕(List D⊕D)):=
 R (binP false .lss (I ls 4) (I ls 3)) fun g4=>
 oif g4 (
 R (
 R (a3 4 (I ls 2) (I ls 4)) fun w3=>
 R (aX true 4 0 w3) fun ee=>
 aw (aK 4 ee)<|
 R (nm 1 (I ls 0) (some (I ls 1)) none) fun ep=>
 R (lenP ep) fun iH=>
 R (
 bo (agm n) n [I ls 0,I ls 1,I ls 2,I ls 3,I ls 4,ep,iH,J 0,I ls 5,I ls 6,I ls 7,I ls 8,I ls 9,I ls 10,I ls 11,I ls 12,I ls 13,aa ee 0,aa ee 1,aa ee 2,aa ee 3]
)<|a6 fun ls=>
 aU (
 aU (
 aU (
 some (ar false)
)
)
)
)<|a6 fun ls=>
 R (binP false .add (I ls 4) (J 1)) fun lx=>
 some (.inl [I ls 0,I ls 1,I ls 2,I ls 3,lx,I ls 5,I ls 6,I ls 7,I ls 8,I ls 9,I ls 10,I ls 11,I ls 12,I ls 13])
) (
 aU (
 some (.inl [])
)
)
def ago(n:Nat)(ab:D)(ag:D)(aS:D):Option D:=
 aw (aK 9 ab)<|
 R (binP false .lss aS (J 0)) fun cd=>
 R (gD cd false (
 R (lenP ag) fun bC=>
 R (binP false .geq aS bC) fun bF=>
 some bF
)) fun bF=>
 R (pickP cd (ar true) bF) fun b7=>
 R (gD b7 false (
 R (a3 1 ag (J 0)) fun BS=>
 R (aX false 1 0 BS) fun cv=>
 R (nK n [D.agg [aa ab 0,aa ab 1,aa ab 2,aa ab 3,aa ab 4,aa ab 5,aa ab 6,aa ab 7,aa ab 8],cv]) fun cF=>
 R (unP .not cF) fun ch=>
 some ch
)) fun ch=>
 R (pickP b7 (ar true) ch) fun cA=>
 oif cA (
 some (ar false)
) (
 R (
 bo (agl n) n [ag,aS,J 1,aa ab 0,aa ab 1,aa ab 2,aa ab 3,aa ab 4,aa ab 5,aa ab 6,aa ab 7,aa ab 8]
)<|a6 fun ls=>
 R (lenP (I ls 0)) fun ei=>
 R (binP false .sub ei (J 1)) fun cV=>
 R (a3 1 (I ls 0) cV) fun Dc=>
 R (aX false 1 0 Dc) fun e8=>
 R (a3 1 (I ls 0) (I ls 1)) fun w4=>
 R (aX false 1 0 w4) fun eX=>
 R (zt n [D.agg [I ls 2,I ls 3,I ls 4,I ls 5,I ls 6,I ls 7,I ls 8,I ls 9,I ls 10],e8,eX]) fun h2=>
 R (unP .not h2) fun eW=>
 oif eW (
 some (ar false)
) (
 R (lenP (I ls 8)) fun hT=>
 R (
 bo (agn n) n [I ls 0,I ls 1,I ls 8,hT,J 0,I ls 2,I ls 3,I ls 4,I ls 5,I ls 6,I ls 7,I ls 8,I ls 9,I ls 10]
)<|a6 fun ls=>
 some (ar true)
)
)
def Dp(n:Nat):List D→Option D
 |[ab,ag,aS]=>ago n ab ag aS
 |_=>none
def MT(n:Nat)(ab:D)(ag:D):Option D:=
 aw (aK 6 ab)<|
 R (binP false .lss (aa ab 0) (J 6)) fun bZ=>
 R (gD bZ false (
 R (binP false .gtr (aa ab 0) (J 13)) fun v11=>
 some v11
)) fun v11=>
 R (pickP bZ (ar true) v11) fun bX=>
 some bX
def HC(n:Nat):List D→Option D
 |[ab,ag]=>MT n ab ag
 |_=>none
def Dq(w5:List D→Option D)(n:Nat)(ls:List D):Option (List D⊕(List D⊕D)):=
 R (binP false .lss (I ls 3) (I ls 2)) fun bF=>
 oif bF (
 R (a3 6 (I ls 1) (I ls 3)) fun py=>
 R (aX true 6 0 py) fun v20=>
 aw (aK 6 v20)<|
 R (binP false .add (I ls 0) (J 1)) fun b4=>
 R (w5 [D.agg [aa v20 0,aa v20 1,aa v20 2,aa v20 3,aa v20 4,aa v20 5],b4,(D.val (.func (.func qF) #[] #[]))]) fun cF=>
 R (unP .not cF) fun ch=>
 oif ch (
 aU (
 aU (
 some (ar false)
)
)
) (
 R (binP false .add (I ls 3) (J 1)) fun cA=>
 some (.inl [I ls 0,I ls 1,I ls 2,cA])
)
) (
 aU (
 some (.inl [])
)
)
def zu(w5:List D→Option D)(n:Nat)(ab:D)(ag:D):Option D:=
 aw (aK 6 ab)<|
 R (HC n [D.agg [aa ab 0,aa ab 1,aa ab 2,aa ab 3,aa ab 4,aa ab 5],ag]) fun bX=>
 R (unP .not bX) fun cd=>
 oif cd (
 some (ar false)
) (
 R (lenP (aa ab 5)) fun bE=>
 R (
 bo (Dq w5 n) n [ag,aa ab 5,bE,J 0]
)<|a6 fun ls=>
 some (ar true)
)
def qY:Nat→List D→Option D
 |0,_=>none
 |n+1,aD=>match aD with
  |[ab,ag,aS]=>aw (isFc qF aS) (zu (qY n) n ab ag)
  |_=>none
def T8(n:Nat)(ab:D):Option D:=
 aw (aK 6 ab)<|
 R (qY n [D.agg [aa ab 0,aa ab 1,aa ab 2,aa ab 3,aa ab 4,aa ab 5],J 1,(D.val (.func (.func qF) #[] #[]))]) fun v4=>
 some v4
def Dr(n:Nat):List D→Option D
 |[ab]=>T8 n ab
 |_=>none
def HD(j5:List D→Option D)(j6:List D→Option D)(j7:List D→Option D)(j8:List D→Option D)(n:Nat)(ab:D)(cJ:List D):Option D:=
 aw (aK 6 ab)<|
 R (aX true 9 0 cJ) fun v4=>
 R (j8 [v4,D.agg [aa ab 0,aa ab 1,aa ab 2,aa ab 3,aa ab 4,aa ab 5]]) fun v6=>
 R (unP .not v6) fun bZ=>
 some bZ
def zv(j5:List D→Option D)(j6:List D→Option D)(j7:List D→Option D)(j8:List D→Option D)(n:Nat)(ls:List D):Option (List D⊕(List D⊕D)):=
 R (binP false .lss (I ls 3) (I ls 2)) fun bR=>
 oif bR (
 R (a3 6 (I ls 0) (I ls 3)) fun eQ=>
 R (aX true 6 0 eQ) fun bf=>
 R (j5 [bf,I ls 1]) fun bE=>
 oif bE (
 aU (
 aU (
 some (I ls 3)
)
)
) (
 R (binP false .add (I ls 3) (J 1)) fun bF=>
 some (.inl [I ls 0,I ls 1,I ls 2,bF])
)
) (
 aU (
 some (.inl [])
)
)
def Ds(j5:List D→Option D)(j6:List D→Option D)(j7:List D→Option D)(j8:List D→Option D)(n:Nat)(ab:D)(b5:D):Option D:=
 R (lenP ab) fun bZ=>
 R (
 bo (zv j5 j6 j7 j8 n) n [ab,b5,bZ,J 0]
)<|a6 fun ls=>
 some (J (-1))
def HE(j5:List D→Option D)(j6:List D→Option D)(j7:List D→Option D)(j8:List D→Option D)(n:Nat)(ab:D)(b5:D):Option D:=
 R (j6 [ab,(D.fn (.func pn) [] [b5])]) fun bZ=>
 R (binP false .geq bZ (J 0)) fun cf=>
 some cf
def zw(j5:List D→Option D)(j6:List D→Option D)(j7:List D→Option D)(j8:List D→Option D)(n:Nat)(ab:D)(ag:D):Option D:=
 aw (aK 9 ab)<|
 aw (aK 6 ag)<|
 R (binP false .eql (aa ag 0) (J 1)) fun bR=>
 oif bR (
 R (qT n [aa ab 0,D.agg [aa ag 1,aa ag 2,aa ag 3,aa ag 4],ar false]) fun bE=>
 R (extP 0 bE) fun bC=>
 R (extP 1 bE) fun bF=>
 aw (aK 3 bC)<|
 R (binP false .eql bF (J 0)) fun v20=>
 R (gD v20 true (
 some (aa bC 0)
)) fun b4=>
 R (pickP v20 b4 (ar false)) fun cv=>
 some cv
) (
 R (j7 [aa ag 5,(D.fn (.func pn) [] [D.ref [aa ab 0,aa ab 1,aa ab 2,aa ab 3,aa ab 4,aa ab 5,aa ab 6,aa ab 7,aa ab 8] 0])]) fun cp=>
 aw cp.flat<|
 R (unP .not cp) fun cB=>
 some cB
)
mutual
def lX:Nat→List D→Option D
 |0,_=>none
 |n+1,aD=>match aD with
  |[ab,ag]=>(match ag with| .ref cJ 0=>HD (lX n) (kB n) (kC n) (j9 n) n ab cJ|_=>none)
  |_=>none
def kB:Nat→List D→Option D
 |0,_=>none
 |n+1,aD=>match aD with
  |[ab,ag]=>(match fnOf pn ag with|some [b5]=>Ds (lX n) (kB n) (kC n) (j9 n) n ab b5|_=>none)
  |_=>none
def kC:Nat→List D→Option D
 |0,_=>none
 |n+1,aD=>match aD with
  |[ab,ag]=>(match fnOf pn ag with|some [b5]=>HE (lX n) (kB n) (kC n) (j9 n) n ab b5|_=>none)
  |_=>none
def j9:Nat→List D→Option D
 |0,_=>none
 |n+1,aD=>match aD with
  |[ab,ag]=>zw (lX n) (kB n) (kC n) (j9 n) n ab ag
  |_=>none
end
def tX(pO:List D→Option D)(n:Nat)(ab:D)(ag:D)(aS:D):Option D:=
 aw (aK 9 ab)<|
 aw (aK 6 ag)<|
 R (binP false .eql (aa ag 0) (J 1)) fun v10=>
 oif v10 (
 R (pK n [D.agg [aa ab 0,aa ab 1,aa ab 2,aa ab 3,aa ab 4,aa ab 5,aa ab 6,aa ab 7,aa ab 8],D.agg [aa ag 1,aa ag 2,aa ag 3,aa ag 4],aS,D.val (.slice none 0 0)]) fun bf=>
 some bf
) (
 R (binP false .eql (aa ag 0) (J 2)) fun bC=>
 oif bC (
 R (a3 6 (aa ag 5) (J 0)) fun sj=>
 R (aX true 6 0 sj) fun bU=>
 R (pO [D.agg [aa ab 0,aa ab 1,aa ab 2,aa ab 3,aa ab 4,aa ab 5,aa ab 6,aa ab 7,aa ab 8],bU,aS]) fun cv=>
 R (unP .not cv) fun cF=>
 some cF
) (
 R (binP false .eql (aa ag 0) (J 3)) fun cA=>
 oif cA (
 R (a3 6 (aa ag 5) (J 0)) fun sk=>
 R (aX true 6 0 sk) fun dt=>
 R (pO [D.agg [aa ab 0,aa ab 1,aa ab 2,aa ab 3,aa ab 4,aa ab 5,aa ab 6,aa ab 7,aa ab 8],dt,aS]) fun cZ=>
 R (gD cZ true (
 R (a3 6 (aa ag 5) (J 1)) fun nC=>
 R (aX true 6 0 nC) fun dr=>
 R (pO [D.agg [aa ab 0,aa ab 1,aa ab 2,aa ab 3,aa ab 4,aa ab 5,aa ab 6,aa ab 7,aa ab 8],dr,aS]) fun cY=>
 some cY
)) fun cY=>
 R (pickP cZ cY (ar false)) fun dK=>
 some dK
) (
 R (binP false .eql (aa ag 0) (J 4)) fun cR=>
 oif cR (
 R (a3 6 (aa ag 5) (J 0)) fun w6=>
 R (aX true 6 0 w6) fun cV=>
 R (pO [D.agg [aa ab 0,aa ab 1,aa ab 2,aa ab 3,aa ab 4,aa ab 5,aa ab 6,aa ab 7,aa ab 8],cV,aS]) fun e8=>
 R (gD e8 false (
 R (a3 6 (aa ag 5) (J 1)) fun MU=>
 R (aX true 6 0 MU) fun eW=>
 R (pO [D.agg [aa ab 0,aa ab 1,aa ab 2,aa ab 3,aa ab 4,aa ab 5,aa ab 6,aa ab 7,aa ab 8],eW,aS]) fun eG=>
 some eG
)) fun eG=>
 R (pickP e8 (ar true) eG) fun gw=>
 some gw
) (
 R (a3 6 (aa ag 5) (J 0)) fun w3=>
 R (aX true 6 0 w3) fun ee=>
 R (pO [D.agg [aa ab 0,aa ab 1,aa ab 2,aa ab 3,aa ab 4,aa ab 5,aa ab 6,aa ab 7,aa ab 8],ee,aS]) fun fB=>
 R (unP .not fB) fun ep=>
 R (gD ep false (
 R (a3 6 (aa ag 5) (J 1)) fun agp=>
 R (aX true 6 0 agp) fun mR=>
 R (pO [D.agg [aa ab 0,aa ab 1,aa ab 2,aa ab 3,aa ab 4,aa ab 5,aa ab 6,aa ab 7,aa ab 8],mR,aS]) fun gj=>
 some gj
)) fun gj=>
 R (pickP ep (ar true) gj) fun lv=>
 some lv
)
)
)
)
def qZ:Nat→List D→Option D
 |0,_=>none
 |n+1,aD=>match aD with
  |[ab,ag,aS]=>tX (qZ n) n ab ag aS
  |_=>none
def w7(n:Nat)(ab:D)(ag:D)(aS:D):Option D:=
 aw (aK 9 ab)<|
 aw (aK 6 ag)<|
 R (nB n [D.agg [aa ag 0,aa ag 1,aa ag 2,aa ag 3,aa ag 4,aa ag 5]]) fun v11=>
 R (binP false .neq v11 (J 0)) fun bX=>
 R (gD bX false (
 R (Dr n [D.agg [aa ag 0,aa ag 1,aa ag 2,aa ag 3,aa ag 4,aa ag 5]]) fun bf=>
 R (unP .not bf) fun bE=>
 some bE
)) fun bE=>
 R (pickP bX (ar true) bE) fun bC=>
 R (gD bC false (
 R (nK n [D.agg [aa ab 0,aa ab 1,aa ab 2,aa ab 3,aa ab 4,aa ab 5,aa ab 6,aa ab 7,aa ab 8],aS]) fun bH=>
 R (unP .not bH) fun bU=>
 some bU
)) fun bU=>
 R (pickP bC (ar true) bU) fun b4=>
 oif b4 (
 some (D.aL [ar false,ar false])
) (
 R (si n [D.agg [aa ag 0,aa ag 1,aa ag 2,aa ag 3,aa ag 4,aa ag 5],aa ab 8]) fun cp=>
 R (extP 0 cp) fun cB=>
 R (extP 1 cp) fun v30=>
 aw (aK 6 cB)<|
 R (binP false .neq v30 (J 0)) fun dt=>
 R (gD dt false (
 R (j9 n [D.agg [aa ab 0,aa ab 1,aa ab 2,aa ab 3,aa ab 4,aa ab 5,aa ab 6,aa ab 7,aa ab 8],D.agg [aa cB 0,aa cB 1,aa cB 2,aa cB 3,aa cB 4,aa cB 5]]) fun dh=>
 R (unP .not dh) fun dk=>
 some dk
)) fun dk=>
 R (pickP dt (ar true) dk) fun c8=>
 oif c8 (
 some (D.aL [ar false,ar false])
) (
 R (qZ n [D.agg [aa ab 0,aa ab 1,aa ab 2,aa ab 3,aa ab 4,aa ab 5,aa ab 6,aa ab 7,aa ab 8],D.agg [aa cB 0,aa cB 1,aa cB 2,aa cB 3,aa cB 4,aa cB 5],aS]) fun cY=>
 some (D.aL [cY,ar true])
)
)
def nM(n:Nat):List D→Option D
 |[ab,ag,aS]=>w7 n ab ag aS
 |_=>none
def agq(n:Nat)(ab:D)(ag:D)(aS:D):Option D:=
 aw (aK 9 ab)<|
 aw (aK 6 ag)<|
 R (binP false .eql (aa ag 1) (J 5)) fun bq=>
 R (gD bq true (
 R (lenP (aa ag 4)) fun b7=>
 R (binP false .eql b7 (J 1)) fun v20=>
 some v20
)) fun v20=>
 R (pickP bq v20 (ar false)) fun bH=>
 oif bH (
 R (a3 4 (aa ag 4) (J 0)) fun MV=>
 R (aX true 4 0 MV) fun cp=>
 aw (aK 4 cp)<|
 R (nM n [D.agg [aa ab 0,aa ab 1,aa ab 2,aa ab 3,aa ab 4,aa ab 5,aa ab 6,aa ab 7,aa ab 8],D.agg [J 1,aa cp 0,aa cp 1,aa cp 2,aa cp 3,D.val (.slice none 0 0)],aS]) fun dB=>
 R (extP 0 dB) fun dt=>
 R (extP 1 dB) fun dg=>
 R (gD dg true (
 R (unP .not dt) fun dk=>
 some dk
)) fun dk=>
 R (pickP dg dk (ar false)) fun c8=>
 some c8
) (
 R (nM n [D.agg [aa ab 0,aa ab 1,aa ab 2,aa ab 3,aa ab 4,aa ab 5,aa ab 6,aa ab 7,aa ab 8],D.agg [aa ag 0,aa ag 1,aa ag 2,aa ag 3,aa ag 4,aa ag 5],aS]) fun dK=>
 R (extP 0 dK) fun dH=>
 R (extP 1 dK) fun cR=>
 R (gD cR true (
 some dH
)) fun gi=>
 R (pickP cR gi (ar false)) fun ei=>
 some ei
)
def MW(n:Nat):List D→Option D
 |[ab,ag,aS]=>agq n ab ag aS
 |_=>none
def agr(n:Nat)(ls:List D):Option (List D⊕(List D⊕(List D))):=
 R (binP false .lss (I ls 2) (I ls 1)) fun bq=>
 oif bq (
 R (a3 1 (I ls 0) (I ls 2)) fun Cv=>
 R (aX false 1 0 Cv) fun bE=>
 aw (aK 6 (D.agg [I ls 3,I ls 4,I ls 5,I ls 6,I ls 7,I ls 8]))<|
 aw (bD bE)<|
 aw (aK 7 (D.agg [I ls 3,I ls 4,I ls 5,I ls 6,I ls 7,I ls 8,bE]))<|
 aw (c2 (((esD (I ls 21))).length+([[I ls 3,I ls 4,I ls 5,I ls 6,I ls 7,I ls 8,bE]]).length) 112)<|
 R (binP false .add (I ls 2) (J 1)) fun b4=>
 some (.inl [I ls 0,I ls 1,b4,I ls 3,I ls 4,I ls 5,I ls 6,I ls 7,I ls 8,I ls 9,I ls 10,I ls 11,I ls 12,I ls 13,I ls 14,I ls 15,I ls 16,I ls 17,I ls 18,I ls 19,I ls 20,D.aE 7 ((esD (I ls 21))++[[I ls 3,I ls 4,I ls 5,I ls 6,I ls 7,I ls 8,bE]])])
) (
 aU (
 some (.inl [I ls 9,I ls 10,I ls 11,I ls 12,I ls 13,I ls 14,I ls 15,I ls 16,I ls 17,I ls 18,I ls 19,I ls 20,D.aE 7 (esD (I ls 21))])
)
)
def so(n:Nat)(ls:List D):Option (List D):=
 aw (aK 6 (I ls 0))<|
 R (nm 1 (I ls 10) none (some (I ls 1))) fun v11=>
 R (lenP v11) fun bX=>
 R (
 bo (agr n) n [v11,bX,J 0,aa (I ls 0) 0,aa (I ls 0) 1,aa (I ls 0) 2,aa (I ls 0) 3,aa (I ls 0) 4,aa (I ls 0) 5,I ls 2,I ls 3,I ls 4,I ls 5,I ls 6,I ls 7,I ls 8,I ls 9,I ls 10,I ls 11,I ls 12,I ls 13,D.aE 7 (esD (I ls 14))]
)<|a6 fun ls=>
 some [D.aL [],I ls 0,I ls 1,I ls 2,I ls 3,I ls 4,I ls 5,I ls 6,I ls 7,I ls 8,I ls 9,I ls 10,I ls 11,D.aE 7 (esD (I ls 12))]
def ags(n:Nat)(ab:D)(ag:D):Option D:=
 aw (aK 6 ab)<|
 aw (aK 12 ag)<|
 R (binP false .geq (aa ag 10) (J 0)) fun bX=>
 R (gD bX true (
 R (lenP (aa ag 8)) fun bF=>
 R (binP false .lss (aa ag 10) bF) fun b7=>
 some b7
)) fun b7=>
 R (pickP bX b7 (ar false)) fun v20=>
 R (binP false .eql (aa ab 0) (J 6)) fun cF=>
 oif cF (
 R (binP false .neq (aa ag 10) (J 1)) fun cp=>
 R (gD cp false (
 R (unP .not v20) fun dB=>
 some dB
)) fun dB=>
 R (pickP cp (ar true) dB) fun dt=>
 oif dt (
 some (D.aL [D.val (.slice none 0 0),ar false])
) (
 R (a3 6 (aa ab 5) (J 0)) fun sq=>
 R (aX true 6 0 sq) fun dh=>
 R (a3 1 (aa ag 8) (J 1)) fun nC=>
 R (aX false 1 0 nC) fun dr=>
 aw (aK 6 dh)<|
 aw (bD dr)<|
 aw (aK 7 (D.agg [aa dh 0,aa dh 1,aa dh 2,aa dh 3,aa dh 4,aa dh 5,dr]))<|
 some (D.aL [D.aE 7 [[aa dh 0,aa dh 1,aa dh 2,aa dh 3,aa dh 4,aa dh 5,dr]],ar true])
)
) (
 R (binP false .eql (aa ab 0) (J 7)) fun dH=>
 oif dH (
 R (unP .not v20) fun fL=>
 oif fL (
 some (D.aL [D.val (.slice none 0 0),ar false])
) (
 R (a3 6 (aa ab 5) (J 0)) fun w6=>
 R (aX true 6 0 w6) fun cV=>
 R (a3 1 (aa ag 8) (aa ag 10)) fun w4=>
 R (aX false 1 0 w4) fun eX=>
 aw (aK 6 cV)<|
 aw (bD eX)<|
 aw (aK 7 (D.agg [aa cV 0,aa cV 1,aa cV 2,aa cV 3,aa cV 4,aa cV 5,eX]))<|
 some (D.aL [D.aE 7 [[aa cV 0,aa cV 1,aa cV 2,aa cV 3,aa cV 4,aa cV 5,eX]],ar true])
)
) (
 R (binP false .eql (aa ab 0) (J 8)) fun eG=>
 oif eG (
 R (a3 6 (aa ab 5) (J 0)) fun agt=>
 R (aX true 6 0 agt) fun jj=>
 R (lenP (aa ag 8)) fun fB=>
 R (so n [jj,fB,aa ag 0,aa ag 1,aa ag 2,aa ag 3,aa ag 4,aa ag 5,aa ag 6,aa ag 7,aa ag 8,aa ag 9,aa ag 10,aa ag 11,D.aE 7 []]) fun ad=>
 R (binP false .eql (I ad 11) (J 0)) fun gl=>
 some (D.aL [D.aE 7 (esD (I ad 13)),gl])
) (
 R (binP false .eql (aa ab 0) (J 9)) fun mR=>
 oif mR (
 R (unP .not v20) fun gj=>
 oif gj (
 some (D.aL [D.val (.slice none 0 0),ar false])
) (
 R (a3 6 (aa ab 5) (J 0)) fun agu=>
 R (aX true 6 0 agu) fun jL=>
 R (so n [jL,aa ag 10,aa ag 0,aa ag 1,aa ag 2,aa ag 3,aa ag 4,aa ag 5,aa ag 6,aa ag 7,aa ag 8,aa ag 9,aa ag 10,aa ag 11,D.aE 7 []]) fun ae=>
 R (a3 6 (aa ab 5) (J 1)) fun MX=>
 R (aX true 6 0 MX) fun hI=>
 R (a3 1 (I ae 9) (I ae 11)) fun agv=>
 R (aX false 1 0 agv) fun jJ=>
 aw (aK 6 hI)<|
 aw (bD jJ)<|
 aw (aK 7 (D.agg [aa hI 0,aa hI 1,aa hI 2,aa hI 3,aa hI 4,aa hI 5,jJ]))<|
 aw (c2 (((esD (I ae 13))).length+([[aa hI 0,aa hI 1,aa hI 2,aa hI 3,aa hI 4,aa hI 5,jJ]]).length) 112)<|
 some (D.aL [D.aE 7 ((esD (I ae 13))++[[aa hI 0,aa hI 1,aa hI 2,aa hI 3,aa hI 4,aa hI 5,jJ]]),ar true])
)
) (
 R (a3 6 (aa ab 5) (J 0)) fun agw=>
 R (aX true 6 0 agw) fun pH=>
 aw (aK 6 pH)<|
 R (a3 6 (aa pH 5) (J 1)) fun Mo=>
 R (aX true 6 0 Mo) fun vM=>
 R (zq n [vM,ar true]) fun ic=>
 aw (aK 6 ic)<|
 R (binP false .eql (aa ag 10) (J (-1))) fun wR=>
 oif wR (
 R (lenP (aa ag 8)) fun wS=>
 R (so n [D.agg [aa ic 0,aa ic 1,aa ic 2,aa ic 3,aa ic 4,aa ic 5],wS,aa ag 0,aa ag 1,aa ag 2,aa ag 3,aa ag 4,aa ag 5,aa ag 6,aa ag 7,aa ag 8,aa ag 9,aa ag 10,aa ag 11,D.aE 7 []]) fun ax=>
 some (D.aL [D.aE 7 (esD (I ax 13)),ar true])
) (
 R (unP .not v20) fun yZ=>
 oif yZ (
 some (D.aL [D.val (.slice none 0 0),ar false])
) (
 R (binP false .add (aa ag 10) (J 1)) fun wk=>
 R (so n [D.agg [aa ic 0,aa ic 1,aa ic 2,aa ic 3,aa ic 4,aa ic 5],wk,aa ag 0,aa ag 1,aa ag 2,aa ag 3,aa ag 4,aa ag 5,aa ag 6,aa ag 7,aa ag 8,aa ag 9,aa ag 10,aa ag 11,D.aE 7 []]) fun aZ=>
 R (a3 6 (aa pH 5) (J 0)) fun CH=>
 R (aX true 6 0 CH) fun agx=>
 R (zq n [agx,ar true]) fun ig=>
 R (a3 1 (I aZ 9) (I aZ 11)) fun agy=>
 R (aX false 1 0 agy) fun HF=>
 aw (aK 6 ig)<|
 aw (bD HF)<|
 aw (aK 7 (D.agg [aa ig 0,aa ig 1,aa ig 2,aa ig 3,aa ig 4,aa ig 5,HF]))<|
 aw (c2 (((esD (I aZ 13))).length+([[aa ig 0,aa ig 1,aa ig 2,aa ig 3,aa ig 4,aa ig 5,HF]]).length) 112)<|
 some (D.aL [D.aE 7 ((esD (I aZ 13))++[[aa ig 0,aa ig 1,aa ig 2,aa ig 3,aa ig 4,aa ig 5,HF]]),ar true])
)
)
)
)
)
)
def MY(n:Nat):List D→Option D
 |[ab,ag]=>ags n ab ag
 |_=>none
def agz(n:Nat)(ab:D)(ag:D)(aS:D):Option D:=
 aw (aK 9 ab)<|
 aw (aK 7 ag)<|
 aw (aK 12 aS)<|
 R (lenP (aa aS 8)) fun v11=>
 R (binP false .eql v11 (J 0)) fun bX=>
 R (gD bX true (
 R (binP false .eql (aa aS 9) (J 0)) fun bE=>
 some bE
)) fun bE=>
 R (pickP bX bE (ar false)) fun bC=>
 R (binP false .eql (aa aS 0) (J 1)) fun bH=>
 oif bH (
 R (gD bC true (
 R (binP false .eql (aa aS 10) (J 0)) fun ch=>
 some ch
)) fun ch=>
 R (pickP bC ch (ar false)) fun cA=>
 R (gD cA true (
 R (MW n [D.agg [aa ab 0,aa ab 1,aa ab 2,aa ab 3,aa ab 4,aa ab 5,aa ab 6,aa ab 7,aa ab 8],D.agg [aa ag 0,aa ag 1,aa ag 2,aa ag 3,aa ag 4,aa ag 5],aa ag 6]) fun cZ=>
 some cZ
)) fun cZ=>
 R (pickP cA cZ (ar false)) fun e2=>
 some (D.aL [D.val (.slice none 0 0),e2])
) (
 R (binP false .eql (aa aS 0) (J 2)) fun dk=>
 oif dk (
 R (gD bC true (
 R (binP false .eql (aa aS 10) (J 0)) fun cY=>
 some cY
)) fun cY=>
 R (pickP bC cY (ar false)) fun dK=>
 some (D.aL [D.val (.slice none 0 0),dK])
) (
 R (binP false .eql (aa aS 0) (J 3)) fun cR=>
 oif cR (
 R (a3 6 (aa ag 5) (J 0)) fun w6=>
 R (aX true 6 0 w6) fun cV=>
 aw (aK 6 cV)<|
 aw (bD (aa ag 6))<|
 R (a3 6 (aa ag 5) (J 1)) fun MU=>
 R (aX true 6 0 MU) fun eW=>
 aw (aK 6 eW)<|
 aw (bD (aa ag 6))<|
 aw (aK 7 (D.agg [aa cV 0,aa cV 1,aa cV 2,aa cV 3,aa cV 4,aa cV 5,aa ag 6]))<|
 aw (aK 7 (D.agg [aa eW 0,aa eW 1,aa eW 2,aa eW 3,aa eW 4,aa eW 5,aa ag 6]))<|
 R (gD bC true (
 R (binP false .eql (aa aS 10) (J 0)) fun fK=>
 some fK
)) fun fK=>
 R (pickP bC fK (ar false)) fun fB=>
 some (D.aL [D.aE 7 [[aa cV 0,aa cV 1,aa cV 2,aa cV 3,aa cV 4,aa cV 5,aa ag 6],[aa eW 0,aa eW 1,aa eW 2,aa eW 3,aa eW 4,aa eW 5,aa ag 6]],fB])
) (
 R (binP false .eql (aa aS 0) (J 4)) fun iH=>
 oif iH (
 R (binP false .neq (aa aS 10) (J 0)) fun gl=>
 R (gD gl true (
 R (binP false .neq (aa aS 10) (J 1)) fun gj=>
 some gj
)) fun gj=>
 R (pickP gl gj (ar false)) fun lv=>
 oif lv (
 some (D.aL [D.val (.slice none 0 0),ar false])
) (
 R (a3 6 (aa ag 5) (aa aS 10)) fun agA=>
 R (aX true 6 0 agA) fun hi=>
 aw (aK 6 hi)<|
 aw (bD (aa ag 6))<|
 aw (aK 7 (D.agg [aa hi 0,aa hi 1,aa hi 2,aa hi 3,aa hi 4,aa hi 5,aa ag 6]))<|
 some (D.aL [D.aE 7 [[aa hi 0,aa hi 1,aa hi 2,aa hi 3,aa hi 4,aa hi 5,aa ag 6]],bC])
)
) (
 R (MY n [D.agg [aa ag 0,aa ag 1,aa ag 2,aa ag 3,aa ag 4,aa ag 5],D.agg [aa aS 0,aa aS 1,aa aS 2,aa aS 3,aa aS 4,aa aS 5,aa aS 6,aa aS 7,aa aS 8,aa aS 9,aa aS 10,aa aS 11]]) fun ie=>
 R (extP 0 ie) fun iK=>
 R (extP 1 ie) fun jJ=>
 some (D.aL [iK,jJ])
)
)
)
)
def MZ(n:Nat):List D→Option D
 |[ab,ag,aS]=>agz n ab ag aS
 |_=>none
def T9(n:Nat)(ab:D)(cJ:List D):Option D:=
 aw (aK 7 ab)<|
 R (aX false 1 6 cJ) fun bZ=>
 R (zr n [aa ab 0,bZ]) fun cf=>
 R (gD cf true (
 R (aX true 6 0 cJ) fun cd=>
 R (pN n [D.agg [aa ab 1,aa ab 2,aa ab 3,aa ab 4,aa ab 5,aa ab 6],cd]) fun bq=>
 some bq
)) fun bq=>
 R (pickP cf bq (ar false)) fun bf=>
 some bf
def HG(n:Nat):List D→Option D
 |[ab,ag]=>(match ag with| .ref cJ 0=>T9 n ab cJ|_=>none)
 |_=>none
def agB(n:Nat)(ls:List D):Option (List D⊕(List D⊕D)):=
 R (binP false .lss (I ls 3) (I ls 2)) fun bR=>
 oif bR (
 R (a3 7 (I ls 0) (I ls 3)) fun eQ=>
 R (aX true 7 0 eQ) fun bf=>
 R (HG n [bf,I ls 1]) fun bE=>
 oif bE (
 aU (
 aU (
 some (I ls 3)
)
)
) (
 R (binP false .add (I ls 3) (J 1)) fun bF=>
 some (.inl [I ls 0,I ls 1,I ls 2,bF])
)
) (
 aU (
 some (.inl [])
)
)
def Ua(n:Nat)(ab:D)(b5:D):Option D:=
 R (lenP ab) fun bZ=>
 R (
 bo (agB n) n [ab,b5,bZ,J 0]
)<|a6 fun ls=>
 some (J (-1))
def HH(n:Nat):List D→Option D
 |[ab,ag]=>(match fnOf vI ag with|some [b5]=>Ua n ab b5|_=>none)
 |_=>none
def Ub(n:Nat)(ab:D)(b5:D):Option D:=
 R (HH n [ab,(D.fn (.func vI) [] [b5])]) fun bZ=>
 R (binP false .geq bZ (J 0)) fun cf=>
 some cf
def HI(n:Nat):List D→Option D
 |[ab,ag]=>(match fnOf vI ag with|some [b5]=>Ub n ab b5|_=>none)
 |_=>none
def agC(w8:List D→Option (List D))(n:Nat)(ls:List D):Option (List D⊕(List D⊕(List D))):=
 R (binP false .lss (I ls 2) (I ls 1)) fun wR=>
 oif wR (
 R (a3 7 (I ls 0) (I ls 2)) fun ML=>
 R (aX true 7 0 ML) fun kA=>
 aw (aK 7 kA)<|
 R (a3 12 (I ls 23) (I ls 2)) fun agD=>
 R (aX true 12 0 agD) fun qQ=>
 R (w8 [D.agg [I ls 3,I ls 4,I ls 5,I ls 6,I ls 7,I ls 8,I ls 9,I ls 10,I ls 11],D.agg [aa kA 0,aa kA 1,aa kA 2,aa kA 3,aa kA 4,aa kA 5,aa kA 6],qQ,D.aE 7 (esD (I ls 24))]) fun ad=>
 R (binP false .neq (I ad 0) (J 0)) fun wk=>
 oif wk (
 aU (
 aU (
 some [I ad 0,D.aE 7 (esD (I ad 1))]
)
)
) (
 R (binP false .add (I ls 2) (J 1)) fun qJ=>
 some (.inl [I ls 0,I ls 1,qJ,I ls 3,I ls 4,I ls 5,I ls 6,I ls 7,I ls 8,I ls 9,I ls 10,I ls 11,I ls 12,I ls 13,I ls 14,I ls 15,I ls 16,I ls 17,I ls 18,I ls 19,I ls 20,I ls 21,I ls 22,I ls 23,D.aE 7 (esD (I ad 1))])
)
) (
 aU (
 some (.inl [D.aE 7 (esD (I ls 24))])
)
)
def Uc(w8:List D→Option (List D))(n:Nat)(ls:List D):Option (List D):=
 aw (aK 9 (I ls 0))<|
 aw (aK 7 (I ls 1))<|
 aw (aK 12 (I ls 2))<|
 R (binP false .lss (aa (I ls 2) 0) (J 1)) fun bE=>
 R (gD bE false (
 R (binP false .gtr (aa (I ls 2) 0) (J 5)) fun v20=>
 some v20
)) fun v20=>
 R (pickP bE (ar true) v20) fun bH=>
 R (gD bH false (
 R (MS n [D.agg [aa (I ls 1) 0,aa (I ls 1) 1,aa (I ls 1) 2,aa (I ls 1) 3,aa (I ls 1) 4,aa (I ls 1) 5]]) fun cA=>
 R (binP false .neq (aa (I ls 2) 0) cA) fun cp=>
 some cp
)) fun cp=>
 R (pickP bH (ar true) cp) fun cB=>
 R (gD cB false (
 R (zr n [aa (I ls 2) 1,aa (I ls 1) 6]) fun e2=>
 R (unP .not e2) fun dh=>
 some dh
)) fun dh=>
 R (pickP cB (ar true) dh) fun dk=>
 R (gD dk false (
 R (pN n [D.agg [aa (I ls 2) 2,aa (I ls 2) 3,aa (I ls 2) 4,aa (I ls 2) 5,aa (I ls 2) 6,aa (I ls 2) 7],D.agg [aa (I ls 1) 0,aa (I ls 1) 1,aa (I ls 1) 2,aa (I ls 1) 3,aa (I ls 1) 4,aa (I ls 1) 5]]) fun dK=>
 R (unP .not dK) fun dH=>
 some dH
)) fun dH=>
 R (pickP dk (ar true) dH) fun cR=>
 oif cR (
 some [J 23,D.aE 7 (esD (I ls 3))]
) (
 R (binP false .eql (aa (I ls 2) 0) (J 5)) fun gi=>
 R (gD gi true (
 R (Dp n [D.agg [aa (I ls 0) 0,aa (I ls 0) 1,aa (I ls 0) 2,aa (I ls 0) 3,aa (I ls 0) 4,aa (I ls 0) 5,aa (I ls 0) 6,aa (I ls 0) 7,aa (I ls 0) 8],aa (I ls 2) 8,aa (I ls 2) 9]) fun e7=>
 R (unP .not e7) fun eX=>
 some eX
)) fun h2=>
 R (gD h2 false (
 R (a3 1 (aa (I ls 2) 8) (J 0)) fun agE=>
 R (aX false 1 0 agE) fun gw=>
 R (zr n [gw,aa (I ls 2) 1]) fun g4=>
 R (unP .not g4) fun jj=>
 some jj
)) fun jj=>
 R (gD gi true (
 R (pickP h2 (ar true) jj) fun ee=>
 some ee
)) fun ee=>
 R (pickP gi ee (ar false)) fun fK=>
 oif fK (
 some [J 22,D.aE 7 (esD (I ls 3))]
) (
 R (MZ n [D.agg [aa (I ls 0) 0,aa (I ls 0) 1,aa (I ls 0) 2,aa (I ls 0) 3,aa (I ls 0) 4,aa (I ls 0) 5,aa (I ls 0) 6,aa (I ls 0) 7,aa (I ls 0) 8],D.agg [aa (I ls 1) 0,aa (I ls 1) 1,aa (I ls 1) 2,aa (I ls 1) 3,aa (I ls 1) 4,aa (I ls 1) 5,aa (I ls 1) 6],D.agg [aa (I ls 2) 0,aa (I ls 2) 1,aa (I ls 2) 2,aa (I ls 2) 3,aa (I ls 2) 4,aa (I ls 2) 5,aa (I ls 2) 6,aa (I ls 2) 7,aa (I ls 2) 8,aa (I ls 2) 9,aa (I ls 2) 10,aa (I ls 2) 11]]) fun gk=>
 R (extP 0 gk) fun gl=>
 R (extP 1 gk) fun gv=>
 R (unP .not gv) fun gQ=>
 R (gD gQ false (
 R (lenP gl) fun lV=>
 R (lenP (aa (I ls 2) 11)) fun jL=>
 R (binP false .neq lV jL) fun j4=>
 some j4
)) fun j4=>
 R (pickP gQ (ar true) j4) fun g5=>
 oif g5 (
 some [J 23,D.aE 7 (esD (I ls 3))]
) (
 R (binP false .eql (aa (I ls 2) 0) (J 2)) fun nF=>
 R (gD nF true (
 R (HI n [D.aE 7 (esD (I ls 3)),(D.fn (.func vI) [] [D.ref [aa (I ls 1) 0,aa (I ls 1) 1,aa (I ls 1) 2,aa (I ls 1) 3,aa (I ls 1) 4,aa (I ls 1) 5,aa (I ls 1) 6] 0])]) fun lU=>
 aw lU.flat<|
 R (unP .not lU) fun ie=>
 some ie
)) fun ie=>
 R (pickP nF ie (ar false)) fun iK=>
 R (
 oif iK (
 aw (bD (aa (I ls 1) 6))<|
 aw (aK 6 (D.agg [aa (I ls 1) 0,aa (I ls 1) 1,aa (I ls 1) 2,aa (I ls 1) 3,aa (I ls 1) 4,aa (I ls 1) 5]))<|
 aw (aK 7 (D.agg [aa (I ls 1) 6,aa (I ls 1) 0,aa (I ls 1) 1,aa (I ls 1) 2,aa (I ls 1) 3,aa (I ls 1) 4,aa (I ls 1) 5]))<|
 aw (c2 (((esD (I ls 3))).length+([[aa (I ls 1) 6,aa (I ls 1) 0,aa (I ls 1) 1,aa (I ls 1) 2,aa (I ls 1) 3,aa (I ls 1) 4,aa (I ls 1) 5]]).length) 112)<|
 some (.inl [gl,aa (I ls 0) 0,aa (I ls 0) 1,aa (I ls 0) 2,aa (I ls 0) 3,aa (I ls 0) 4,aa (I ls 0) 5,aa (I ls 0) 6,aa (I ls 0) 7,aa (I ls 0) 8,aa (I ls 2) 0,aa (I ls 2) 1,aa (I ls 2) 2,aa (I ls 2) 3,aa (I ls 2) 4,aa (I ls 2) 5,aa (I ls 2) 6,aa (I ls 2) 7,aa (I ls 2) 8,aa (I ls 2) 9,aa (I ls 2) 10,aa (I ls 2) 11,D.aE 7 ((esD (I ls 3))++[[aa (I ls 1) 6,aa (I ls 1) 0,aa (I ls 1) 1,aa (I ls 1) 2,aa (I ls 1) 3,aa (I ls 1) 4,aa (I ls 1) 5]])])
) (
 some (.inl [gl,aa (I ls 0) 0,aa (I ls 0) 1,aa (I ls 0) 2,aa (I ls 0) 3,aa (I ls 0) 4,aa (I ls 0) 5,aa (I ls 0) 6,aa (I ls 0) 7,aa (I ls 0) 8,aa (I ls 2) 0,aa (I ls 2) 1,aa (I ls 2) 2,aa (I ls 2) 3,aa (I ls 2) 4,aa (I ls 2) 5,aa (I ls 2) 6,aa (I ls 2) 7,aa (I ls 2) 8,aa (I ls 2) 9,aa (I ls 2) 10,aa (I ls 2) 11,D.aE 7 (esD (I ls 3))])
)
)<|a6 fun ls=>
 R (lenP (I ls 0)) fun wI=>
 R (
 bo (agC w8 n) n [I ls 0,wI,J 0,I ls 1,I ls 2,I ls 3,I ls 4,I ls 5,I ls 6,I ls 7,I ls 8,I ls 9,I ls 10,I ls 11,I ls 12,I ls 13,I ls 14,I ls 15,I ls 16,I ls 17,I ls 18,I ls 19,I ls 20,I ls 21,D.aE 7 (esD (I ls 22))]
)<|a6 fun ls=>
 some [J 0,D.aE 7 (esD (I ls 0))]
)
)
)
def zx:Nat→List D→Option (List D)
 |0,_=>none
 |n+1,ls=>Uc (zx n) n ls
def agF(n:Nat)(ab:D)(ag:D)(aS:D)(bN:D):Option D:=
 aw (aK 8 ab)<|
 aw (aK 6 ag)<|
 aw (aK 12 bN)<|
 R (nG n [D.agg [aa ab 0,aa ab 1,aa ab 2,aa ab 3,aa ab 4,aa ab 5,aa ab 6,aa ab 7]]) fun bE=>
 R (extP 0 bE) fun bC=>
 R (extP 1 bE) fun bF=>
 aw (aK 9 bC)<|
 R (unP .not bF) fun v20=>
 oif v20 (
 some (D.aL [D.val (.slice none 0 0),J 1])
) (
 R (nB n [D.agg [aa ag 0,aa ag 1,aa ag 2,aa ag 3,aa ag 4,aa ag 5]]) fun bU=>
 R (binP false .neq bU (J 0)) fun cv=>
 oif cv (
 some (D.aL [D.val (.slice none 0 0),bU])
) (
 R (nK n [D.agg [aa bC 0,aa bC 1,aa bC 2,aa bC 3,aa bC 4,aa bC 5,aa bC 6,aa bC 7,aa bC 8],aS]) fun cp=>
 R (unP .not cp) fun cB=>
 oif cB (
 some (D.aL [D.val (.slice none 0 0),J 21])
) (
 R (zq n [D.agg [aa ag 0,aa ag 1,aa ag 2,aa ag 3,aa ag 4,aa ag 5],ar false]) fun dt=>
 aw (aK 6 dt)<|
 aw (bD aS)<|
 R (zx n [D.agg [aa bC 0,aa bC 1,aa bC 2,aa bC 3,aa bC 4,aa bC 5,aa bC 6,aa bC 7,aa bC 8],D.agg [aa dt 0,aa dt 1,aa dt 2,aa dt 3,aa dt 4,aa dt 5,aS],D.agg [aa bN 0,aa bN 1,aa bN 2,aa bN 3,aa bN 4,aa bN 5,aa bN 6,aa bN 7,aa bN 8,aa bN 9,aa bN 10,aa bN 11],D.aE 7 []]) fun ad=>
 R (binP false .neq (I ad 0) (J 0)) fun c8=>
 oif c8 (
 some (D.aL [D.val (.slice none 0 0),I ad 0])
) (
 some (D.aL [D.aE 7 (esD (I ad 1)),J 0])
)
)
)
)
def M0(n:Nat):List D→Option D
 |[ab,ag,aS,bN]=>agF n ab ag aS bN
 |_=>none
def M1(n:Nat)(ab:D)(ag:D)(aS:D):Option D:=
 aw (aK 8 ab)<|
 aw (aK 6 ag)<|
 R (nG n [D.agg [aa ab 0,aa ab 1,aa ab 2,aa ab 3,aa ab 4,aa ab 5,aa ab 6,aa ab 7]]) fun v11=>
 R (extP 0 v11) fun bX=>
 R (extP 1 v11) fun cd=>
 aw (aK 9 bX)<|
 R (unP .not cd) fun bf=>
 oif bf (
 some (D.aL [ar false,ar false])
) (
 R (nM n [D.agg [aa bX 0,aa bX 1,aa bX 2,aa bX 3,aa bX 4,aa bX 5,aa bX 6,aa bX 7,aa bX 8],D.agg [aa ag 0,aa ag 1,aa ag 2,aa ag 3,aa ag 4,aa ag 5],aS]) fun b7=>
 R (extP 0 b7) fun v20=>
 R (extP 1 b7) fun bH=>
 some (D.aL [v20,bH])
)
def sr(n:Nat):List D→Option D
 |[ab,ag,aS]=>M1 n ab ag aS
 |_=>none
def agG(n:Nat)(ab:D)(ag:D)(aS:D):Option D:=
 aw (aK 8 ab)<|
 R (nG n [D.agg [aa ab 0,aa ab 1,aa ab 2,aa ab 3,aa ab 4,aa ab 5,aa ab 6,aa ab 7]]) fun v11=>
 R (extP 0 v11) fun bX=>
 R (extP 1 v11) fun cd=>
 aw (aK 9 bX)<|
 R (gD cd true (
 R (zt n [D.agg [aa bX 0,aa bX 1,aa bX 2,aa bX 3,aa bX 4,aa bX 5,aa bX 6,aa bX 7,aa bX 8],ag,aS]) fun b7=>
 some b7
)) fun b7=>
 R (pickP cd b7 (ar false)) fun v20=>
 some v20
def M3(n:Nat):List D→Option D
 |[ab,ag,aS]=>agG n ab ag aS
 |_=>none
def agH(n:Nat)(ab:D)(ag:D)(aS:D):Option D:=
 aw (aK 8 ab)<|
 R (nG n [D.agg [aa ab 0,aa ab 1,aa ab 2,aa ab 3,aa ab 4,aa ab 5,aa ab 6,aa ab 7]]) fun v11=>
 R (extP 0 v11) fun bX=>
 R (extP 1 v11) fun cd=>
 aw (aK 9 bX)<|
 R (gD cd true (
 R (Dp n [D.agg [aa bX 0,aa bX 1,aa bX 2,aa bX 3,aa bX 4,aa bX 5,aa bX 6,aa bX 7,aa bX 8],ag,aS]) fun b7=>
 some b7
)) fun b7=>
 R (pickP cd b7 (ar false)) fun v20=>
 some v20
def M4(n:Nat):List D→Option D
 |[ab,ag,aS]=>agH n ab ag aS
 |_=>none
def agI(n:Nat):Option D:=
 R (L6 n []) fun bR=>
 aw (aK 8 bR)<|
 aw (aK 6 (D.agg [J 1,J 10,J 0,aI ⟨#[]⟩,D.aE 4 [[J 3,J 0,aI ⟨#[120]⟩,D.val (.slice none 0 0)],[J 1,J 2,aI ⟨#[]⟩,D.val (.slice none 0 0)]],D.val (.slice none 0 0)]))<|
 aw (bD (D.aE 1 [[J 0]]))<|
 aw (bD (D.aE 1 [[J 1]]))<|
 aw (bD (D.aE 1 [[J 2]]))<|
 aw (aK 6 (D.agg [J 1,J 10,J 0,aI ⟨#[]⟩,D.aE 4 [[J 3,J 0,aI ⟨#[120]⟩,D.val (.slice none 0 0)],[J 1,J 2,aI ⟨#[]⟩,D.val (.slice none 0 0)]],D.val (.slice none 0 0)]))<|
 aw (aK 12 (D.agg [J 1,D.aE 1 [[J 2]],J 1,J 10,J 0,aI ⟨#[]⟩,D.aE 4 [[J 3,J 0,aI ⟨#[120]⟩,D.val (.slice none 0 0)],[J 1,J 2,aI ⟨#[]⟩,D.val (.slice none 0 0)]],D.val (.slice none 0 0),D.val (.slice none 0 0),J 0,J 0,D.val (.slice none 0 0)]))<|
 R (M0 n [D.agg [aa bR 0,aa bR 1,aa bR 2,aa bR 3,aa bR 4,aa bR 5,aa bR 6,aa bR 7],D.agg [J 7,J 0,J 0,aI ⟨#[]⟩,D.val (.slice none 0 0),D.aE 6 [[J 1,J 10,J 0,aI ⟨#[]⟩,D.aE 4 [[J 3,J 0,aI ⟨#[120]⟩,D.val (.slice none 0 0)],[J 1,J 2,aI ⟨#[]⟩,D.val (.slice none 0 0)]],D.val (.slice none 0 0)]]],D.aE 1 [[J 0]],D.agg [J 5,D.aE 1 [[J 0]],J 7,J 0,J 0,aI ⟨#[]⟩,D.val (.slice none 0 0),D.aE 6 [[J 1,J 10,J 0,aI ⟨#[]⟩,D.aE 4 [[J 3,J 0,aI ⟨#[120]⟩,D.val (.slice none 0 0)],[J 1,J 2,aI ⟨#[]⟩,D.val (.slice none 0 0)]],D.val (.slice none 0 0)]],D.aE 1 [[D.aE 1 [[J 0]]],[D.aE 1 [[J 1]]],[D.aE 1 [[J 2]]]],J 0,J 2,D.aE 12 [[J 1,D.aE 1 [[J 2]],J 1,J 10,J 0,aI ⟨#[]⟩,D.aE 4 [[J 3,J 0,aI ⟨#[120]⟩,D.val (.slice none 0 0)],[J 1,J 2,aI ⟨#[]⟩,D.val (.slice none 0 0)]],D.val (.slice none 0 0),D.val (.slice none 0 0),J 0,J 0,D.val (.slice none 0 0)]]]]) fun cZ=>
 R (extP 0 cZ) fun e2=>
 R (extP 1 cZ) fun dh=>
 R (sr n [D.agg [aa bR 0,aa bR 1,aa bR 2,aa bR 3,aa bR 4,aa bR 5,aa bR 6,aa bR 7],D.agg [J 1,J 10,J 0,aI ⟨#[]⟩,D.aE 4 [[J 3,J 0,aI ⟨#[120]⟩,D.val (.slice none 0 0)],[J 1,J 2,aI ⟨#[]⟩,D.val (.slice none 0 0)]],D.val (.slice none 0 0)],D.aE 1 [[J 2]]]) fun fl=>
 aw fl.flat<|
 R (extP 0 fl) fun cY=>
 R (extP 1 fl) fun dK=>
 R (binP false .eql dh (J 0)) fun cR=>
 R (gD cR true (
 R (lenP e2) fun gi=>
 R (binP false .eql gi (J 0)) fun ei=>
 some ei
)) fun ei=>
 R (pickP cR ei (ar false)) fun cV=>
 R (gD cV true (
 some cY
)) fun e8=>
 R (pickP cV e8 (ar false)) fun hH=>
 R (gD hH true (
 some dK
)) fun e7=>
 R (pickP hH e7 (ar false)) fun eX=>
 R (gD eX true (
 R (M3 n [D.agg [aa bR 0,aa bR 1,aa bR 2,aa bR 3,aa bR 4,aa bR 5,aa bR 6,aa bR 7],D.aE 1 [[J 2]],D.aE 1 [[J 0]]]) fun gw=>
 aw gw.flat<|
 some gw
)) fun gw=>
 R (pickP eX gw (ar false)) fun hT=>
 R (gD hT true (
 R (M4 n [D.agg [aa bR 0,aa bR 1,aa bR 2,aa bR 3,aa bR 4,aa bR 5,aa bR 6,aa bR 7],D.aE 1 [[D.aE 1 [[J 0]]],[D.aE 1 [[J 1]]],[D.aE 1 [[J 2]]]],J 2]) fun fK=>
 R (unP .not fK) fun fB=>
 some fB
)) fun fB=>
 R (pickP hT fB (ar false)) fun ep=>
 some ep
def zy(n:Nat):List D→Option D
 |[]=>agI n
 |_=>none
def Ud(n:Nat)(ab:D):Option D:=
 R (binP false .geq ab (D.val (.int .u8 97))) fun v4=>
 R (gD v4 true (
 R (binP false .leq ab (D.val (.int .u8 122))) fun bZ=>
 some bZ
)) fun bZ=>
 R (pickP v4 bZ (ar false)) fun cf=>
 R (gD cf false (
 R (binP false .geq ab (D.val (.int .u8 65))) fun v11=>
 some v11
)) fun bX=>
 R (gD bX true (
 R (binP false .leq ab (D.val (.int .u8 90))) fun bq=>
 some bq
)) fun bq=>
 R (gD cf false (
 R (pickP bX bq (ar false)) fun bf=>
 some bf
)) fun bf=>
 R (pickP cf (ar true) bf) fun bE=>
 some bE
def w9(n:Nat):List D→Option D
 |[ab]=>Ud n ab
 |_=>none
def Ue(n:Nat)(ab:D):Option D:=
 R (binP false .geq ab (D.val (.int .u8 48))) fun v4=>
 R (gD v4 true (
 R (binP false .leq ab (D.val (.int .u8 57))) fun bZ=>
 some bZ
)) fun bZ=>
 R (pickP v4 bZ (ar false)) fun cf=>
 some cf
def Dt(n:Nat):List D→Option D
 |[ab]=>Ue n ab
 |_=>none
def Du(n:Nat)(ls:List D):Option (List D⊕(List D⊕D)):=
 R (nq (I ls 0)) fun bR=>
 R (binP false .lss (I ls 1) bR) fun v10=>
 R (gD v10 true (
 R (sixP (I ls 0) (I ls 1)) fun bq=>
 R (Dt n [bq]) fun bf=>
 some bf
)) fun bE=>
 R (gD bE false (
 R (unP .not (I ls 2)) fun bF=>
 some bF
)) fun b7=>
 R (gD b7 true (
 R (sixP (I ls 0) (I ls 1)) fun bU=>
 R (w9 n [bU]) fun b4=>
 some b4
)) fun cv=>
 R (gD cv false (
 R (sixP (I ls 0) (I ls 1)) fun cA=>
 R (binP false .eql cA (D.val (.int .u8 95))) fun cp=>
 some cp
)) fun cp=>
 R (gD b7 true (
 R (pickP cv (ar true) cp) fun cB=>
 some cB
)) fun cB=>
 R (gD bE false (
 R (pickP b7 cB (ar false)) fun v30=>
 some v30
)) fun v30=>
 R (gD v10 true (
 R (pickP bE (ar true) v30) fun dB=>
 some dB
)) fun dB=>
 R (pickP v10 dB (ar false)) fun dt=>
 oif dt (
 R (binP false .add (I ls 1) (J 1)) fun cZ=>
 some (.inl [I ls 0,cZ,I ls 2])
) (
 aU (
 some (.inl [I ls 1])
)
)
def Uf(n:Nat)(ab:D)(ag:D)(aS:D):Option D:=
 R (
 bo (Du n) n [ab,ag,aS]
)<|a6 fun ls=>
 some (I ls 0)
def Dv(n:Nat):List D→Option D
 |[ab,ag,aS]=>Uf n ab ag aS
 |_=>none
def agJ(n:Nat):Option D:=
 some (D.aE 1 [[aI ⟨#[65]⟩],[aI ⟨#[65,70]⟩],[aI ⟨#[65,71]⟩],[aI ⟨#[65,88]⟩],[aI ⟨#[69]⟩],[aI ⟨#[69,70]⟩],[aI ⟨#[69,71]⟩],[aI ⟨#[69,88]⟩],[aI ⟨#[85]⟩],[aI ⟨#[98,111,111,108]⟩],[aI ⟨#[100,101,102]⟩],[aI ⟨#[101,108,115,101]⟩],[aI ⟨#[102,97,105,114]⟩],[aI ⟨#[102,97,108,115,101]⟩],[aI ⟨#[105,102]⟩],[aI ⟨#[105,110,105,116]⟩],[aI ⟨#[105,110,118,97,114]⟩],[aI ⟨#[109,111,100]⟩],[aI ⟨#[110,101,120,116]⟩],[aI ⟨#[115,112,101,99]⟩],[aI ⟨#[116,104,101,110]⟩],[aI ⟨#[116,114,97,110,115]⟩],[aI ⟨#[116,114,117,101]⟩],[aI ⟨#[118,97,114]⟩]])
def HJ(n:Nat):List D→Option D
 |[]=>agJ n
 |_=>none
def zz(n:Nat)(ls:List D):Option (List D⊕(List D⊕D)):=
 R (lenP (I ls 0)) fun cf=>
 R (binP false .lss (I ls 2) cf) fun bR=>
 oif bR (
 R (a3 1 (I ls 0) (I ls 2)) fun eQ=>
 R (aX false 1 0 eQ) fun bf=>
 R (binP false .eql bf (I ls 1)) fun bC=>
 oif bC (
 aU (
 aU (
 some (ar true)
)
)
) (
 R (binP false .add (I ls 2) (J 1)) fun v11=>
 some (.inl [I ls 0,I ls 1,v11])
)
) (
 aU (
 some (.inl [])
)
)
def M5(n:Nat)(ab:D)(ag:D):Option D:=
 R (
 bo (zz n) n [ab,ag,J 0]
)<|a6 fun ls=>
 some (ar false)
def zA(n:Nat):List D→Option D
 |[ab,ag]=>M5 n ab ag
 |_=>none
def M6(n:Nat)(ab:D):Option D:=
 R (nq ab) fun v4=>
 R (binP false .geq v4 (J 1)) fun j2=>
 R (gD j2 true (
 R (nq ab) fun cf=>
 R (binP false .leq cf (J 24)) fun bR=>
 some bR
)) fun bR=>
 R (pickP j2 bR (ar false)) fun v10=>
 R (gD v10 true (
 R (sixP ab (J 0)) fun cd=>
 R (w9 n [cd]) fun bq=>
 some bq
)) fun bq=>
 R (pickP v10 bq (ar false)) fun bf=>
 R (gD bf true (
 R (Dv n [ab,J 0,ar false]) fun bF=>
 R (nq ab) fun v20=>
 R (binP false .eql bF v20) fun bH=>
 some bH
)) fun bH=>
 R (pickP bf bH (ar false)) fun bU=>
 R (gD bU true (
 R (HJ n []) fun cv=>
 R (zA n [cv,ab]) fun ch=>
 R (unP .not ch) fun cA=>
 some cA
)) fun cA=>
 R (pickP bU cA (ar false)) fun cp=>
 some cp
def q0(n:Nat):List D→Option D
 |[ab]=>M6 n ab
 |_=>none
def Ug(n:Nat)(ab:D):Option D:=
 R (binP false .geq ab (J (-255))) fun v4=>
 R (gD v4 true (
 R (binP false .leq ab (J 255)) fun bZ=>
 some bZ
)) fun bZ=>
 R (pickP v4 bZ (ar false)) fun cf=>
 some cf
def zB(n:Nat):List D→Option D
 |[ab]=>Ug n ab
 |_=>none
def Uh(n:Nat)(ab:D):Option D:=
 aw (aK 4 ab)<|
 oif (aa ab 1) (
 some (J 2)
) (
 R (binP false .gtr (aa ab 2) (aa ab 3)) fun v10=>
 oif v10 (
 some (J 0)
) (
 R (cvP .u64 (aa ab 3)) fun cd=>
 R (cvP .u64 (aa ab 2)) fun bE=>
 R (binP false .sub cd bE) fun bC=>
 R (binP false .gtr bC (D.val (.int .u64 1073741824))) fun b7=>
 R (
 oif b7 (
 some (.inl [D.val (.int .u64 1073741824)])
) (
 some (.inl [bC])
)
)<|a6 fun ls=>
 R (cvP .i64 (I ls 0)) fun bH=>
 R (binP false .add bH (J 1)) fun bU=>
 some bU
)
)
def xa(n:Nat):List D→Option D
 |[ab]=>Uh n ab
 |_=>none
def Dw(n:Nat)(ls:List D):Option (List D⊕(List D⊕(List D⊕(List D⊕(List D⊕D))))):=
 R (binP false .lss (I ls 2) (I ls 1)) fun bU=>
 oif bU (
 R (a3 4 (I ls 0) (I ls 2)) fun MV=>
 R (aX false 1 0 MV) fun cB=>
 R (a3 4 (I ls 0) (I ls 1)) fun Mi=>
 R (aX false 1 0 Mi) fun cZ=>
 R (binP false .eql cB cZ) fun e2=>
 oif e2 (
 aU (
 aU (
 aU (
 aU (
 aU (
 some (D.aL [I ls 1,J 6])
)
)
)
)
)
) (
 R (binP false .add (I ls 2) (J 1)) fun cv=>
 some (.inl [I ls 0,I ls 1,cv])
)
) (
 aU (
 some (.inl [I ls 0,I ls 1])
)
)
def xb(n:Nat)(ls:List D):Option (List D⊕(List D⊕D)):=
 R (lenP (I ls 0)) fun cf=>
 R (binP false .lss (I ls 1) cf) fun bR=>
 oif bR (
 R (
 R (a3 4 (I ls 0) (I ls 1)) fun eQ=>
 R (aX false 1 0 eQ) fun bE=>
 R (q0 n [bE]) fun bC=>
 R (unP .not bC) fun bF=>
 oif bF (
 aU (
 aU (
 aU (
 some (D.aL [I ls 1,J 12])
)
)
)
) (
 R (
 bo (Dw n) n [I ls 0,I ls 1,J 0]
)<|a6 fun ls=>
 R (a3 4 (I ls 0) (I ls 1)) fun nC=>
 R (aX false 1 1 nC) fun fl=>
 R (gD fl true (
 R (a3 4 (I ls 0) (I ls 1)) fun Dx=>
 R (aX false 1 2 Dx) fun iI=>
 R (binP false .neq iI (J 0)) fun gi=>
 some gi
)) fun ei=>
 R (gD ei false (
 R (a3 4 (I ls 0) (I ls 1)) fun Mk=>
 R (aX false 1 3 Mk) fun iG=>
 R (binP false .neq iG (J 0)) fun e7=>
 some e7
)) fun e7=>
 R (gD fl true (
 R (pickP ei (ar true) e7) fun eX=>
 some eX
)) fun eX=>
 R (pickP fl eX (ar false)) fun h2=>
 oif h2 (
 aU (
 aU (
 aU (
 some (D.aL [I ls 1,J 3])
)
)
)
) (
 R (a3 4 (I ls 0) (I ls 1)) fun CA=>
 R (aX false 1 1 CA) fun k0=>
 R (unP .not k0) fun g4=>
 R (gD g4 true (
 R (a3 4 (I ls 0) (I ls 1)) fun M7=>
 R (aX false 1 2 M7) fun iH=>
 R (a3 4 (I ls 0) (I ls 1)) fun Dn=>
 R (aX false 1 3 Dn) fun mR=>
 R (binP false .gtr iH mR) fun gQ=>
 some gQ
)) fun gj=>
 R (gD gj false (
 R (a3 4 (I ls 0) (I ls 1)) fun MO=>
 R (aX false 1 2 MO) fun jL=>
 R (zB n [jL]) fun j4=>
 R (unP .not j4) fun g5=>
 some g5
)) fun g5=>
 R (gD g4 true (
 R (pickP gj (ar true) g5) fun hi=>
 some hi
)) fun h3=>
 R (gD h3 false (
 R (a3 4 (I ls 0) (I ls 1)) fun MX=>
 R (aX false 1 3 MX) fun wP=>
 R (zB n [wP]) fun pG=>
 R (unP .not pG) fun lU=>
 some lU
)) fun lU=>
 R (gD g4 true (
 R (pickP h3 (ar true) lU) fun ie=>
 some ie
)) fun iK=>
 R (gD iK false (
 R (a3 4 (I ls 0) (I ls 1)) fun MK=>
 R (aX true 4 0 MK) fun wQ=>
 R (xa n [wQ]) fun r7=>
 R (binP false .gtr r7 (J 64)) fun mT=>
 some mT
)) fun mT=>
 R (gD g4 true (
 R (pickP iK (ar true) mT) fun Dd=>
 some Dd
)) fun Dd=>
 R (pickP g4 Dd (ar false)) fun pH=>
 oif pH (
 aU (
 aU (
 aU (
 some (D.aL [I ls 1,J 2])
)
)
)
) (
 some (.inl [I ls 0,I ls 1])
)
)
)
)<|a6 fun ls=>
 R (binP false .add (I ls 1) (J 1)) fun v11=>
 some (.inl [I ls 0,v11])
) (
 aU (
 some (.inl [])
)
)
def agK(n:Nat)(ab:D):Option D:=
 R (
 bo (xb n) n [ab,J 0]
)<|a6 fun ls=>
 some (D.aL [J 0,J 0])
def Dy(n:Nat):List D→Option D
 |[ab]=>agK n ab
 |_=>none
def HK(n:Nat)(ls:List D):Option (List D⊕(List D⊕D)):=
 R (binP false .gtr (I ls 0) (J 1)) fun j2=>
 oif j2 (
 R (binP false .quo (I ls 0) (J 2)) fun bZ=>
 R (binP false .rem (I ls 0) (J 2)) fun bR=>
 R (binP false .add bZ bR) fun v10=>
 R (binP false .add (I ls 1) (J 1)) fun bX=>
 some (.inl [v10,bX])
) (
 aU (
 some (.inl [I ls 1])
)
)
def Ui(n:Nat)(ab:D):Option D:=
 R (
 bo (HK n) n [ab,J 0]
)<|a6 fun ls=>
 some (I ls 0)
def Dz(n:Nat):List D→Option D
 |[ab]=>Ui n ab
 |_=>none
def HL(n:Nat)(ls:List D):Option (List D⊕(List D⊕D)):=
 R (lenP (I ls 2)) fun cf=>
 R (binP false .lss (I ls 1) cf) fun bR=>
 oif bR (
 R (a3 4 (I ls 2) (I ls 1)) fun pF=>
 R (aX true 4 0 pF) fun bC=>
 R (xa n [bC]) fun bF=>
 R (Dz n [bF]) fun b7=>
 R (binP false .add (I ls 0) b7) fun v20=>
 R (binP false .add (I ls 1) (J 1)) fun v11=>
 some (.inl [v20,v11,I ls 2,I ls 3,I ls 4,I ls 5,I ls 6,I ls 7,I ls 8,I ls 9])
) (
 aU (
 some (.inl [I ls 0])
)
)
def Uj(n:Nat)(ab:D):Option D:=
 aw (aK 8 ab)<|
 R (
 bo (HL n) n [J 0,J 0,aa ab 0,aa ab 1,aa ab 2,aa ab 3,aa ab 4,aa ab 5,aa ab 6,aa ab 7]
)<|a6 fun ls=>
 some (I ls 0)
def DA(n:Nat):List D→Option D
 |[ab]=>Uj n ab
 |_=>none
def DB(n:Nat)(ls:List D):Option (List D⊕(List D⊕D)):=
 R (lenP (I ls 2)) fun bR=>
 R (binP false .lss (I ls 1) bR) fun v10=>
 oif v10 (
 R (a3 4 (I ls 2) (I ls 1)) fun pF=>
 R (aX false 1 0 pF) fun bF=>
 R (binP false .eql bF (I ls 0)) fun v20=>
 oif v20 (
 aU (
 aU (
 some (I ls 1)
)
)
) (
 R (binP false .add (I ls 1) (J 1)) fun bX=>
 some (.inl [I ls 0,bX,I ls 2,I ls 3,I ls 4,I ls 5,I ls 6,I ls 7,I ls 8,I ls 9])
)
) (
 aU (
 some (.inl [])
)
)
def Uk(n:Nat)(ab:D)(ag:D):Option D:=
 aw (aK 8 ab)<|
 R (
 bo (DB n) n [ag,J 0,aa ab 0,aa ab 1,aa ab 2,aa ab 3,aa ab 4,aa ab 5,aa ab 6,aa ab 7]
)<|a6 fun ls=>
 some (J (-1))
def xc(n:Nat):List D→Option D
 |[ab,ag]=>Uk n ab ag
 |_=>none
def DC(n:Nat)(ls:List D):Option (List D⊕(List D⊕D)):=
 R (lenP (I ls 3)) fun bR=>
 R (binP false .lss (I ls 1) bR) fun v10=>
 oif v10 (
 R (a3 5 (I ls 3) (I ls 1)) fun pF=>
 R (aX false 1 0 pF) fun bF=>
 R (binP false .eql bF (I ls 0)) fun v20=>
 oif v20 (
 aU (
 aU (
 some (I ls 1)
)
)
) (
 R (binP false .add (I ls 1) (J 1)) fun bX=>
 some (.inl [I ls 0,bX,I ls 2,I ls 3,I ls 4,I ls 5,I ls 6,I ls 7,I ls 8,I ls 9])
)
) (
 aU (
 some (.inl [])
)
)
def Ul(n:Nat)(ab:D)(ag:D):Option D:=
 aw (aK 8 ab)<|
 R (
 bo (DC n) n [ag,J 0,aa ab 0,aa ab 1,aa ab 2,aa ab 3,aa ab 4,aa ab 5,aa ab 6,aa ab 7]
)<|a6 fun ls=>
 some (J (-1))
def xd(n:Nat):List D→Option D
 |[ab,ag]=>Ul n ab ag
 |_=>none
def DD(n:Nat)(ls:List D):Option (List D⊕(List D⊕D)):=
 R (lenP (I ls 0)) fun cf=>
 R (binP false .lss (I ls 2) cf) fun bR=>
 oif bR (
 R (a3 1 (I ls 0) (I ls 2)) fun eQ=>
 R (aX false 1 0 eQ) fun bf=>
 R (binP false .eql bf (I ls 1)) fun bC=>
 oif bC (
 aU (
 aU (
 some (ar true)
)
)
) (
 R (binP false .add (I ls 2) (J 1)) fun v11=>
 some (.inl [I ls 0,I ls 1,v11])
)
) (
 aU (
 some (.inl [])
)
)
def Um(n:Nat)(ab:D)(ag:D):Option D:=
 R (
 bo (DD n) n [ab,ag,J 0]
)<|a6 fun ls=>
 some (ar false)
def DE(n:Nat):List D→Option D
 |[ab,ag]=>Um n ab ag
 |_=>none
def zC(n:Nat)(ls:List D):Option (List D⊕(List D⊕D)):=
 R (lenP (I ls 0)) fun bf=>
 R (binP false .lss (I ls 3) bf) fun bE=>
 oif bE (
 R (unP .not (I ls 2)) fun v20=>
 R (gD v20 true (
 R (a3 1 (I ls 0) (I ls 3)) fun Dm=>
 R (aX false 1 0 Dm) fun cF=>
 R (binP false .gtr cF (I ls 1)) fun cA=>
 some cA
)) fun cA=>
 R (pickP v20 cA (ar false)) fun cp=>
 R (
 oif cp (
 aw (bD (I ls 1))<|
 aw (c2 (((esD (I ls 4))).length+([[I ls 1]]).length) 16)<|
 some (.inl [I ls 0,I ls 1,ar true,I ls 3,D.aE 1 ((esD (I ls 4))++[[I ls 1]])])
) (
 some (.inl [I ls 0,I ls 1,I ls 2,I ls 3,D.aE 1 (esD (I ls 4))])
)
)<|a6 fun ls=>
 R (a3 1 (I ls 0) (I ls 3)) fun wx=>
 R (aX false 1 0 wx) fun dk=>
 aw (bD dk)<|
 aw (c2 (((esD (I ls 4))).length+([[dk]]).length) 16)<|
 R (binP false .add (I ls 3) (J 1)) fun bF=>
 some (.inl [I ls 0,I ls 1,I ls 2,bF,D.aE 1 ((esD (I ls 4))++[[dk]])])
) (
 aU (
 some (.inl [I ls 1,I ls 2,D.aE 1 (esD (I ls 4))])
)
)
def HM(n:Nat)(ab:D)(ag:D):Option D:=
 R (DE n [ab,ag]) fun v10=>
 oif v10 (
 some ab
) (
 R (
 bo (zC n) n [ab,ag,ar false,J 0,D.aE 1 ([]:List (List D))]
)<|a6 fun ls=>
 R (unP .not (I ls 1)) fun fl=>
 R (
 oif fl (
 aw (bD (I ls 0))<|
 aw (c2 (((esD (I ls 2))).length+([[I ls 0]]).length) 16)<|
 some (.inl [D.aE 1 ((esD (I ls 2))++[[I ls 0]])])
) (
 some (.inl [D.aE 1 (esD (I ls 2))])
)
)<|a6 fun ls=>
 some (D.aE 1 (esD (I ls 0)))
)
def xe(n:Nat):List D→Option D
 |[ab,ag]=>HM n ab ag
 |_=>none
def HN(xf:List D→Option D)(n:Nat)(ls:List D):Option (List D⊕(List D⊕D)):=
 R (lenP (I ls 6)) fun b7=>
 R (binP false .lss (I ls 2) b7) fun v20=>
 oif v20 (
 R (a3 4 (I ls 6) (I ls 2)) fun Mx=>
 R (aX true 4 0 Mx) fun cA=>
 R (xf [cA,I ls 0,I ls 1]) fun v30=>
 R (binP false .add (I ls 2) (J 1)) fun bU=>
 some (.inl [I ls 0,v30,bU,I ls 3,I ls 4,I ls 5,I ls 6])
) (
 aU (
 some (.inl [I ls 1])
)
)
def DF(xf:List D→Option D)(n:Nat)(ab:D)(ag:D)(aS:D):Option D:=
 aw (aK 4 ab)<|
 R (binP false .eql (aa ab 0) ag) fun v11=>
 R (
 oif v11 (
 R (xe n [aS,aa ab 2]) fun bf=>
 some (.inl [ag,bf,aa ab 0,aa ab 1,aa ab 2,aa ab 3])
) (
 some (.inl [ag,aS,aa ab 0,aa ab 1,aa ab 2,aa ab 3])
)
)<|a6 fun ls=>
 R (
 bo (HN xf n) n [I ls 0,I ls 1,J 0,I ls 2,I ls 3,I ls 4,I ls 5]
)<|a6 fun ls=>
 some (I ls 0)
def pP:Nat→List D→Option D
 |0,_=>none
 |n+1,aD=>match aD with
  |[ab,ag,aS]=>DF (pP n) n ab ag aS
  |_=>none
def Un(n:Nat)(ab:D):Option D:=
 aw (aK 4 ab)<|
 R (pP n [D.agg [aa ab 0,aa ab 1,aa ab 2,aa ab 3],J 3,D.val (.slice none 0 0)]) fun j2=>
 R (pP n [D.agg [aa ab 0,aa ab 1,aa ab 2,aa ab 3],J 4,D.val (.slice none 0 0)]) fun bZ=>
 some (D.aL [j2,bZ])
def ss(n:Nat):List D→Option D
 |[ab]=>Un n ab
 |_=>none
def xg(n:Nat)(ls:List D):Option (List D⊕(List D⊕(List D⊕(List D⊕(List D⊕D))))):=
 R (lenP (I ls 1)) fun ey=>
 R (binP false .lss (I ls 2) ey) fun dr=>
 oif dr (
 R (
 R (a3 1 (I ls 1) (I ls 2)) fun agL=>
 R (aX false 1 0 agL) fun iI=>
 R (xd n [D.agg [I ls 3,I ls 4,I ls 5,I ls 6,I ls 7,I ls 8,I ls 9,I ls 10],iI]) fun gi=>
 R (binP false .geq gi (J 0)) fun cV=>
 R (gD cV true (
 R (ct ((esD (I ls 11))).length gi) fun agM=>
 R (((esD (I ls 11)))[agM]?) fun agN=>
 R (aX false 1 0 agN) fun e7=>
 R (unP .not e7) fun eX=>
 some eX
)) fun eX=>
 R (pickP cV eX (ar false)) fun h2=>
 R (
 oif h2 (
 R (ct ((esD (I ls 11))).length gi) fun Uo=>
 R (((esD (I ls 11)))[Uo]?) fun lg=>
 aw (bD gi)<|
 aw (c2 (((esD (I ls 12))).length+([[gi]]).length) 8)<|
 some (.inl [I ls 0,I ls 1,I ls 2,I ls 3,I ls 4,I ls 5,I ls 6,I ls 7,I ls 8,I ls 9,I ls 10,D.aE 1 (((esD (I ls 11))).set Uo (la lg 0 [ar true])),D.aE 1 ((esD (I ls 12))++[[gi]])])
) (
 some (.inl [I ls 0,I ls 1,I ls 2,I ls 3,I ls 4,I ls 5,I ls 6,I ls 7,I ls 8,I ls 9,I ls 10,D.aE 1 (esD (I ls 11)),D.aE 1 (esD (I ls 12))])
)
)<|a6 fun ls=>
 some (.inl [I ls 0,I ls 1,I ls 2,I ls 3,I ls 4,I ls 5,I ls 6,I ls 7,I ls 8,I ls 9,I ls 10,D.aE 1 (esD (I ls 11)),D.aE 1 (esD (I ls 12))])
)<|a6 fun ls=>
 R (binP false .add (I ls 2) (J 1)) fun cY=>
 some (.inl [I ls 0,I ls 1,cY,I ls 3,I ls 4,I ls 5,I ls 6,I ls 7,I ls 8,I ls 9,I ls 10,D.aE 1 (esD (I ls 11)),D.aE 1 (esD (I ls 12))])
) (
 aU (
 some (.inl [I ls 0,I ls 3,I ls 4,I ls 5,I ls 6,I ls 7,I ls 8,I ls 9,I ls 10,D.aE 1 (esD (I ls 11)),D.aE 1 (esD (I ls 12))])
)
)
def HO(n:Nat)(ls:List D):Option (List D⊕(List D⊕D)):=
 R (binP false .lss (I ls 0) (J ((esD (I ls 10))).length)) fun bH=>
 oif bH (
 R (
 R (ct ((esD (I ls 10))).length (I ls 0)) fun agO=>
 R (((esD (I ls 10)))[agO]?) fun agP=>
 R (aX false 1 0 agP) fun v30=>
 R (a3 5 (I ls 2) v30) fun sk=>
 R (aX true 4 1 sk) fun dg=>
 R (ss n [dg]) fun cZ=>
 R (extP 0 cZ) fun e2=>
 R (extP 1 cZ) fun dh=>
 R (
 bo (xg n) n [I ls 0,e2,J 0,I ls 1,I ls 2,I ls 3,I ls 4,I ls 5,I ls 6,I ls 7,I ls 8,D.aE 1 (esD (I ls 9)),D.aE 1 (esD (I ls 10))]
)<|a6 fun ls=>
 some (.inl [I ls 0,I ls 1,I ls 2,I ls 3,I ls 4,I ls 5,I ls 6,I ls 7,I ls 8,D.aE 1 (esD (I ls 9)),D.aE 1 (esD (I ls 10))])
)<|a6 fun ls=>
 R (binP false .add (I ls 0) (J 1)) fun b4=>
 some (.inl [b4,I ls 1,I ls 2,I ls 3,I ls 4,I ls 5,I ls 6,I ls 7,I ls 8,D.aE 1 (esD (I ls 9)),D.aE 1 (esD (I ls 10))])
) (
 aU (
 some (.inl [D.aE 1 (esD (I ls 9))])
)
)
def Up(n:Nat)(ab:D)(ag:D):Option D:=
 aw (aK 8 ab)<|
 R (lenP (aa ab 1)) fun bq=>
 R (makeP 1 bq bq) fun agQ=>
 aw (bD ag)<|
 R (
 bo (HO n) n [J 0,aa ab 0,aa ab 1,aa ab 2,aa ab 3,aa ab 4,aa ab 5,aa ab 6,aa ab 7,D.aE 1 (List.replicate agQ [ar false]),D.aE 1 [[ag]]]
)<|a6 fun ls=>
 some (D.aE 1 (esD (I ls 0)))
def DG(n:Nat):List D→Option D
 |[ab,ag]=>Up n ab ag
 |_=>none
def M8(n:Nat)(ab:D):Option D:=
 R (
 R (binP false .eql ab (J 1)) fun v6=>
 R (
 oif v6 (
 some (.inl [ab,ab,v6])
) (
 R (binP false .eql ab (J 2)) fun bZ=>
 R (
 oif bZ (
 some (.inl [ab,ab,bZ])
) (
 R (binP false .eql ab (J 3)) fun cf=>
 R (
 oif cf (
 some (.inl [ab,ab,cf])
) (
 R (binP false .eql ab (J 4)) fun bR=>
 some (.inl [ab,ab,bR])
)
)<|a6 fun ls=>
 some (.inl [I ls 0,I ls 1,I ls 2])
)
)<|a6 fun ls=>
 some (.inl [I ls 0,I ls 1,I ls 2])
)
)<|a6 fun ls=>
 oif (I ls 2) (
 aU (
 some (D.aL [J 0,J 0])
)
) (
 R (binP false .eql (I ls 1) (J 5)) fun v11=>
 oif v11 (
 aU (
 some (D.aL [J 1,J 1])
)
) (
 R (binP false .eql (I ls 1) (J 6)) fun cd=>
 R (
 oif cd (
 some (.inl [I ls 0,I ls 1,cd])
) (
 R (binP false .eql (I ls 1) (J 7)) fun bq=>
 some (.inl [I ls 0,I ls 1,bq])
)
)<|a6 fun ls=>
 oif (I ls 2) (
 aU (
 some (D.aL [J 1,J 64])
)
) (
 R (binP false .eql (I ls 1) (J 18)) fun bE=>
 oif bE (
 aU (
 some (D.aL [J 3,J 3])
)
) (
 some (.inl [I ls 0])
)
)
)
)
)<|a6 fun ls=>
 R (binP false .lss (I ls 0) (J 1)) fun bF=>
 R (gD bF false (
 R (binP false .gtr (I ls 0) (J 18)) fun bH=>
 some bH
)) fun bH=>
 R (pickP bF (ar true) bH) fun bU=>
 oif bU (
 some (D.aL [J (-1),J (-1)])
) (
 some (D.aL [J 2,J 2])
)
def zD(n:Nat):List D→Option D
 |[ab]=>M8 n ab
 |_=>none
def Uq(n:Nat)(ab:D)(ag:D):Option D:=
 aw (aK 4 ab)<|
 R (binP false .gtr ag (J 64)) fun v11=>
 oif v11 (
 some (J 17)
) (
 R (zD n [aa ab 0]) fun bf=>
 R (extP 0 bf) fun bE=>
 R (extP 1 bf) fun bC=>
 R (binP false .lss bE (J 0)) fun b7=>
 oif b7 (
 some (J 11)
) (
 R (binP false .eql (aa ab 0) (J 1)) fun bU=>
 R (
 oif bU (
 some (.inl [bE,bC,J (-255),J 255,aa ab 0,aa ab 1,aa ab 2,aa ab 3])
) (
 some (.inl [bE,bC,J 0,J 0,aa ab 0,aa ab 1,aa ab 2,aa ab 3])
)
)<|a6 fun ls=>
 R (binP false .eql (I ls 4) (J 2)) fun cF=>
 R (
 oif cF (
 some (.inl [I ls 0,I ls 1,I ls 2,J 1,I ls 4,I ls 5,I ls 6,I ls 7])
) (
 some (.inl [I ls 0,I ls 1,I ls 2,I ls 3,I ls 4,I ls 5,I ls 6,I ls 7])
)
)<|a6 fun ls=>
 R (binP false .lss (I ls 5) (I ls 2)) fun cB=>
 R (gD cB false (
 R (binP false .gtr (I ls 5) (I ls 3)) fun cZ=>
 some cZ
)) fun cZ=>
 R (pickP cB (ar true) cZ) fun e2=>
 oif e2 (
 some (J 2)
) (
 R (binP false .eql (I ls 4) (J 3)) fun c8=>
 R (gD c8 false (
 R (binP false .eql (I ls 4) (J 4)) fun cY=>
 some cY
)) fun cY=>
 R (pickP c8 (ar true) cY) fun dK=>
 R (gD dK true (
 R (nq (I ls 6)) fun gi=>
 R (binP false .lss gi (J 1)) fun ei=>
 some ei
)) fun cV=>
 R (gD cV false (
 R (nq (I ls 6)) fun hH=>
 R (binP false .gtr hH (J 24)) fun iG=>
 some iG
)) fun iG=>
 R (gD dK true (
 R (pickP cV (ar true) iG) fun e7=>
 some e7
)) fun e7=>
 R (pickP dK e7 (ar false)) fun eX=>
 R (gD eX false (
 R (unP .not dK) fun j3=>
 some j3
)) fun eG=>
 R (gD eG true (
 R (binP false .neq (I ls 6) (aI ⟨#[]⟩)) fun k0=>
 some k0
)) fun k0=>
 R (gD eX false (
 R (pickP eG k0 (ar false)) fun g4=>
 some g4
)) fun g4=>
 R (pickP eX (ar true) g4) fun jj=>
 oif jj (
 some (J 12)
) (
 R (lenP (I ls 7)) fun fB=>
 R (binP false .lss fB (I ls 0)) fun iH=>
 R (gD iH false (
 R (lenP (I ls 7)) fun gv=>
 R (binP false .gtr gv (I ls 1)) fun gQ=>
 some gQ
)) fun gQ=>
 R (pickP iH (ar true) gQ) fun gj=>
 oif gj (
 some (J 3)
) (
 some (J 0)
)
)
)
)
)
def xh(n:Nat):List D→Option D
 |[ab,ag]=>Uq n ab ag
 |_=>none
def HP(xi:List D→Option D)(n:Nat)(ls:List D):Option (List D⊕(List D⊕D)):=
 R (lenP (I ls 6)) fun cA=>
 R (binP false .lss (I ls 2) cA) fun cp=>
 oif cp (
 R (a3 4 (I ls 6) (I ls 2)) fun sq=>
 R (aX true 4 0 sq) fun dh=>
 R (binP false .add (I ls 0) (J 1)) fun c8=>
 R (xi [dh,c8,I ls 1]) fun dr=>
 R (extP 0 dr) fun fl=>
 R (extP 1 dr) fun cY=>
 R (binP false .neq fl (J 0)) fun dH=>
 oif dH (
 aU (
 aU (
 some (D.aL [fl,cY])
)
)
) (
 R (binP false .add (I ls 2) (J 1)) fun v30=>
 some (.inl [I ls 0,cY,v30,I ls 3,I ls 4,I ls 5,I ls 6])
)
) (
 aU (
 some (.inl [I ls 1])
)
)
def M9(xi:List D→Option D)(n:Nat)(ab:D)(ag:D)(aS:D):Option D:=
 aw (aK 4 ab)<|
 R (binP false .add aS (J 1)) fun cd=>
 R (xh n [D.agg [aa ab 0,aa ab 1,aa ab 2,aa ab 3],ag]) fun bE=>
 R (binP false .neq bE (J 0)) fun bF=>
 oif bF (
 some (D.aL [bE,cd])
) (
 R (binP false .gtr cd (J 4096)) fun bU=>
 oif bU (
 some (D.aL [J 4,cd])
) (
 R (
 bo (HP xi n) n [ag,cd,J 0,aa ab 0,aa ab 1,aa ab 2,aa ab 3]
)<|a6 fun ls=>
 some (D.aL [J 0,I ls 0])
)
)
def q1:Nat→List D→Option D
 |0,_=>none
 |n+1,aD=>match aD with
  |[ab,ag,aS]=>M9 (q1 n) n ab ag aS
  |_=>none
def Ur(n:Nat)(ab:D):Option D:=
 aw (aK 4 ab)<|
 R (q1 n [D.agg [aa ab 0,aa ab 1,aa ab 2,aa ab 3],J 1,J 0]) fun bZ=>
 R (extP 0 bZ) fun cf=>
 R (extP 1 bZ) fun bR=>
 some cf
def su(n:Nat):List D→Option D
 |[ab]=>Ur n ab
 |_=>none
def DH(n:Nat)(ls:List D):Option (List D⊕(List D⊕D)):=
 R (lenP (I ls 0)) fun cf=>
 R (binP false .lss (I ls 2) cf) fun bR=>
 oif bR (
 R (a3 5 (I ls 0) (I ls 2)) fun eQ=>
 R (aX false 1 0 eQ) fun bE=>
 R (binP false .eql bE (I ls 1)) fun bF=>
 oif bF (
 aU (
 aU (
 some (I ls 2)
)
)
) (
 R (binP false .add (I ls 2) (J 1)) fun v11=>
 some (.inl [I ls 0,I ls 1,v11])
)
) (
 aU (
 some (.inl [])
)
)
def Us(n:Nat)(ab:D)(ag:D):Option D:=
 R (
 bo (DH n) n [ab,ag,J 0]
)<|a6 fun ls=>
 some (J (-1))
def tY(n:Nat):List D→Option D
 |[ab,ag]=>Us n ab ag
 |_=>none
def DI(n:Nat)(ls:List D):Option (List D⊕(List D⊕D)):=
 R (lenP (I ls 1)) fun bF=>
 R (binP false .lss (I ls 2) bF) fun b7=>
 oif b7 (
 R (
 R (a3 1 (I ls 1) (I ls 2)) fun B0=>
 R (aX false 1 0 B0) fun ch=>
 R (tY n [I ls 0,ch]) fun cA=>
 R (binP false .geq cA (J 0)) fun cB=>
 R (
 oif cB (
 aw (bD cA)<|
 aw (c2 (((esD (I ls 3))).length+([[cA]]).length) 8)<|
 some (.inl [I ls 0,I ls 1,I ls 2,D.aE 1 ((esD (I ls 3))++[[cA]])])
) (
 some (.inl [I ls 0,I ls 1,I ls 2,D.aE 1 (esD (I ls 3))])
)
)<|a6 fun ls=>
 some (.inl [I ls 0,I ls 1,I ls 2,D.aE 1 (esD (I ls 3))])
)<|a6 fun ls=>
 R (binP false .add (I ls 2) (J 1)) fun bH=>
 some (.inl [I ls 0,I ls 1,bH,D.aE 1 (esD (I ls 3))])
) (
 aU (
 some (.inl [D.aE 1 (esD (I ls 3))])
)
)
def Ut(n:Nat)(ab:D)(ag:D):Option D:=
 aw (aK 4 ab)<|
 R (ss n [D.agg [aa ab 0,aa ab 1,aa ab 2,aa ab 3]]) fun cd=>
 R (extP 0 cd) fun bq=>
 R (extP 1 cd) fun bf=>
 R (
 bo (DI n) n [ag,bq,J 0,D.aE 1 ([]:List (List D))]
)<|a6 fun ls=>
 some (D.aE 1 (esD (I ls 0)))
def DJ(n:Nat):List D→Option D
 |[ab,ag]=>Ut n ab ag
 |_=>none
def zE(n:Nat)(ls:List D):Option (List D⊕(List D⊕D)):=
 R (lenP (I ls 0)) fun cf=>
 R (binP false .lss (I ls 2) cf) fun bR=>
 oif bR (
 R (a3 1 (I ls 0) (I ls 2)) fun eQ=>
 R (aX false 1 0 eQ) fun bf=>
 R (binP false .eql bf (I ls 1)) fun bC=>
 oif bC (
 aU (
 aU (
 some (ar true)
)
)
) (
 R (binP false .add (I ls 2) (J 1)) fun v11=>
 some (.inl [I ls 0,I ls 1,v11])
)
) (
 aU (
 some (.inl [])
)
)
def Na(n:Nat)(ab:D)(ag:D):Option D:=
 R (
 bo (zE n) n [ab,ag,J 0]
)<|a6 fun ls=>
 some (ar false)
def tZ(n:Nat):List D→Option D
 |[ab,ag]=>Na n ab ag
 |_=>none
def DK(xj:List D→Option D)(n:Nat)(ls:List D):Option (List D⊕(List D⊕D)):=
 R (lenP (I ls 2)) fun bq=>
 R (binP false .lss (I ls 3) bq) fun bf=>
 oif bf (
 R (
 R (a3 1 (I ls 2) (I ls 3)) fun sj=>
 R (aX false 1 0 sj) fun bU=>
 R (tZ n [I ls 1,bU]) fun b4=>
 R (unP .not b4) fun cv=>
 R (
 oif cv (
 R (a3 1 (I ls 2) (I ls 3)) fun r6=>
 R (aX false 1 0 r6) fun cB=>
 R (a3 5 (I ls 0) cB) fun Nb=>
 R (aX true 4 1 Nb) fun dt=>
 R (a3 1 (I ls 2) (I ls 3)) fun nC=>
 R (aX false 1 0 nC) fun dr=>
 R (elP (I ls 1)) fun DL=>
 aw (decide (DL.1=1∨DL.2=[])&&decide (0<1))<|
 aw (c2 ((([]:List (List D))).length+(DL.2).length) 8)<|
 aw (bD dr)<|
 aw (c2 (((([]:List (List D))++DL.2)).length+([[dr]]).length) 8)<|
 R (xj [dt,I ls 0,D.aE 1 ((([]:List (List D))++DL.2)++[[dr]])]) fun dK=>
 some (.inl [I ls 0,dK,I ls 2,I ls 3])
) (
 some (.inl [I ls 0,I ls 1,I ls 2,I ls 3])
)
)<|a6 fun ls=>
 some (.inl [I ls 0,I ls 1,I ls 2,I ls 3])
)<|a6 fun ls=>
 R (binP false .add (I ls 3) (J 1)) fun bC=>
 some (.inl [I ls 0,I ls 1,I ls 2,bC])
) (
 aU (
 some (.inl [I ls 1])
)
)
def HQ(xj:List D→Option D)(n:Nat)(ab:D)(ag:D)(aS:D):Option D:=
 aw (aK 4 ab)<|
 R (DJ n [D.agg [aa ab 0,aa ab 1,aa ab 2,aa ab 3],ag]) fun v11=>
 R (
 bo (DK xj n) n [ag,aS,v11,J 0]
)<|a6 fun ls=>
 some (I ls 0)
def ow:Nat→List D→Option D
 |0,_=>none
 |n+1,aD=>match aD with
  |[ab,ag,aS]=>HQ (ow n) n ab ag aS
  |_=>none
def Uu(n:Nat)(ab:D)(ag:D):Option D:=
 R (a3 5 ab ag) fun cP=>
 R (aX true 4 1 cP) fun bR=>
 R (ow n [bR,ab,D.val (.slice none 0 0)]) fun v11=>
 R (tZ n [v11,ag]) fun cd=>
 some cd
def DM(n:Nat):List D→Option D
 |[ab,ag]=>Uu n ab ag
 |_=>none
def DN(ua:List D→Option D)(n:Nat)(ls:List D):Option (List D⊕(List D⊕D)):=
 R (lenP (I ls 7)) fun h2=>
 R (binP false .lss (I ls 3) h2) fun eW=>
 oif eW (
 R (a3 4 (I ls 7) (I ls 3)) fun w3=>
 R (aX true 4 0 w3) fun ee=>
 R (binP false .add (I ls 1) (J 1)) fun ep=>
 R (ua [ee,I ls 0,ep,I ls 2]) fun om=>
 R (extP 0 om) fun gk=>
 R (extP 1 om) fun gl=>
 R (extP 2 om) fun gv=>
 aw (aK 4 gk)<|
 R (binP false .neq gv (J 0)) fun gQ=>
 oif gQ (
 aU (
 aU (
 some (D.aL [D.agg [J 0,J 0,aI ⟨#[]⟩,D.val (.slice none 0 0)],gl,gv])
)
)
) (
 aw (aK 4 (D.agg [aa gk 0,aa gk 1,aa gk 2,aa gk 3]))<|
 aw (c2 (((esD (I ls 12))).length+([[aa gk 0,aa gk 1,aa gk 2,aa gk 3]]).length) 56)<|
 R (binP false .add (I ls 3) (J 1)) fun eG=>
 some (.inl [I ls 0,I ls 1,gl,eG,I ls 4,I ls 5,I ls 6,I ls 7,I ls 8,I ls 9,I ls 10,I ls 11,D.aE 4 ((esD (I ls 12))++[[aa gk 0,aa gk 1,aa gk 2,aa gk 3]])])
)
) (
 aU (
 some (.inl [I ls 2,I ls 4,I ls 5,I ls 6,I ls 7,I ls 8,I ls 9,I ls 10,I ls 11,D.aE 4 (esD (I ls 12))])
)
)
def pQ(ua:List D→Option D)(n:Nat)(ab:D)(ag:D)(aS:D)(bN:D):Option D:=
 aw (aK 4 ab)<|
 R (binP false .eql (aa ab 0) (J 3)) fun v20=>
 R (
 oif v20 (
 R (tY n [ag,aa ab 2]) fun cv=>
 R (binP false .geq cv (J 0)) fun ch=>
 oif ch (
 R (a3 5 ag cv) fun sg=>
 R (aX true 4 1 sg) fun dB=>
 R (ua [dB,ag,aS,bN]) fun e2=>
 R (extP 0 e2) fun dh=>
 R (extP 1 e2) fun dk=>
 R (extP 2 e2) fun c8=>
 aw (aK 4 dh)<|
 aU (
 some (D.aL [D.agg [aa dh 0,aa dh 1,aa dh 2,aa dh 3],dk,c8])
)
) (
 some (.inl [ag,aS,bN,aa ab 0,aa ab 1,aa ab 2,aa ab 3,J 0,J 0,aI ⟨#[]⟩,D.val (.slice none 0 0)])
)
) (
 some (.inl [ag,aS,bN,aa ab 0,aa ab 1,aa ab 2,aa ab 3,J 0,J 0,aI ⟨#[]⟩,D.val (.slice none 0 0)])
)
)<|a6 fun ls=>
 R (binP false .add (I ls 2) (J 1)) fun dr=>
 R (xh n [D.agg [I ls 3,I ls 4,I ls 5,I ls 6],I ls 1]) fun dK=>
 R (binP false .neq dK (J 0)) fun cR=>
 oif cR (
 some (D.aL [D.agg [J 0,J 0,aI ⟨#[]⟩,D.val (.slice none 0 0)],dr,dK])
) (
 R (binP false .gtr dr (J 4096)) fun cV=>
 oif cV (
 some (D.aL [D.agg [J 0,J 0,aI ⟨#[]⟩,D.val (.slice none 0 0)],dr,J 4])
) (
 R (
 bo (DN ua n) n [I ls 0,I ls 1,dr,J 0,I ls 3,I ls 4,I ls 5,I ls 6,I ls 7,I ls 8,I ls 9,I ls 10,D.aE 4 ([]:List (List D))]
)<|a6 fun ls=>
 aw (bD (I ls 1))<|
 aw (bD (I ls 2))<|
 aw (bD (I ls 3))<|
 some (D.aL [D.agg [I ls 1,I ls 2,I ls 3,D.aE 4 (esD (I ls 9))],I ls 0,J 0])
)
)
def pR:Nat→List D→Option D
 |0,_=>none
 |n+1,aD=>match aD with
  |[ab,ag,aS,bN]=>pQ (pR n) n ab ag aS bN
  |_=>none
def DO(n:Nat)(ls:List D):Option (List D⊕(List D⊕D)):=
 R (lenP (I ls 1)) fun b4=>
 R (binP false .lss (I ls 2) b4) fun cv=>
 oif cv (
 R (a3 1 (I ls 1) (I ls 2)) fun Nb=>
 R (aX false 1 0 Nb) fun dB=>
 R (DM n [I ls 0,dB]) fun dt=>
 oif dt (
 aU (
 aU (
 some (D.aL [D.agg [J 0,J 0,aI ⟨#[]⟩,D.val (.slice none 0 0)],J 14])
)
)
) (
 R (binP false .add (I ls 2) (J 1)) fun ch=>
 some (.inl [I ls 0,I ls 1,ch,I ls 3,I ls 4,I ls 5,I ls 6,I ls 7,I ls 8,I ls 9,I ls 10])
)
) (
 aU (
 some (.inl [I ls 0,I ls 3,I ls 4,I ls 5,I ls 6,I ls 7,I ls 8,I ls 9,I ls 10])
)
)
def DP(n:Nat)(ab:D)(ag:D):Option D:=
 aw (aK 4 ab)<|
 R (su n [D.agg [aa ab 0,aa ab 1,aa ab 2,aa ab 3]]) fun cd=>
 R (binP false .neq cd (J 0)) fun bf=>
 oif bf (
 some (D.aL [D.agg [J 0,J 0,aI ⟨#[]⟩,D.val (.slice none 0 0)],cd])
) (
 R (ow n [D.agg [aa ab 0,aa ab 1,aa ab 2,aa ab 3],ag,D.val (.slice none 0 0)]) fun v20=>
 R (
 bo (DO n) n [ag,v20,J 0,aa ab 0,aa ab 1,aa ab 2,aa ab 3,J 0,J 0,aI ⟨#[]⟩,D.val (.slice none 0 0)]
)<|a6 fun ls=>
 R (pR n [D.agg [I ls 1,I ls 2,I ls 3,I ls 4],I ls 0,J 1,J 0]) fun dk=>
 R (extP 0 dk) fun c8=>
 R (extP 1 dk) fun ey=>
 R (extP 2 dk) fun dr=>
 aw (aK 4 c8)<|
 aw (aK 4 (D.agg [aa c8 0,aa c8 1,aa c8 2,aa c8 3]))<|
 some (D.aL [D.agg [aa c8 0,aa c8 1,aa c8 2,aa c8 3],dr])
)
def kD(n:Nat):List D→Option D
 |[ab,ag]=>DP n ab ag
 |_=>none
def Uv(n:Nat)(ab:D)(ag:D):Option D:=
 R (unP .neg (J 1048576)) fun bR=>
 R (binP false .lss ab bR) fun v10=>
 R (gD v10 false (
 R (binP false .gtr ab (J 1048576)) fun bq=>
 some bq
)) fun bq=>
 R (pickP v10 (ar true) bq) fun bf=>
 R (gD bf false (
 R (unP .neg (J 1048576)) fun b7=>
 R (binP false .lss ag b7) fun v20=>
 some v20
)) fun v20=>
 R (pickP bf (ar true) v20) fun bH=>
 R (gD bH false (
 R (binP false .gtr ag (J 1048576)) fun cF=>
 some cF
)) fun cF=>
 R (pickP bH (ar true) cF) fun ch=>
 R (gD ch false (
 R (binP false .lss ag ab) fun v30=>
 some v30
)) fun v30=>
 R (pickP ch (ar true) v30) fun dB=>
 R (gD dB false (
 R (binP false .sub ag ab) fun e2=>
 R (binP false .gtr e2 (J 4096)) fun dh=>
 some dh
)) fun dh=>
 R (pickP dB (ar true) dh) fun dk=>
 oif dk (
 some (D.aL [D.agg [ar false,J 0,J 0],J 2])
) (
 aw (bD ab)<|
 aw (bD ag)<|
 aw (aK 3 (D.agg [ar false,ab,ag]))<|
 some (D.aL [D.agg [ar false,ab,ag],J 0])
)
def ox(n:Nat):List D→Option D
 |[ab,ag]=>Uv n ab ag
 |_=>none
def DQ(n:Nat)(ls:List D):Option (List D⊕(List D⊕D)):=
 R (lenP (I ls 0)) fun cf=>
 R (binP false .lss (I ls 2) cf) fun bR=>
 oif bR (
 R (a3 4 (I ls 0) (I ls 2)) fun eQ=>
 R (aX false 1 0 eQ) fun bE=>
 R (binP false .eql bE (I ls 1)) fun bF=>
 oif bF (
 aU (
 aU (
 some (I ls 2)
)
)
) (
 R (binP false .add (I ls 2) (J 1)) fun v11=>
 some (.inl [I ls 0,I ls 1,v11])
)
) (
 aU (
 some (.inl [])
)
)
def Uw(n:Nat)(ab:D)(ag:D):Option D:=
 R (
 bo (DQ n) n [ab,ag,J 0]
)<|a6 fun ls=>
 some (J (-1))
def xk(n:Nat):List D→Option D
 |[ab,ag]=>Uw n ab ag
 |_=>none
def DR(n:Nat)(ls:List D):Option (List D⊕(List D⊕D)):=
 R (lenP (I ls 0)) fun v6=>
 R (binP false .lss (I ls 1) v6) fun bZ=>
 oif bZ (
 R (a3 3 (I ls 0) (I ls 1)) fun agR=>
 R (aX false 1 0 agR) fun bq=>
 R (unP .not bq) fun bf=>
 oif bf (
 aU (
 aU (
 some (ar false)
)
)
) (
 R (binP false .add (I ls 1) (J 1)) fun bR=>
 some (.inl [I ls 0,bR])
)
) (
 aU (
 some (.inl [])
)
)
def Ux(n:Nat)(ab:D):Option D:=
 R (
 bo (DR n) n [ab,J 0]
)<|a6 fun ls=>
 some (ar true)
def DS(n:Nat):List D→Option D
 |[ab]=>Ux n ab
 |_=>none
def HR(n:Nat)(ls:List D):Option (List D⊕(List D⊕D)):=
 R (binP false .lss (I ls 2) (J 4)) fun c8=>
 oif c8 (
 R (ct ((esD (I ls 3))).length (I ls 2)) fun agS=>
 R (((esD (I ls 3)))[agS]?) fun agT=>
 R (aX false 1 0 agT) fun cR=>
 R (jz false [I ls 0,cR]) fun fL=>
 R (ct ((esD (I ls 3))).length (I ls 2)) fun agU=>
 R (((esD (I ls 3)))[agU]?) fun agV=>
 R (aX false 1 0 agV) fun fu=>
 R (jz true [I ls 1,fu]) fun e8=>
 R (binP false .add (I ls 2) (J 1)) fun dr=>
 some (.inl [fL,e8,dr,D.aE 1 (esD (I ls 3))])
) (
 aU (
 some (.inl [I ls 0,I ls 1])
)
)
def Uy(n:Nat)(ab:D)(ag:D):Option D:=
 aw (aK 3 ab)<|
 aw (aK 3 ag)<|
 R (binP false .mul (aa ab 1) (aa ag 1)) fun bq=>
 R (binP false .mul (aa ab 1) (aa ag 2)) fun b7=>
 R (binP false .mul (aa ab 2) (aa ag 1)) fun cv=>
 R (binP false .mul (aa ab 2) (aa ag 2)) fun cB=>
 aw (bD bq)<|
 aw (bD b7)<|
 aw (bD cv)<|
 aw (bD cB)<|
 R (ct ([[bq],[b7],[cv],[cB]]).length (J 0)) fun agW=>
 R (([[bq],[b7],[cv],[cB]])[agW]?) fun agX=>
 R (aX false 1 0 agX) fun dg=>
 R (ct ([[bq],[b7],[cv],[cB]]).length (J 0)) fun agY=>
 R (([[bq],[b7],[cv],[cB]])[agY]?) fun agZ=>
 R (aX false 1 0 agZ) fun dh=>
 R (
 bo (HR n) n [dg,dh,J 1,D.aE 1 [[bq],[b7],[cv],[cB]]]
)<|a6 fun ls=>
 some (D.aL [I ls 0,I ls 1])
def DT(n:Nat):List D→Option D
 |[ab,ag]=>Uy n ab ag
 |_=>none
def HS(n:Nat)(ab:D)(ag:D):Option D:=
 aw (aK 4 ab)<|
 R (
 R (binP false .eql (aa ab 0) (J 5)) fun bq=>
 R (
 oif bq (
 some (.inl [ag,J 13,aa ab 0,bq,aa ab 0,aa ab 1,aa ab 2,aa ab 3,ar false,J 0,J 0,ar true,J 0,J 0])
) (
 R (binP false .eql (aa ab 0) (J 6)) fun bf=>
 R (
 oif bf (
 some (.inl [ag,J 13,aa ab 0,bf,aa ab 0,aa ab 1,aa ab 2,aa ab 3,ar false,J 0,J 0,ar true,J 0,J 0])
) (
 R (binP false .eql (aa ab 0) (J 7)) fun bE=>
 R (
 oif bE (
 some (.inl [ag,J 13,aa ab 0,bE,aa ab 0,aa ab 1,aa ab 2,aa ab 3,ar false,J 0,J 0,ar true,J 0,J 0])
) (
 R (binP false .eql (aa ab 0) (J 8)) fun bC=>
 R (
 oif bC (
 some (.inl [ag,J 13,aa ab 0,bC,aa ab 0,aa ab 1,aa ab 2,aa ab 3,ar false,J 0,J 0,ar true,J 0,J 0])
) (
 R (binP false .eql (aa ab 0) (J 9)) fun bF=>
 some (.inl [ag,J 13,aa ab 0,bF,aa ab 0,aa ab 1,aa ab 2,aa ab 3,ar false,J 0,J 0,ar true,J 0,J 0])
)
)<|a6 fun ls=>
 some (.inl [I ls 0,I ls 1,I ls 2,I ls 3,I ls 4,I ls 5,I ls 6,I ls 7,I ls 8,I ls 9,I ls 10,I ls 11,I ls 12,I ls 13])
)
)<|a6 fun ls=>
 some (.inl [I ls 0,I ls 1,I ls 2,I ls 3,I ls 4,I ls 5,I ls 6,I ls 7,I ls 8,I ls 9,I ls 10,I ls 11,I ls 12,I ls 13])
)
)<|a6 fun ls=>
 some (.inl [I ls 0,I ls 1,I ls 2,I ls 3,I ls 4,I ls 5,I ls 6,I ls 7,I ls 8,I ls 9,I ls 10,I ls 11,I ls 12,I ls 13])
)
)<|a6 fun ls=>
 oif (I ls 3) (
 R (DS n [I ls 0]) fun v20=>
 R (unP .not v20) fun bH=>
 oif bH (
 aU (
 some (D.aL [D.agg [ar false,J 0,J 0],I ls 1])
)
) (
 aw (aK 3 (D.agg [I ls 11,I ls 12,I ls 13]))<|
 aU (
 some (D.aL [D.agg [I ls 11,I ls 12,I ls 13],J 0])
)
)
) (
 R (binP false .eql (I ls 2) (J 10)) fun ch=>
 R (
 oif ch (
 some (.inl [I ls 0,I ls 1,I ls 2,ch,I ls 4,I ls 5,I ls 6,I ls 7,I ls 8,I ls 9,I ls 10,I ls 11,I ls 12,I ls 13])
) (
 R (binP false .eql (I ls 2) (J 11)) fun cA=>
 some (.inl [I ls 0,I ls 1,I ls 2,cA,I ls 4,I ls 5,I ls 6,I ls 7,I ls 8,I ls 9,I ls 10,I ls 11,I ls 12,I ls 13])
)
)<|a6 fun ls=>
 oif (I ls 3) (
 R (a3 3 (I ls 0) (J 0)) fun sg=>
 R (aX false 1 0 sg) fun dB=>
 R (a3 3 (I ls 0) (J 1)) fun My=>
 R (aX false 1 0 My) fun e2=>
 R (binP true .neq dB e2) fun dh=>
 oif dh (
 aU (
 some (D.aL [D.agg [ar false,J 0,J 0],I ls 1])
)
) (
 aw (aK 3 (D.agg [I ls 11,I ls 12,I ls 13]))<|
 aU (
 some (D.aL [D.agg [I ls 11,I ls 12,I ls 13],J 0])
)
)
) (
 R (binP false .eql (I ls 2) (J 18)) fun fl=>
 oif fl (
 R (a3 3 (I ls 0) (J 0)) fun ag0=>
 R (aX false 1 0 ag0) fun cR=>
 R (unP .not cR) fun fL=>
 R (gD fL false (
 R (a3 3 (I ls 0) (J 1)) fun w6=>
 R (aX false 1 0 w6) fun fu=>
 R (a3 3 (I ls 0) (J 2)) fun Nc=>
 R (aX false 1 0 Nc) fun e7=>
 R (binP true .neq fu e7) fun eX=>
 some eX
)) fun eX=>
 R (pickP fL (ar true) eX) fun h2=>
 oif h2 (
 aU (
 some (D.aL [D.agg [ar false,J 0,J 0],I ls 1])
)
) (
 R (a3 3 (I ls 0) (J 1)) fun CA=>
 R (aX false 1 0 CA) fun k0=>
 oif k0 (
 aw (aK 3 (D.agg [I ls 11,I ls 12,I ls 13]))<|
 aU (
 some (D.aL [D.agg [I ls 11,I ls 12,I ls 13],J 0])
)
) (
 R (a3 3 (I ls 0) (J 1)) fun MH=>
 R (aX false 1 1 MH) fun fB=>
 R (a3 3 (I ls 0) (J 2)) fun ag1=>
 R (aX false 1 1 ag1) fun gk=>
 R (jz false [fB,gk]) fun gl=>
 R (a3 3 (I ls 0) (J 1)) fun MI=>
 R (aX false 1 2 MI) fun gj=>
 R (a3 3 (I ls 0) (J 2)) fun ag2=>
 R (aX false 1 2 ag2) fun iJ=>
 R (jz true [gj,iJ]) fun jL=>
 R (ox n [gl,jL]) fun j4=>
 R (extP 0 j4) fun g5=>
 R (extP 1 j4) fun hi=>
 aw (aK 3 g5)<|
 aU (
 some (D.aL [D.agg [aa g5 0,aa g5 1,aa g5 2],hi])
)
)
)
) (
 some (.inl [I ls 0,I ls 1,I ls 4,I ls 5,I ls 6,I ls 7,I ls 8,I ls 9,I ls 10,I ls 11,I ls 12,I ls 13])
)
)
)
)<|a6 fun ls=>
 R (a3 3 (I ls 0) (J 0)) fun MJ=>
 R (aX false 1 0 MJ) fun HT=>
 R (gD HT false (
 R (a3 3 (I ls 0) (J 1)) fun Mm=>
 R (aX false 1 0 Mm) fun ie=>
 some ie
)) fun ie=>
 R (pickP HT (ar true) ie) fun iK=>
 oif iK (
 some (D.aL [D.agg [ar false,J 0,J 0],I ls 1])
) (
 R (binP false .eql (I ls 2) (J 14)) fun mT=>
 oif mT (
 R (a3 3 (I ls 0) (J 0)) fun Mn=>
 R (aX false 1 1 Mn) fun j1=>
 R (a3 3 (I ls 0) (J 1)) fun ag3=>
 R (aX false 1 1 ag3) fun wI=>
 R (binP false .add j1 wI) fun wN=>
 R (a3 3 (I ls 0) (J 0)) fun ag4=>
 R (aX false 1 2 ag4) fun kA=>
 R (a3 3 (I ls 0) (J 1)) fun ag5=>
 R (aX false 1 2 ag5) fun L1=>
 R (binP false .add kA L1) fun De=>
 R (ox n [wN,De]) fun yZ=>
 R (extP 0 yZ) fun qQ=>
 R (extP 1 yZ) fun oo=>
 aw (aK 3 qQ)<|
 some (D.aL [D.agg [aa qQ 0,aa qQ 1,aa qQ 2],oo])
) (
 R (binP false .eql (I ls 2) (J 15)) fun qR=>
 oif qR (
 R (a3 3 (I ls 0) (J 0)) fun ag6=>
 R (aX false 1 1 ag6) fun CG=>
 R (a3 3 (I ls 0) (J 1)) fun CH=>
 R (aX false 1 2 CH) fun ig=>
 R (binP false .sub CG ig) fun vQ=>
 R (a3 3 (I ls 0) (J 0)) fun Nd=>
 R (aX false 1 2 Nd) fun wm=>
 R (a3 3 (I ls 0) (J 1)) fun ag7=>
 R (aX false 1 1 ag7) fun hv=>
 R (binP false .sub wm hv) fun HU=>
 R (ox n [vQ,HU]) fun se=>
 R (extP 0 se) fun ub=>
 R (extP 1 se) fun Nf=>
 aw (aK 3 ub)<|
 some (D.aL [D.agg [aa ub 0,aa ub 1,aa ub 2],Nf])
) (
 R (binP false .eql (I ls 2) (J 16)) fun Ng=>
 oif Ng (
 R (a3 3 (I ls 0) (J 0)) fun ag8=>
 R (aX true 3 0 ag8) fun ag9=>
 R (a3 3 (I ls 0) (J 1)) fun aha=>
 R (aX true 3 0 aha) fun Nh=>
 R (DT n [ag9,Nh]) fun zm=>
 R (extP 0 zm) fun tU=>
 R (extP 1 zm) fun CN=>
 R (ox n [tU,CN]) fun qS=>
 R (extP 0 qS) fun wq=>
 R (extP 1 qS) fun ze=>
 aw (aK 3 wq)<|
 some (D.aL [D.agg [aa wq 0,aa wq 1,aa wq 2],ze])
) (
 R (binP false .eql (I ls 2) (J 17)) fun Df=>
 oif Df (
 R (a3 4 (I ls 5) (J 1)) fun ahb=>
 R (aX false 1 0 ahb) fun CJ=>
 R (binP false .neq CJ (J 1)) fun wT=>
 R (gD wT false (
 R (a3 4 (I ls 5) (J 1)) fun ahc=>
 R (aX false 1 1 ahc) fun zc=>
 R (binP false .lss zc (J 1)) fun Ni=>
 some Ni
)) fun Ni=>
 R (pickP wT (ar true) Ni) fun ahd=>
 oif ahd (
 some (D.aL [D.agg [ar false,J 0,J 0],J 2])
) (
 R (a3 4 (I ls 5) (J 1)) fun ahe=>
 R (aX false 1 1 ahe) fun ahf=>
 R (binP false .sub ahf (J 1)) fun Nj=>
 R (ox n [J 0,Nj]) fun Uz=>
 R (extP 0 Uz) fun zd=>
 R (extP 1 Uz) fun CL=>
 aw (aK 3 zd)<|
 some (D.aL [D.agg [aa zd 0,aa zd 1,aa zd 2],CL])
)
) (
 aw (aK 3 (D.agg [I ls 9,I ls 10,I ls 11]))<|
 some (D.aL [D.agg [I ls 9,I ls 10,I ls 11],J 0])
)
)
)
)
)
def xl(n:Nat):List D→Option D
 |[ab,ag]=>HS n ab ag
 |_=>none
def zF(xm:List D→Option D)(n:Nat)(ls:List D):Option (List D⊕(List D⊕D)):=
 R (lenP (I ls 6)) fun fB=>
 R (binP false .lss (I ls 2) fB) fun ep=>
 oif ep (
 R (a3 4 (I ls 6) (I ls 2)) fun ahg=>
 R (aX true 4 0 ahg) fun lv=>
 R (xm [I ls 0,lv,I ls 1]) fun lx=>
 R (extP 0 lx) fun iJ=>
 R (extP 1 lx) fun jL=>
 aw (aK 3 iJ)<|
 R (binP false .neq jL (J 0)) fun g5=>
 oif g5 (
 aU (
 aU (
 some (D.aL [D.agg [ar false,J 0,J 0],jL])
)
)
) (
 aw (aK 3 (D.agg [aa iJ 0,aa iJ 1,aa iJ 2]))<|
 aw (c2 (((esD (I ls 10))).length+([[aa iJ 0,aa iJ 1,aa iJ 2]]).length) 24)<|
 R (binP false .add (I ls 2) (J 1)) fun om=>
 some (.inl [I ls 0,I ls 1,om,I ls 3,I ls 4,I ls 5,I ls 6,I ls 7,I ls 8,I ls 9,D.aE 3 ((esD (I ls 10))++[[aa iJ 0,aa iJ 1,aa iJ 2]])])
)
) (
 aU (
 some (.inl [I ls 3,I ls 4,I ls 5,I ls 6,I ls 7,I ls 8,I ls 9,D.aE 3 (esD (I ls 10))])
)
)
def sw(xm:List D→Option D)(n:Nat)(ab:D)(ag:D)(aS:D):Option D:=
 aw (aK 4 ag)<|
 R (binP false .eql (aa ag 0) (J 1)) fun bE=>
 oif bE (
 R (ox n [aa ag 1,aa ag 1]) fun bH=>
 R (extP 0 bH) fun bU=>
 R (extP 1 bH) fun b4=>
 aw (aK 3 bU)<|
 some (D.aL [D.agg [aa bU 0,aa bU 1,aa bU 2],b4])
) (
 R (binP false .eql (aa ag 0) (J 2)) fun cF=>
 oif cF (
 some (D.aL [D.agg [ar true,J 0,J 0],J 0])
) (
 R (binP false .eql (aa ag 0) (J 3)) fun cp=>
 R (
 oif cp (
 some (.inl [ab,aS,cp,aa ag 0,aa ag 1,aa ag 2,aa ag 3,ar false,J 0,J 0])
) (
 R (binP false .eql (aa ag 0) (J 4)) fun cB=>
 some (.inl [ab,aS,cB,aa ag 0,aa ag 1,aa ag 2,aa ag 3,ar false,J 0,J 0])
)
)<|a6 fun ls=>
 oif (I ls 2) (
 R (xk n [I ls 0,I ls 5]) fun dg=>
 R (binP false .lss dg (J 0)) fun e2=>
 oif e2 (
 some (D.aL [D.agg [ar false,J 0,J 0],J 12])
) (
 R (binP false .eql (I ls 3) (J 4)) fun ey=>
 R (gD ey true (
 R (unP .not (I ls 1)) fun cY=>
 some cY
)) fun cY=>
 R (pickP ey cY (ar false)) fun dK=>
 oif dK (
 some (D.aL [D.agg [ar false,J 0,J 0],J 24])
) (
 R (a3 4 (I ls 0) dg) fun wB=>
 R (aX false 1 1 wB) fun ei=>
 oif ei (
 some (D.aL [D.agg [ar true,J 0,J 0],J 0])
) (
 R (a3 4 (I ls 0) dg) fun Nc=>
 R (aX false 1 2 Nc) fun e7=>
 R (a3 4 (I ls 0) dg) fun wj=>
 R (aX false 1 3 wj) fun eG=>
 R (ox n [e7,eG]) fun gw=>
 R (extP 0 gw) fun hT=>
 R (extP 1 gw) fun k0=>
 aw (aK 3 hT)<|
 some (D.aL [D.agg [aa hT 0,aa hT 1,aa hT 2],k0])
)
)
)
) (
 R (
 bo (zF xm n) n [I ls 0,I ls 1,J 0,I ls 3,I ls 4,I ls 5,I ls 6,I ls 7,I ls 8,I ls 9,D.aE 3 ([]:List (List D))]
)<|a6 fun ls=>
 R (xl n [D.agg [I ls 0,I ls 1,I ls 2,I ls 3],D.aE 3 (esD (I ls 7))]) fun lU=>
 aw lU.flat<|
 R (extP 0 lU) fun ie=>
 R (extP 1 lU) fun iK=>
 aw (aK 3 ie)<|
 some (D.aL [D.agg [aa ie 0,aa ie 1,aa ie 2],iK])
)
)
)
def k1:Nat→List D→Option D
 |0,_=>none
 |n+1,aD=>match aD with
  |[ab,ag,aS]=>sw (k1 n) n ab ag aS
  |_=>none
def Nk(n:Nat)(ab:D)(ag:D)(aS:D):Option D:=
 aw (aK 4 ag)<|
 R (su n [D.agg [aa ag 0,aa ag 1,aa ag 2,aa ag 3]]) fun v10=>
 R (binP false .neq v10 (J 0)) fun bX=>
 oif bX (
 some (D.aL [D.agg [ar false,J 0,J 0],v10])
) (
 R (k1 n [ab,D.agg [aa ag 0,aa ag 1,aa ag 2,aa ag 3],aS]) fun bF=>
 R (extP 0 bF) fun b7=>
 R (extP 1 bF) fun v20=>
 aw (aK 3 b7)<|
 some (D.aL [D.agg [aa b7 0,aa b7 1,aa b7 2],v20])
)
def oy(n:Nat):List D→Option D
 |[ab,ag,aS]=>Nk n ab ag aS
 |_=>none
def Nl(n:Nat)(ab:D)(ag:D)(aS:D):Option D:=
 aw (aK 8 ab)<|
 aw (aK 4 ag)<|
 R (kD n [D.agg [aa ag 0,aa ag 1,aa ag 2,aa ag 3],aa ab 1]) fun bq=>
 R (extP 0 bq) fun bf=>
 R (extP 1 bq) fun bE=>
 aw (aK 4 bf)<|
 R (binP false .neq bE (J 0)) fun bF=>
 oif bF (
 some (D.aL [D.agg [ar false,J 0,J 0],bE])
) (
 R (oy n [aa ab 0,D.agg [aa bf 0,aa bf 1,aa bf 2,aa bf 3],aS]) fun cF=>
 R (extP 0 cF) fun ch=>
 R (extP 1 cF) fun cA=>
 aw (aK 3 ch)<|
 some (D.aL [D.agg [aa ch 0,aa ch 1,aa ch 2],cA])
)
def q2(n:Nat):List D→Option D
 |[ab,ag,aS]=>Nl n ab ag aS
 |_=>none
def xn(n:Nat)(ls:List D):Option (List D⊕(List D⊕D)):=
 R (lenP (I ls 2)) fun bX=>
 R (binP false .lss (I ls 0) bX) fun cd=>
 oif cd (
 R (a3 5 (I ls 2) (I ls 0)) fun py=>
 R (aX false 1 0 py) fun bH=>
 R (q0 n [bH]) fun bU=>
 R (unP .not bU) fun b4=>
 oif b4 (
 aU (
 aU (
 some (D.aL [I ls 0,J 12])
)
)
) (
 R (a3 5 (I ls 2) (I ls 0)) fun sg=>
 R (aX false 1 0 sg) fun dB=>
 R (xc n [D.agg [I ls 1,I ls 2,I ls 3,I ls 4,I ls 5,I ls 6,I ls 7,I ls 8],dB]) fun dt=>
 R (binP false .geq dt (J 0)) fun dg=>
 R (gD dg false (
 R (a3 5 (I ls 2) (I ls 0)) fun nC=>
 R (aX false 1 0 nC) fun fl=>
 R (xd n [D.agg [I ls 1,I ls 2,I ls 3,I ls 4,I ls 5,I ls 6,I ls 7,I ls 8],fl]) fun cY=>
 R (binP false .lss cY (I ls 0)) fun dH=>
 some dH
)) fun dH=>
 R (pickP dg (ar true) dH) fun cR=>
 oif cR (
 aU (
 aU (
 some (D.aL [I ls 0,J 6])
)
)
) (
 R (binP false .add (I ls 0) (J 1)) fun bf=>
 some (.inl [bf,I ls 1,I ls 2,I ls 3,I ls 4,I ls 5,I ls 6,I ls 7,I ls 8])
)
)
) (
 aU (
 some (.inl [I ls 1,I ls 2,I ls 3,I ls 4,I ls 5,I ls 6,I ls 7,I ls 8])
)
)
def DU(n:Nat)(ls:List D):Option (List D⊕(List D⊕D)):=
 R (lenP (I ls 2)) fun cV=>
 R (binP false .lss (I ls 0) cV) fun fu=>
 oif fu (
 R (DG n [D.agg [I ls 1,I ls 2,I ls 3,I ls 4,I ls 5,I ls 6,I ls 7,I ls 8],I ls 0]) fun eX=>
 R (a3 1 eX (I ls 0)) fun wj=>
 R (aX false 1 0 wj) fun j3=>
 oif j3 (
 aU (
 aU (
 some (D.aL [I ls 0,J 14])
)
)
) (
 R (binP false .add (I ls 0) (J 1)) fun hH=>
 some (.inl [hH,I ls 1,I ls 2,I ls 3,I ls 4,I ls 5,I ls 6,I ls 7,I ls 8])
)
) (
 aU (
 some (.inl [I ls 1,I ls 2,I ls 3,I ls 4,I ls 5,I ls 6,I ls 7,I ls 8])
)
)
def DV(n:Nat)(ls:List D):Option (List D⊕(List D⊕D)):=
 R (lenP (I ls 2)) fun g4=>
 R (binP false .lss (I ls 0) g4) fun jj=>
 oif jj (
 R (a3 5 (I ls 2) (I ls 0)) fun Dn=>
 R (aX true 4 1 Dn) fun mR=>
 R (q2 n [D.agg [I ls 1,I ls 2,I ls 3,I ls 4,I ls 5,I ls 6,I ls 7,I ls 8],mR,ar false]) fun gQ=>
 R (extP 0 gQ) fun gj=>
 R (extP 1 gQ) fun lv=>
 aw (aK 3 gj)<|
 R (binP false .neq lv (J 0)) fun lx=>
 oif lx (
 aU (
 aU (
 some (D.aL [I ls 0,lv])
)
)
) (
 R (binP false .add (I ls 0) (J 1)) fun fK=>
 some (.inl [fK,I ls 1,I ls 2,I ls 3,I ls 4,I ls 5,I ls 6,I ls 7,I ls 8])
)
) (
 aU (
 some (.inl [])
)
)
def DW(n:Nat)(ab:D):Option D:=
 aw (aK 8 ab)<|
 R (
 bo (xn n) n [J 0,aa ab 0,aa ab 1,aa ab 2,aa ab 3,aa ab 4,aa ab 5,aa ab 6,aa ab 7]
)<|a6 fun ls=>
 R (
 bo (DU n) n [J 0,I ls 0,I ls 1,I ls 2,I ls 3,I ls 4,I ls 5,I ls 6,I ls 7]
)<|a6 fun ls=>
 R (
 bo (DV n) n [J 0,I ls 0,I ls 1,I ls 2,I ls 3,I ls 4,I ls 5,I ls 6,I ls 7]
)<|a6 fun ls=>
 some (D.aL [J 0,J 0])
def uc(n:Nat):List D→Option D
 |[ab]=>DW n ab
 |_=>none
def Nm(n:Nat)(ab:D)(ag:D)(aS:D):Option D:=
 aw (aK 8 ab)<|
 aw (aK 4 ag)<|
 R (q2 n [D.agg [aa ab 0,aa ab 1,aa ab 2,aa ab 3,aa ab 4,aa ab 5,aa ab 6,aa ab 7],D.agg [aa ag 0,aa ag 1,aa ag 2,aa ag 3],aS]) fun cd=>
 R (extP 0 cd) fun bq=>
 R (extP 1 cd) fun bf=>
 aw (aK 3 bq)<|
 R (binP false .eql bf (J 0)) fun bC=>
 R (gD bC true (
 R (unP .not (aa bq 0)) fun bH=>
 some bH
)) fun bH=>
 R (pickP bC bH (ar false)) fun bU=>
 oif bU (
 some (J 13)
) (
 some bf
)
def ud(n:Nat):List D→Option D
 |[ab,ag,aS]=>Nm n ab ag aS
 |_=>none
def DX(n:Nat)(ls:List D):Option (List D⊕(List D⊕D)):=
 R (lenP (I ls 0)) fun bX=>
 R (binP false .lss (I ls 2) bX) fun cd=>
 oif cd (
 R (a3 4 (I ls 0) (I ls 2)) fun py=>
 R (aX true 4 0 py) fun v20=>
 R (ud n [D.agg [I ls 3,I ls 4,I ls 5,I ls 6,I ls 7,I ls 8,I ls 9,I ls 10],v20,I ls 1]) fun bU=>
 R (binP false .neq bU (J 0)) fun cv=>
 oif cv (
 aU (
 aU (
 some (D.aL [I ls 2,bU])
)
)
) (
 R (binP false .add (I ls 2) (J 1)) fun bf=>
 some (.inl [I ls 0,I ls 1,bf,I ls 3,I ls 4,I ls 5,I ls 6,I ls 7,I ls 8,I ls 9,I ls 10])
)
) (
 aU (
 some (.inl [])
)
)
def Nn(n:Nat)(ab:D)(ag:D)(aS:D):Option D:=
 aw (aK 8 ab)<|
 R (
 bo (DX n) n [ag,aS,J 0,aa ab 0,aa ab 1,aa ab 2,aa ab 3,aa ab 4,aa ab 5,aa ab 6,aa ab 7]
)<|a6 fun ls=>
 some (D.aL [J 0,J 0])
def sx(n:Nat):List D→Option D
 |[ab,ag,aS]=>Nn n ab ag aS
 |_=>none
def zG(n:Nat)(ls:List D):Option (List D⊕(List D⊕(List D⊕(List D⊕(List D⊕D))))):=
 R (binP false .lss (I ls 2) (I ls 0)) fun cB=>
 oif cB (
 R (a3 5 (I ls 7) (I ls 2)) fun sq=>
 R (aX false 1 0 sq) fun dk=>
 R (a3 5 (I ls 7) (I ls 0)) fun w1=>
 R (aX false 1 0 w1) fun dK=>
 R (binP false .eql dk dK) fun dH=>
 oif dH (
 aU (
 aU (
 aU (
 aU (
 aU (
 some (D.aL [I ls 0,J 6])
)
)
)
)
)
) (
 R (binP false .add (I ls 2) (J 1)) fun dB=>
 some (.inl [I ls 0,I ls 1,dB,I ls 3,I ls 4,I ls 5,I ls 6,I ls 7,I ls 8,I ls 9,I ls 10])
)
) (
 aU (
 some (.inl [I ls 0,I ls 1,I ls 3,I ls 4,I ls 5,I ls 6,I ls 7,I ls 8,I ls 9,I ls 10])
)
)
def ue(n:Nat)(ls:List D):Option (List D⊕(List D⊕D)):=
 R (lenP (I ls 5)) fun bX=>
 R (binP false .lss (I ls 0) bX) fun cd=>
 oif cd (
 R (
 R (a3 5 (I ls 5) (I ls 0)) fun pw=>
 R (aX false 1 0 pw) fun bU=>
 R (xc n [D.agg [I ls 1,I ls 2,I ls 3,I ls 4,I ls 5,I ls 6,I ls 7,I ls 8],bU]) fun b4=>
 R (binP false .lss b4 (J 0)) fun cF=>
 oif cF (
 aU (
 aU (
 aU (
 some (D.aL [I ls 0,J 12])
)
)
)
) (
 R (
 bo (zG n) n [I ls 0,b4,J 0,I ls 1,I ls 2,I ls 3,I ls 4,I ls 5,I ls 6,I ls 7,I ls 8]
)<|a6 fun ls=>
 R (a3 5 (I ls 6) (I ls 0)) fun Dc=>
 R (aX true 4 1 Dc) fun hH=>
 R (q2 n [D.agg [I ls 2,I ls 3,I ls 4,I ls 5,I ls 6,I ls 7,I ls 8,I ls 9],hH,ar false]) fun iG=>
 R (extP 0 iG) fun e7=>
 R (extP 1 iG) fun eX=>
 aw (aK 3 e7)<|
 R (binP false .eql eX (J 0)) fun eW=>
 R (gD eW true (
 R (a3 4 (I ls 2) (I ls 1)) fun w3=>
 R (aX false 1 1 w3) fun fK=>
 R (binP true .neq (aa e7 0) fK) fun fB=>
 some fB
)) fun fB=>
 R (pickP eW fB (ar false)) fun ep=>
 R (
 oif ep (
 some (.inl [I ls 0,J 13,I ls 2,I ls 3,I ls 4,I ls 5,I ls 6,I ls 7,I ls 8,I ls 9])
) (
 some (.inl [I ls 0,eX,I ls 2,I ls 3,I ls 4,I ls 5,I ls 6,I ls 7,I ls 8,I ls 9])
)
)<|a6 fun ls=>
 R (binP false .neq (I ls 1) (J 0)) fun om=>
 oif om (
 aU (
 aU (
 aU (
 some (D.aL [I ls 0,I ls 1])
)
)
)
) (
 some (.inl [I ls 0,I ls 2,I ls 3,I ls 4,I ls 5,I ls 6,I ls 7,I ls 8,I ls 9])
)
)
)<|a6 fun ls=>
 R (binP false .add (I ls 0) (J 1)) fun bf=>
 some (.inl [bf,I ls 1,I ls 2,I ls 3,I ls 4,I ls 5,I ls 6,I ls 7,I ls 8])
) (
 aU (
 some (.inl [])
)
)
def No(n:Nat)(ab:D):Option D:=
 aw (aK 8 ab)<|
 R (
 bo (ue n) n [J 0,aa ab 0,aa ab 1,aa ab 2,aa ab 3,aa ab 4,aa ab 5,aa ab 6,aa ab 7]
)<|a6 fun ls=>
 some (D.aL [J 0,J 0])
def zH(n:Nat):List D→Option D
 |[ab]=>No n ab
 |_=>none
def UA(n:Nat)(ab:D):Option D:=
 R (
 R (binP false .eql ab (J 1)) fun j2=>
 oif j2 (
 aU (
 some (J 0)
)
) (
 R (binP false .eql ab (J 2)) fun bZ=>
 R (
 oif bZ (
 some (.inl [ab,bZ])
) (
 R (binP false .eql ab (J 6)) fun cf=>
 R (
 oif cf (
 some (.inl [ab,cf])
) (
 R (binP false .eql ab (J 7)) fun bR=>
 R (
 oif bR (
 some (.inl [ab,bR])
) (
 R (binP false .eql ab (J 8)) fun v10=>
 R (
 oif v10 (
 some (.inl [ab,v10])
) (
 R (binP false .eql ab (J 10)) fun v11=>
 R (
 oif v11 (
 some (.inl [ab,v11])
) (
 R (binP false .eql ab (J 11)) fun bX=>
 R (
 oif bX (
 some (.inl [ab,bX])
) (
 R (binP false .eql ab (J 12)) fun cd=>
 some (.inl [ab,cd])
)
)<|a6 fun ls=>
 some (.inl [I ls 0,I ls 1])
)
)<|a6 fun ls=>
 some (.inl [I ls 0,I ls 1])
)
)<|a6 fun ls=>
 some (.inl [I ls 0,I ls 1])
)
)<|a6 fun ls=>
 some (.inl [I ls 0,I ls 1])
)
)<|a6 fun ls=>
 some (.inl [I ls 0,I ls 1])
)
)<|a6 fun ls=>
 oif (I ls 1) (
 aU (
 some (J 1)
)
) (
 R (binP false .eql (I ls 0) (J 3)) fun bf=>
 R (
 oif bf (
 some (.inl [bf])
) (
 R (binP false .eql (I ls 0) (J 4)) fun bE=>
 R (
 oif bE (
 some (.inl [bE])
) (
 R (binP false .eql (I ls 0) (J 5)) fun bC=>
 R (
 oif bC (
 some (.inl [bC])
) (
 R (binP false .eql (I ls 0) (J 9)) fun bF=>
 R (
 oif bF (
 some (.inl [bF])
) (
 R (binP false .eql (I ls 0) (J 13)) fun b7=>
 some (.inl [b7])
)
)<|a6 fun ls=>
 some (.inl [I ls 0])
)
)<|a6 fun ls=>
 some (.inl [I ls 0])
)
)<|a6 fun ls=>
 some (.inl [I ls 0])
)
)<|a6 fun ls=>
 oif (I ls 0) (
 aU (
 some (J 2)
)
) (
 some (.inl [])
)
)
)
)<|a6 fun ls=>
 some (J (-1))
def zI(n:Nat):List D→Option D
 |[ab]=>UA n ab
 |_=>none
def UB(n:Nat)(ab:D):Option D:=
 aw (aK 4 ab)<|
 R (binP false .eql (aa ab 0) (J 0)) fun j2=>
 R (gD j2 true (
 R (binP false .eql (aa ab 1) (J 0)) fun bR=>
 some bR
)) fun bR=>
 R (pickP j2 bR (ar false)) fun v10=>
 R (gD v10 true (
 R (binP false .eql (aa ab 2) (aI ⟨#[]⟩)) fun bq=>
 some bq
)) fun bq=>
 R (pickP v10 bq (ar false)) fun bf=>
 R (gD bf true (
 R (lenP (aa ab 3)) fun b7=>
 R (binP false .eql b7 (J 0)) fun v20=>
 some v20
)) fun v20=>
 R (pickP bf v20 (ar false)) fun bH=>
 some bH
def DY(n:Nat):List D→Option D
 |[ab]=>UB n ab
 |_=>none
def zJ(n:Nat)(ab:D):Option D:=
 aw (aK 6 ab)<|
 R (zI n [aa ab 0]) fun cf=>
 R (binP false .lss cf (J 0)) fun bR=>
 oif bR (
 some (J 11)
) (
 R (binP false .eql (aa ab 0) (J 1)) fun bX=>
 R (
 oif bX (
 R (su n [D.agg [aa ab 1,aa ab 2,aa ab 3,aa ab 4]]) fun bf=>
 R (binP false .neq bf (J 0)) fun bC=>
 oif bC (
 aU (
 some bf
)
) (
 R (ss n [D.agg [aa ab 1,aa ab 2,aa ab 3,aa ab 4]]) fun bU=>
 R (extP 0 bU) fun b4=>
 R (extP 1 bU) fun cv=>
 R (lenP cv) fun ch=>
 R (binP false .gtr ch (J 0)) fun cA=>
 oif cA (
 aU (
 some (J 24)
)
) (
 some (.inl [aa ab 0,aa ab 1,aa ab 2,aa ab 3,aa ab 4,aa ab 5])
)
)
) (
 some (.inl [aa ab 0,aa ab 1,aa ab 2,aa ab 3,aa ab 4,aa ab 5])
)
)<|a6 fun ls=>
 R (lenP (I ls 5)) fun v30=>
 R (zI n [I ls 0]) fun dg=>
 R (binP false .neq v30 dg) fun cZ=>
 R (gD cZ false (
 R (binP false .neq (I ls 0) (J 1)) fun c8=>
 some c8
)) fun ey=>
 R (gD ey true (
 R (DY n [D.agg [I ls 1,I ls 2,I ls 3,I ls 4]]) fun cY=>
 R (unP .not cY) fun dK=>
 some dK
)) fun dK=>
 R (gD cZ false (
 R (pickP ey dK (ar false)) fun dH=>
 some dH
)) fun dH=>
 R (pickP cZ (ar true) dH) fun cR=>
 oif cR (
 some (J 3)
) (
 some (J 0)
)
)
def sy(n:Nat):List D→Option D
 |[ab]=>zJ n ab
 |_=>none
def HV(xo:List D→Option D)(n:Nat)(ls:List D):Option (List D⊕(List D⊕D)):=
 R (lenP (I ls 8)) fun cA=>
 R (binP false .lss (I ls 2) cA) fun cp=>
 oif cp (
 R (a3 6 (I ls 8) (I ls 2)) fun sq=>
 R (aX true 6 0 sq) fun dh=>
 R (binP false .add (I ls 0) (J 1)) fun c8=>
 R (xo [dh,c8,I ls 1]) fun dr=>
 R (extP 0 dr) fun fl=>
 R (extP 1 dr) fun cY=>
 R (binP false .neq fl (J 0)) fun dH=>
 oif dH (
 aU (
 aU (
 some (D.aL [fl,cY])
)
)
) (
 R (binP false .add (I ls 2) (J 1)) fun v30=>
 some (.inl [I ls 0,cY,v30,I ls 3,I ls 4,I ls 5,I ls 6,I ls 7,I ls 8])
)
) (
 aU (
 some (.inl [I ls 1])
)
)
def Np(xo:List D→Option D)(n:Nat)(ab:D)(ag:D)(aS:D):Option D:=
 aw (aK 6 ab)<|
 R (binP false .gtr ag (J 64)) fun v11=>
 oif v11 (
 some (D.aL [J 17,aS])
) (
 R (sy n [D.agg [aa ab 0,aa ab 1,aa ab 2,aa ab 3,aa ab 4,aa ab 5]]) fun bq=>
 R (binP false .neq bq (J 0)) fun bE=>
 oif bE (
 some (D.aL [bq,aS])
) (
 R (binP false .add aS (J 1)) fun v20=>
 R (binP false .gtr v20 (J 4096)) fun bU=>
 oif bU (
 some (D.aL [J 4,v20])
) (
 R (
 bo (HV xo n) n [ag,v20,J 0,aa ab 0,aa ab 1,aa ab 2,aa ab 3,aa ab 4,aa ab 5]
)<|a6 fun ls=>
 some (D.aL [J 0,I ls 0])
)
)
)
def q3:Nat→List D→Option D
 |0,_=>none
 |n+1,aD=>match aD with
  |[ab,ag,aS]=>Np (q3 n) n ab ag aS
  |_=>none
def UC(n:Nat)(ab:D):Option D:=
 aw (aK 6 ab)<|
 R (q3 n [D.agg [aa ab 0,aa ab 1,aa ab 2,aa ab 3,aa ab 4,aa ab 5],J 1,J 0]) fun bZ=>
 R (extP 0 bZ) fun cf=>
 R (extP 1 bZ) fun bR=>
 some cf
def sz(n:Nat):List D→Option D
 |[ab]=>UC n ab
 |_=>none
def DZ(xp:List D→Option D)(n:Nat)(ls:List D):Option (List D⊕(List D⊕D)):=
 R (lenP (I ls 14)) fun bC=>
 R (binP false .lss (I ls 0) bC) fun bF=>
 oif bF (
 R (a3 6 (I ls 14) (I ls 0)) fun B0=>
 R (aX true 6 0 B0) fun ch=>
 R (xp [D.agg [I ls 1,I ls 2,I ls 3,I ls 4,I ls 5,I ls 6,I ls 7,I ls 8],ch]) fun cA=>
 R (binP false .neq cA (J 0)) fun cB=>
 oif cB (
 aU (
 aU (
 some cA
)
)
) (
 R (binP false .add (I ls 0) (J 1)) fun v20=>
 some (.inl [v20,I ls 1,I ls 2,I ls 3,I ls 4,I ls 5,I ls 6,I ls 7,I ls 8,I ls 9,I ls 10,I ls 11,I ls 12,I ls 13,I ls 14])
)
) (
 aU (
 some (.inl [])
)
)
def D0(xp:List D→Option D)(n:Nat)(ab:D)(ag:D):Option D:=
 aw (aK 8 ab)<|
 aw (aK 6 ag)<|
 R (binP false .eql (aa ag 0) (J 1)) fun bR=>
 oif bR (
 R (ud n [D.agg [aa ab 0,aa ab 1,aa ab 2,aa ab 3,aa ab 4,aa ab 5,aa ab 6,aa ab 7],D.agg [aa ag 1,aa ag 2,aa ag 3,aa ag 4],ar false]) fun cd=>
 some cd
) (
 R (
 bo (DZ xp n) n [J 0,aa ab 0,aa ab 1,aa ab 2,aa ab 3,aa ab 4,aa ab 5,aa ab 6,aa ab 7,aa ag 0,aa ag 1,aa ag 2,aa ag 3,aa ag 4,aa ag 5]
)<|a6 fun ls=>
 some (J 0)
)
def q4:Nat→List D→Option D
 |0,_=>none
 |n+1,aD=>match aD with
  |[ab,ag]=>D0 (q4 n) n ab ag
  |_=>none
def zK(n:Nat)(ls:List D):Option (List D⊕(List D⊕(List D⊕(List D⊕(List D⊕D))))):=
 R (binP false .lss (I ls 1) (I ls 0)) fun cF=>
 oif cF (
 R (a3 7 (I ls 9) (I ls 1)) fun sk=>
 R (aX false 1 0 sk) fun dg=>
 R (a3 7 (I ls 9) (I ls 0)) fun Nq=>
 R (aX false 1 0 Nq) fun ey=>
 R (binP false .eql dg ey) fun dr=>
 oif dr (
 aU (
 aU (
 aU (
 aU (
 aU (
 some (D.aL [I ls 0,J 6])
)
)
)
)
)
) (
 R (binP false .add (I ls 1) (J 1)) fun cA=>
 some (.inl [I ls 0,cA,I ls 2,I ls 3,I ls 4,I ls 5,I ls 6,I ls 7,I ls 8,I ls 9])
)
) (
 aU (
 some (.inl [I ls 0,I ls 2,I ls 3,I ls 4,I ls 5,I ls 6,I ls 7,I ls 8,I ls 9])
)
)
def uf(n:Nat)(ls:List D):Option (List D⊕(List D⊕D)):=
 R (lenP (I ls 8)) fun v10=>
 R (binP false .lss (I ls 0) v10) fun v11=>
 oif v11 (
 R (
 R (a3 7 (I ls 8) (I ls 0)) fun Dl=>
 R (aX false 1 0 Dl) fun b7=>
 R (q0 n [b7]) fun v20=>
 R (unP .not v20) fun bH=>
 oif bH (
 aU (
 aU (
 aU (
 some (D.aL [I ls 0,J 12])
)
)
)
) (
 R (
 bo (zK n) n [I ls 0,J 0,I ls 1,I ls 2,I ls 3,I ls 4,I ls 5,I ls 6,I ls 7,I ls 8]
)<|a6 fun ls=>
 R (a3 7 (I ls 8) (I ls 0)) fun Dx=>
 R (aX true 6 1 Dx) fun iI=>
 R (sz n [iI]) fun gi=>
 R (binP false .eql gi (J 0)) fun cV=>
 R (
 oif cV (
 R (a3 7 (I ls 8) (I ls 0)) fun w4=>
 R (aX true 6 1 w4) fun h2=>
 R (q4 n [D.agg [I ls 1,I ls 2,I ls 3,I ls 4,I ls 5,I ls 6,I ls 7,I ls 8],h2]) fun eW=>
 some (.inl [I ls 0,eW,I ls 1,I ls 2,I ls 3,I ls 4,I ls 5,I ls 6,I ls 7,I ls 8])
) (
 some (.inl [I ls 0,gi,I ls 1,I ls 2,I ls 3,I ls 4,I ls 5,I ls 6,I ls 7,I ls 8])
)
)<|a6 fun ls=>
 R (binP false .neq (I ls 1) (J 0)) fun eG=>
 oif eG (
 aU (
 aU (
 aU (
 some (D.aL [I ls 0,I ls 1])
)
)
)
) (
 some (.inl [I ls 0,I ls 2,I ls 3,I ls 4,I ls 5,I ls 6,I ls 7,I ls 8,I ls 9])
)
)
)<|a6 fun ls=>
 R (binP false .add (I ls 0) (J 1)) fun cd=>
 some (.inl [cd,I ls 1,I ls 2,I ls 3,I ls 4,I ls 5,I ls 6,I ls 7,I ls 8])
) (
 aU (
 some (.inl [])
)
)
def Nr(n:Nat)(ab:D):Option D:=
 aw (aK 8 ab)<|
 R (
 bo (uf n) n [J 0,aa ab 0,aa ab 1,aa ab 2,aa ab 3,aa ab 4,aa ab 5,aa ab 6,aa ab 7]
)<|a6 fun ls=>
 some (D.aL [J 0,J 0])
def zL(n:Nat):List D→Option D
 |[ab]=>Nr n ab
 |_=>none
def pS(n:Nat)(ls:List D):Option (List D⊕(List D⊕D)):=
 R (binP false .lss (I ls 0) (J ((esD (I ls 11))).length)) fun dk=>
 oif dk (
 R (ct ((esD (I ls 11))).length (I ls 0)) fun ahh=>
 R (((esD (I ls 11)))[ahh]?) fun ahi=>
 R (aX false 1 0 ahi) fun dK=>
 R (binP false .gtr dK (J 64)) fun dH=>
 oif dH (
 R (binP false .add (I ls 0) (J 1)) fun fL=>
 aw (bD fL)<|
 aw (aK 2 (D.agg [fL,J 64]))<|
 aU (
 aU (
 some (D.aL [D.agg [fL,J 64],J 18])
)
)
) (
 R (binP false .add (I ls 0) (J 1)) fun ey=>
 some (.inl [ey,I ls 1,I ls 2,I ls 3,I ls 4,I ls 5,I ls 6,I ls 7,I ls 8,I ls 9,I ls 10,D.aE 1 (esD (I ls 11))])
)
) (
 aU (
 some (.inl [I ls 1,I ls 2,I ls 3,I ls 4,I ls 5,I ls 6,I ls 7,I ls 8,I ls 9,I ls 10])
)
)
def hJ(n:Nat)(ls:List D):Option (List D⊕(List D⊕D)):=
 R (binP false .leq (I ls 2) (J 8)) fun g4=>
 oif g4 (
 R (
 R (
 R (binP false .eql (I ls 2) (J 2)) fun ep=>
 R (
 oif ep (
 R (uc n [D.agg [I ls 3,I ls 4,I ls 5,I ls 6,I ls 7,I ls 8,I ls 9,I ls 10]]) fun gk=>
 R (extP 0 gk) fun gl=>
 R (extP 1 gk) fun gv=>
 some (.inl [gl,gv,I ls 2,I ls 3,I ls 4,I ls 5,I ls 6,I ls 7,I ls 8,I ls 9,I ls 10,I ls 11,I ls 12])
) (
 R (binP false .eql (I ls 2) (J 3)) fun gQ=>
 R (
 oif gQ (
 R (sx n [D.agg [I ls 3,I ls 4,I ls 5,I ls 6,I ls 7,I ls 8,I ls 9,I ls 10],I ls 5,ar false]) fun iJ=>
 R (extP 0 iJ) fun jL=>
 R (extP 1 iJ) fun j4=>
 some (.inl [jL,j4,I ls 2,I ls 3,I ls 4,I ls 5,I ls 6,I ls 7,I ls 8,I ls 9,I ls 10,I ls 11,I ls 12])
) (
 R (binP false .eql (I ls 2) (J 4)) fun hi=>
 R (
 oif hi (
 R (sx n [D.agg [I ls 3,I ls 4,I ls 5,I ls 6,I ls 7,I ls 8,I ls 9,I ls 10],I ls 6,ar false]) fun hI=>
 R (extP 0 hI) fun wP=>
 R (extP 1 hI) fun pG=>
 some (.inl [wP,pG,I ls 2,I ls 3,I ls 4,I ls 5,I ls 6,I ls 7,I ls 8,I ls 9,I ls 10,I ls 11,I ls 12])
) (
 R (binP false .eql (I ls 2) (J 5)) fun ie=>
 R (
 oif ie (
 R (zH n [D.agg [I ls 3,I ls 4,I ls 5,I ls 6,I ls 7,I ls 8,I ls 9,I ls 10]]) fun oj=>
 R (extP 0 oj) fun qI=>
 R (extP 1 oj) fun wQ=>
 some (.inl [qI,wQ,I ls 2,I ls 3,I ls 4,I ls 5,I ls 6,I ls 7,I ls 8,I ls 9,I ls 10,I ls 11,I ls 12])
) (
 R (binP false .eql (I ls 2) (J 6)) fun mT=>
 R (
 oif mT (
 R (sx n [D.agg [I ls 3,I ls 4,I ls 5,I ls 6,I ls 7,I ls 8,I ls 9,I ls 10],I ls 8,ar true]) fun pI=>
 R (extP 0 pI) fun vM=>
 R (extP 1 pI) fun ic=>
 some (.inl [vM,ic,I ls 2,I ls 3,I ls 4,I ls 5,I ls 6,I ls 7,I ls 8,I ls 9,I ls 10,I ls 11,I ls 12])
) (
 R (binP false .eql (I ls 2) (J 7)) fun wN=>
 R (
 oif wN (
 R (sx n [D.agg [I ls 3,I ls 4,I ls 5,I ls 6,I ls 7,I ls 8,I ls 9,I ls 10],I ls 9,ar false]) fun tV=>
 R (extP 0 tV) fun wS=>
 R (extP 1 tV) fun mQ=>
 some (.inl [wS,mQ,I ls 2,I ls 3,I ls 4,I ls 5,I ls 6,I ls 7,I ls 8,I ls 9,I ls 10,I ls 11,I ls 12])
) (
 R (binP false .eql (I ls 2) (J 8)) fun De=>
 R (
 oif De (
 R (zL n [D.agg [I ls 3,I ls 4,I ls 5,I ls 6,I ls 7,I ls 8,I ls 9,I ls 10]]) fun oo=>
 R (extP 0 oo) fun zb=>
 R (extP 1 oo) fun qR=>
 some (.inl [zb,qR,I ls 2,I ls 3,I ls 4,I ls 5,I ls 6,I ls 7,I ls 8,I ls 9,I ls 10,I ls 11,I ls 12])
) (
 some (.inl [I ls 0,I ls 1,I ls 2,I ls 3,I ls 4,I ls 5,I ls 6,I ls 7,I ls 8,I ls 9,I ls 10,I ls 11,I ls 12])
)
)<|a6 fun ls=>
 some (.inl [I ls 0,I ls 1,I ls 2,I ls 3,I ls 4,I ls 5,I ls 6,I ls 7,I ls 8,I ls 9,I ls 10,I ls 11,I ls 12])
)
)<|a6 fun ls=>
 some (.inl [I ls 0,I ls 1,I ls 2,I ls 3,I ls 4,I ls 5,I ls 6,I ls 7,I ls 8,I ls 9,I ls 10,I ls 11,I ls 12])
)
)<|a6 fun ls=>
 some (.inl [I ls 0,I ls 1,I ls 2,I ls 3,I ls 4,I ls 5,I ls 6,I ls 7,I ls 8,I ls 9,I ls 10,I ls 11,I ls 12])
)
)<|a6 fun ls=>
 some (.inl [I ls 0,I ls 1,I ls 2,I ls 3,I ls 4,I ls 5,I ls 6,I ls 7,I ls 8,I ls 9,I ls 10,I ls 11,I ls 12])
)
)<|a6 fun ls=>
 some (.inl [I ls 0,I ls 1,I ls 2,I ls 3,I ls 4,I ls 5,I ls 6,I ls 7,I ls 8,I ls 9,I ls 10,I ls 11,I ls 12])
)
)<|a6 fun ls=>
 some (.inl [I ls 0,I ls 1,I ls 2,I ls 3,I ls 4,I ls 5,I ls 6,I ls 7,I ls 8,I ls 9,I ls 10,I ls 11,I ls 12])
)
)<|a6 fun ls=>
 some (.inl [I ls 0,I ls 1,I ls 2,I ls 3,I ls 4,I ls 5,I ls 6,I ls 7,I ls 8,I ls 9,I ls 10,I ls 11,I ls 12])
)<|a6 fun ls=>
 R (binP false .neq (I ls 1) (J 0)) fun zn=>
 oif zn (
 aw (bD (I ls 2))<|
 aw (bD (I ls 0))<|
 aw (aK 2 (D.agg [I ls 2,I ls 0]))<|
 aU (
 aU (
 aU (
 some (D.aL [D.agg [I ls 2,I ls 0],I ls 1])
)
)
)
) (
 some (.inl [I ls 0,I ls 1,I ls 2,I ls 3,I ls 4,I ls 5,I ls 6,I ls 7,I ls 8,I ls 9,I ls 10,I ls 11,I ls 12])
)
)<|a6 fun ls=>
 R (binP false .add (I ls 2) (J 1)) fun ee=>
 some (.inl [I ls 0,I ls 1,ee,I ls 3,I ls 4,I ls 5,I ls 6,I ls 7,I ls 8,I ls 9,I ls 10,I ls 11,I ls 12])
) (
 aU (
 some (.inl [I ls 11,I ls 12])
)
)
def xq(n:Nat)(ab:D):Option D:=
 aw (aK 8 ab)<|
 R (lenP (aa ab 0)) fun v11=>
 R (lenP (aa ab 1)) fun bq=>
 R (lenP (aa ab 2)) fun bC=>
 R (lenP (aa ab 3)) fun v20=>
 R (lenP (aa ab 4)) fun b4=>
 R (lenP (aa ab 5)) fun ch=>
 R (lenP (aa ab 6)) fun cB=>
 R (lenP (aa ab 7)) fun dt=>
 aw (bD v11)<|
 aw (bD bq)<|
 aw (bD bC)<|
 aw (bD v20)<|
 aw (bD b4)<|
 aw (bD ch)<|
 aw (bD cB)<|
 aw (bD dt)<|
 R (
 bo (pS n) n [J 0,aa ab 0,aa ab 1,aa ab 2,aa ab 3,aa ab 4,aa ab 5,aa ab 6,aa ab 7,J 0,J 0,D.aE 1 [[v11],[bq],[bC],[v20],[b4],[ch],[cB],[dt]]]
)<|a6 fun ls=>
 R (Dy n [I ls 0]) fun fu=>
 R (extP 0 fu) fun e8=>
 R (extP 1 fu) fun hH=>
 R (binP false .neq hH (J 0)) fun e7=>
 oif e7 (
 aw (bD e8)<|
 aw (aK 2 (D.agg [J 1,e8]))<|
 some (D.aL [D.agg [J 1,e8],hH])
) (
 R (DA n [D.agg [I ls 0,I ls 1,I ls 2,I ls 3,I ls 4,I ls 5,I ls 6,I ls 7]]) fun eG=>
 R (binP false .gtr eG (J 30)) fun gw=>
 oif gw (
 some (D.aL [D.agg [J 1,J 0],J 18])
) (
 R (
 bo (hJ n) n [e8,hH,J 2,I ls 0,I ls 1,I ls 2,I ls 3,I ls 4,I ls 5,I ls 6,I ls 7,I ls 8,I ls 9]
)<|a6 fun ls=>
 some (D.aL [D.agg [J 0,J 0],J 0])
)
)
def oz(n:Nat):List D→Option D
 |[ab]=>xq n ab
 |_=>none
def UD(n:Nat)(ab:D):Option D:=
 aw (aK 8 ab)<|
 R (oz n [D.agg [aa ab 0,aa ab 1,aa ab 2,aa ab 3,aa ab 4,aa ab 5,aa ab 6,aa ab 7]]) fun bZ=>
 R (extP 0 bZ) fun cf=>
 R (extP 1 bZ) fun bR=>
 aw (aK 2 cf)<|
 R (binP false .eql bR (J 0)) fun v11=>
 some v11
def D1(n:Nat):List D→Option D
 |[ab]=>UD n ab
 |_=>none
def D2(xr:List D→Option D)(n:Nat)(ls:List D):Option (List D⊕(List D⊕D)):=
 R (lenP (I ls 6)) fun bf=>
 R (binP false .lss (I ls 0) bf) fun bE=>
 oif bE (
 R (a3 6 (I ls 6) (I ls 0)) fun wY=>
 R (aX true 6 0 wY) fun b4=>
 R (xr [b4]) fun cv=>
 R (unP .not cv) fun cF=>
 oif cF (
 aU (
 aU (
 some (ar false)
)
)
) (
 R (binP false .add (I ls 0) (J 1)) fun bF=>
 some (.inl [bF,I ls 1,I ls 2,I ls 3,I ls 4,I ls 5,I ls 6])
)
) (
 aU (
 some (.inl [])
)
)
def ug(xr:List D→Option D)(n:Nat)(ab:D):Option D:=
 aw (aK 6 ab)<|
 R (binP false .geq (aa ab 0) (J 6)) fun v6=>
 R (gD v6 true (
 R (binP false .leq (aa ab 0) (J 13)) fun v10=>
 some v10
)) fun v10=>
 R (pickP v6 v10 (ar false)) fun v11=>
 oif v11 (
 some (ar false)
) (
 R (
 bo (D2 xr n) n [J 0,aa ab 0,aa ab 1,aa ab 2,aa ab 3,aa ab 4,aa ab 5]
)<|a6 fun ls=>
 some (ar true)
)
def q5:Nat→List D→Option D
 |0,_=>none
 |n+1,aD=>match aD with
  |[ab]=>ug (q5 n) n ab
  |_=>none
def HW(n:Nat)(ls:List D):Option (List D⊕(List D⊕D)):=
 R (lenP (I ls 0)) fun bq=>
 R (binP false .lss (I ls 2) bq) fun bf=>
 oif bf (
 R (a3 4 (I ls 0) (I ls 2)) fun sj=>
 R (aX true 4 0 sj) fun bU=>
 R (kD n [bU,I ls 1]) fun cv=>
 R (extP 0 cv) fun cF=>
 R (extP 1 cv) fun ch=>
 aw (aK 4 cF)<|
 R (binP false .neq ch (J 0)) fun cp=>
 oif cp (
 aU (
 aU (
 some (D.aL [D.val (.slice none 0 0),I ls 2,ch])
)
)
) (
 aw (aK 4 (D.agg [aa cF 0,aa cF 1,aa cF 2,aa cF 3]))<|
 aw (c2 (((esD (I ls 3))).length+([[aa cF 0,aa cF 1,aa cF 2,aa cF 3]]).length) 56)<|
 R (binP false .add (I ls 2) (J 1)) fun bC=>
 some (.inl [I ls 0,I ls 1,bC,D.aE 4 ((esD (I ls 3))++[[aa cF 0,aa cF 1,aa cF 2,aa cF 3]])])
)
) (
 aU (
 some (.inl [D.aE 4 (esD (I ls 3))])
)
)
def UE(n:Nat)(ab:D)(ag:D):Option D:=
 R (
 bo (HW n) n [ab,ag,J 0,D.aE 4 ([]:List (List D))]
)<|a6 fun ls=>
 some (D.aL [D.aE 4 (esD (I ls 0)),J 0,J 0])
def nN(n:Nat):List D→Option D
 |[ab,ag]=>UE n ab ag
 |_=>none
def zM(xt:List D→Option D)(n:Nat)(ls:List D):Option (List D⊕(List D⊕D)):=
 R (lenP (I ls 7)) fun dg=>
 R (binP false .lss (I ls 1) dg) fun cZ=>
 oif cZ (
 R (a3 6 (I ls 7) (I ls 1)) fun w1=>
 R (aX true 6 0 w1) fun cY=>
 R (xt [cY,I ls 0]) fun dH=>
 R (extP 0 dH) fun cR=>
 R (extP 1 dH) fun fL=>
 aw (aK 6 cR)<|
 R (binP false .neq fL (J 0)) fun gi=>
 oif gi (
 aU (
 aU (
 some (D.aL [D.agg [J 0,J 0,J 0,aI ⟨#[]⟩,D.val (.slice none 0 0),D.val (.slice none 0 0)],fL])
)
)
) (
 aw (aK 6 (D.agg [aa cR 0,aa cR 1,aa cR 2,aa cR 3,aa cR 4,aa cR 5]))<|
 aw (c2 (((esD (I ls 14))).length+([[aa cR 0,aa cR 1,aa cR 2,aa cR 3,aa cR 4,aa cR 5]]).length) 88)<|
 R (binP false .add (I ls 1) (J 1)) fun dh=>
 some (.inl [I ls 0,dh,I ls 2,I ls 3,I ls 4,I ls 5,I ls 6,I ls 7,I ls 8,I ls 9,I ls 10,I ls 11,I ls 12,I ls 13,D.aE 6 ((esD (I ls 14))++[[aa cR 0,aa cR 1,aa cR 2,aa cR 3,aa cR 4,aa cR 5]])])
)
) (
 aU (
 some (.inl [I ls 2,I ls 3,I ls 4,I ls 5,I ls 6,I ls 7,I ls 8,I ls 9,I ls 10,I ls 11,I ls 12,I ls 13,D.aE 6 (esD (I ls 14))])
)
)
def q6(xt:List D→Option D)(n:Nat)(ab:D)(ag:D):Option D:=
 aw (aK 6 ab)<|
 R (binP false .eql (aa ab 0) (J 1)) fun bq=>
 oif bq (
 R (kD n [D.agg [aa ab 1,aa ab 2,aa ab 3,aa ab 4],ag]) fun b7=>
 R (extP 0 b7) fun v20=>
 R (extP 1 b7) fun bH=>
 aw (aK 4 v20)<|
 R (binP false .neq bH (J 0)) fun b4=>
 oif b4 (
 some (D.aL [D.agg [J 0,J 0,J 0,aI ⟨#[]⟩,D.val (.slice none 0 0),D.val (.slice none 0 0)],bH])
) (
 aw (aK 4 (D.agg [aa v20 0,aa v20 1,aa v20 2,aa v20 3]))<|
 aw (aK 6 (D.agg [aa ab 0,aa v20 0,aa v20 1,aa v20 2,aa v20 3,aa ab 5]))<|
 some (D.aL [D.agg [aa ab 0,aa v20 0,aa v20 1,aa v20 2,aa v20 3,aa ab 5],J 0])
)
) (
 R (
 bo (zM xt n) n [ag,J 0,aa ab 0,aa ab 1,aa ab 2,aa ab 3,aa ab 4,aa ab 5,J 0,J 0,J 0,aI ⟨#[]⟩,D.val (.slice none 0 0),D.val (.slice none 0 0),D.aE 6 ([]:List (List D))]
)<|a6 fun ls=>
 aw (bD (I ls 0))<|
 aw (bD (I ls 1))<|
 aw (bD (I ls 2))<|
 aw (bD (I ls 3))<|
 aw (bD (I ls 4))<|
 some (D.aL [D.agg [I ls 0,I ls 1,I ls 2,I ls 3,I ls 4,D.aE 6 (esD (I ls 12))],J 0])
)
def mV:Nat→List D→Option D
 |0,_=>none
 |n+1,aD=>match aD with
  |[ab,ag]=>q6 (mV n) n ab ag
  |_=>none
def Ns(n:Nat)(ab:D)(ag:D):Option D:=
 aw (aK 6 ab)<|
 R (sz n [D.agg [aa ab 0,aa ab 1,aa ab 2,aa ab 3,aa ab 4,aa ab 5]]) fun cf=>
 R (binP false .neq cf (J 0)) fun v10=>
 oif v10 (
 some (D.aL [D.agg [J 0,J 0,J 0,aI ⟨#[]⟩,D.val (.slice none 0 0),D.val (.slice none 0 0)],cf])
) (
 R (mV n [D.agg [aa ab 0,aa ab 1,aa ab 2,aa ab 3,aa ab 4,aa ab 5],ag]) fun bf=>
 R (extP 0 bf) fun bE=>
 R (extP 1 bf) fun bC=>
 aw (aK 6 bE)<|
 some (D.aL [D.agg [aa bE 0,aa bE 1,aa bE 2,aa bE 3,aa bE 4,aa bE 5],bC])
)
def sA(n:Nat):List D→Option D
 |[ab,ag]=>Ns n ab ag
 |_=>none
def zN(n:Nat)(ls:List D):Option (List D⊕(List D⊕D)):=
 R (lenP (I ls 5)) fun e7=>
 R (binP false .lss (I ls 0) e7) fun eX=>
 oif eX (
 R (a3 5 (I ls 5) (I ls 0)) fun CF=>
 R (aX true 4 1 CF) fun jj=>
 R (kD n [jj,I ls 2]) fun fB=>
 R (extP 0 fB) fun ep=>
 R (extP 1 fB) fun iH=>
 aw (aK 4 ep)<|
 R (binP false .neq iH (J 0)) fun gk=>
 oif gk (
 aw (bD (I ls 0))<|
 aw (aK 2 (D.agg [J 5,I ls 0]))<|
 aU (
 aU (
 some (D.aL [D.agg [D.val (.slice none 0 0),D.val (.slice none 0 0),D.val (.slice none 0 0),D.val (.slice none 0 0),D.val (.slice none 0 0),D.val (.slice none 0 0),D.val (.slice none 0 0),D.val (.slice none 0 0)],D.agg [J 5,I ls 0],iH])
)
)
) (
 R (a3 5 (I ls 5) (I ls 0)) fun Ml=>
 R (aX false 1 0 Ml) fun g5=>
 aw (bD g5)<|
 aw (aK 4 (D.agg [aa ep 0,aa ep 1,aa ep 2,aa ep 3]))<|
 aw (aK 5 (D.agg [g5,aa ep 0,aa ep 1,aa ep 2,aa ep 3]))<|
 aw (c2 (((esD (I ls 26))).length+([[g5,aa ep 0,aa ep 1,aa ep 2,aa ep 3]]).length) 72)<|
 R (binP false .add (I ls 0) (J 1)) fun eW=>
 some (.inl [eW,I ls 1,I ls 2,I ls 3,I ls 4,I ls 5,I ls 6,I ls 7,I ls 8,I ls 9,I ls 10,I ls 11,I ls 12,I ls 13,I ls 14,I ls 15,I ls 16,I ls 17,I ls 18,I ls 19,I ls 20,I ls 21,I ls 22,I ls 23,I ls 24,I ls 25,D.aE 5 ((esD (I ls 26))++[[g5,aa ep 0,aa ep 1,aa ep 2,aa ep 3]])])
)
) (
 aU (
 some (.inl [I ls 1,I ls 2,I ls 3,I ls 4,I ls 5,I ls 6,I ls 7,I ls 8,I ls 9,I ls 10,I ls 11,I ls 12,I ls 13,I ls 14,I ls 15,I ls 16,I ls 17,I ls 18,I ls 19,I ls 20,I ls 21,I ls 22,I ls 23,I ls 24,I ls 25,D.aE 5 (esD (I ls 26))])
)
)
def zO(n:Nat)(ls:List D):Option (List D⊕(List D⊕D)):=
 R (lenP (I ls 8)) fun qJ=>
 R (binP false .lss (I ls 0) qJ) fun CG=>
 oif CG (
 R (a3 7 (I ls 8) (I ls 0)) fun Nd=>
 R (aX true 6 1 Nd) fun wm=>
 R (sA n [wm,I ls 2]) fun zo=>
 R (extP 0 zo) fun hv=>
 R (extP 1 zo) fun HU=>
 aw (aK 6 hv)<|
 R (binP false .neq HU (J 0)) fun ub=>
 oif ub (
 aw (bD (I ls 0))<|
 aw (aK 2 (D.agg [J 8,I ls 0]))<|
 aU (
 aU (
 some (D.aL [D.agg [D.val (.slice none 0 0),D.val (.slice none 0 0),D.val (.slice none 0 0),D.val (.slice none 0 0),D.val (.slice none 0 0),D.val (.slice none 0 0),D.val (.slice none 0 0),D.val (.slice none 0 0)],D.agg [J 8,I ls 0],HU])
)
)
) (
 R (a3 7 (I ls 8) (I ls 0)) fun ahj=>
 R (aX false 1 0 ahj) fun tU=>
 aw (bD tU)<|
 aw (aK 6 (D.agg [aa hv 0,aa hv 1,aa hv 2,aa hv 3,aa hv 4,aa hv 5]))<|
 aw (aK 7 (D.agg [tU,aa hv 0,aa hv 1,aa hv 2,aa hv 3,aa hv 4,aa hv 5]))<|
 aw (c2 (((esD (I ls 26))).length+([[tU,aa hv 0,aa hv 1,aa hv 2,aa hv 3,aa hv 4,aa hv 5]]).length) 104)<|
 R (binP false .add (I ls 0) (J 1)) fun vO=>
 some (.inl [vO,I ls 1,I ls 2,I ls 3,I ls 4,I ls 5,I ls 6,I ls 7,I ls 8,I ls 9,I ls 10,I ls 11,I ls 12,I ls 13,I ls 14,I ls 15,I ls 16,I ls 17,I ls 18,I ls 19,I ls 20,I ls 21,I ls 22,I ls 23,I ls 24,D.aE 5 (esD (I ls 25)),D.aE 7 ((esD (I ls 26))++[[tU,aa hv 0,aa hv 1,aa hv 2,aa hv 3,aa hv 4,aa hv 5]])])
)
) (
 aU (
 some (.inl [I ls 9,I ls 10,I ls 11,I ls 12,I ls 13,I ls 14,I ls 15,I ls 16,I ls 17,I ls 18,I ls 19,I ls 20,I ls 21,I ls 22,I ls 23,I ls 24,D.aE 5 (esD (I ls 25)),D.aE 7 (esD (I ls 26))])
)
)
def Nt(n:Nat)(ab:D):Option D:=
 aw (aK 8 ab)<|
 aw (bD (aa ab 0))<|
 aw (aK 8 (D.agg [aa ab 0,D.val (.slice none 0 0),D.val (.slice none 0 0),D.val (.slice none 0 0),D.val (.slice none 0 0),D.val (.slice none 0 0),D.val (.slice none 0 0),D.val (.slice none 0 0)]))<|
 R (nN n [aa ab 2,aa ab 1]) fun b4=>
 R (extP 0 b4) fun cv=>
 R (extP 1 b4) fun cF=>
 R (extP 2 b4) fun ch=>
 R (binP false .neq ch (J 0)) fun cp=>
 oif cp (
 aw (bD cF)<|
 aw (aK 2 (D.agg [J 3,cF]))<|
 some (D.aL [D.agg [D.val (.slice none 0 0),D.val (.slice none 0 0),D.val (.slice none 0 0),D.val (.slice none 0 0),D.val (.slice none 0 0),D.val (.slice none 0 0),D.val (.slice none 0 0),D.val (.slice none 0 0)],D.agg [J 3,cF],ch])
) (
 aw (bD cv)<|
 R (nN n [aa ab 3,aa ab 1]) fun dr=>
 R (extP 0 dr) fun fl=>
 R (extP 1 dr) fun cY=>
 R (extP 2 dr) fun dK=>
 R (binP false .neq dK (J 0)) fun cR=>
 oif cR (
 aw (bD cY)<|
 aw (aK 2 (D.agg [J 4,cY]))<|
 some (D.aL [D.agg [D.val (.slice none 0 0),D.val (.slice none 0 0),D.val (.slice none 0 0),D.val (.slice none 0 0),D.val (.slice none 0 0),D.val (.slice none 0 0),D.val (.slice none 0 0),D.val (.slice none 0 0)],D.agg [J 4,cY],dK])
) (
 aw (bD fl)<|
 R (
 bo (zN n) n [J 0,aa ab 0,aa ab 1,aa ab 2,aa ab 3,aa ab 4,aa ab 5,aa ab 6,aa ab 7,D.val (.slice none 0 0),D.val (.slice none 0 0),D.val (.slice none 0 0),D.val (.slice none 0 0),D.val (.slice none 0 0),D.val (.slice none 0 0),D.val (.slice none 0 0),D.val (.slice none 0 0),J 0,J 0,aa ab 0,D.val (.slice none 0 0),cv,fl,D.val (.slice none 0 0),D.val (.slice none 0 0),D.val (.slice none 0 0),D.aE 5 []]
)<|a6 fun ls=>
 R (nN n [I ls 5,I ls 1]) fun iK=>
 R (extP 0 iK) fun jJ=>
 R (extP 1 iK) fun oj=>
 R (extP 2 iK) fun qI=>
 R (binP false .neq qI (J 0)) fun r7=>
 oif r7 (
 aw (bD oj)<|
 aw (aK 2 (D.agg [J 6,oj]))<|
 some (D.aL [D.agg [D.val (.slice none 0 0),D.val (.slice none 0 0),D.val (.slice none 0 0),D.val (.slice none 0 0),D.val (.slice none 0 0),D.val (.slice none 0 0),D.val (.slice none 0 0),D.val (.slice none 0 0)],D.agg [J 6,oj],qI])
) (
 aw (bD jJ)<|
 R (nN n [I ls 6,I ls 1]) fun vN=>
 R (extP 0 vN) fun pt=>
 R (extP 1 vN) fun kA=>
 R (extP 2 vN) fun tV=>
 R (binP false .neq tV (J 0)) fun mQ=>
 oif mQ (
 aw (bD kA)<|
 aw (aK 2 (D.agg [J 7,kA]))<|
 some (D.aL [D.agg [D.val (.slice none 0 0),D.val (.slice none 0 0),D.val (.slice none 0 0),D.val (.slice none 0 0),D.val (.slice none 0 0),D.val (.slice none 0 0),D.val (.slice none 0 0),D.val (.slice none 0 0)],D.agg [J 7,kA],tV])
) (
 aw (bD pt)<|
 R (
 aw (nilP (I ls 24))<|
 bo (zO n) n [J 0,I ls 0,I ls 1,I ls 2,I ls 3,I ls 4,I ls 5,I ls 6,I ls 7,I ls 8,I ls 9,I ls 10,I ls 11,I ls 12,I ls 13,I ls 14,I ls 15,I ls 16,I ls 17,I ls 18,I ls 19,I ls 20,I ls 21,jJ,pt,D.aE 5 (esD (I ls 25)),D.aE 7 []]
)<|a6 fun ls=>
 aw (aK 8 (D.agg [I ls 10,I ls 11,I ls 12,I ls 13,D.aE 5 (esD (I ls 16)),I ls 14,I ls 15,D.aE 7 (esD (I ls 17))]))<|
 some (D.aL [D.agg [I ls 10,I ls 11,I ls 12,I ls 13,D.aE 5 (esD (I ls 16)),I ls 14,I ls 15,D.aE 7 (esD (I ls 17))],D.agg [J 0,J 0],J 0])
)
)
)
)
def D3(n:Nat):List D→Option D
 |[ab]=>Nt n ab
 |_=>none
def HX(n:Nat)(ab:D):Option D:=
 aw (aK 8 ab)<|
 R (lenP (aa ab 1)) fun cf=>
 R (binP false .eql cf (J 0)) fun bR=>
 oif bR (
 aw (aK 8 (D.agg [aa ab 0,aa ab 1,aa ab 2,aa ab 3,aa ab 4,aa ab 5,aa ab 6,aa ab 7]))<|
 some (D.agg [aa ab 0,aa ab 1,aa ab 2,aa ab 3,aa ab 4,aa ab 5,aa ab 6,aa ab 7])
) (
 R (D3 n [D.agg [aa ab 0,aa ab 1,aa ab 2,aa ab 3,aa ab 4,aa ab 5,aa ab 6,aa ab 7]]) fun cd=>
 R (extP 0 cd) fun bq=>
 R (extP 1 cd) fun bf=>
 R (extP 2 cd) fun bE=>
 aw (aK 8 bq)<|
 aw (aK 2 bf)<|
 aw (aK 8 (D.agg [aa bq 0,aa bq 1,aa bq 2,aa bq 3,aa bq 4,aa bq 5,aa bq 6,aa bq 7]))<|
 some (D.agg [aa bq 0,aa bq 1,aa bq 2,aa bq 3,aa bq 4,aa bq 5,aa bq 6,aa bq 7])
)
def xu(n:Nat):List D→Option D
 |[ab]=>HX n ab
 |_=>none
def pT(n:Nat)(ls:List D):Option (List D⊕(List D⊕D)):=
 R (lenP (I ls 0)) fun bf=>
 R (binP false .lss (I ls 1) bf) fun bE=>
 oif bE (
 R (a3 4 (I ls 2) (I ls 1)) fun wY=>
 R (aX true 4 0 wY) fun b4=>
 aw (aK 4 b4)<|
 R (gD (aa b4 1) true (
 R (a3 1 (I ls 0) (I ls 1)) fun sg=>
 R (aX false 1 0 sg) fun v30=>
 R (binP false .neq v30 (J 0)) fun dB=>
 some dB
)) fun dB=>
 R (pickP (aa b4 1) dB (ar false)) fun dt=>
 R (gD dt true (
 R (a3 1 (I ls 0) (I ls 1)) fun wx=>
 R (aX false 1 0 wx) fun dk=>
 R (binP false .neq dk (J 1)) fun c8=>
 some c8
)) fun c8=>
 R (pickP dt c8 (ar false)) fun ey=>
 R (gD ey false (
 R (unP .not (aa b4 1)) fun dK=>
 some dK
)) fun dH=>
 R (gD dH true (
 R (a3 1 (I ls 0) (I ls 1)) fun wB=>
 R (aX false 1 0 wB) fun gi=>
 R (binP false .lss gi (aa b4 2)) fun fu=>
 some fu
)) fun e8=>
 R (gD e8 false (
 R (a3 1 (I ls 0) (I ls 1)) fun w4=>
 R (aX false 1 0 w4) fun eX=>
 R (binP false .gtr eX (aa b4 3)) fun j3=>
 some j3
)) fun j3=>
 R (gD dH true (
 R (pickP e8 (ar true) j3) fun eG=>
 some eG
)) fun eG=>
 R (gD ey false (
 R (pickP dH eG (ar false)) fun gw=>
 some gw
)) fun gw=>
 R (pickP ey (ar true) gw) fun hT=>
 oif hT (
 aU (
 aU (
 some (ar false)
)
)
) (
 R (binP false .add (I ls 1) (J 1)) fun bF=>
 some (.inl [I ls 0,bF,I ls 2,I ls 3,I ls 4,I ls 5,I ls 6,I ls 7,I ls 8,I ls 9])
)
) (
 aU (
 some (.inl [])
)
)
def UF(n:Nat)(ab:D)(ag:D):Option D:=
 aw (aK 8 ab)<|
 R (lenP ag) fun cf=>
 R (lenP (aa ab 0)) fun v11=>
 R (binP false .neq cf v11) fun bX=>
 oif bX (
 some (ar false)
) (
 R (
 bo (pT n) n [ag,J 0,aa ab 0,aa ab 1,aa ab 2,aa ab 3,aa ab 4,aa ab 5,aa ab 6,aa ab 7]
)<|a6 fun ls=>
 some (ar true)
)
def zP(n:Nat):List D→Option D
 |[ab,ag]=>UF n ab ag
 |_=>none
def D4(xv:List D→Option D)(n:Nat)(ls:List D):Option (List D⊕(List D⊕D)):=
 R (lenP (I ls 4)) fun v10=>
 R (binP false .lss (I ls 0) v10) fun v11=>
 oif v11 (
 R (a3 4 (I ls 4) (I ls 0)) fun Dl=>
 R (aX true 4 0 Dl) fun bF=>
 R (xv [bF]) fun b7=>
 oif b7 (
 aU (
 aU (
 some (ar true)
)
)
) (
 R (binP false .add (I ls 0) (J 1)) fun cd=>
 some (.inl [cd,I ls 1,I ls 2,I ls 3,I ls 4])
)
) (
 aU (
 some (.inl [])
)
)
def HY(xv:List D→Option D)(n:Nat)(ab:D):Option D:=
 aw (aK 4 ab)<|
 R (binP false .eql (aa ab 0) (J 4)) fun v6=>
 oif v6 (
 some (ar true)
) (
 R (
 bo (D4 xv n) n [J 0,aa ab 0,aa ab 1,aa ab 2,aa ab 3]
)<|a6 fun ls=>
 some (ar false)
)
def pU:Nat→List D→Option D
 |0,_=>none
 |n+1,aD=>match aD with
  |[ab]=>HY (pU n) n ab
  |_=>none
def UG(n:Nat)(ab:D):Option D:=
 oif ab (
 some (J 1)
) (
 some (J 0)
)
def nO(n:Nat):List D→Option D
 |[ab]=>UG n ab
 |_=>none
def HZ(n:Nat)(ab:D):Option D:=
 R (binP false .lss ab (J (-9007199254740992))) fun v4=>
 R (gD v4 false (
 R (binP false .gtr ab (J 9007199254740992)) fun bZ=>
 some bZ
)) fun bZ=>
 R (pickP v4 (ar true) bZ) fun cf=>
 some cf
def uh(n:Nat):List D→Option D
 |[ab]=>HZ n ab
 |_=>none
def UH(n:Nat)(ab:D):Option D:=
 R (unP .neg ab) fun j2=>
 R (jz true [ab,j2]) fun v6=>
 some v6
def zQ(n:Nat):List D→Option D
 |[ab]=>UH n ab
 |_=>none
def ui(xw:List D→Option D)(n:Nat)(ls:List D):Option (List D⊕(List D⊕D)):=
 R (lenP (I ls 8)) fun j3=>
 R (binP false .lss (I ls 4) j3) fun eG=>
 oif eG (
 R (
 R (a3 4 (I ls 8) (I ls 4)) fun M7=>
 R (aX true 4 0 M7) fun ep=>
 R (xw [I ls 0,ep,I ls 1,I ls 2]) fun gk=>
 R (extP 0 gk) fun gl=>
 R (extP 1 gk) fun gv=>
 R (unP .not gv) fun gQ=>
 oif gQ (
 aU (
 aU (
 aU (
 some (D.aL [J 0,ar false])
)
)
)
) (
 aw (bD gl)<|
 aw (c2 (((esD (I ls 9))).length+([[gl]]).length) 8)<|
 R (binP false .eql (I ls 5) (J 6)) fun j4=>
 R (gD j4 false (
 R (binP false .eql (I ls 5) (J 7)) fun nF=>
 some nF
)) fun nF=>
 R (pickP j4 (ar true) nF) fun sd=>
 R (
 oif sd (
 R (binP false .add (I ls 3) gl) fun wP=>
 some (.inl [I ls 0,I ls 1,I ls 2,wP,I ls 4,I ls 5,I ls 6,I ls 7,I ls 8,D.aE 1 ((esD (I ls 9))++[[gl]])])
) (
 some (.inl [I ls 0,I ls 1,I ls 2,I ls 3,I ls 4,I ls 5,I ls 6,I ls 7,I ls 8,D.aE 1 ((esD (I ls 9))++[[gl]])])
)
)<|a6 fun ls=>
 some (.inl [I ls 0,I ls 1,I ls 2,I ls 3,I ls 4,I ls 5,I ls 6,I ls 7,I ls 8,D.aE 1 (esD (I ls 9))])
)
)<|a6 fun ls=>
 R (binP false .add (I ls 4) (J 1)) fun hT=>
 some (.inl [I ls 0,I ls 1,I ls 2,I ls 3,hT,I ls 5,I ls 6,I ls 7,I ls 8,D.aE 1 (esD (I ls 9))])
) (
 aU (
 some (.inl [I ls 3,I ls 5,I ls 6,I ls 7,I ls 8,D.aE 1 (esD (I ls 9))])
)
)
def ka(xw:List D→Option D)(n:Nat)(ab:D)(ag:D)(aS:D)(bN:D):Option D:=
 aw (aK 4 ag)<|
 R (binP false .eql (aa ag 0) (J 1)) fun bH=>
 R (
 oif bH (
 some (.inl [ab,aS,bN,aa ag 0,bH,aa ag 0,aa ag 1,aa ag 2,aa ag 3])
) (
 R (binP false .eql (aa ag 0) (J 2)) fun bU=>
 some (.inl [ab,aS,bN,aa ag 0,bU,aa ag 0,aa ag 1,aa ag 2,aa ag 3])
)
)<|a6 fun ls=>
 oif (I ls 4) (
 some (D.aL [I ls 6,ar true])
) (
 R (binP false .eql (I ls 3) (J 3)) fun ch=>
 R (
 oif ch (
 some (.inl [I ls 0,I ls 1,I ls 2,ch,I ls 5,I ls 6,I ls 7,I ls 8])
) (
 R (binP false .eql (I ls 3) (J 4)) fun cA=>
 some (.inl [I ls 0,I ls 1,I ls 2,cA,I ls 5,I ls 6,I ls 7,I ls 8])
)
)<|a6 fun ls=>
 oif (I ls 3) (
 R (xk n [I ls 0,I ls 6]) fun dB=>
 R (binP false .eql (I ls 4) (J 3)) fun cZ=>
 R (
 oif cZ (
 R (a3 1 (I ls 1) dB) fun Nq=>
 R (aX false 1 0 Nq) fun c8=>
 some (.inl [I ls 0,dB,c8])
) (
 R (a3 1 (I ls 2) dB) fun w1=>
 R (aX false 1 0 w1) fun cY=>
 some (.inl [I ls 0,dB,cY])
)
)<|a6 fun ls=>
 R (a3 4 (I ls 0) (I ls 1)) fun Dx=>
 R (aX false 1 1 Dx) fun iI=>
 oif iI (
 R (binP false .neq (I ls 2) (J 0)) fun ei=>
 R (nO n [ei]) fun cV=>
 some (D.aL [cV,ar true])
) (
 R (uh n [I ls 2]) fun hH=>
 R (unP .not hH) fun iG=>
 some (D.aL [I ls 2,iG])
)
) (
 R (
 bo (ui xw n) n [I ls 0,I ls 1,I ls 2,J 0,J 0,I ls 4,I ls 5,I ls 6,I ls 7,D.aE 1 ([]:List (List D))]
)<|a6 fun ls=>
 R (
 R (binP false .eql (I ls 1) (J 5)) fun iK=>
 R (
 oif iK (
 R (ct ((esD (I ls 5))).length (J 0)) fun ahk=>
 R (((esD (I ls 5)))[ahk]?) fun ahl=>
 R (aX false 1 0 ahl) fun qI=>
 R (binP false .sub (J 1) qI) fun wQ=>
 some (.inl [wQ])
) (
 R (binP false .eql (I ls 1) (J 6)) fun mT=>
 R (
 oif mT (
 R (binP false .eql (I ls 0) (J ((esD (I ls 5))).length)) fun j1=>
 R (nO n [j1]) fun pI=>
 some (.inl [pI])
) (
 R (binP false .eql (I ls 1) (J 7)) fun ic=>
 R (
 oif ic (
 R (binP false .gtr (I ls 0) (J 0)) fun wN=>
 R (nO n [wN]) fun wR=>
 some (.inl [wR])
) (
 R (binP false .eql (I ls 1) (J 8)) fun pt=>
 R (
 oif pt (
 R (ct ((esD (I ls 5))).length (J 0)) fun ahm=>
 R (((esD (I ls 5)))[ahm]?) fun ahn=>
 R (aX false 1 0 ahn) fun wS=>
 R (binP false .eql wS (J 0)) fun mQ=>
 R (gD mQ false (
 R (ct ((esD (I ls 5))).length (J 1)) fun aho=>
 R (((esD (I ls 5)))[aho]?) fun ahp=>
 R (aX false 1 0 ahp) fun qQ=>
 R (binP false .eql qQ (J 1)) fun oo=>
 some oo
)) fun oo=>
 R (pickP mQ (ar true) oo) fun zb=>
 R (nO n [zb]) fun qR=>
 some (.inl [qR])
) (
 R (binP false .eql (I ls 1) (J 9)) fun zn=>
 R (
 oif zn (
 some (.inl [J 0,I ls 1,zn,D.aE 1 (esD (I ls 5))])
) (
 R (binP false .eql (I ls 1) (J 10)) fun qJ=>
 some (.inl [J 0,I ls 1,qJ,D.aE 1 (esD (I ls 5))])
)
)<|a6 fun ls=>
 R (
 oif (I ls 2) (
 R (ct ((esD (I ls 3))).length (J 0)) fun ahq=>
 R (((esD (I ls 3)))[ahq]?) fun ahr=>
 R (aX false 1 0 ahr) fun vO=>
 R (ct ((esD (I ls 3))).length (J 1)) fun ahs=>
 R (((esD (I ls 3)))[ahs]?) fun aht=>
 R (aX false 1 0 aht) fun vQ=>
 R (binP false .eql vO vQ) fun MM=>
 R (nO n [MM]) fun ahu=>
 some (.inl [ahu])
) (
 R (binP false .eql (I ls 1) (J 11)) fun wm=>
 R (
 oif wm (
 R (ct ((esD (I ls 3))).length (J 0)) fun ahv=>
 R (((esD (I ls 3)))[ahv]?) fun ahw=>
 R (aX false 1 0 ahw) fun zo=>
 R (ct ((esD (I ls 3))).length (J 1)) fun ahx=>
 R (((esD (I ls 3)))[ahx]?) fun ahy=>
 R (aX false 1 0 ahy) fun se=>
 R (binP false .neq zo se) fun ub=>
 R (nO n [ub]) fun Nf=>
 some (.inl [Nf])
) (
 R (binP false .eql (I ls 1) (J 12)) fun Ng=>
 R (
 oif Ng (
 R (ct ((esD (I ls 3))).length (J 0)) fun ahz=>
 R (((esD (I ls 3)))[ahz]?) fun ahA=>
 R (aX false 1 0 ahA) fun ME=>
 R (ct ((esD (I ls 3))).length (J 1)) fun ahB=>
 R (((esD (I ls 3)))[ahB]?) fun ahC=>
 R (aX false 1 0 ahC) fun ahD=>
 R (binP false .lss ME ahD) fun Nh=>
 R (nO n [Nh]) fun zm=>
 some (.inl [zm])
) (
 R (binP false .eql (I ls 1) (J 13)) fun CN=>
 R (
 oif CN (
 R (ct ((esD (I ls 3))).length (J 0)) fun ahE=>
 R (((esD (I ls 3)))[ahE]?) fun ahF=>
 R (aX false 1 0 ahF) fun qS=>
 R (ct ((esD (I ls 3))).length (J 1)) fun ahG=>
 R (((esD (I ls 3)))[ahG]?) fun ahH=>
 R (aX false 1 0 ahH) fun Ms=>
 R (binP false .leq qS Ms) fun Df=>
 R (nO n [Df]) fun wo=>
 some (.inl [wo])
) (
 R (binP false .eql (I ls 1) (J 14)) fun Dg=>
 R (
 oif Dg (
 R (ct ((esD (I ls 3))).length (J 0)) fun ahI=>
 R (((esD (I ls 3)))[ahI]?) fun ahJ=>
 R (aX false 1 0 ahJ) fun wT=>
 R (ct ((esD (I ls 3))).length (J 1)) fun ahK=>
 R (((esD (I ls 3)))[ahK]?) fun ahL=>
 R (aX false 1 0 ahL) fun CK=>
 R (binP false .add wT CK) fun ahM=>
 some (.inl [ahM])
) (
 R (binP false .eql (I ls 1) (J 15)) fun zc=>
 R (
 oif zc (
 R (ct ((esD (I ls 3))).length (J 0)) fun ahN=>
 R (((esD (I ls 3)))[ahN]?) fun ahO=>
 R (aX false 1 0 ahO) fun ahP=>
 R (ct ((esD (I ls 3))).length (J 1)) fun ahQ=>
 R (((esD (I ls 3)))[ahQ]?) fun ahR=>
 R (aX false 1 0 ahR) fun ahS=>
 R (binP false .sub ahP ahS) fun ahT=>
 some (.inl [ahT])
) (
 R (binP false .eql (I ls 1) (J 16)) fun Nj=>
 R (
 oif Nj (
 R (ct ((esD (I ls 3))).length (J 0)) fun ahU=>
 R (((esD (I ls 3)))[ahU]?) fun ahV=>
 R (aX false 1 0 ahV) fun CL=>
 R (binP false .neq CL (J 0)) fun CM=>
 R (gD CM true (
 R (ct ((esD (I ls 3))).length (J 1)) fun ahW=>
 R (((esD (I ls 3)))[ahW]?) fun ahX=>
 R (aX false 1 0 ahX) fun ahY=>
 R (zQ n [ahY]) fun ahZ=>
 R (ct ((esD (I ls 3))).length (J 0)) fun ah0=>
 R (((esD (I ls 3)))[ah0]?) fun ah1=>
 R (aX false 1 0 ah1) fun ah2=>
 R (zQ n [ah2]) fun ah3=>
 R (binP false .quo (J 9007199254740992) ah3) fun ah4=>
 R (binP false .gtr ahZ ah4) fun Nu=>
 some Nu
)) fun Nu=>
 R (pickP CM Nu (ar false)) fun ah5=>
 oif ah5 (
 aU (
 aU (
 aU (
 aU (
 aU (
 aU (
 aU (
 aU (
 aU (
 aU (
 aU (
 aU (
 some (D.aL [J 0,ar false])
)
)
)
)
)
)
)
)
)
)
)
)
) (
 R (ct ((esD (I ls 3))).length (J 0)) fun ah6=>
 R (((esD (I ls 3)))[ah6]?) fun ah7=>
 R (aX false 1 0 ah7) fun ah8=>
 R (ct ((esD (I ls 3))).length (J 1)) fun ah9=>
 R (((esD (I ls 3)))[ah9]?) fun aia=>
 R (aX false 1 0 aia) fun aib=>
 R (binP false .mul ah8 aib) fun aic=>
 some (.inl [aic])
)
) (
 R (binP false .eql (I ls 1) (J 17)) fun aid=>
 R (
 oif aid (
 R (ct ((esD (I ls 3))).length (J 0)) fun aie=>
 R (((esD (I ls 3)))[aie]?) fun aif=>
 R (aX false 1 0 aif) fun aih=>
 R (ct ((esD (I ls 3))).length (J 1)) fun aii=>
 R (((esD (I ls 3)))[aii]?) fun aij=>
 R (aX false 1 0 aij) fun aik=>
 R (binP false .rem aih aik) fun ail=>
 R (ct ((esD (I ls 3))).length (J 1)) fun aim=>
 R (((esD (I ls 3)))[aim]?) fun ain=>
 R (aX false 1 0 ain) fun aio=>
 R (binP false .add ail aio) fun aip=>
 R (ct ((esD (I ls 3))).length (J 1)) fun aiq=>
 R (((esD (I ls 3)))[aiq]?) fun air=>
 R (aX false 1 0 air) fun ais=>
 R (binP false .rem aip ais) fun ait=>
 some (.inl [ait])
) (
 R (binP false .eql (I ls 1) (J 18)) fun aiu=>
 R (
 oif aiu (
 R (ct ((esD (I ls 3))).length (J 2)) fun aiv=>
 R (((esD (I ls 3)))[aiv]?) fun aiw=>
 R (aX false 1 0 aiw) fun aix=>
 R (ct ((esD (I ls 3))).length (J 0)) fun aiy=>
 R (((esD (I ls 3)))[aiy]?) fun aiz=>
 R (aX false 1 0 aiz) fun aiA=>
 R (binP false .eql aiA (J 1)) fun aiB=>
 R (
 oif aiB (
 R (ct ((esD (I ls 3))).length (J 1)) fun aiC=>
 R (((esD (I ls 3)))[aiC]?) fun aiD=>
 R (aX false 1 0 aiD) fun aiE=>
 some (.inl [aiE])
) (
 some (.inl [aix])
)
)<|a6 fun ls=>
 some (.inl [I ls 0])
) (
 some (.inl [I ls 0])
)
)<|a6 fun ls=>
 some (.inl [I ls 0])
)
)<|a6 fun ls=>
 some (.inl [I ls 0])
)
)<|a6 fun ls=>
 some (.inl [I ls 0])
)
)<|a6 fun ls=>
 some (.inl [I ls 0])
)
)<|a6 fun ls=>
 some (.inl [I ls 0])
)
)<|a6 fun ls=>
 some (.inl [I ls 0])
)
)<|a6 fun ls=>
 some (.inl [I ls 0])
)
)<|a6 fun ls=>
 some (.inl [I ls 0])
)
)<|a6 fun ls=>
 some (.inl [I ls 0])
)
)<|a6 fun ls=>
 some (.inl [I ls 0])
)
)<|a6 fun ls=>
 some (.inl [I ls 0])
)
)<|a6 fun ls=>
 some (.inl [I ls 0])
)
)<|a6 fun ls=>
 some (.inl [I ls 0])
)<|a6 fun ls=>
 R (uh n [I ls 0]) fun aiF=>
 R (unP .not aiF) fun aiG=>
 some (D.aL [I ls 0,aiG])
)
)
def pV:Nat→List D→Option D
 |0,_=>none
 |n+1,aD=>match aD with
  |[ab,ag,aS,bN]=>ka (pV n) n ab ag aS bN
  |_=>none
def zR(n:Nat)(ab:D)(ag:D)(aS:D)(bN:D):Option D:=
 aw (aK 4 ag)<|
 R (oy n [ab,D.agg [aa ag 0,aa ag 1,aa ag 2,aa ag 3],ar true]) fun bC=>
 R (extP 0 bC) fun bF=>
 R (extP 1 bC) fun b7=>
 aw (aK 3 bF)<|
 R (binP false .neq b7 (J 0)) fun bH=>
 R (gD bH false (
 R (lenP aS) fun cv=>
 R (lenP ab) fun ch=>
 R (binP false .neq cv ch) fun cA=>
 some cA
)) fun cA=>
 R (pickP bH (ar true) cA) fun cp=>
 R (gD cp false (
 R (pU n [D.agg [aa ag 0,aa ag 1,aa ag 2,aa ag 3]]) fun dB=>
 some dB
)) fun dt=>
 R (gD dt true (
 R (lenP bN) fun cZ=>
 R (lenP ab) fun dh=>
 R (binP false .neq cZ dh) fun dk=>
 some dk
)) fun dk=>
 R (gD cp false (
 R (pickP dt dk (ar false)) fun c8=>
 some c8
)) fun c8=>
 R (pickP cp (ar true) c8) fun ey=>
 oif ey (
 some (D.aL [J 0,ar false])
) (
 R (pV n [ab,D.agg [aa ag 0,aa ag 1,aa ag 2,aa ag 3],aS,bN]) fun cR=>
 R (extP 0 cR) fun fL=>
 R (extP 1 cR) fun iI=>
 R (unP .not iI) fun ei=>
 oif ei (
 some (D.aL [J 0,ar false])
) (
 some (D.aL [fL,ar true])
)
)
def nP(n:Nat):List D→Option D
 |[ab,ag,aS,bN]=>zR n ab ag aS bN
 |_=>none
def D5(n:Nat)(ls:List D):Option (List D⊕(List D⊕D)):=
 R (lenP (I ls 1)) fun bq=>
 R (binP false .lss (I ls 4) bq) fun bf=>
 oif bf (
 R (a3 4 (I ls 1) (I ls 4)) fun wY=>
 R (aX true 4 0 wY) fun b4=>
 R (nP n [I ls 0,b4,I ls 2,I ls 3]) fun ch=>
 R (extP 0 ch) fun cA=>
 R (extP 1 ch) fun cp=>
 R (unP .not cp) fun v30=>
 R (gD v30 false (
 R (binP false .neq cA (J 1)) fun dg=>
 some dg
)) fun dg=>
 R (pickP v30 (ar true) dg) fun cZ=>
 oif cZ (
 aU (
 aU (
 some (ar false)
)
)
) (
 R (binP false .add (I ls 4) (J 1)) fun bC=>
 some (.inl [I ls 0,I ls 1,I ls 2,I ls 3,bC])
)
) (
 aU (
 some (.inl [])
)
)
def Nv(n:Nat)(ab:D)(ag:D)(aS:D)(bN:D):Option D:=
 R (
 bo (D5 n) n [ab,ag,aS,bN,J 0]
)<|a6 fun ls=>
 some (ar true)
def zS(n:Nat):List D→Option D
 |[ab,ag,aS,bN]=>Nv n ab ag aS bN
 |_=>none
def Nw(n:Nat)(ab:D)(ag:D):Option D:=
 aw (aK 8 ab)<|
 R (zP n [D.agg [aa ab 0,aa ab 1,aa ab 2,aa ab 3,aa ab 4,aa ab 5,aa ab 6,aa ab 7],ag]) fun bZ=>
 R (gD bZ true (
 R (zS n [aa ab 0,aa ab 3,ag,D.val (.slice none 0 0)]) fun bq=>
 some bq
)) fun bq=>
 R (pickP bZ bq (ar false)) fun bf=>
 some bf
def zT(n:Nat):List D→Option D
 |[ab,ag]=>Nw n ab ag
 |_=>none
def UI(n:Nat)(ab:D)(ag:D):Option D:=
 aw (aK 8 ab)<|
 R (xu n [D.agg [aa ab 0,aa ab 1,aa ab 2,aa ab 3,aa ab 4,aa ab 5,aa ab 6,aa ab 7]]) fun v6=>
 R (zT n [v6,ag]) fun cf=>
 some cf
def D6(n:Nat):List D→Option D
 |[ab,ag]=>UI n ab ag
 |_=>none
def D7(xx:List D→Option D)(n:Nat)(ls:List D):Option (List D⊕(List D⊕D)):=
 R (lenP (I ls 7)) fun cA=>
 R (binP false .lss (I ls 1) cA) fun cp=>
 oif cp (
 R (a3 6 (I ls 7) (I ls 1)) fun sq=>
 R (aX true 6 0 sq) fun dh=>
 R (xx [I ls 0,dh]) fun dk=>
 R (unP .not dk) fun c8=>
 oif c8 (
 aU (
 aU (
 some (ar false)
)
)
) (
 R (binP false .add (I ls 1) (J 1)) fun v30=>
 some (.inl [I ls 0,v30,I ls 2,I ls 3,I ls 4,I ls 5,I ls 6,I ls 7])
)
) (
 aU (
 some (.inl [])
)
)
def xy(xx:List D→Option D)(n:Nat)(ab:D)(ag:D):Option D:=
 aw (aK 6 ag)<|
 R (binP false .eql (aa ag 0) (J 1)) fun v10=>
 oif v10 (
 R (oy n [ab,D.agg [aa ag 1,aa ag 2,aa ag 3,aa ag 4],ar false]) fun bf=>
 R (extP 0 bf) fun bE=>
 R (extP 1 bf) fun bC=>
 aw (aK 3 bE)<|
 R (binP false .eql bC (J 0)) fun b7=>
 R (gD b7 true (
 some (aa bE 0)
)) fun bU=>
 R (pickP b7 bU (ar false)) fun b4=>
 some b4
) (
 R (
 bo (D7 xx n) n [ab,J 0,aa ag 0,aa ag 1,aa ag 2,aa ag 3,aa ag 4,aa ag 5]
)<|a6 fun ls=>
 some (ar true)
)
def q7:Nat→List D→Option D
 |0,_=>none
 |n+1,aD=>match aD with
  |[ab,ag]=>xy (q7 n) n ab ag
  |_=>none
def H0(xz:List D→Option D)(n:Nat)(ls:List D):Option (List D⊕(List D⊕D)):=
 R (lenP (I ls 8)) fun ei=>
 R (binP false .lss (I ls 2) ei) fun cV=>
 oif cV (
 R (a3 6 (I ls 8) (I ls 2)) fun wj=>
 R (aX true 6 0 wj) fun j3=>
 R (xz [I ls 0,j3,I ls 1]) fun gw=>
 R (extP 0 gw) fun hT=>
 R (extP 1 gw) fun k0=>
 R (unP .not k0) fun jj=>
 oif jj (
 aU (
 aU (
 some (D.aL [ar false,ar false])
)
)
) (
 aw (bD hT)<|
 aw (c2 (((esD (I ls 9))).length+([[hT]]).length) 1)<|
 R (binP false .add (I ls 2) (J 1)) fun e8=>
 some (.inl [I ls 0,I ls 1,e8,I ls 3,I ls 4,I ls 5,I ls 6,I ls 7,I ls 8,D.aE 1 ((esD (I ls 9))++[[hT]])])
)
) (
 aU (
 some (.inl [I ls 3,I ls 4,I ls 5,I ls 6,I ls 7,I ls 8,D.aE 1 (esD (I ls 9))])
)
)
def uj(xz:List D→Option D)(n:Nat)(ab:D)(ag:D)(aS:D):Option D:=
 aw (aK 6 ag)<|
 R (binP false .eql (aa ag 0) (J 1)) fun bF=>
 oif bF (
 R (oy n [ab,D.agg [aa ag 1,aa ag 2,aa ag 3,aa ag 4],ar false]) fun b4=>
 R (extP 0 b4) fun cv=>
 R (extP 1 b4) fun cF=>
 aw (aK 3 cv)<|
 R (nP n [ab,D.agg [aa ag 1,aa ag 2,aa ag 3,aa ag 4],aS,D.val (.slice none 0 0)]) fun dB=>
 R (extP 0 dB) fun dt=>
 R (extP 1 dB) fun dg=>
 R (binP false .neq dt (J 0)) fun e2=>
 R (gD dg true (
 R (binP false .eql cF (J 0)) fun ey=>
 some ey
)) fun ey=>
 R (pickP dg ey (ar false)) fun dr=>
 R (gD dr true (
 some (aa cv 0)
)) fun dK=>
 R (pickP dr dK (ar false)) fun dH=>
 some (D.aL [e2,dH])
) (
 R (
 bo (H0 xz n) n [ab,aS,J 0,aa ag 0,aa ag 1,aa ag 2,aa ag 3,aa ag 4,aa ag 5,D.aE 1 ([]:List (List D))]
)<|a6 fun ls=>
 R (binP false .eql (I ls 0) (J 2)) fun gl=>
 oif gl (
 R (ct ((esD (I ls 6))).length (J 0)) fun aiH=>
 R (((esD (I ls 6)))[aiH]?) fun aiI=>
 R (aX false 1 0 aiI) fun gQ=>
 R (unP .not gQ) fun gj=>
 some (D.aL [gj,ar true])
) (
 R (binP false .eql (I ls 0) (J 3)) fun lV=>
 oif lV (
 R (ct ((esD (I ls 6))).length (J 0)) fun aiJ=>
 R (((esD (I ls 6)))[aiJ]?) fun aiK=>
 R (aX false 1 0 aiK) fun jL=>
 R (gD jL true (
 R (ct ((esD (I ls 6))).length (J 1)) fun aiL=>
 R (((esD (I ls 6)))[aiL]?) fun aiM=>
 R (aX false 1 0 aiM) fun h3=>
 some h3
)) fun h3=>
 R (pickP jL h3 (ar false)) fun nF=>
 some (D.aL [nF,ar true])
) (
 R (binP false .eql (I ls 0) (J 4)) fun HT=>
 oif HT (
 R (ct ((esD (I ls 6))).length (J 0)) fun aiN=>
 R (((esD (I ls 6)))[aiN]?) fun aiO=>
 R (aX false 1 0 aiO) fun pG=>
 R (gD pG false (
 R (ct ((esD (I ls 6))).length (J 1)) fun aiP=>
 R (((esD (I ls 6)))[aiP]?) fun aiQ=>
 R (aX false 1 0 aiQ) fun jJ=>
 some jJ
)) fun jJ=>
 R (pickP pG (ar true) jJ) fun oj=>
 some (D.aL [oj,ar true])
) (
 R (ct ((esD (I ls 6))).length (J 0)) fun aiR=>
 R (((esD (I ls 6)))[aiR]?) fun aiS=>
 R (aX false 1 0 aiS) fun r7=>
 R (unP .not r7) fun mT=>
 R (gD mT false (
 R (ct ((esD (I ls 6))).length (J 1)) fun LZ=>
 R (((esD (I ls 6)))[LZ]?) fun L0=>
 R (aX false 1 0 L0) fun j1=>
 some j1
)) fun j1=>
 R (pickP mT (ar true) j1) fun pI=>
 some (D.aL [pI,ar true])
)
)
)
)
def pW:Nat→List D→Option D
 |0,_=>none
 |n+1,aD=>match aD with
  |[ab,ag,aS]=>uj (pW n) n ab ag aS
  |_=>none
def uk(n:Nat)(ab:D)(ag:D)(aS:D):Option D:=
 aw (aK 8 ab)<|
 aw (aK 6 ag)<|
 R (D1 n [D.agg [aa ab 0,aa ab 1,aa ab 2,aa ab 3,aa ab 4,aa ab 5,aa ab 6,aa ab 7]]) fun v11=>
 R (unP .not v11) fun bX=>
 R (gD bX false (
 R (sz n [D.agg [aa ag 0,aa ag 1,aa ag 2,aa ag 3,aa ag 4,aa ag 5]]) fun bf=>
 R (binP false .neq bf (J 0)) fun bE=>
 some bE
)) fun bE=>
 R (pickP bX (ar true) bE) fun bC=>
 R (gD bC false (
 R (q5 n [D.agg [aa ag 0,aa ag 1,aa ag 2,aa ag 3,aa ag 4,aa ag 5]]) fun v20=>
 R (unP .not v20) fun bH=>
 some bH
)) fun bH=>
 R (pickP bC (ar true) bH) fun bU=>
 R (gD bU false (
 R (D6 n [D.agg [aa ab 0,aa ab 1,aa ab 2,aa ab 3,aa ab 4,aa ab 5,aa ab 6,aa ab 7],aS]) fun ch=>
 R (unP .not ch) fun cA=>
 some cA
)) fun cA=>
 R (pickP bU (ar true) cA) fun cp=>
 oif cp (
 some (D.aL [ar false,ar false])
) (
 R (sA n [D.agg [aa ag 0,aa ag 1,aa ag 2,aa ag 3,aa ag 4,aa ag 5],aa ab 1]) fun dg=>
 R (extP 0 dg) fun cZ=>
 R (extP 1 dg) fun e2=>
 aw (aK 6 cZ)<|
 R (binP false .neq e2 (J 0)) fun dk=>
 R (gD dk false (
 R (q7 n [aa ab 0,D.agg [aa cZ 0,aa cZ 1,aa cZ 2,aa cZ 3,aa cZ 4,aa cZ 5]]) fun cY=>
 R (unP .not cY) fun dK=>
 some dK
)) fun dK=>
 R (pickP dk (ar true) dK) fun dH=>
 oif dH (
 some (D.aL [ar false,ar false])
) (
 R (pW n [aa ab 0,D.agg [aa cZ 0,aa cZ 1,aa cZ 2,aa cZ 3,aa cZ 4,aa cZ 5],aS]) fun ei=>
 R (extP 0 ei) fun cV=>
 R (extP 1 ei) fun fu=>
 some (D.aL [cV,fu])
)
)
def pX(n:Nat):List D→Option D
 |[ab,ag,aS]=>uk n ab ag aS
 |_=>none
def H2(n:Nat)(ab:D)(ag:D)(aS:D):Option D:=
 aw (aK 8 ab)<|
 aw (aK 6 ag)<|
 aw (bD aS)<|
 R (vS n [D.agg [aa ab 0,aa ab 1,aa ab 2,aa ab 3,aa ab 4,aa ab 5,aa ab 6,aa ab 7],D.aE 1 [[aS]]]) fun bq=>
 aw bq.flat<|
 R (unP .not bq) fun bf=>
 R (gD bf false (
 R (B1 n [D.agg [aa ag 0,aa ag 1,aa ag 2,aa ag 3,aa ag 4,aa ag 5],J 300]) fun bF=>
 R (unP .not bF) fun b7=>
 some b7
)) fun b7=>
 R (pickP bf (ar true) b7) fun v20=>
 oif v20 (
 R (zy n []) fun bH=>
 some bH
) (
 R (sr n [D.agg [aa ab 0,aa ab 1,aa ab 2,aa ab 3,aa ab 4,aa ab 5,aa ab 6,aa ab 7],D.agg [aa ag 0,aa ag 1,aa ag 2,aa ag 3,aa ag 4,aa ag 5],aS]) fun ch=>
 R (extP 0 ch) fun cA=>
 R (extP 1 ch) fun cp=>
 R (pX n [D.agg [aa ab 0,aa ab 1,aa ab 2,aa ab 3,aa ab 4,aa ab 5,aa ab 6,aa ab 7],D.agg [aa ag 0,aa ag 1,aa ag 2,aa ag 3,aa ag 4,aa ag 5],aS]) fun dg=>
 R (extP 0 dg) fun cZ=>
 R (extP 1 dg) fun e2=>
 R (binP true .eql cA cZ) fun c8=>
 R (gD c8 true (
 R (binP true .eql cp e2) fun cY=>
 some cY
)) fun cY=>
 R (pickP c8 cY (ar false)) fun dK=>
 R (gD dK true (
 R (zy n []) fun cR=>
 some cR
)) fun cR=>
 R (pickP dK cR (ar false)) fun fL=>
 some fL
)
def D8(n:Nat):List D→Option D
 |[ab,ag,aS]=>H2 n ab ag aS
 |_=>none
end Go.Am
