/- What each function of the seat computes, on data. No condition. -/
import Derived.Test.YtknmgdnhongcnaaGreatDoorEngC
set_option linter.all false
set_option linter.unnecessarySimpa false
namespace Go.Am
set_option linter.unusedVariables false
def BF:List D:=[aJ ⟨#[65]⟩,aJ ⟨#[65,70]⟩,aJ ⟨#[65,71]⟩,aJ ⟨#[65,88]⟩,aJ ⟨#[69]⟩,aJ ⟨#[69,70]⟩,aJ ⟨#[69,71]⟩,aJ ⟨#[69,88]⟩,aJ ⟨#[85]⟩,aJ ⟨#[98,111,111,108]⟩,aJ ⟨#[100,101,102]⟩,aJ ⟨#[101,108,115,101]⟩,aJ ⟨#[102,97,105,114]⟩,aJ ⟨#[102,97,108,115,101]⟩,aJ ⟨#[105,102]⟩,aJ ⟨#[105,110,105,116]⟩,aJ ⟨#[105,110,118,97,114]⟩,aJ ⟨#[109,111,100]⟩,aJ ⟨#[110,101,120,116]⟩,aJ ⟨#[115,112,101,99]⟩,aJ ⟨#[116,104,101,110]⟩,aJ ⟨#[116,114,97,110,115]⟩,aJ ⟨#[116,114,117,101]⟩,aJ ⟨#[118,97,114]⟩]
abbrev SQ:Nat:=77
abbrev Gx:Nat:=83
abbrev vp:Nat:=86
abbrev pb:Nat:=101
abbrev yI:Nat:=104
abbrev BG:Nat:=112
abbrev Gy:Nat:=113
abbrev vq:Nat:=117
abbrev vr:Nat:=148
abbrev qw:Nat:=155
abbrev SR:Nat:=177
abbrev SS:Nat:=179
abbrev BH:Nat:=190
abbrev tw:Nat:=192
abbrev tx:Nat:=193
abbrev pc:Nat:=228
abbrev pd:Nat:=230
abbrev yJ:Nat:=236
abbrev yK:Nat:=248
abbrev pe:Nat:=250
abbrev pf:Nat:=256
def BI(vt:List D→Option D)(n:Nat)(ls:List D):Option (List D⊕(List D⊕D)):=
 R (lenP (I ls 6)) fun v10=>
 R (binP false .lss (I ls 2) v10) fun v11=>
 R (gD v11 true (
 R (binP false .leq (I ls 1) (I ls 0)) fun bg=>
 some bg
)) fun bg=>
 R (pickP v11 bg (ar false)) fun bx=>
 oif bx (
 R (a3 4 (I ls 6) (I ls 2)) fun BJ=>
 R (aW true 4 0 BJ) fun cq=>
 R (binP false .sub (I ls 0) (I ls 1)) fun cJ=>
 R (vt [cq,cJ]) fun cu=>
 R (binP false .add (I ls 1) cu) fun cD=>
 R (binP false .add (I ls 2) (J 1)) fun bE=>
 some (.inl [I ls 0,cD,bE,I ls 3,I ls 4,I ls 5,I ls 6])
) (
 aU (
 some (.inl [I ls 1])
)
)
def Gz(vt:List D→Option D)(n:Nat)(ab:D)(ah:D):Option D:=
 aw (aK 4 ab)<|
 R (
 bm (BI vt n) n [ah,J 1,J 0,aa ab 0,aa ab 1,aa ab 2,aa ab 3]
)<|a7 fun ls=>
 some (I ls 0)
def ob:Nat→List D→Option D
 |0,_=>none
 |n+1,aF=>match aF with
  |[ab,ah]=>Gz (ob n) n ab ah
  |_=>none
def BK(vu:List D→Option D)(n:Nat)(ls:List D):Option (List D⊕(List D⊕D)):=
 R (lenP (I ls 8)) fun bg=>
 R (binP false .lss (I ls 2) bg) fun bx=>
 R (gD bx true (
 R (binP false .leq (I ls 1) (I ls 0)) fun v20=>
 some v20
)) fun v20=>
 R (pickP bx v20 (ar false)) fun bJ=>
 oif bJ (
 R (a3 6 (I ls 8) (I ls 2)) fun rP=>
 R (aW true 6 0 rP) fun cD=>
 R (binP false .sub (I ls 0) (I ls 1)) fun dr=>
 R (vu [cD,dr]) fun dD=>
 R (binP false .add (I ls 1) dD) fun ds=>
 R (binP false .add (I ls 2) (J 1)) fun b7=>
 some (.inl [I ls 0,ds,b7,I ls 3,I ls 4,I ls 5,I ls 6,I ls 7,I ls 8])
) (
 aU (
 some (.inl [I ls 1])
)
)
def GA(vu:List D→Option D)(n:Nat)(ab:D)(ah:D):Option D:=
 aw (aK 6 ab)<|
 R (ob n [D.agg [aa ab 1,aa ab 2,aa ab 3,aa ab 4],ah]) fun v10=>
 R (binP false .add (J 1) v10) fun v11=>
 R (
 bm (BK vu n) n [ah,v11,J 0,aa ab 0,aa ab 1,aa ab 2,aa ab 3,aa ab 4,aa ab 5]
)<|a7 fun ls=>
 some (I ls 0)
def qx:Nat→List D→Option D
 |0,_=>none
 |n+1,aF=>match aF with
  |[ab,ah]=>GA (qx n) n ab ah
  |_=>none
def BL(n:Nat)(ls:List D):Option (List D⊕(List D⊕D)):=
 R (lenP (I ls 4)) fun fH=>
 R (binP false .lss (I ls 2) fH) fun eA=>
 oif eA (
 R (a3 5 (I ls 4) (I ls 2)) fun aeH=>
 R (aW true 4 1 aeH) fun eo=>
 aw (aK 4 eo)<|
 aw (cY (((esD (I ls 11))).length+([[aa eo 0,aa eo 1,aa eo 2,aa eo 3]]).length) 56)<|
 R (binP false .add (I ls 2) (J 1)) fun fy=>
 some (.inl [I ls 0,I ls 1,fy,I ls 3,I ls 4,I ls 5,I ls 6,I ls 7,I ls 8,I ls 9,I ls 10,D.aC 4 ((esD (I ls 11))++[[aa eo 0,aa eo 1,aa eo 2,aa eo 3]])])
) (
 aU (
 some (.inl [I ls 0,I ls 1,I ls 3,I ls 4,I ls 5,I ls 6,I ls 7,I ls 8,I ls 9,I ls 10,D.aC 4 (esD (I ls 11))])
)
)
def BM(n:Nat)(ls:List D):Option (List D⊕(List D⊕D)):=
 R (lenP (I ls 7)) fun g6=>
 R (binP false .lss (I ls 2) g6) fun il=>
 oif il (
 R (a3 5 (I ls 7) (I ls 2)) fun LA=>
 R (aW true 4 1 LA) fun gF=>
 aw (aK 4 gF)<|
 aw (cY (((esD (I ls 11))).length+([[aa gF 0,aa gF 1,aa gF 2,aa gF 3]]).length) 56)<|
 R (binP false .add (I ls 2) (J 1)) fun fP=>
 some (.inl [I ls 0,I ls 1,fP,I ls 3,I ls 4,I ls 5,I ls 6,I ls 7,I ls 8,I ls 9,I ls 10,D.aC 4 ((esD (I ls 11))++[[aa gF 0,aa gF 1,aa gF 2,aa gF 3]])])
) (
 aU (
 some (.inl [I ls 0,I ls 1,I ls 3,I ls 4,I ls 5,I ls 6,I ls 7,I ls 8,I ls 9,I ls 10,D.aC 4 (esD (I ls 11))])
)
)
def yL(n:Nat)(ls:List D):Option (List D⊕(List D⊕D)):=
 R (binP false .lss (I ls 2) (J ((esD (I ls 11))).length)) fun lY=>
 R (gD lY true (
 R (binP false .leq (I ls 1) (I ls 0)) fun qy=>
 some qy
)) fun qy=>
 R (pickP lY qy (ar false)) fun qz=>
 oif qz (
 R (cG ((esD (I ls 11))).length (I ls 2)) fun aeI=>
 R (((esD (I ls 11)))[aeI]?) fun aeJ=>
 R (aW true 4 0 aeJ) fun lZ=>
 R (ob n [lZ,I ls 0]) fun vv=>
 R (binP false .add (I ls 1) vv) fun im=>
 R (binP false .add (I ls 2) (J 1)) fun vw=>
 some (.inl [I ls 0,im,vw,I ls 3,I ls 4,I ls 5,I ls 6,I ls 7,I ls 8,I ls 9,I ls 10,D.aC 4 (esD (I ls 11))])
) (
 aU (
 some (.inl [I ls 0,I ls 1,I ls 3,I ls 4,I ls 5,I ls 6,I ls 7,I ls 8,I ls 9,I ls 10])
)
)
def yM(n:Nat)(ls:List D):Option (List D⊕(List D⊕D)):=
 R (lenP (I ls 10)) fun vx=>
 R (binP false .lss (I ls 2) vx) fun pg=>
 R (gD pg true (
 R (binP false .leq (I ls 1) (I ls 0)) fun mS=>
 some mS
)) fun mS=>
 R (pickP pg mS (ar false)) fun LB=>
 oif LB (
 R (a3 7 (I ls 10) (I ls 2)) fun aeK=>
 R (aW true 6 1 aeK) fun qA=>
 R (qx n [qA,I ls 0]) fun LC=>
 R (binP false .add (I ls 1) LC) fun vy=>
 R (binP false .add (I ls 2) (J 1)) fun yN=>
 some (.inl [I ls 0,vy,yN,I ls 3,I ls 4,I ls 5,I ls 6,I ls 7,I ls 8,I ls 9,I ls 10])
) (
 aU (
 some (.inl [I ls 0,I ls 1])
)
)
def LD(n:Nat)(ab:D)(ah:D):Option D:=
 aw (aK 8 ab)<|
 R (lenP (aa ab 0)) fun bR=>
 R (lenP (aa ab 1)) fun bx=>
 R (binP false .add bR bx) fun br=>
 R (lenP (aa ab 2)) fun v20=>
 R (binP false .add br v20) fun bJ=>
 R (lenP (aa ab 3)) fun cq=>
 R (binP false .add bJ cq) fun cE=>
 R (lenP (aa ab 4)) fun cu=>
 R (binP false .add cE cu) fun cD=>
 R (lenP (aa ab 5)) fun dr=>
 R (binP false .add cD dr) fun dD=>
 R (lenP (aa ab 6)) fun df=>
 R (binP false .add dD df) fun dk=>
 R (lenP (aa ab 7)) fun dt=>
 R (binP false .add dk dt) fun e2=>
 R (binP false .gtr e2 ah) fun dP=>
 oif dP (
 some (ar false)
) (
 R (
 bm (BL n) n [ah,e2,J 0,aa ab 0,aa ab 1,aa ab 2,aa ab 3,aa ab 4,aa ab 5,aa ab 6,aa ab 7,D.aC 4 []]
)<|a7 fun ls=>
 R (
 bm (BM n) n [I ls 0,I ls 1,J 0,I ls 2,I ls 3,I ls 4,I ls 5,I ls 6,I ls 7,I ls 8,I ls 9,D.aC 4 (esD (I ls 10))]
)<|a7 fun ls=>
 R (elP (I ls 4)) fun vz=>
 aw (decide (vz.1=4∨vz.2=[])&&decide (0<4))<|
 aw (cY (((esD (I ls 10))).length+(vz.2).length) 56)<|
 R (elP (I ls 5)) fun yO=>
 aw (decide (yO.1=4∨yO.2=[])&&decide (0<4))<|
 aw (cY ((((esD (I ls 10))++vz.2)).length+(yO.2).length) 56)<|
 R (elP (I ls 7)) fun BN=>
 aw (decide (BN.1=4∨BN.2=[])&&decide (0<4))<|
 aw (cY (((((esD (I ls 10))++vz.2)++yO.2)).length+(BN.2).length) 56)<|
 R (elP (I ls 8)) fun GB=>
 aw (decide (GB.1=4∨GB.2=[])&&decide (0<4))<|
 aw (cY ((((((esD (I ls 10))++vz.2)++yO.2)++BN.2)).length+(GB.2).length) 56)<|
 R (
 bm (yL n) n [I ls 0,I ls 1,J 0,I ls 2,I ls 3,I ls 4,I ls 5,I ls 6,I ls 7,I ls 8,I ls 9,D.aC 4 (((((esD (I ls 10))++vz.2)++yO.2)++BN.2)++GB.2)]
)<|a7 fun ls=>
 R (
 bm (yM n) n [I ls 0,I ls 1,J 0,I ls 2,I ls 3,I ls 4,I ls 5,I ls 6,I ls 7,I ls 8,I ls 9]
)<|a7 fun ls=>
 R (binP false .leq (I ls 1) (I ls 0)) fun vA=>
 some vA
)
def yP(n:Nat):List D→Option D
 |[ab,ah]=>LD n ab ah
 |_=>none
def BO(n:Nat)(ls:List D):Option (List D⊕(List D⊕D)):=
 R (binP false .lss (I ls 3) (I ls 2)) fun v10=>
 oif v10 (
 R (a3 1 (I ls 1) (I ls 3)) fun vB=>
 R (aW false 1 0 vB) fun bO=>
 R (lenP bO) fun bp=>
 R (binP false .gtr bp (J 20)) fun bg=>
 oif bg (
 aU (
 aU (
 some (ar false)
)
)
) (
 R (binP false .add (I ls 3) (J 1)) fun bx=>
 some (.inl [I ls 0,I ls 1,I ls 2,bx,I ls 4,I ls 5,I ls 6,I ls 7,I ls 8,I ls 9,I ls 10,I ls 11])
)
) (
 aU (
 some (.inl [I ls 0,I ls 4,I ls 5,I ls 6,I ls 7,I ls 8,I ls 9,I ls 10,I ls 11])
)
)
def GC(n:Nat)(ab:D)(ah:D):Option D:=
 aw (aK 8 ab)<|
 R (lenP ah) fun cg=>
 R (
 bm (BO n) n [ah,ah,cg,J 0,aa ab 0,aa ab 1,aa ab 2,aa ab 3,aa ab 4,aa ab 5,aa ab 6,aa ab 7]
)<|a7 fun ls=>
 R (lenP (I ls 0)) fun bE=>
 R (binP false .leq bE (J 40)) fun ca=>
 R (gD ca true (
 R (yP n [D.agg [I ls 1,I ls 2,I ls 3,I ls 4,I ls 5,I ls 6,I ls 7,I ls 8],J 600]) fun bS=>
 some bS
)) fun bS=>
 R (pickP ca bS (ar false)) fun b7=>
 some b7
def tz(n:Nat):List D→Option D
 |[ab,ah]=>GC n ab ah
 |_=>none
def aeL(n:Nat)(ab:D):Option D:=
 aw (bA ab)<|
 aw (aK 4 (D.agg [J 1,ab,aJ ⟨#[]⟩,D.val (.slice none 0 0)]))<|
 some (D.agg [J 1,ab,aJ ⟨#[]⟩,D.val (.slice none 0 0)])
def vC(n:Nat):List D→Option D
 |[ab]=>aeL n ab
 |_=>none
def aeM(n:Nat)(ab:D)(ah:D):Option D:=
 aw (bA ab)<|
 aw (bA ah)<|
 aw (aK 4 (D.agg [ab,J 0,aJ ⟨#[]⟩,ah]))<|
 some (D.agg [ab,J 0,aJ ⟨#[]⟩,ah])
def vD(n:Nat):List D→Option D
 |[ab,ah]=>aeM n ab ah
 |_=>none
def aeN(n:Nat):Option D:=
 R (vC n [J 2]) fun v10=>
 aw (aK 4 v10)<|
 R (vD n [J 10,D.aC 4 [[J 3,J 0,aJ ⟨#[120]⟩,D.val (.slice none 0 0)],[aa v10 0,aa v10 1,aa v10 2,aa v10 3]]]) fun bO=>
 R (vC n [J 0]) fun bp=>
 R (vC n [J 1]) fun bE=>
 aw (aK 4 bE)<|
 R (vD n [J 14,D.aC 4 [[J 3,J 0,aJ ⟨#[120]⟩,D.val (.slice none 0 0)],[aa bE 0,aa bE 1,aa bE 2,aa bE 3]]]) fun v20=>
 aw (aK 4 bO)<|
 aw (aK 4 bp)<|
 aw (aK 4 v20)<|
 R (vD n [J 18,D.aC 4 [[aa bO 0,aa bO 1,aa bO 2,aa bO 3],[aa bp 0,aa bp 1,aa bp 2,aa bp 3],[aa v20 0,aa v20 1,aa v20 2,aa v20 3]]]) fun bS=>
 aw (aK 4 bS)<|
 aw (aK 4 (D.agg [aa bS 0,aa bS 1,aa bS 2,aa bS 3]))<|
 R (vC n [J 0]) fun cu=>
 aw (aK 4 cu)<|
 R (vD n [J 10,D.aC 4 [[J 3,J 0,aJ ⟨#[120]⟩,D.val (.slice none 0 0)],[aa cu 0,aa cu 1,aa cu 2,aa cu 3]]]) fun v30=>
 R (vC n [J 1]) fun dg=>
 aw (aK 4 dg)<|
 R (vD n [J 10,D.aC 4 [[J 3,J 0,aJ ⟨#[120]⟩,D.val (.slice none 0 0)],[aa dg 0,aa dg 1,aa dg 2,aa dg 3]]]) fun dt=>
 aw (aK 4 v30)<|
 aw (aK 5 (D.agg [aJ ⟨#[120]⟩,aa bS 0,aa bS 1,aa bS 2,aa bS 3]))<|
 aw (aK 4 dt)<|
 some (D.agg [D.aC 4 [[aJ ⟨#[120]⟩,ar false,J 0,J 2]],D.val (.slice none 0 0),D.aC 4 [[aa v30 0,aa v30 1,aa v30 2,aa v30 3]],D.val (.slice none 0 0),D.aC 5 [[aJ ⟨#[120]⟩,aa bS 0,aa bS 1,aa bS 2,aa bS 3]],D.val (.slice none 0 0),D.aC 4 [[aa dt 0,aa dt 1,aa dt 2,aa dt 3]],D.val (.slice none 0 0)])
def LF(n:Nat):List D→Option D
 |[]=>aeN n
 |_=>none
def SU(n:Nat)(ab:D):Option D:=
 R (binP false .geq ab (D.val (.int .u8 97))) fun v4=>
 R (gD v4 true (
 R (binP false .leq ab (D.val (.int .u8 122))) fun bN=>
 some bN
)) fun bN=>
 R (pickP v4 bN (ar false)) fun cg=>
 R (gD cg false (
 R (binP false .geq ab (D.val (.int .u8 65))) fun v11=>
 some v11
)) fun bO=>
 R (gD bO true (
 R (binP false .leq ab (D.val (.int .u8 90))) fun bp=>
 some bp
)) fun bp=>
 R (gD cg false (
 R (pickP bO bp (ar false)) fun bg=>
 some bg
)) fun bg=>
 R (pickP cg (ar true) bg) fun bx=>
 some bx
def vE(n:Nat):List D→Option D
 |[ab]=>SU n ab
 |_=>none
def SV(n:Nat)(ab:D):Option D:=
 R (binP false .geq ab (D.val (.int .u8 48))) fun v4=>
 R (gD v4 true (
 R (binP false .leq ab (D.val (.int .u8 57))) fun bN=>
 some bN
)) fun bN=>
 R (pickP v4 bN (ar false)) fun cg=>
 some cg
def BP(n:Nat):List D→Option D
 |[ab]=>SV n ab
 |_=>none
def SW(n:Nat)(ab:D):Option D:=
 R (vE n [ab]) fun v4=>
 R (gD v4 false (
 R (BP n [ab]) fun bN=>
 some bN
)) fun bN=>
 R (pickP v4 (ar true) bN) fun cg=>
 R (gD cg false (
 R (binP false .eql ab (D.val (.int .u8 95))) fun v11=>
 some v11
)) fun v11=>
 R (pickP cg (ar true) v11) fun bO=>
 some bO
def BQ(n:Nat):List D→Option D
 |[ab]=>SW n ab
 |_=>none
def BR(n:Nat)(ls:List D):Option (List D⊕(List D⊕D)):=
 R (nj (I ls 0)) fun cg=>
 R (binP false .lss (I ls 1) cg) fun bG=>
 R (gD bG true (
 R (sixP (I ls 0) (I ls 1)) fun bp=>
 R (BQ n [bp]) fun bg=>
 some bg
)) fun bg=>
 R (pickP bG bg (ar false)) fun bx=>
 oif bx (
 R (binP false .add (I ls 1) (J 1)) fun bE=>
 some (.inl [I ls 0,bE])
) (
 aU (
 some (.inl [I ls 1])
)
)
def LG(n:Nat)(ab:D):Option D:=
 R (
 bm (BR n) n [ab,J 0]
)<|a7 fun ls=>
 some (I ls 0)
def yQ(n:Nat):List D→Option D
 |[ab,ah]=>aw (isFc BH ah) (LG n ab)
 |_=>none
def yR(n:Nat)(ls:List D):Option (List D⊕(List D⊕D)):=
 R (binP false .lss (I ls 3) (I ls 2)) fun bG=>
 oif bG (
 R (a3 1 (I ls 0) (I ls 3)) fun eK=>
 R (aW false 1 0 eK) fun bg=>
 R (binP false .eql (I ls 1) bg) fun bx=>
 oif bx (
 aU (
 aU (
 some (I ls 3)
)
)
) (
 R (binP false .add (I ls 3) (J 1)) fun bE=>
 some (.inl [I ls 0,I ls 1,I ls 2,bE])
)
) (
 aU (
 some (.inl [])
)
)
def LH(n:Nat)(ab:D)(ah:D):Option D:=
 R (lenP ab) fun bN=>
 R (
 bm (yR n) n [ab,ah,bN,J 0]
)<|a7 fun ls=>
 some (J (-1))
def yS(n:Nat):List D→Option D
 |[ab,ah]=>LH n ab ah
 |_=>none
def SX(n:Nat)(ab:D)(ah:D):Option D:=
 R (yS n [ab,ah]) fun bN=>
 R (binP false .geq bN (J 0)) fun cg=>
 some cg
def BS(n:Nat):List D→Option D
 |[ab,ah]=>SX n ab ah
 |_=>none
def LI(n:Nat)(ab:D):Option D:=
 R (binP false .neq ab (aJ ⟨#[]⟩)) fun v4=>
 R (gD v4 true (
 R (nj ab) fun bN=>
 R (binP false .leq bN (J 24)) fun cg=>
 some cg
)) fun cg=>
 R (pickP v4 cg (ar false)) fun bG=>
 R (gD bG true (
 R (sixP ab (J 0)) fun bO=>
 R (vE n [bO]) fun bR=>
 some bR
)) fun bR=>
 R (pickP bG bR (ar false)) fun bp=>
 R (gD bp true (
 R (yQ n [ab,(D.val (.func (.func BH) #[] #[]))]) fun br=>
 R (nj ab) fun ca=>
 R (binP false .eql br ca) fun v20=>
 some v20
)) fun v20=>
 R (pickP bp v20 (ar false)) fun bJ=>
 R (gD bJ true (
 R (BS n [(D.aC 1 ((BF).map fun c=>[c])),ab]) fun cE=>
 R (unP .not cE) fun ck=>
 some ck
)) fun ck=>
 R (pickP bJ ck (ar false)) fun cJ=>
 some cJ
def qB(n:Nat):List D→Option D
 |[ab]=>LI n ab
 |_=>none
def LJ(n:Nat)(ab:D)(x1:List D):Option D:=
 aw (aK 4 ab)<|
 R (aW false 1 0 x1) fun bN=>
 R (binP false .eql (aa ab 0) bN) fun cg=>
 some cg
def yT(n:Nat):List D→Option D
 |[ab,ah]=>(match ah with| .ref x1 0=>LJ n ab x1|_=>none)
 |_=>none
def vF(n:Nat)(ls:List D):Option (List D⊕(List D⊕D)):=
 R (binP false .lss (I ls 3) (I ls 2)) fun bG=>
 oif bG (
 R (a3 4 (I ls 0) (I ls 3)) fun eK=>
 R (aW true 4 0 eK) fun bg=>
 R (yT n [bg,I ls 1]) fun bx=>
 oif bx (
 aU (
 aU (
 some (I ls 3)
)
)
) (
 R (binP false .add (I ls 3) (J 1)) fun bE=>
 some (.inl [I ls 0,I ls 1,I ls 2,bE])
)
) (
 aU (
 some (.inl [])
)
)
def LK(n:Nat)(ab:D)(b4:D):Option D:=
 R (lenP ab) fun bN=>
 R (
 bm (vF n) n [ab,b4,bN,J 0]
)<|a7 fun ls=>
 some (J (-1))
def vG(n:Nat):List D→Option D
 |[ab,ah]=>(match fnOf qw ah with|some [b4]=>LK n ab b4|_=>none)
 |_=>none
def LL(n:Nat)(ab:D)(b4:D):Option D:=
 R (vG n [ab,(D.fn (.func qw) [] [b4])]) fun bN=>
 R (binP false .geq bN (J 0)) fun cg=>
 some cg
def yU(n:Nat):List D→Option D
 |[ab,ah]=>(match fnOf qw ah with|some [b4]=>LL n ab b4|_=>none)
 |_=>none
def vH(n:Nat)(ls:List D):Option (List D⊕(List D⊕D)):=
 R (binP false .lss (I ls 3) (I ls 2)) fun v11=>
 oif v11 (
 R (a3 4 (I ls 1) (I ls 3)) fun BT=>
 R (aW true 4 0 BT) fun bp=>
 aw (aK 4 bp)<|
 R (jz true [aa bp 2,aa bp 3]) fun v20=>
 R (binP false .gtr v20 (J 255)) fun bJ=>
 R (gD bJ false (
 R (jz false [aa bp 2,aa bp 3]) fun cJ=>
 R (binP false .lss cJ (J (-255))) fun cu=>
 some cu
)) fun cu=>
 R (pickP bJ (ar true) cu) fun cD=>
 R (qB n [aa bp 0]) fun dD=>
 R (unP .not dD) fun ds=>
 oif ds (
 aU (
 aU (
 some (D.aQ [I ls 3,J 12])
)
)
) (
 R (ko 4 (I ls 0) none (some (I ls 3))) fun eG=>
 R (yU n [eG,(D.fn (.func qw) [] [D.ref [aa bp 0,aa bp 1,aa bp 2,aa bp 3] 0])]) fun e2=>
 aw e2.flat<|
 oif e2 (
 aU (
 aU (
 some (D.aQ [I ls 3,J 6])
)
)
) (
 R (gD (aa bp 1) true (
 R (binP false .neq (aa bp 2) (J 0)) fun eA=>
 some eA
)) fun cX=>
 R (gD cX false (
 R (binP false .neq (aa bp 3) (J 0)) fun hL=>
 some hL
)) fun hL=>
 R (gD (aa bp 1) true (
 R (pickP cX (ar true) hL) fun hA=>
 some hA
)) fun hA=>
 R (pickP (aa bp 1) hA (ar false)) fun fa=>
 oif fa (
 aU (
 aU (
 some (D.aQ [I ls 3,J 3])
)
)
) (
 R (unP .not (aa bp 1)) fun eH=>
 R (gD eH true (
 R (binP false .gtr (aa bp 2) (aa bp 3)) fun dW=>
 some dW
)) fun fP=>
 R (gD fP false (
 some cD
)) fun fI=>
 R (gD eH true (
 R (pickP fP (ar true) fI) fun ep=>
 some ep
)) fun iN=>
 R (gD iN false (
 R (binP false .sub (aa bp 3) (aa bp 2)) fun mT=>
 R (binP false .geq mT (J 64)) fun hj=>
 some hj
)) fun hj=>
 R (gD eH true (
 R (pickP iN (ar true) hj) fun gO=>
 some gO
)) fun gO=>
 R (pickP eH gO (ar false)) fun lz=>
 oif lz (
 aU (
 aU (
 some (D.aQ [I ls 3,J 2])
)
)
) (
 R (binP false .add (I ls 3) (J 1)) fun lA=>
 some (.inl [I ls 0,I ls 1,I ls 2,lA])
)
)
)
)
) (
 aU (
 some (.inl [])
)
)
def SY(n:Nat)(ab:D):Option D:=
 R (lenP ab) fun bG=>
 R (
 bm (vH n) n [ab,ab,bG,J 0]
)<|a7 fun ls=>
 some (D.aQ [J 0,J 0])
def yV(n:Nat):List D→Option D
 |[ab]=>SY n ab
 |_=>none
def SZ(n:Nat)(ab:D):Option D:=
 aw (aK 4 ab)<|
 oif (aa ab 1) (
 some (J 2)
) (
 R (binP false .gtr (aa ab 2) (aa ab 3)) fun bO=>
 oif bO (
 some (J 0)
) (
 R (cvP .u64 (aa ab 3)) fun bg=>
 R (cvP .u64 (aa ab 2)) fun bE=>
 R (binP false .sub bg bE) fun ca=>
 R (binP false .lss ca (D.val (.int .u64 1073741824))) fun bJ=>
 oif bJ (
 R (cvP .i64 ca) fun b7=>
 R (binP false .add b7 (J 1)) fun cq=>
 some cq
) (
 some (J 1073741825)
)
)
)
def BU(n:Nat):List D→Option D
 |[ab]=>SZ n ab
 |_=>none
def GD(n:Nat)(ls:List D):Option (List D⊕(List D⊕D)):=
 R (binP false .lss (I ls 1) (J 63)) fun jZ=>
 oif jZ (
 R (binP false .shl (J 1) (I ls 1)) fun bG=>
 R (binP false .leq (I ls 0) bG) fun v10=>
 oif v10 (
 aU (
 aU (
 some (I ls 1)
)
)
) (
 R (binP false .add (I ls 1) (J 1)) fun bO=>
 some (.inl [I ls 0,bO])
)
) (
 aU (
 some (.inl [])
)
)
def S0(n:Nat)(ab:D):Option D:=
 R (
 bm (GD n) n [ab,J 0]
)<|a7 fun ls=>
 some (J 63)
def BV(n:Nat):List D→Option D
 |[ab]=>S0 n ab
 |_=>none
def GF(n:Nat)(ls:List D):Option (List D⊕(List D⊕D)):=
 R (binP false .lss (I ls 3) (I ls 2)) fun v10=>
 oif v10 (
 R (a3 4 (I ls 1) (I ls 3)) fun vB=>
 R (aW true 4 0 vB) fun bO=>
 aw (aK 4 bO)<|
 R (BU n [D.agg [aa bO 0,aa bO 1,aa bO 2,aa bO 3]]) fun bg=>
 R (BV n [bg]) fun bx=>
 R (binP false .add (I ls 0) bx) fun br=>
 R (binP false .add (I ls 3) (J 1)) fun bE=>
 some (.inl [br,I ls 1,I ls 2,bE])
) (
 aU (
 some (.inl [I ls 0])
)
)
def S1(n:Nat)(ab:D):Option D:=
 aw (aK 8 ab)<|
 R (lenP (aa ab 0)) fun cg=>
 R (
 bm (GF n) n [J 0,aa ab 0,cg,J 0]
)<|a7 fun ls=>
 some (I ls 0)
def BW(n:Nat):List D→Option D
 |[ab]=>S1 n ab
 |_=>none
def S2(n:Nat)(ab:D):Option D:=
 R (lenP ab) fun v4=>
 some v4
def BX(n:Nat):List D→Option D
 |[ab]=>S2 n ab
 |_=>none
def S3(n:Nat)(ab:D):Option D:=
 R (lenP ab) fun v4=>
 some v4
def BY(n:Nat):List D→Option D
 |[ab]=>S3 n ab
 |_=>none
def BZ(n:Nat)(ab:D):Option D:=
 aw (aK 3 ab)<|
 R (lenP (aa ab 1)) fun jZ=>
 some jZ
def ph(n:Nat):List D→Option D
 |[ab]=>BZ n ab
 |_=>none
def S4(n:Nat)(ab:D):Option D:=
 R (lenP ab) fun v4=>
 some v4
def B0(n:Nat):List D→Option D
 |[ab]=>S4 n ab
 |_=>none
def S5(n:Nat)(ab:D):Option D:=
 R (lenP ab) fun v4=>
 some v4
def B1(n:Nat):List D→Option D
 |[ab]=>S5 n ab
 |_=>none
def S6(n:Nat)(ab:D):Option D:=
 R (lenP ab) fun v4=>
 some v4
def B2(n:Nat):List D→Option D
 |[ab]=>S6 n ab
 |_=>none
def GG(n:Nat)(ab:D)(x1:List D):Option D:=
 aw (aK 7 ab)<|
 R (aW false 1 0 x1) fun v6=>
 R (binP false .eql (aa ab 0) v6) fun bN=>
 some bN
def B3(n:Nat):List D→Option D
 |[ab,ah]=>(match ah with| .ref x1 0=>GG n ab x1|_=>none)
 |_=>none
def B4(n:Nat)(ls:List D):Option (List D⊕(List D⊕D)):=
 R (binP false .lss (I ls 3) (I ls 2)) fun bG=>
 oif bG (
 R (a3 7 (I ls 0) (I ls 3)) fun eK=>
 R (aW true 7 0 eK) fun bg=>
 R (B3 n [bg,I ls 1]) fun bx=>
 oif bx (
 aU (
 aU (
 some (I ls 3)
)
)
) (
 R (binP false .add (I ls 3) (J 1)) fun bE=>
 some (.inl [I ls 0,I ls 1,I ls 2,bE])
)
) (
 aU (
 some (.inl [])
)
)
def B5(n:Nat)(ab:D)(b4:D):Option D:=
 R (lenP ab) fun bN=>
 R (
 bm (B4 n) n [ab,b4,bN,J 0]
)<|a7 fun ls=>
 some (J (-1))
def vI(n:Nat):List D→Option D
 |[ab,ah]=>(match fnOf pf ah with|some [b4]=>B5 n ab b4|_=>none)
 |_=>none
def GH(n:Nat)(ab:D)(b4:D):Option D:=
 R (vI n [ab,(D.fn (.func pf) [] [b4])]) fun bN=>
 R (binP false .geq bN (J 0)) fun cg=>
 some cg
def vJ(n:Nat):List D→Option D
 |[ab,ah]=>(match fnOf pf ah with|some [b4]=>GH n ab b4|_=>none)
 |_=>none
def S7(n:Nat)(ab:D):Option D:=
 R (binP false .eql ab (J 1)) fun v6=>
 R (
 oif v6 (
 some (.inl [ab,v6])
) (
 R (binP false .eql ab (J 2)) fun bN=>
 R (
 oif bN (
 some (.inl [ab,bN])
) (
 R (binP false .eql ab (J 3)) fun cg=>
 R (
 oif cg (
 some (.inl [ab,cg])
) (
 R (binP false .eql ab (J 4)) fun bG=>
 some (.inl [ab,bG])
)
)<|a7 fun ls=>
 some (.inl [I ls 0,I ls 1])
)
)<|a7 fun ls=>
 some (.inl [I ls 0,I ls 1])
)
)<|a7 fun ls=>
 oif (I ls 1) (
 some (D.aQ [J 0,J 0])
) (
 R (binP false .eql (I ls 0) (J 5)) fun v11=>
 oif v11 (
 some (D.aQ [J 1,J 1])
) (
 R (binP false .eql (I ls 0) (J 6)) fun bR=>
 R (
 oif bR (
 some (.inl [I ls 0,bR])
) (
 R (binP false .eql (I ls 0) (J 7)) fun bp=>
 some (.inl [I ls 0,bp])
)
)<|a7 fun ls=>
 oif (I ls 1) (
 some (D.aQ [J 1,J 64])
) (
 R (binP false .eql (I ls 0) (J 8)) fun bx=>
 R (
 oif bx (
 some (.inl [I ls 0,bx])
) (
 R (binP false .eql (I ls 0) (J 9)) fun br=>
 R (
 oif br (
 some (.inl [I ls 0,br])
) (
 R (binP false .eql (I ls 0) (J 10)) fun bE=>
 R (
 oif bE (
 some (.inl [I ls 0,bE])
) (
 R (binP false .eql (I ls 0) (J 11)) fun ca=>
 R (
 oif ca (
 some (.inl [I ls 0,ca])
) (
 R (binP false .eql (I ls 0) (J 12)) fun v20=>
 R (
 oif v20 (
 some (.inl [I ls 0,v20])
) (
 R (binP false .eql (I ls 0) (J 13)) fun bJ=>
 R (
 oif bJ (
 some (.inl [I ls 0,bJ])
) (
 R (binP false .eql (I ls 0) (J 14)) fun bS=>
 R (
 oif bS (
 some (.inl [I ls 0,bS])
) (
 R (binP false .eql (I ls 0) (J 15)) fun b7=>
 R (
 oif b7 (
 some (.inl [I ls 0,b7])
) (
 R (binP false .eql (I ls 0) (J 16)) fun cq=>
 R (
 oif cq (
 some (.inl [I ls 0,cq])
) (
 R (binP false .eql (I ls 0) (J 17)) fun cE=>
 some (.inl [I ls 0,cE])
)
)<|a7 fun ls=>
 some (.inl [I ls 0,I ls 1])
)
)<|a7 fun ls=>
 some (.inl [I ls 0,I ls 1])
)
)<|a7 fun ls=>
 some (.inl [I ls 0,I ls 1])
)
)<|a7 fun ls=>
 some (.inl [I ls 0,I ls 1])
)
)<|a7 fun ls=>
 some (.inl [I ls 0,I ls 1])
)
)<|a7 fun ls=>
 some (.inl [I ls 0,I ls 1])
)
)<|a7 fun ls=>
 some (.inl [I ls 0,I ls 1])
)
)<|a7 fun ls=>
 some (.inl [I ls 0,I ls 1])
)
)<|a7 fun ls=>
 oif (I ls 1) (
 some (D.aQ [J 2,J 2])
) (
 R (binP false .eql (I ls 0) (J 18)) fun cJ=>
 oif cJ (
 some (D.aQ [J 3,J 3])
) (
 some (D.aQ [J (-1),J (-1)])
)
)
)
)
)
def B6(n:Nat):List D→Option D
 |[ab]=>S7 n ab
 |_=>none
def S8(n:Nat)(ab:D):Option D:=
 aw (aK 4 ab)<|
 R (B6 n [aa ab 0]) fun v11=>
 R (extP 0 v11) fun bO=>
 R (extP 1 v11) fun bR=>
 R (binP false .lss bO (J 0)) fun bg=>
 oif bg (
 some (J 11)
) (
 R (
 R (binP false .eql (aa ab 0) (J 1)) fun ca=>
 R (
 oif ca (
 some (.inl [bO,bR,J (-255),J 255,aa ab 0,aa ab 1,aa ab 2,aa ab 3])
) (
 R (binP false .eql (aa ab 0) (J 2)) fun bJ=>
 R (
 oif bJ (
 some (.inl [bO,bR,J 0,J 1,aa ab 0,aa ab 1,aa ab 2,aa ab 3])
) (
 some (.inl [bO,bR,J 0,J 0,aa ab 0,aa ab 1,aa ab 2,aa ab 3])
)
)<|a7 fun ls=>
 some (.inl [I ls 0,I ls 1,I ls 2,I ls 3,I ls 4,I ls 5,I ls 6,I ls 7])
)
)<|a7 fun ls=>
 some (.inl [I ls 0,I ls 1,I ls 2,I ls 3,I ls 4,I ls 5,I ls 6,I ls 7])
)<|a7 fun ls=>
 R (binP false .eql (I ls 4) (J 3)) fun cq=>
 R (gD cq false (
 R (binP false .eql (I ls 4) (J 4)) fun cu=>
 some cu
)) fun cu=>
 R (pickP cq (ar true) cu) fun cD=>
 R (binP false .lss (I ls 5) (I ls 2)) fun ds=>
 R (gD ds false (
 R (binP false .gtr (I ls 5) (I ls 3)) fun eG=>
 some eG
)) fun eG=>
 R (pickP ds (ar true) eG) fun dt=>
 oif dt (
 some (J 2)
) (
 R (gD cD true (
 R (binP false .eql (I ls 6) (aJ ⟨#[]⟩)) fun gj=>
 some gj
)) fun iO=>
 R (gD iO false (
 R (nj (I ls 6)) fun cX=>
 R (binP false .gtr cX (J 24)) fun fy=>
 some fy
)) fun fy=>
 R (gD cD true (
 R (pickP iO (ar true) fy) fun e3=>
 some e3
)) fun e3=>
 R (pickP cD e3 (ar false)) fun hL=>
 R (gD hL false (
 R (unP .not cD) fun eX=>
 some eX
)) fun gU=>
 R (gD gU true (
 R (binP false .neq (I ls 6) (aJ ⟨#[]⟩)) fun eH=>
 some eH
)) fun eH=>
 R (gD hL false (
 R (pickP gU eH (ar false)) fun gr=>
 some gr
)) fun gr=>
 R (pickP hL (ar true) gr) fun iq=>
 oif iq (
 some (J 12)
) (
 R (lenP (I ls 7)) fun dW=>
 R (binP false .lss dW (I ls 0)) fun fI=>
 R (gD fI false (
 R (lenP (I ls 7)) fun gu=>
 R (binP false .gtr gu (I ls 1)) fun gF=>
 some gF
)) fun gF=>
 R (pickP fI (ar true) gF) fun mT=>
 oif mT (
 some (J 3)
) (
 some (J 0)
)
)
)
)
def B7(n:Nat):List D→Option D
 |[ab]=>S8 n ab
 |_=>none
def B8(n:Nat)(ls:List D):Option (List D):=
 aw (aK 4 (I ls 0))<|
 R (binP false .add (I ls 2) (J 1)) fun cg=>
 aw (bA cg)<|
 R (binP false .gtr (I ls 1) (J 64)) fun v10=>
 R (
 oif v10 (
 some (.inl [J 17,cg])
) (
 R (B7 n [D.agg [aa (I ls 0) 0,aa (I ls 0) 1,aa (I ls 0) 2,aa (I ls 0) 3]]) fun bO=>
 aw (bA bO)<|
 R (binP false .eql bO (J 0)) fun bp=>
 R (gD bp true (
 R (binP false .gtr cg (J 4096)) fun br=>
 some br
)) fun br=>
 R (pickP bp br (ar false)) fun bE=>
 R (
 oif bE (
 some (.inl [J 4,cg])
) (
 some (.inl [bO,cg])
)
)<|a7 fun ls=>
 some (.inl [I ls 0,I ls 1])
)
)<|a7 fun ls=>
 R (binP false .eql (I ls 0) (J 0)) fun v20=>
 some [v20,I ls 1,I ls 0]
def B9(n:Nat)(ls:List D):Option (List D⊕(List D⊕(List D))):=
 R (binP false .gtr (I ls 1) (J 0)) fun bG=>
 R (gD bG true (
 R (binP false .sub (I ls 1) (J 1)) fun bR=>
 R (cG ((esD (I ls 2))).length bR) fun LM=>
 R (((esD (I ls 2)))[LM]?) fun aeO=>
 R (aW false 1 0 aeO) fun bg=>
 R (binP false .gtr bg (I ls 0)) fun br=>
 some br
)) fun br=>
 R (pickP bG br (ar false)) fun bE=>
 oif bE (
 R (binP false .sub (I ls 1) (J 1)) fun v20=>
 some (.inl [I ls 0,v20,D.aC 1 (esD (I ls 2))])
) (
 aU (
 some (.inl [I ls 0,I ls 1,D.aC 1 (esD (I ls 2))])
)
)
def tA(n:Nat)(ls:List D):Option (List D):=
 R (
 bm (B9 n) n [I ls 0,J ((esD (I ls 1))).length,D.aC 1 (esD (I ls 1))]
)<|a7 fun ls=>
 R (binP false .gtr (I ls 1) (J 0)) fun bS=>
 R (gD bS true (
 R (binP false .sub (I ls 1) (J 1)) fun ck=>
 R (cG ((esD (I ls 2))).length ck) fun Ca=>
 R (((esD (I ls 2)))[Ca]?) fun Cb=>
 R (aW false 1 0 Cb) fun cu=>
 R (binP false .eql cu (I ls 0)) fun v30=>
 some v30
)) fun v30=>
 R (pickP bS v30 (ar false)) fun dH=>
 oif dH (
 some [D.aC 1 (esD (I ls 2))]
) (
 aw (cY (((esD (I ls 2))).length+([[aJ ⟨#[]⟩]]).length) 16)<|
 R (binP false .add (I ls 1) (J 1)) fun dg=>
 R (ni (((esD (I ls 2))++[[aJ ⟨#[]⟩]])).length (some dg) none) fun mU=>
 R (ni (((esD (I ls 2))++[[aJ ⟨#[]⟩]])).length (some (I ls 1)) none) fun jF=>
 aw (decide (jF.1+jF.2≤(((esD (I ls 2))++[[aJ ⟨#[]⟩]])).length))<|
 aw (decide (mU.1+mU.2≤(((esD (I ls 2))++[[aJ ⟨#[]⟩]])).length))<|
 R (cG (((((esD (I ls 2))++[[aJ ⟨#[]⟩]])).take mU.1++(((((esD (I ls 2))++[[aJ ⟨#[]⟩]])).drop jF.1).take jF.2).take (min (((((esD (I ls 2))++[[aJ ⟨#[]⟩]])).drop jF.1).take jF.2).length mU.2)++(((esD (I ls 2))++[[aJ ⟨#[]⟩]])).drop (mU.1+(min (((((esD (I ls 2))++[[aJ ⟨#[]⟩]])).drop jF.1).take jF.2).length mU.2)))).length (I ls 1)) fun S9=>
 aw (bA (I ls 0))<|
 R ((((((esD (I ls 2))++[[aJ ⟨#[]⟩]])).take mU.1++(((((esD (I ls 2))++[[aJ ⟨#[]⟩]])).drop jF.1).take jF.2).take (min (((((esD (I ls 2))++[[aJ ⟨#[]⟩]])).drop jF.1).take jF.2).length mU.2)++(((esD (I ls 2))++[[aJ ⟨#[]⟩]])).drop (mU.1+(min (((((esD (I ls 2))++[[aJ ⟨#[]⟩]])).drop jF.1).take jF.2).length mU.2))))[S9]?) fun lk=>
 some [D.aC 1 ((((((esD (I ls 2))++[[aJ ⟨#[]⟩]])).take mU.1++(((((esD (I ls 2))++[[aJ ⟨#[]⟩]])).drop jF.1).take jF.2).take (min (((((esD (I ls 2))++[[aJ ⟨#[]⟩]])).drop jF.1).take jF.2).length mU.2)++(((esD (I ls 2))++[[aJ ⟨#[]⟩]])).drop (mU.1+(min (((((esD (I ls 2))++[[aJ ⟨#[]⟩]])).drop jF.1).take jF.2).length mU.2)))).set S9 (k9 lk 0 [I ls 0]))]
)
def vK(n:Nat)(ls:List D):Option (List D):=
 aw (aK 4 (I ls 0))<|
 R (
 R (binP false .eql (aa (I ls 0) 0) (J 3)) fun v10=>
 R (
 oif v10 (
 R (tA n [aa (I ls 0) 2,D.aC 1 (esD (I ls 2))]) fun ad=>
 some (.inl [D.aC 1 (esD (I ad 0)),D.aC 1 (esD (I ls 3))])
) (
 R (binP false .eql (aa (I ls 0) 0) (J 4)) fun bx=>
 R (
 oif bx (
 R (tA n [aa (I ls 0) 2,D.aC 1 (esD (I ls 3))]) fun ae=>
 some (.inl [D.aC 1 (esD (I ls 2)),D.aC 1 (esD (I ae 0))])
) (
 some (.inl [D.aC 1 (esD (I ls 2)),D.aC 1 (esD (I ls 3))])
)
)<|a7 fun ls=>
 some (.inl [D.aC 1 (esD (I ls 0)),D.aC 1 (esD (I ls 1))])
)
)<|a7 fun ls=>
 some (.inl [D.aC 1 (esD (I ls 0)),D.aC 1 (esD (I ls 1))])
)<|a7 fun ls=>
 some [ar true,D.aC 1 (esD (I ls 0)),D.aC 1 (esD (I ls 1))]
def GI(vL:List D→Option (List D))(n:Nat)(ls:List D):Option (List D⊕(List D⊕(List D))):=
 R (binP false .lss (I ls 3) (I ls 2)) fun bE=>
 oif bE (
 R (a3 4 (I ls 1) (I ls 3)) fun pj=>
 R (aW true 4 0 pj) fun v20=>
 aw (aK 4 v20)<|
 R (binP false .add (I ls 0) (J 1)) fun b7=>
 R (vL [D.agg [aa v20 0,aa v20 1,aa v20 2,aa v20 3],b7,I ls 4,I ls 5]) fun ae=>
 R (unP .not (I ae 0)) fun ck=>
 oif ck (
 aU (
 aU (
 some [ar false,I ae 1,I ae 2]
)
)
) (
 R (binP false .add (I ls 3) (J 1)) fun cJ=>
 some (.inl [I ls 0,I ls 1,I ls 2,cJ,I ae 1,I ae 2])
)
) (
 aU (
 some (.inl [I ls 4,I ls 5])
)
)
def LN(vL:List D→Option (List D))(n:Nat)(ls:List D):Option (List D):=
 aw (aK 4 (I ls 0))<|
 R (B8 n [D.agg [aa (I ls 0) 0,aa (I ls 0) 1,aa (I ls 0) 2,aa (I ls 0) 3],I ls 1,I ls 2,I ls 3]) fun ad=>
 R (unP .not (I ad 0)) fun bR=>
 oif bR (
 some [ar false,I ad 1,I ad 2]
) (
 R (lenP (aa (I ls 0) 3)) fun bx=>
 R (
 bm (GI vL n) n [I ls 1,aa (I ls 0) 3,bx,J 0,I ad 1,I ad 2]
)<|a7 fun ls=>
 some [ar true,I ls 0,I ls 1]
)
def rQ:Nat→List D→Option (List D)
 |0,_=>none
 |n+1,ls=>LN (rQ n) n ls
def Ta(n:Nat)(ab:D):Option D:=
 aw (aK 4 ab)<|
 R (rQ n [D.agg [aa ab 0,aa ab 1,aa ab 2,aa ab 3],J 1,J 0,J 0]) fun ad=>
 some (I ad 2)
def qC(n:Nat):List D→Option D
 |[ab]=>Ta n ab
 |_=>none
def GJ(vM:List D→Option (List D))(n:Nat)(ls:List D):Option (List D⊕(List D⊕(List D))):=
 R (binP false .lss (I ls 3) (I ls 2)) fun bE=>
 oif bE (
 R (a3 4 (I ls 1) (I ls 3)) fun pj=>
 R (aW true 4 0 pj) fun v20=>
 aw (aK 4 v20)<|
 R (binP false .add (I ls 0) (J 1)) fun b7=>
 R (vM [D.agg [aa v20 0,aa v20 1,aa v20 2,aa v20 3],b7,D.aC 1 (esD (I ls 4)),D.aC 1 (esD (I ls 5))]) fun ae=>
 R (unP .not (I ae 0)) fun ck=>
 oif ck (
 aU (
 aU (
 some [ar false,D.aC 1 (esD (I ae 1)),D.aC 1 (esD (I ae 2))]
)
)
) (
 R (binP false .add (I ls 3) (J 1)) fun cJ=>
 some (.inl [I ls 0,I ls 1,I ls 2,cJ,D.aC 1 (esD (I ae 1)),D.aC 1 (esD (I ae 2))])
)
) (
 aU (
 some (.inl [D.aC 1 (esD (I ls 4)),D.aC 1 (esD (I ls 5))])
)
)
def LO(vM:List D→Option (List D))(n:Nat)(ls:List D):Option (List D):=
 aw (aK 4 (I ls 0))<|
 R (vK n [D.agg [aa (I ls 0) 0,aa (I ls 0) 1,aa (I ls 0) 2,aa (I ls 0) 3],I ls 1,D.aC 1 (esD (I ls 2)),D.aC 1 (esD (I ls 3))]) fun ad=>
 R (unP .not (I ad 0)) fun bR=>
 oif bR (
 some [ar false,D.aC 1 (esD (I ad 1)),D.aC 1 (esD (I ad 2))]
) (
 R (lenP (aa (I ls 0) 3)) fun bx=>
 R (
 bm (GJ vM n) n [I ls 1,aa (I ls 0) 3,bx,J 0,D.aC 1 (esD (I ad 1)),D.aC 1 (esD (I ad 2))]
)<|a7 fun ls=>
 some [ar true,D.aC 1 (esD (I ls 0)),D.aC 1 (esD (I ls 1))]
)
def rR:Nat→List D→Option (List D)
 |0,_=>none
 |n+1,ls=>LO (rR n) n ls
def Tb(n:Nat)(ab:D):Option D:=
 aw (aK 4 ab)<|
 R (rR n [D.agg [aa ab 0,aa ab 1,aa ab 2,aa ab 3],J 1,D.aC 1 [],D.aC 1 []]) fun ad=>
 some (D.aQ [D.aC 1 (esD (I ad 1)),D.aC 1 (esD (I ad 2))])
def pk(n:Nat):List D→Option D
 |[ab]=>Tb n ab
 |_=>none
def GK(n:Nat)(ab:D):Option D:=
 aw (aK 6 ab)<|
 R (binP false .neq (aa ab 0) (J 1)) fun cg=>
 oif cg (
 some (J 0)
) (
 R (qC n [D.agg [aa ab 1,aa ab 2,aa ab 3,aa ab 4]]) fun v11=>
 R (binP false .neq v11 (J 0)) fun bR=>
 oif bR (
 some v11
) (
 R (pk n [D.agg [aa ab 1,aa ab 2,aa ab 3,aa ab 4]]) fun bE=>
 R (extP 0 bE) fun ca=>
 R (extP 1 bE) fun v20=>
 R (lenP v20) fun bS=>
 R (binP false .gtr bS (J 0)) fun b7=>
 oif b7 (
 some (J 24)
) (
 some (J 0)
)
)
)
def vN(n:Nat):List D→Option D
 |[ab]=>GK n ab
 |_=>none
def Tc(n:Nat)(ab:D):Option D:=
 R (
 R (binP false .eql ab (J 1)) fun jZ=>
 oif jZ (
 aU (
 some (J 0)
)
) (
 R (binP false .eql ab (J 3)) fun bN=>
 R (
 oif bN (
 some (.inl [ab,bN])
) (
 R (binP false .eql ab (J 4)) fun cg=>
 R (
 oif cg (
 some (.inl [ab,cg])
) (
 R (binP false .eql ab (J 5)) fun bG=>
 R (
 oif bG (
 some (.inl [ab,bG])
) (
 R (binP false .eql ab (J 9)) fun v10=>
 R (
 oif v10 (
 some (.inl [ab,v10])
) (
 R (binP false .eql ab (J 13)) fun v11=>
 some (.inl [ab,v11])
)
)<|a7 fun ls=>
 some (.inl [I ls 0,I ls 1])
)
)<|a7 fun ls=>
 some (.inl [I ls 0,I ls 1])
)
)<|a7 fun ls=>
 some (.inl [I ls 0,I ls 1])
)
)<|a7 fun ls=>
 oif (I ls 1) (
 aU (
 some (J 2)
)
) (
 R (binP false .eql (I ls 0) (J 2)) fun bR=>
 R (
 oif bR (
 some (.inl [bR])
) (
 R (binP false .eql (I ls 0) (J 6)) fun bp=>
 R (
 oif bp (
 some (.inl [bp])
) (
 R (binP false .eql (I ls 0) (J 7)) fun bg=>
 R (
 oif bg (
 some (.inl [bg])
) (
 R (binP false .eql (I ls 0) (J 8)) fun bx=>
 R (
 oif bx (
 some (.inl [bx])
) (
 R (binP false .eql (I ls 0) (J 10)) fun br=>
 R (
 oif br (
 some (.inl [br])
) (
 R (binP false .eql (I ls 0) (J 11)) fun bE=>
 R (
 oif bE (
 some (.inl [bE])
) (
 R (binP false .eql (I ls 0) (J 12)) fun ca=>
 some (.inl [ca])
)
)<|a7 fun ls=>
 some (.inl [I ls 0])
)
)<|a7 fun ls=>
 some (.inl [I ls 0])
)
)<|a7 fun ls=>
 some (.inl [I ls 0])
)
)<|a7 fun ls=>
 some (.inl [I ls 0])
)
)<|a7 fun ls=>
 some (.inl [I ls 0])
)
)<|a7 fun ls=>
 oif (I ls 0) (
 aU (
 some (J 1)
)
) (
 some (.inl [])
)
)
)
)<|a7 fun ls=>
 some (J (-1))
def Cc(n:Nat):List D→Option D
 |[ab]=>Tc n ab
 |_=>none
def Cd(n:Nat)(ls:List D):Option (List D):=
 aw (aK 6 (I ls 0))<|
 R (binP false .add (I ls 2) (J 1)) fun v11=>
 aw (bA v11)<|
 R (binP false .eql (aa (I ls 0) 1) (J 0)) fun bg=>
 R (gD bg true (
 R (binP false .eql (aa (I ls 0) 2) (J 0)) fun v20=>
 some v20
)) fun v20=>
 R (pickP bg v20 (ar false)) fun bJ=>
 R (gD bJ true (
 R (binP false .eql (aa (I ls 0) 3) (aJ ⟨#[]⟩)) fun ck=>
 some ck
)) fun ck=>
 R (pickP bJ ck (ar false)) fun cJ=>
 R (gD cJ true (
 R (lenP (aa (I ls 0) 4)) fun dr=>
 R (binP false .eql dr (J 0)) fun dD=>
 some dD
)) fun dD=>
 R (pickP cJ dD (ar false)) fun ds=>
 R (vN n [D.agg [aa (I ls 0) 0,aa (I ls 0) 1,aa (I ls 0) 2,aa (I ls 0) 3,aa (I ls 0) 4,aa (I ls 0) 5]]) fun df=>
 R (Cc n [aa (I ls 0) 0]) fun eG=>
 R (
 R (binP false .gtr (I ls 1) (J 64)) fun c1=>
 R (
 oif c1 (
 some (.inl [J 17,v11])
) (
 R (binP false .lss eG (J 0)) fun c2=>
 R (
 oif c2 (
 some (.inl [J 11,v11])
) (
 R (binP false .neq df (J 0)) fun fH=>
 R (
 oif fH (
 aw (bA df)<|
 some (.inl [df,v11])
) (
 R (lenP (aa (I ls 0) 5)) fun hL=>
 R (binP false .neq hL eG) fun fa=>
 R (gD fa false (
 R (binP false .neq (aa (I ls 0) 0) (J 1)) fun jG=>
 some jG
)) fun eH=>
 R (gD eH true (
 R (unP .not ds) fun iq=>
 some iq
)) fun iq=>
 R (gD fa false (
 R (pickP eH iq (ar false)) fun kV=>
 some kV
)) fun kV=>
 R (pickP fa (ar true) kV) fun g6=>
 R (
 oif g6 (
 some (.inl [J 3,v11])
) (
 R (binP false .gtr v11 (J 4096)) fun fP=>
 R (
 oif fP (
 some (.inl [J 4,v11])
) (
 some (.inl [I ls 3,v11])
)
)<|a7 fun ls=>
 some (.inl [I ls 0,I ls 1])
)
)<|a7 fun ls=>
 some (.inl [I ls 0,I ls 1])
)
)<|a7 fun ls=>
 some (.inl [I ls 0,I ls 1])
)
)<|a7 fun ls=>
 some (.inl [I ls 0,I ls 1])
)
)<|a7 fun ls=>
 some (.inl [I ls 0,I ls 1])
)<|a7 fun ls=>
 R (binP false .eql (I ls 0) (J 0)) fun ep=>
 some [ep,I ls 1,I ls 0]
def GL(vO:List D→Option (List D))(n:Nat)(ls:List D):Option (List D⊕(List D⊕(List D))):=
 R (binP false .lss (I ls 3) (I ls 2)) fun bE=>
 oif bE (
 R (a3 6 (I ls 1) (I ls 3)) fun pj=>
 R (aW true 6 0 pj) fun v20=>
 aw (aK 6 v20)<|
 R (binP false .add (I ls 0) (J 1)) fun b7=>
 R (vO [D.agg [aa v20 0,aa v20 1,aa v20 2,aa v20 3,aa v20 4,aa v20 5],b7,I ls 4,I ls 5]) fun ae=>
 R (unP .not (I ae 0)) fun ck=>
 oif ck (
 aU (
 aU (
 some [ar false,I ae 1,I ae 2]
)
)
) (
 R (binP false .add (I ls 3) (J 1)) fun cJ=>
 some (.inl [I ls 0,I ls 1,I ls 2,cJ,I ae 1,I ae 2])
)
) (
 aU (
 some (.inl [I ls 4,I ls 5])
)
)
def LP(vO:List D→Option (List D))(n:Nat)(ls:List D):Option (List D):=
 aw (aK 6 (I ls 0))<|
 R (Cd n [D.agg [aa (I ls 0) 0,aa (I ls 0) 1,aa (I ls 0) 2,aa (I ls 0) 3,aa (I ls 0) 4,aa (I ls 0) 5],I ls 1,I ls 2,I ls 3]) fun ad=>
 R (unP .not (I ad 0)) fun bR=>
 oif bR (
 some [ar false,I ad 1,I ad 2]
) (
 R (lenP (aa (I ls 0) 5)) fun bx=>
 R (
 bm (GL vO n) n [I ls 1,aa (I ls 0) 5,bx,J 0,I ad 1,I ad 2]
)<|a7 fun ls=>
 some [ar true,I ls 0,I ls 1]
)
def rS:Nat→List D→Option (List D)
 |0,_=>none
 |n+1,ls=>LP (rS n) n ls
def Td(n:Nat)(ab:D):Option D:=
 aw (aK 6 ab)<|
 R (rS n [D.agg [aa ab 0,aa ab 1,aa ab 2,aa ab 3,aa ab 4,aa ab 5],J 1,J 0,J 0]) fun ad=>
 some (I ad 2)
def ny(n:Nat):List D→Option D
 |[ab]=>Td n ab
 |_=>none
def Ce(n:Nat)(ls:List D):Option (List D⊕(List D⊕D)):=
 R (binP false .lss (I ls 2) (I ls 1)) fun bO=>
 oif bO (
 R (
 R (a3 5 (I ls 0) (I ls 2)) fun eK=>
 R (aW true 5 0 eK) fun bg=>
 aw (aK 5 bg)<|
 R (lookP (.string) (.int .i64 0) true (fu (I ls 3)) (aa bg 0)) fun v20=>
 R (extP 0 v20) fun bJ=>
 R (extP 1 v20) fun bS=>
 R (unP .not bS) fun cq=>
 R (
 oif cq (
 R (oX (.string) (fu (I ls 3)) (aa bg 0) (I ls 2)) fun LQ=>
 some (.inl [I ls 0,I ls 1,I ls 2,D.mp LQ])
) (
 some (.inl [I ls 0,I ls 1,I ls 2,D.mp (fu (I ls 3))])
)
)<|a7 fun ls=>
 some (.inl [I ls 0,I ls 1,I ls 2,D.mp (fu (I ls 3))])
)<|a7 fun ls=>
 R (binP false .add (I ls 2) (J 1)) fun cD=>
 some (.inl [I ls 0,I ls 1,cD,D.mp (fu (I ls 3))])
) (
 aU (
 some (.inl [D.mp (fu (I ls 3))])
)
)
def Te(n:Nat)(ab:D):Option D:=
 R (lenP ab) fun v10=>
 R (
 bm (Ce n) n [ab,v10,J 0,D.mp []]
)<|a7 fun ls=>
 some (D.mp (fu (I ls 0)))
def rT(n:Nat):List D→Option D
 |[ab]=>Te n ab
 |_=>none
def Cf(n:Nat)(ls:List D):Option (List D⊕(List D⊕(List D⊕(List D⊕(List D⊕D))))):=
 R (binP false .lss (I ls 6) (I ls 5)) fun dH=>
 oif dH (
 R (
 R (a3 1 (I ls 4) (I ls 6)) fun LR=>
 R (aW false 1 0 LR) fun dD=>
 R (kN (I ls 0)) fun aeP=>
 R (lookP (.string) (.int .i64 0) true aeP dD) fun dk=>
 R (extP 0 dk) fun dg=>
 R (extP 1 dk) fun eG=>
 R (
 oif eG (
 aw (bA dg)<|
 aw (cY (((esD (I ls 8))).length+([[dg]]).length) 8)<|
 some (.inl [I ls 0,I ls 1,I ls 2,I ls 3,I ls 4,I ls 5,I ls 6,D.aC 1 (esD (I ls 7)),D.aC 1 ((esD (I ls 8))++[[dg]])])
) (
 some (.inl [I ls 0,I ls 1,I ls 2,I ls 3,I ls 4,I ls 5,I ls 6,D.aC 1 (esD (I ls 7)),D.aC 1 (esD (I ls 8))])
)
)<|a7 fun ls=>
 some (.inl [I ls 0,I ls 1,I ls 2,I ls 3,I ls 4,I ls 5,I ls 6,D.aC 1 (esD (I ls 7)),D.aC 1 (esD (I ls 8))])
)<|a7 fun ls=>
 R (binP false .add (I ls 6) (J 1)) fun c2=>
 some (.inl [I ls 0,I ls 1,I ls 2,I ls 3,I ls 4,I ls 5,c2,D.aC 1 (esD (I ls 7)),D.aC 1 (esD (I ls 8))])
) (
 aU (
 some (.inl [I ls 0,I ls 1,I ls 2,I ls 3,D.aC 1 (esD (I ls 7)),D.aC 1 (esD (I ls 8))])
)
)
def GM(n:Nat)(ls:List D):Option (List D⊕(List D⊕D)):=
 R (binP false .lss (I ls 3) (I ls 2)) fun ca=>
 oif ca (
 R (
 R (a3 5 (I ls 1) (I ls 3)) fun rU=>
 R (aW true 5 0 rU) fun bJ=>
 aw (aK 5 bJ)<|
 R (pk n [D.agg [aa bJ 1,aa bJ 2,aa bJ 3,aa bJ 4]]) fun cE=>
 R (extP 0 cE) fun ck=>
 R (extP 1 cE) fun cJ=>
 R (lenP ck) fun cD=>
 R (
 bm (Cf n) n [I ls 0,I ls 1,I ls 2,I ls 3,ck,cD,J 0,D.aC 1 (esD (I ls 4)),D.aC 1 []]
)<|a7 fun ls=>
 aw (bA (D.aC 1 (esD (I ls 5))))<|
 aw (cY (((esD (I ls 4))).length+([[D.aC 1 (esD (I ls 5))]]).length) 24)<|
 some (.inl [I ls 0,I ls 1,I ls 2,I ls 3,D.aC 1 ((esD (I ls 4))++[[D.aC 1 (esD (I ls 5))]])])
)<|a7 fun ls=>
 R (binP false .add (I ls 3) (J 1)) fun cX=>
 some (.inl [I ls 0,I ls 1,I ls 2,cX,D.aC 1 (esD (I ls 4))])
) (
 aU (
 some (.inl [D.aC 1 (esD (I ls 4))])
)
)
def Tf(n:Nat)(ab:D):Option D:=
 R (rT n [ab]) fun bg=>
 R (lenP ab) fun br=>
 R (
 bm (GM n) n [bg,ab,br,J 0,D.aC 1 []]
)<|a7 fun ls=>
 some (D.aC 1 (esD (I ls 0)))
def Cg(n:Nat):List D→Option D
 |[ab]=>Tf n ab
 |_=>none
def Ch(vP:List D→Option (List D))(n:Nat)(ls:List D):Option (List D⊕(List D⊕(List D))):=
 R (binP false .lss (I ls 2) (I ls 1)) fun bR=>
 oif bR (
 R (
 R (a3 1 (I ls 0) (I ls 2)) fun eK=>
 R (aW false 1 0 eK) fun bg=>
 R (lookP (.int .i64) (.bool false) false (fu (I ls 4)) bg) fun bE=>
 R (unP .not bE) fun ca=>
 R (
 oif ca (
 R (oX (.int .i64) (fu (I ls 4)) bg (ar true)) fun aeQ=>
 R (vP [bg,I ls 3,D.mp aeQ]) fun ae=>
 some (.inl [I ls 0,I ls 1,I ls 2,I ae 1,D.mp (fu (I ae 2))])
) (
 some (.inl [I ls 0,I ls 1,I ls 2,I ls 3,D.mp (fu (I ls 4))])
)
)<|a7 fun ls=>
 some (.inl [I ls 0,I ls 1,I ls 2,I ls 3,D.mp (fu (I ls 4))])
)<|a7 fun ls=>
 R (binP false .add (I ls 2) (J 1)) fun cE=>
 some (.inl [I ls 0,I ls 1,cE,I ls 3,D.mp (fu (I ls 4))])
) (
 aU (
 some (.inl [I ls 3,D.mp (fu (I ls 4))])
)
)
def GN(vP:List D→Option (List D))(n:Nat)(ls:List D):Option (List D):=
 R (a3 1 (I ls 1) (I ls 0)) fun aeR=>
 R (aW false 1 0 aeR) fun v10=>
 R (lenP v10) fun v11=>
 R (
 bm (Ch vP n) n [v10,v11,J 0,I ls 1,D.mp (fu (I ls 2))]
)<|a7 fun ls=>
 some [D.aQ [],I ls 0,D.mp (fu (I ls 1))]
def pn:Nat→List D→Option (List D)
 |0,_=>none
 |n+1,ls=>GN (pn n) n ls
def GO(n:Nat)(ls:List D):Option (List D⊕(List D⊕(List D))):=
 R (binP false .lss (I ls 2) (I ls 1)) fun bp=>
 oif bp (
 R (a3 1 (I ls 0) (I ls 2)) fun Ci=>
 R (aW false 1 0 Ci) fun bx=>
 R (pn n [bx,I ls 4,D.mp (fu (I ls 3))]) fun ad=>
 R (binP false .add (I ls 2) (J 1)) fun v20=>
 some (.inl [I ls 0,I ls 1,v20,D.mp (fu (I ad 2)),I ad 1])
) (
 aU (
 some (.inl [D.mp (fu (I ls 3))])
)
)
def Cj(n:Nat)(ls:List D):Option (List D):=
 aw (bA (I ls 0))<|
 R (lenP (I ls 1)) fun bO=>
 R (
 bm (GO n) n [I ls 1,bO,J 0,D.mp [],I ls 0]
)<|a7 fun ls=>
 some [D.mp (fu (I ls 0))]
def GP(n:Nat)(ls:List D):Option (List D⊕(List D⊕D)):=
 R (binP false .lss (I ls 2) (I ls 1)) fun bp=>
 oif bp (
 R (a3 1 (I ls 0) (I ls 2)) fun Ci=>
 R (aW false 1 0 Ci) fun bx=>
 R (pn n [bx,I ls 4,D.mp (fu (I ls 3))]) fun ad=>
 R (binP false .add (I ls 2) (J 1)) fun v20=>
 some (.inl [I ls 0,I ls 1,v20,D.mp (fu (I ad 2)),I ad 1])
) (
 aU (
 some (.inl [D.mp (fu (I ls 3))])
)
)
def Tg(n:Nat)(ab:D)(ah:D):Option D:=
 aw (bA ab)<|
 R (lenP ah) fun bO=>
 R (
 bm (GP n) n [ah,bO,J 0,D.mp [],ab]
)<|a7 fun ls=>
 some (D.mp (fu (I ls 0)))
def yW(n:Nat):List D→Option D
 |[ab,ah]=>Tg n ab ah
 |_=>none
def Ck(rV:List D→Option (List D))(n:Nat)(ls:List D):Option (List D⊕(List D⊕(List D))):=
 R (binP false .eql (I ls 4) (J 3)) fun bx=>
 oif bx (
 R (kN (I ls 1)) fun aeS=>
 R (lookP (.string) (.int .i64 0) true aeS (I ls 6)) fun bJ=>
 R (extP 0 bJ) fun bS=>
 R (extP 1 bJ) fun b7=>
 R (unP .not b7) fun cE=>
 oif cE (
 aU (
 some (.inl [I ls 0,I ls 3,I ls 4,I ls 5,I ls 6,I ls 7,I ls 8,I ls 9,I ls 10,I ls 11,I ls 1,I ls 2])
)
) (
 R (a3 5 (I ls 2) bS) fun rP=>
 R (aW true 4 1 rP) fun v30=>
 aw (aK 4 v30)<|
 some (.inl [I ls 0,I ls 1,I ls 2,I ls 3,aa v30 0,aa v30 1,aa v30 2,aa v30 3,I ls 8,I ls 9,I ls 10,I ls 11])
)
) (
 aU (
 some (.inl [I ls 0,I ls 3,I ls 4,I ls 5,I ls 6,I ls 7,I ls 8,I ls 9,I ls 10,I ls 11,I ls 1,I ls 2])
)
)
def yX(rV:List D→Option (List D))(n:Nat)(ls:List D):Option (List D⊕(List D⊕(List D))):=
 R (binP false .lss (I ls 3) (I ls 2)) fun gj=>
 oif gj (
 R (
 R (a3 4 (I ls 1) (I ls 3)) fun aeT=>
 R (aW true 4 0 aeT) fun eA=>
 aw (aK 4 eA)<|
 R (binP false .leq (I ls 0) (J 64)) fun fy=>
 R (gD fy true (
 R (binP false .leq (I ls 4) (J 4096)) fun hA=>
 some hA
)) fun hA=>
 R (pickP fy hA (ar false)) fun fa=>
 R (
 oif fa (
 R (binP false .add (I ls 0) (J 1)) fun gr=>
 R (rV [D.agg [aa eA 0,aa eA 1,aa eA 2,aa eA 3],gr,I ls 14,I ls 15,I ls 4]) fun ad=>
 R (cG ((esD (I ls 13))).length (I ls 3)) fun GQ=>
 aw (aK 4 (I ad 0))<|
 R (((esD (I ls 13)))[GQ]?) fun ku=>
 some (.inl [I ls 0,I ls 1,I ls 2,I ls 3,I ad 3,I ls 5,I ls 6,I ls 7,I ls 8,I ls 9,I ls 10,I ls 11,I ls 12,D.aC 4 (((esD (I ls 13))).set GQ (k9 ku 0 [aa (I ad 0) 0,aa (I ad 0) 1,aa (I ad 0) 2,aa (I ad 0) 3])),I ad 1,I ad 2])
) (
 some (.inl [I ls 0,I ls 1,I ls 2,I ls 3,I ls 4,I ls 5,I ls 6,I ls 7,I ls 8,I ls 9,I ls 10,I ls 11,I ls 12,D.aC 4 (esD (I ls 13)),I ls 14,I ls 15])
)
)<|a7 fun ls=>
 some (.inl [I ls 0,I ls 1,I ls 2,I ls 3,I ls 4,I ls 5,I ls 6,I ls 7,I ls 8,I ls 9,I ls 10,I ls 11,I ls 12,D.aC 4 (esD (I ls 13)),I ls 14,I ls 15])
)<|a7 fun ls=>
 R (binP false .add (I ls 3) (J 1)) fun g6=>
 some (.inl [I ls 0,I ls 1,I ls 2,g6,I ls 4,I ls 5,I ls 6,I ls 7,I ls 8,I ls 9,I ls 10,I ls 11,I ls 12,D.aC 4 (esD (I ls 13)),I ls 14,I ls 15])
) (
 aU (
 some (.inl [I ls 5,I ls 6,I ls 7,I ls 8,I ls 9,I ls 10,I ls 11,I ls 12,D.aC 4 (esD (I ls 13)),I ls 14,I ls 15,I ls 4])
)
)
def Cl(rV:List D→Option (List D))(n:Nat)(ls:List D):Option (List D):=
 aw (aK 4 (I ls 0))<|
 R (
 bm (Ck rV n) n [I ls 1,I ls 2,I ls 3,I ls 4,aa (I ls 0) 0,aa (I ls 0) 1,aa (I ls 0) 2,aa (I ls 0) 3,J 0,J 0,aJ ⟨#[]⟩,D.val (.slice none 0 0)]
)<|a7 fun ls=>
 R (binP false .add (I ls 1) (J 1)) fun dr=>
 aw (bA dr)<|
 R (lenP (I ls 5)) fun fl=>
 R (binP false .eql fl (J 0)) fun df=>
 oif df (
 aw (aK 4 (D.agg [I ls 2,I ls 3,I ls 4,I ls 5]))<|
 some [D.agg [I ls 2,I ls 3,I ls 4,I ls 5],I ls 10,I ls 11,dr]
) (
 R (lenP (I ls 5)) fun dt=>
 R (makeP 56 dt dt) fun aeU=>
 R (lenP (I ls 5)) fun dP=>
 R (
 bm (yX rV n) n [I ls 0,I ls 5,dP,J 0,dr,I ls 2,I ls 3,I ls 4,I ls 5,I ls 6,I ls 7,I ls 8,I ls 9,D.aC 4 (List.replicate aeU [D.val (.int .i64 0),D.val (.int .i64 0),D.val (.string ⟨#[]⟩),D.val (.slice none 0 0)]),I ls 10,I ls 11]
)<|a7 fun ls=>
 aw (bA (D.aC 4 (esD (I ls 8))))<|
 aw (aK 4 (D.agg [I ls 0,I ls 1,I ls 2,D.aC 4 (esD (I ls 8))]))<|
 some [D.agg [I ls 0,I ls 1,I ls 2,D.aC 4 (esD (I ls 8))],I ls 9,I ls 10,I ls 11]
)
def qD:Nat→List D→Option (List D)
 |0,_=>none
 |n+1,ls=>Cl (qD n) n ls
def Th(n:Nat)(ab:D)(ah:D):Option D:=
 aw (aK 4 ab)<|
 aw (bA ah)<|
 R (rT n [ah]) fun bG=>
 aw (bA bG)<|
 R (qD n [D.agg [aa ab 0,aa ab 1,aa ab 2,aa ab 3],J 1,bG,ah,J 0]) fun ad=>
 aw (aK 4 (I ad 0))<|
 some (D.agg [aa (I ad 0) 0,aa (I ad 0) 1,aa (I ad 0) 2,aa (I ad 0) 3])
def Cm(n:Nat):List D→Option D
 |[ab,ah]=>Th n ab ah
 |_=>none
def yY(n:Nat)(ls:List D):Option (List D⊕(List D⊕D)):=
 R (binP false .lss (I ls 5) (I ls 4)) fun eG=>
 oif eG (
 R (
 R (a3 1 (I ls 3) (I ls 5)) fun aeV=>
 R (aW false 1 0 aeV) fun e2=>
 R (kN (I ls 1)) fun aeW=>
 R (lookP (.string) (.int .i64 0) true aeW e2) fun c2=>
 R (extP 0 c2) fun gj=>
 R (extP 1 c2) fun iO=>
 R (
 oif iO (
 aw (bA gj)<|
 aw (cY (((esD (I ls 14))).length+([[gj]]).length) 8)<|
 some (.inl [I ls 0,I ls 1,I ls 2,I ls 3,I ls 4,I ls 5,I ls 6,I ls 7,I ls 8,I ls 9,I ls 10,I ls 11,I ls 12,I ls 13,D.aC 1 ((esD (I ls 14))++[[gj]])])
) (
 some (.inl [I ls 0,I ls 1,I ls 2,I ls 3,I ls 4,I ls 5,I ls 6,I ls 7,I ls 8,I ls 9,I ls 10,I ls 11,I ls 12,I ls 13,D.aC 1 (esD (I ls 14))])
)
)<|a7 fun ls=>
 some (.inl [I ls 0,I ls 1,I ls 2,I ls 3,I ls 4,I ls 5,I ls 6,I ls 7,I ls 8,I ls 9,I ls 10,I ls 11,I ls 12,I ls 13,D.aC 1 (esD (I ls 14))])
)<|a7 fun ls=>
 R (binP false .add (I ls 5) (J 1)) fun hL=>
 some (.inl [I ls 0,I ls 1,I ls 2,I ls 3,I ls 4,hL,I ls 6,I ls 7,I ls 8,I ls 9,I ls 10,I ls 11,I ls 12,I ls 13,D.aC 1 (esD (I ls 14))])
) (
 aU (
 some (.inl [I ls 0,I ls 2,I ls 6,I ls 7,I ls 8,I ls 9,I ls 10,I ls 11,I ls 12,I ls 13,D.aC 1 (esD (I ls 14))])
)
)
def GR(n:Nat)(ls:List D):Option (List D⊕(List D⊕D)):=
 R (binP false .lss (I ls 4) (I ls 3)) fun eH=>
 oif eH (
 R (a3 1 (I ls 2) (I ls 4)) fun Cn=>
 R (aW false 1 0 Cn) fun iq=>
 R (oX (.int .i64) (fu (I ls 13)) iq (ar true)) fun aeX=>
 R (binP false .add (I ls 4) (J 1)) fun il=>
 some (.inl [I ls 0,I ls 1,I ls 2,I ls 3,il,I ls 5,I ls 6,I ls 7,I ls 8,I ls 9,I ls 10,I ls 11,I ls 12,D.mp aeX])
) (
 aU (
 some (.inl [I ls 0,I ls 1,I ls 5,I ls 6,I ls 7,I ls 8,I ls 9,I ls 10,I ls 11,I ls 12,D.mp (fu (I ls 13))])
)
)
def vQ(n:Nat)(ls:List D):Option (List D⊕(List D⊕D)):=
 R (binP false .lss (I ls 3) (I ls 2)) fun ep=>
 oif ep (
 R (lookP (.int .i64) (.bool false) false (fu (I ls 12)) (I ls 3)) fun gv=>
 R (gD gv true (
 aw (bA (I ls 3))<|
 R (yW n [I ls 1,D.aC 1 [[I ls 3]]]) fun lz=>
 R (kN lz) fun aeY=>
 R (lookP (.int .i64) (.bool false) false aeY (I ls 3)) fun lA=>
 some lA
)) fun lA=>
 R (pickP gv lA (ar false)) fun iP=>
 oif iP (
 aU (
 aU (
 some (D.aQ [D.agg [J 0,J 0,aJ ⟨#[]⟩,D.val (.slice none 0 0)],J 14])
)
)
) (
 R (binP false .add (I ls 3) (J 1)) fun j0=>
 some (.inl [I ls 0,I ls 1,I ls 2,j0,I ls 4,I ls 5,I ls 6,I ls 7,I ls 8,I ls 9,I ls 10,I ls 11,D.mp (fu (I ls 12))])
)
) (
 aU (
 some (.inl [I ls 0,I ls 4,I ls 5,I ls 6,I ls 7,I ls 8,I ls 9,I ls 10,I ls 11])
)
)
def Co(n:Nat)(ab:D)(ah:D):Option D:=
 aw (aK 4 ab)<|
 R (qC n [D.agg [aa ab 0,aa ab 1,aa ab 2,aa ab 3]]) fun bS=>
 R (binP false .neq bS (J 0)) fun cq=>
 oif cq (
 some (D.aQ [D.agg [J 0,J 0,aJ ⟨#[]⟩,D.val (.slice none 0 0)],bS])
) (
 R (rT n [ah]) fun cu=>
 R (Cg n [ah]) fun v30=>
 R (pk n [D.agg [aa ab 0,aa ab 1,aa ab 2,aa ab 3]]) fun dD=>
 R (extP 0 dD) fun ds=>
 R (extP 1 dD) fun fl=>
 R (lenP ds) fun dk=>
 R (
 bm (yY n) n [ah,cu,v30,ds,dk,J 0,aa ab 0,aa ab 1,aa ab 2,aa ab 3,J 0,J 0,aJ ⟨#[]⟩,D.val (.slice none 0 0),D.aC 1 []]
)<|a7 fun ls=>
 R (Cj n [I ls 1,D.aC 1 (esD (I ls 10))]) fun ad=>
 R (lenP (D.aC 1 (esD (I ls 10)))) fun eo=>
 R (
 bm (GR n) n [I ls 0,I ls 1,D.aC 1 (esD (I ls 10)),eo,J 0,I ls 2,I ls 3,I ls 4,I ls 5,I ls 6,I ls 7,I ls 8,I ls 9,D.mp (fu (I ad 0))]
)<|a7 fun ls=>
 R (lenP (I ls 0)) fun fP=>
 R (
 bm (vQ n) n [I ls 0,I ls 1,fP,J 0,I ls 2,I ls 3,I ls 4,I ls 5,I ls 6,I ls 7,I ls 8,I ls 9,D.mp (fu (I ls 10))]
)<|a7 fun ls=>
 R (Cm n [D.agg [I ls 1,I ls 2,I ls 3,I ls 4],I ls 0]) fun jH=>
 aw (aK 4 jH)<|
 R (qC n [D.agg [aa jH 0,aa jH 1,aa jH 2,aa jH 3]]) fun rW=>
 R (binP false .neq rW (J 0)) fun hM=>
 oif hM (
 some (D.aQ [D.agg [J 0,J 0,aJ ⟨#[]⟩,D.val (.slice none 0 0)],rW])
) (
 aw (aK 4 (D.agg [aa jH 0,aa jH 1,aa jH 2,aa jH 3]))<|
 some (D.aQ [D.agg [aa jH 0,aa jH 1,aa jH 2,aa jH 3],J 0])
)
)
def kv(n:Nat):List D→Option D
 |[ab,ah]=>Co n ab ah
 |_=>none
def Cp(n:Nat)(ls:List D):Option (List D⊕(List D⊕D)):=
 R (binP false .lss (I ls 2) (I ls 1)) fun bO=>
 oif bO (
 R (
 R (a3 4 (I ls 0) (I ls 2)) fun eK=>
 R (aW true 4 0 eK) fun bg=>
 aw (aK 4 bg)<|
 R (lookP (.string) (.int .i64 0) true (fu (I ls 3)) (aa bg 0)) fun v20=>
 R (extP 0 v20) fun bJ=>
 R (extP 1 v20) fun bS=>
 R (unP .not bS) fun cq=>
 R (
 oif cq (
 R (oX (.string) (fu (I ls 3)) (aa bg 0) (I ls 2)) fun LQ=>
 some (.inl [I ls 0,I ls 1,I ls 2,D.mp LQ])
) (
 some (.inl [I ls 0,I ls 1,I ls 2,D.mp (fu (I ls 3))])
)
)<|a7 fun ls=>
 some (.inl [I ls 0,I ls 1,I ls 2,D.mp (fu (I ls 3))])
)<|a7 fun ls=>
 R (binP false .add (I ls 2) (J 1)) fun cD=>
 some (.inl [I ls 0,I ls 1,cD,D.mp (fu (I ls 3))])
) (
 aU (
 some (.inl [D.mp (fu (I ls 3))])
)
)
def Ti(n:Nat)(ab:D):Option D:=
 R (lenP ab) fun v10=>
 R (
 bm (Cp n) n [ab,v10,J 0,D.mp []]
)<|a7 fun ls=>
 some (D.mp (fu (I ls 0)))
def vR(n:Nat):List D→Option D
 |[ab]=>Ti n ab
 |_=>none
def Tj(n:Nat)(ab:D)(ah:D):Option D:=
 R (binP false .lss ab (J (-1048576))) fun bN=>
 R (gD bN false (
 R (binP false .gtr ah (J 1048576)) fun v10=>
 some v10
)) fun v10=>
 R (pickP bN (ar true) v10) fun v11=>
 R (gD v11 false (
 R (binP false .gtr ab ah) fun bg=>
 some bg
)) fun bg=>
 R (pickP v11 (ar true) bg) fun bx=>
 R (gD bx false (
 R (binP false .sub ah ab) fun v20=>
 R (binP false .gtr v20 (J 4096)) fun bJ=>
 some bJ
)) fun bJ=>
 R (pickP bx (ar true) bJ) fun bS=>
 oif bS (
 some (D.aQ [D.agg [ar false,J 0,J 0],J 2])
) (
 aw (bA ab)<|
 aw (bA ah)<|
 aw (aK 3 (D.agg [ar false,ab,ah]))<|
 some (D.aQ [D.agg [ar false,ab,ah],J 0])
)
def po(n:Nat):List D→Option D
 |[ab,ah]=>Tj n ab ah
 |_=>none
def Cq(n:Nat)(ls:List D):Option (List D⊕(List D⊕D)):=
 R (binP false .lss (I ls 2) (I ls 1)) fun bG=>
 oif bG (
 R (a3 3 (I ls 0) (I ls 2)) fun LS=>
 R (aW true 3 0 LS) fun v11=>
 aw (aK 3 v11)<|
 R (unP .not (aa v11 0)) fun bp=>
 oif bp (
 aU (
 aU (
 some (D.aQ [D.agg [ar false,J 0,J 0],J 13])
)
)
) (
 R (binP false .add (I ls 2) (J 1)) fun bx=>
 some (.inl [I ls 0,I ls 1,bx,I ls 3,I ls 4,I ls 5])
)
) (
 aU (
 some (.inl [I ls 3,I ls 4,I ls 5])
)
)
def Tk(n:Nat)(ab:D):Option D:=
 R (lenP ab) fun bN=>
 R (
 bm (Cq n) n [ab,bN,J 0,ar false,J 0,J 0]
)<|a7 fun ls=>
 some (D.aQ [D.agg [ar true,J 0,J 0],J 0])
def Cr(n:Nat):List D→Option D
 |[ab]=>Tk n ab
 |_=>none
def GS(n:Nat)(ab:D)(ah:D)(aT:D):Option D:=
 aw (aK 3 ah)<|
 aw (aK 3 aT)<|
 R (binP false .eql ab (J 15)) fun bR=>
 R (
 oif bR (
 R (unP .neg (aa aT 2)) fun bx=>
 R (unP .neg (aa aT 1)) fun ca=>
 aw (bA bx)<|
 aw (bA ca)<|
 aw (aK 3 (D.agg [ar false,bx,ca]))<|
 some (.inl [J 14,aa ah 0,aa ah 1,aa ah 2,ar false,bx,ca,ar false,J 0,J 0])
) (
 some (.inl [ab,aa ah 0,aa ah 1,aa ah 2,aa aT 0,aa aT 1,aa aT 2,ar false,J 0,J 0])
)
)<|a7 fun ls=>
 R (binP false .eql (I ls 0) (J 14)) fun bS=>
 oif bS (
 R (binP false .add (I ls 2) (I ls 5)) fun cJ=>
 R (binP false .add (I ls 3) (I ls 6)) fun dr=>
 R (po n [cJ,dr]) fun dD=>
 R (extP 0 dD) fun ds=>
 R (extP 1 dD) fun fl=>
 aw (aK 3 ds)<|
 some (D.aQ [D.agg [aa ds 0,aa ds 1,aa ds 2],fl])
) (
 R (binP false .mul (I ls 2) (I ls 5)) fun dt=>
 R (binP false .mul (I ls 2) (I ls 6)) fun c2=>
 R (binP false .mul (I ls 3) (I ls 5)) fun cX=>
 R (binP false .mul (I ls 3) (I ls 6)) fun fa=>
 R (jz false [dt,c2,cX,fa]) fun eH=>
 R (jz true [dt,c2,cX,fa]) fun il=>
 R (po n [eH,il]) fun dW=>
 R (extP 0 dW) fun fP=>
 R (extP 1 dW) fun fI=>
 aw (aK 3 fP)<|
 some (D.aQ [D.agg [aa fP 0,aa fP 1,aa fP 2],fI])
)
def vS(n:Nat):List D→Option D
 |[ab,ah,aT]=>GS n ab ah aT
 |_=>none
def qE(n:Nat)(ab:D)(ah:D)(aT:D)(bP:D)(ed:D):Option D:=
 aw (aK 4 aT)<|
 R (
 R (binP false .eql (aa aT 0) (J 1)) fun bE=>
 oif bE (
 R (po n [aa aT 1,aa aT 1]) fun b7=>
 R (extP 0 b7) fun cq=>
 R (extP 1 b7) fun cE=>
 aw (aK 3 cq)<|
 aU (
 some (D.aQ [D.agg [aa cq 0,aa cq 1,aa cq 2],cE])
)
) (
 R (binP false .eql (aa aT 0) (J 2)) fun cJ=>
 oif cJ (
 aU (
 some (D.aQ [D.agg [ar true,J 0,J 0],J 0])
)
) (
 R (binP false .eql (aa aT 0) (J 3)) fun v30=>
 R (
 oif v30 (
 some (.inl [ab,ah,bP,ed,aa aT 0,v30,aa aT 0,aa aT 1,aa aT 2,aa aT 3,ar false,J 0,J 0])
) (
 R (binP false .eql (aa aT 0) (J 4)) fun dH=>
 some (.inl [ab,ah,bP,ed,aa aT 0,dH,aa aT 0,aa aT 1,aa aT 2,aa aT 3,ar false,J 0,J 0])
)
)<|a7 fun ls=>
 oif (I ls 5) (
 R (kN (I ls 1)) fun aeZ=>
 R (lookP (.string) (.int .i64 0) true aeZ (I ls 8)) fun df=>
 R (extP 0 df) fun dk=>
 R (extP 1 df) fun dg=>
 R (unP .not dg) fun dt=>
 oif dt (
 aU (
 some (D.aQ [D.agg [ar false,J 0,J 0],J 12])
)
) (
 R (binP false .eql (I ls 6) (J 4)) fun dP=>
 R (gD dP true (
 R (unP .not (I ls 2)) fun iO=>
 some iO
)) fun iO=>
 R (pickP dP iO (ar false)) fun fH=>
 oif fH (
 aU (
 some (D.aQ [D.agg [ar false,J 0,J 0],J 24])
)
) (
 R (a3 4 (I ls 0) dk) fun LU=>
 R (aW false 1 1 LU) fun hA=>
 oif hA (
 aU (
 some (D.aQ [D.agg [ar true,J 0,J 0],J 0])
)
) (
 R (a3 4 (I ls 0) dk) fun Cs=>
 R (aW false 1 2 Cs) fun eH=>
 R (a3 4 (I ls 0) dk) fun Ct=>
 R (aW false 1 3 Ct) fun il=>
 R (po n [eH,il]) fun dW=>
 R (extP 0 dW) fun fP=>
 R (extP 1 dW) fun fI=>
 aw (aK 3 fP)<|
 aU (
 some (D.aQ [D.agg [aa fP 0,aa fP 1,aa fP 2],fI])
)
)
)
)
) (
 R (binP false .eql (I ls 4) (J 5)) fun iN=>
 R (
 oif iN (
 some (.inl [I ls 3,I ls 4,iN,I ls 6,I ls 7,I ls 8,I ls 9,I ls 10,I ls 11,I ls 12])
) (
 R (binP false .eql (I ls 4) (J 6)) fun oc=>
 R (
 oif oc (
 some (.inl [I ls 3,I ls 4,oc,I ls 6,I ls 7,I ls 8,I ls 9,I ls 10,I ls 11,I ls 12])
) (
 R (binP false .eql (I ls 4) (J 7)) fun gu=>
 R (
 oif gu (
 some (.inl [I ls 3,I ls 4,gu,I ls 6,I ls 7,I ls 8,I ls 9,I ls 10,I ls 11,I ls 12])
) (
 R (binP false .eql (I ls 4) (J 8)) fun gv=>
 R (
 oif gv (
 some (.inl [I ls 3,I ls 4,gv,I ls 6,I ls 7,I ls 8,I ls 9,I ls 10,I ls 11,I ls 12])
) (
 R (binP false .eql (I ls 4) (J 9)) fun gF=>
 some (.inl [I ls 3,I ls 4,gF,I ls 6,I ls 7,I ls 8,I ls 9,I ls 10,I ls 11,I ls 12])
)
)<|a7 fun ls=>
 some (.inl [I ls 0,I ls 1,I ls 2,I ls 3,I ls 4,I ls 5,I ls 6,I ls 7,I ls 8,I ls 9])
)
)<|a7 fun ls=>
 some (.inl [I ls 0,I ls 1,I ls 2,I ls 3,I ls 4,I ls 5,I ls 6,I ls 7,I ls 8,I ls 9])
)
)<|a7 fun ls=>
 some (.inl [I ls 0,I ls 1,I ls 2,I ls 3,I ls 4,I ls 5,I ls 6,I ls 7,I ls 8,I ls 9])
)
)<|a7 fun ls=>
 oif (I ls 2) (
 R (Cr n [I ls 0]) fun hj=>
 R (extP 0 hj) fun gO=>
 R (extP 1 hj) fun lz=>
 aw (aK 3 gO)<|
 aU (
 some (D.aQ [D.agg [aa gO 0,aa gO 1,aa gO 2],lz])
)
) (
 R (binP false .eql (I ls 1) (J 18)) fun lA=>
 oif lA (
 R (a3 3 (I ls 0) (J 0)) fun LV=>
 R (aW false 1 0 LV) fun g7=>
 R (unP .not g7) fun hk=>
 R (gD hk false (
 R (a3 3 (I ls 0) (J 1)) fun ae0=>
 R (aW false 1 0 ae0) fun hM=>
 R (a3 3 (I ls 0) (J 2)) fun LW=>
 R (aW false 1 0 LW) fun ir=>
 R (binP true .neq hM ir) fun iQ=>
 some iQ
)) fun iQ=>
 R (pickP hk (ar true) iQ) fun lB=>
 oif lB (
 aU (
 some (D.aQ [D.agg [ar false,J 0,J 0],J 13])
)
) (
 R (a3 3 (I ls 0) (J 1)) fun ae1=>
 R (aW false 1 0 ae1) fun pq=>
 oif pq (
 R (a3 3 (I ls 0) (J 1)) fun LX=>
 R (aW true 3 0 LX) fun pr=>
 aw (aK 3 pr)<|
 aU (
 some (D.aQ [D.agg [aa pr 0,aa pr 1,aa pr 2],J 0])
)
) (
 R (a3 3 (I ls 0) (J 1)) fun LY=>
 R (aW false 1 1 LY) fun im=>
 R (a3 3 (I ls 0) (J 2)) fun LZ=>
 R (aW false 1 1 LZ) fun vx=>
 R (jz false [im,vx]) fun pg=>
 R (a3 3 (I ls 0) (J 1)) fun ae2=>
 R (aW false 1 2 ae2) fun mS=>
 R (a3 3 (I ls 0) (J 2)) fun ae3=>
 R (aW false 1 2 ae3) fun qF=>
 R (jz true [mS,qF]) fun od=>
 R (po n [pg,od]) fun yZ=>
 R (extP 0 yZ) fun qG=>
 R (extP 1 yZ) fun vT=>
 aw (aK 3 qG)<|
 aU (
 some (D.aQ [D.agg [aa qG 0,aa qG 1,aa qG 2],vT])
)
)
)
) (
 R (binP false .eql (I ls 1) (J 10)) fun qA=>
 R (
 oif qA (
 some (.inl [I ls 0,qA,I ls 3,I ls 4,I ls 5,I ls 6,I ls 7,I ls 8,I ls 9])
) (
 R (binP false .eql (I ls 1) (J 11)) fun Cu=>
 some (.inl [I ls 0,Cu,I ls 3,I ls 4,I ls 5,I ls 6,I ls 7,I ls 8,I ls 9])
)
)<|a7 fun ls=>
 oif (I ls 1) (
 R (a3 3 (I ls 0) (J 0)) fun Cv=>
 R (aW false 1 0 Cv) fun iu=>
 R (a3 3 (I ls 0) (J 1)) fun ae4=>
 R (aW false 1 0 ae4) fun L0=>
 R (binP true .neq iu L0) fun vU=>
 oif vU (
 aU (
 some (D.aQ [D.agg [ar false,J 0,J 0],J 13])
)
) (
 aU (
 some (D.aQ [D.agg [ar true,J 0,J 0],J 0])
)
)
) (
 some (.inl [I ls 0,I ls 2,I ls 3,I ls 4,I ls 5,I ls 6,I ls 7,I ls 8])
)
)
)
)
)
)
)<|a7 fun ls=>
 R (a3 3 (I ls 0) (J 0)) fun ae5=>
 R (aW false 1 0 ae5) fun rX=>
 R (gD rX false (
 R (a3 3 (I ls 0) (J 1)) fun ae6=>
 R (aW false 1 0 ae6) fun Cw=>
 some Cw
)) fun Cw=>
 R (pickP rX (ar true) Cw) fun ae7=>
 oif ae7 (
 some (D.aQ [D.agg [ar false,J 0,J 0],J 13])
) (
 R (binP false .eql (I ls 1) (J 12)) fun vV=>
 R (
 oif vV (
 some (.inl [I ls 0,I ls 1,vV,I ls 1,I ls 2,I ls 3,I ls 4,I ls 5,I ls 6,I ls 7])
) (
 R (binP false .eql (I ls 1) (J 13)) fun ae8=>
 some (.inl [I ls 0,I ls 1,ae8,I ls 1,I ls 2,I ls 3,I ls 4,I ls 5,I ls 6,I ls 7])
)
)<|a7 fun ls=>
 oif (I ls 2) (
 some (D.aQ [D.agg [ar true,J 0,J 0],J 0])
) (
 R (binP false .eql (I ls 1) (J 17)) fun Cx=>
 oif Cx (
 R (a3 4 (I ls 6) (J 1)) fun ae9=>
 R (aW true 4 0 ae9) fun Cy=>
 aw (aK 4 Cy)<|
 R (binP false .neq (aa Cy 0) (J 1)) fun y0=>
 R (gD y0 false (
 R (binP false .lss (aa Cy 1) (J 1)) fun L1=>
 some L1
)) fun L1=>
 R (pickP y0 (ar true) L1) fun afa=>
 oif afa (
 some (D.aQ [D.agg [ar false,J 0,J 0],J 2])
) (
 R (a3 4 (I ls 6) (J 1)) fun afb=>
 R (aW false 1 1 afb) fun y1=>
 R (binP false .sub y1 (J 1)) fun Cz=>
 R (po n [J 0,Cz]) fun CA=>
 R (extP 0 CA) fun GU=>
 R (extP 1 CA) fun afc=>
 aw (aK 3 GU)<|
 some (D.aQ [D.agg [aa GU 0,aa GU 1,aa GU 2],afc])
)
) (
 R (a3 3 (I ls 0) (J 0)) fun afd=>
 R (aW true 3 0 afd) fun CB=>
 R (a3 3 (I ls 0) (J 1)) fun afe=>
 R (aW true 3 0 afe) fun qH=>
 R (vS n [I ls 3,CB,qH]) fun vW=>
 R (extP 0 vW) fun y2=>
 R (extP 1 vW) fun L2=>
 aw (aK 3 y2)<|
 some (D.aQ [D.agg [aa y2 0,aa y2 1,aa y2 2],L2])
)
)
)
def mV(n:Nat):List D→Option D
 |[ab,ah,aT,bP,ed]=>qE n ab ah aT bP ed
 |_=>none
def y3(vX:List D→Option D)(n:Nat)(ls:List D):Option (List D⊕(List D⊕D)):=
 R (binP false .lss (I ls 5) (I ls 4)) fun ca=>
 oif ca (
 R (a3 4 (I ls 3) (I ls 5)) fun rU=>
 R (aW true 4 0 rU) fun bJ=>
 aw (aK 4 bJ)<|
 R (vX [I ls 0,I ls 1,D.agg [aa bJ 0,aa bJ 1,aa bJ 2,aa bJ 3],I ls 2]) fun cJ=>
 R (extP 0 cJ) fun cu=>
 R (extP 1 cJ) fun cD=>
 aw (aK 3 cu)<|
 R (binP false .neq cD (J 0)) fun dH=>
 oif dH (
 aU (
 aU (
 some (D.aQ [D.agg [ar false,J 0,J 0],cD])
)
)
) (
 aw (aK 3 (D.agg [aa cu 0,aa cu 1,aa cu 2]))<|
 aw (cY (((esD (I ls 13))).length+([[aa cu 0,aa cu 1,aa cu 2]]).length) 24)<|
 R (binP false .add (I ls 5) (J 1)) fun dg=>
 some (.inl [I ls 0,I ls 1,I ls 2,I ls 3,I ls 4,dg,I ls 6,I ls 7,I ls 8,I ls 9,I ls 10,I ls 11,I ls 12,D.aC 3 ((esD (I ls 13))++[[aa cu 0,aa cu 1,aa cu 2]])])
)
) (
 aU (
 some (.inl [I ls 0,I ls 1,I ls 2,I ls 6,I ls 7,I ls 8,I ls 9,I ls 10,I ls 11,I ls 12,D.aC 3 (esD (I ls 13))])
)
)
def L3(vX:List D→Option D)(n:Nat)(ab:D)(ah:D)(aT:D)(bP:D):Option D:=
 aw (aK 4 aT)<|
 R (lenP (aa aT 3)) fun br=>
 R (
 bm (y3 vX n) n [ab,ah,bP,aa aT 3,br,J 0,aa aT 0,aa aT 1,aa aT 2,aa aT 3,ar false,J 0,J 0,D.aC 3 []]
)<|a7 fun ls=>
 R (mV n [I ls 0,I ls 1,D.agg [I ls 3,I ls 4,I ls 5,I ls 6],I ls 2,D.aC 3 (esD (I ls 10))]) fun dP=>
 aw dP.flat<|
 R (extP 0 dP) fun c2=>
 R (extP 1 dP) fun gj=>
 aw (aK 3 c2)<|
 some (D.aQ [D.agg [aa c2 0,aa c2 1,aa c2 2],gj])
def ps:Nat→List D→Option D
 |0,_=>none
 |n+1,aF=>match aF with
  |[ab,ah,aT,bP]=>L3 (ps n) n ab ah aT bP
  |_=>none
def L4(n:Nat)(ab:D)(ah:D)(aT:D):Option D:=
 aw (aK 4 ah)<|
 R (qC n [D.agg [aa ah 0,aa ah 1,aa ah 2,aa ah 3]]) fun v10=>
 R (binP false .neq v10 (J 0)) fun bO=>
 oif bO (
 some (D.aQ [D.agg [ar false,J 0,J 0],v10])
) (
 R (vR n [ab]) fun br=>
 R (ps n [ab,br,D.agg [aa ah 0,aa ah 1,aa ah 2,aa ah 3],aT]) fun v20=>
 R (extP 0 v20) fun bJ=>
 R (extP 1 v20) fun bS=>
 aw (aK 3 bJ)<|
 some (D.aQ [D.agg [aa bJ 0,aa bJ 1,aa bJ 2],bS])
)
def qI(n:Nat):List D→Option D
 |[ab,ah,aT]=>L4 n ab ah aT
 |_=>none
def L5(n:Nat)(ab:D)(ah:D)(aT:D):Option D:=
 aw (aK 8 ab)<|
 aw (aK 4 ah)<|
 R (kv n [D.agg [aa ah 0,aa ah 1,aa ah 2,aa ah 3],aa ab 1]) fun bp=>
 R (extP 0 bp) fun bg=>
 R (extP 1 bp) fun bx=>
 aw (aK 4 bg)<|
 R (binP false .neq bx (J 0)) fun bE=>
 oif bE (
 some (D.aQ [D.agg [ar false,J 0,J 0],bx])
) (
 R (qI n [aa ab 0,D.agg [aa bg 0,aa bg 1,aa bg 2,aa bg 3],aT]) fun cE=>
 R (extP 0 cE) fun ck=>
 R (extP 1 cE) fun cJ=>
 aw (aK 3 ck)<|
 some (D.aQ [D.agg [aa ck 0,aa ck 1,aa ck 2],cJ])
)
def qJ(n:Nat):List D→Option D
 |[ab,ah,aT]=>L5 n ab ah aT
 |_=>none
def L6(n:Nat)(ab:D)(ah:D)(aT:D):Option D:=
 aw (aK 8 ab)<|
 aw (aK 4 ah)<|
 R (qJ n [D.agg [aa ab 0,aa ab 1,aa ab 2,aa ab 3,aa ab 4,aa ab 5,aa ab 6,aa ab 7],D.agg [aa ah 0,aa ah 1,aa ah 2,aa ah 3],aT]) fun bR=>
 R (extP 0 bR) fun bp=>
 R (extP 1 bR) fun bg=>
 aw (aK 3 bp)<|
 R (binP false .eql bg (J 0)) fun br=>
 R (gD br true (
 R (unP .not (aa bp 0)) fun bJ=>
 some bJ
)) fun bJ=>
 R (pickP br bJ (ar false)) fun bS=>
 oif bS (
 some (J 13)
) (
 some bg
)
def tB(n:Nat):List D→Option D
 |[ab,ah,aT]=>L6 n ab ah aT
 |_=>none
def CC(vY:List D→Option D)(n:Nat)(ls:List D):Option (List D⊕(List D⊕D)):=
 R (binP false .lss (I ls 2) (I ls 1)) fun ca=>
 oif ca (
 R (a3 6 (I ls 0) (I ls 2)) fun rU=>
 R (aW true 6 0 rU) fun bJ=>
 aw (aK 6 bJ)<|
 R (vY [D.agg [I ls 3,I ls 4,I ls 5,I ls 6,I ls 7,I ls 8,I ls 9,I ls 10],D.agg [aa bJ 0,aa bJ 1,aa bJ 2,aa bJ 3,aa bJ 4,aa bJ 5]]) fun cq=>
 R (binP false .neq cq (J 0)) fun ck=>
 oif ck (
 aU (
 aU (
 some cq
)
)
) (
 R (binP false .add (I ls 2) (J 1)) fun cu=>
 some (.inl [I ls 0,I ls 1,cu,I ls 3,I ls 4,I ls 5,I ls 6,I ls 7,I ls 8,I ls 9,I ls 10])
)
) (
 aU (
 some (.inl [])
)
)
def CD(vY:List D→Option D)(n:Nat)(ab:D)(ah:D):Option D:=
 aw (aK 8 ab)<|
 aw (aK 6 ah)<|
 R (binP false .eql (aa ah 0) (J 1)) fun v10=>
 oif v10 (
 R (tB n [D.agg [aa ab 0,aa ab 1,aa ab 2,aa ab 3,aa ab 4,aa ab 5,aa ab 6,aa ab 7],D.agg [aa ah 1,aa ah 2,aa ah 3,aa ah 4],ar false]) fun bp=>
 some bp
) (
 R (lenP (aa ah 5)) fun br=>
 R (
 bm (CC vY n) n [aa ah 5,br,J 0,aa ab 0,aa ab 1,aa ab 2,aa ab 3,aa ab 4,aa ab 5,aa ab 6,aa ab 7]
)<|a7 fun ls=>
 some (J 0)
)
def qK:Nat→List D→Option D
 |0,_=>none
 |n+1,aF=>match aF with
  |[ab,ah]=>CD (qK n) n ab ah
  |_=>none
def CE(n:Nat)(ab:D)(ah:D)(aT:D):Option D:=
 aw (aK 8 ah)<|
 R (a3 7 ab aT) fun vB=>
 R (aW false 1 0 vB) fun bR=>
 aw (bA bR)<|
 R (qB n [bR]) fun bx=>
 R (unP .not bx) fun br=>
 oif br (
 some (J 12)
) (
 R (ko 7 ab none (some aT)) fun bJ=>
 R (vJ n [bJ,(D.fn (.func pf) [] [D.ref [bR] 0])]) fun b7=>
 aw b7.flat<|
 oif b7 (
 some (J 6)
) (
 R (a3 7 ab aT) fun L7=>
 R (aW true 6 1 L7) fun cu=>
 R (ny n [cu]) fun cD=>
 R (binP false .neq cD (J 0)) fun dH=>
 oif dH (
 some cD
) (
 R (a3 7 ab aT) fun vZ=>
 R (aW true 6 1 vZ) fun dg=>
 R (qK n [D.agg [aa ah 0,aa ah 1,aa ah 2,aa ah 3,aa ah 4,aa ah 5,aa ah 6,aa ah 7],dg]) fun eG=>
 some eG
)
)
)
def rY(n:Nat):List D→Option D
 |[ab,ah,aT]=>CE n ab ah aT
 |_=>none
def GV(n:Nat)(ab:D)(x1:List D):Option D:=
 aw (aK 4 ab)<|
 R (aW false 1 0 x1) fun v6=>
 R (binP false .eql (aa ab 0) v6) fun bN=>
 some bN
def CF(n:Nat):List D→Option D
 |[ab,ah]=>(match ah with| .ref x1 0=>GV n ab x1|_=>none)
 |_=>none
def CG(n:Nat)(ls:List D):Option (List D⊕(List D⊕D)):=
 R (binP false .lss (I ls 3) (I ls 2)) fun bG=>
 oif bG (
 R (a3 4 (I ls 0) (I ls 3)) fun eK=>
 R (aW true 4 0 eK) fun bg=>
 R (CF n [bg,I ls 1]) fun bx=>
 oif bx (
 aU (
 aU (
 some (I ls 3)
)
)
) (
 R (binP false .add (I ls 3) (J 1)) fun bE=>
 some (.inl [I ls 0,I ls 1,I ls 2,bE])
)
) (
 aU (
 some (.inl [])
)
)
def CH(n:Nat)(ab:D)(b4:D):Option D:=
 R (lenP ab) fun bN=>
 R (
 bm (CG n) n [ab,b4,bN,J 0]
)<|a7 fun ls=>
 some (J (-1))
def v3(n:Nat):List D→Option D
 |[ab,ah]=>(match fnOf yK ah with|some [b4]=>CH n ab b4|_=>none)
 |_=>none
def GW(n:Nat)(ab:D)(x1:List D):Option D:=
 aw (aK 5 ab)<|
 R (aW false 1 0 x1) fun v6=>
 R (binP false .eql (aa ab 0) v6) fun bN=>
 some bN
def CI(n:Nat):List D→Option D
 |[ab,ah]=>(match ah with| .ref x1 0=>GW n ab x1|_=>none)
 |_=>none
def CJ(n:Nat)(ls:List D):Option (List D⊕(List D⊕D)):=
 R (binP false .lss (I ls 3) (I ls 2)) fun bG=>
 oif bG (
 R (a3 5 (I ls 0) (I ls 3)) fun eK=>
 R (aW true 5 0 eK) fun bg=>
 R (CI n [bg,I ls 1]) fun bx=>
 oif bx (
 aU (
 aU (
 some (I ls 3)
)
)
) (
 R (binP false .add (I ls 3) (J 1)) fun bE=>
 some (.inl [I ls 0,I ls 1,I ls 2,bE])
)
) (
 aU (
 some (.inl [])
)
)
def CK(n:Nat)(ab:D)(b4:D):Option D:=
 R (lenP ab) fun bN=>
 R (
 bm (CJ n) n [ab,b4,bN,J 0]
)<|a7 fun ls=>
 some (J (-1))
def v5(n:Nat):List D→Option D
 |[ab,ah]=>(match fnOf pe ah with|some [b4]=>CK n ab b4|_=>none)
 |_=>none
def GX(n:Nat)(ab:D)(b4:D):Option D:=
 R (v5 n [ab,(D.fn (.func pe) [] [b4])]) fun bN=>
 R (binP false .geq bN (J 0)) fun cg=>
 some cg
def v7(n:Nat):List D→Option D
 |[ab,ah]=>(match fnOf pe ah with|some [b4]=>GX n ab b4|_=>none)
 |_=>none
def GY(n:Nat)(ab:D)(ah:D)(aT:D):Option D:=
 aw (aK 8 ah)<|
 R (a3 5 ab aT) fun BT=>
 R (aW false 1 0 BT) fun bg=>
 aw (bA bg)<|
 R (v3 n [aa ah 0,(D.fn (.func yK) [] [D.ref [bg] 0])]) fun ca=>
 aw ca.flat<|
 R (binP false .lss ca (J 0)) fun bS=>
 oif bS (
 some (J 12)
) (
 R (ko 5 ab none (some aT)) fun ck=>
 R (v7 n [ck,(D.fn (.func pe) [] [D.ref [bg] 0])]) fun cu=>
 aw cu.flat<|
 oif cu (
 some (J 6)
) (
 R (a3 5 ab aT) fun L8=>
 R (aW true 4 1 L8) fun fl=>
 R (qJ n [D.agg [aa ah 0,aa ah 1,aa ah 2,aa ah 3,aa ah 4,aa ah 5,aa ah 6,aa ah 7],fl,ar false]) fun df=>
 R (extP 0 df) fun dk=>
 R (extP 1 df) fun dg=>
 aw (aK 3 dk)<|
 R (binP false .eql dg (J 0)) fun dt=>
 R (gD dt true (
 R (a3 4 (aa ah 0) ca) fun v8=>
 R (aW false 1 1 v8) fun eA=>
 R (binP true .neq (aa dk 0) eA) fun cX=>
 some cX
)) fun cX=>
 R (pickP dt cX (ar false)) fun fy=>
 oif fy (
 some (J 13)
) (
 some dg
)
)
)
def tC(n:Nat):List D→Option D
 |[ab,ah,aT]=>GY n ab ah aT
 |_=>none
def Tl(n:Nat)(ab:D)(ah:D)(aT:D):Option D:=
 aw (aK 3 ab)<|
 aw (aK 8 ah)<|
 R (a3 4 (aa ab 1) aT) fun vB=>
 R (aW true 4 0 vB) fun bO=>
 R (tB n [D.agg [aa ah 0,aa ah 1,aa ah 2,aa ah 3,aa ah 4,aa ah 5,aa ah 6,aa ah 7],bO,aa ab 2]) fun bg=>
 some bg
def y4(n:Nat):List D→Option D
 |[ab,ah,aT]=>Tl n ab ah aT
 |_=>none
def Tn(n:Nat)(ab:D)(ah:D)(aT:D):Option D:=
 aw (aK 8 ah)<|
 R (a3 5 ab aT) fun BT=>
 R (aW true 4 1 BT) fun bg=>
 R (qJ n [D.agg [aa ah 0,aa ah 1,aa ah 2,aa ah 3,aa ah 4,aa ah 5,aa ah 6,aa ah 7],bg,ar false]) fun bx=>
 R (extP 0 bx) fun br=>
 R (extP 1 bx) fun bE=>
 aw (aK 3 br)<|
 some bE
def y5(n:Nat):List D→Option D
 |[ab,ah,aT]=>Tn n ab ah aT
 |_=>none
def GZ(n:Nat)(ab:D)(x1:List D):Option D:=
 aw (aK 5 ab)<|
 R (aW false 1 0 x1) fun v6=>
 R (binP false .eql (aa ab 0) v6) fun bN=>
 some bN
def CL(n:Nat):List D→Option D
 |[ab,ah]=>(match ah with| .ref x1 0=>GZ n ab x1|_=>none)
 |_=>none
def CM(n:Nat)(ls:List D):Option (List D⊕(List D⊕D)):=
 R (binP false .lss (I ls 3) (I ls 2)) fun bG=>
 oif bG (
 R (a3 5 (I ls 0) (I ls 3)) fun eK=>
 R (aW true 5 0 eK) fun bg=>
 R (CL n [bg,I ls 1]) fun bx=>
 oif bx (
 aU (
 aU (
 some (I ls 3)
)
)
) (
 R (binP false .add (I ls 3) (J 1)) fun bE=>
 some (.inl [I ls 0,I ls 1,I ls 2,bE])
)
) (
 aU (
 some (.inl [])
)
)
def CN(n:Nat)(ab:D)(b4:D):Option D:=
 R (lenP ab) fun bN=>
 R (
 bm (CM n) n [ab,b4,bN,J 0]
)<|a7 fun ls=>
 some (J (-1))
def v9(n:Nat):List D→Option D
 |[ab,ah]=>(match fnOf yJ ah with|some [b4]=>CN n ab b4|_=>none)
 |_=>none
def wa(n:Nat)(ls:List D):Option (List D⊕(List D⊕(List D⊕(List D⊕(List D⊕D))))):=
 R (binP false .lss (I ls 4) (I ls 3)) fun dg=>
 oif dg (
 R (
 R (a3 1 (I ls 2) (I ls 4)) fun nz=>
 R (aW false 1 0 nz) fun dt=>
 aw (bA dt)<|
 R (v9 n [I ls 0,(D.fn (.func yJ) [] [D.ref [dt] 0])]) fun dZ=>
 aw dZ.flat<|
 R (binP false .geq dZ (J 0)) fun c2=>
 R (gD c2 true (
 R (cG ((esD (I ls 5))).length dZ) fun aff=>
 R (((esD (I ls 5)))[aff]?) fun afg=>
 R (aW false 1 0 afg) fun cX=>
 R (unP .not cX) fun fy=>
 some fy
)) fun fy=>
 R (pickP c2 fy (ar false)) fun e3=>
 R (
 oif e3 (
 R (cG ((esD (I ls 5))).length dZ) fun To=>
 R (((esD (I ls 5)))[To]?) fun lk=>
 aw (bA dZ)<|
 aw (cY (((esD (I ls 6))).length+([[dZ]]).length) 8)<|
 some (.inl [I ls 0,I ls 1,I ls 2,I ls 3,I ls 4,D.aC 1 (((esD (I ls 5))).set To (k9 lk 0 [ar true])),D.aC 1 ((esD (I ls 6))++[[dZ]])])
) (
 some (.inl [I ls 0,I ls 1,I ls 2,I ls 3,I ls 4,D.aC 1 (esD (I ls 5)),D.aC 1 (esD (I ls 6))])
)
)<|a7 fun ls=>
 some (.inl [I ls 0,I ls 1,I ls 2,I ls 3,I ls 4,D.aC 1 (esD (I ls 5)),D.aC 1 (esD (I ls 6))])
)<|a7 fun ls=>
 R (binP false .add (I ls 4) (J 1)) fun eH=>
 some (.inl [I ls 0,I ls 1,I ls 2,I ls 3,eH,D.aC 1 (esD (I ls 5)),D.aC 1 (esD (I ls 6))])
) (
 aU (
 some (.inl [I ls 0,I ls 1,D.aC 1 (esD (I ls 5)),D.aC 1 (esD (I ls 6))])
)
)
def G0(n:Nat)(ls:List D):Option (List D⊕(List D⊕D)):=
 R (binP false .gtr (J ((esD (I ls 3))).length) (J 0)) fun bJ=>
 oif bJ (
 R (
 R (cG ((esD (I ls 3))).length (J 0)) fun Ca=>
 R (((esD (I ls 3)))[Ca]?) fun Cb=>
 R (aW false 1 0 Cb) fun cu=>
 R (a3 5 (I ls 0) cu) fun rZ=>
 R (aW true 4 1 rZ) fun dH=>
 R (pk n [dH]) fun dr=>
 R (extP 0 dr) fun dD=>
 R (extP 1 dr) fun ds=>
 R (lenP dD) fun df=>
 R (
 bm (wa n) n [I ls 0,I ls 1,dD,df,J 0,D.aC 1 (esD (I ls 2)),D.aC 1 (esD (I ls 3))]
)<|a7 fun ls=>
 some (.inl [I ls 0,I ls 1,D.aC 1 (esD (I ls 2)),D.aC 1 (esD (I ls 3))])
)<|a7 fun ls=>
 R (ni ((esD (I ls 3))).length (some (J 1)) none) fun G1=>
 aw (decide (G1.1+G1.2≤((esD (I ls 3))).length))<|
 some (.inl [I ls 0,I ls 1,D.aC 1 (esD (I ls 2)),D.aC 1 ((((esD (I ls 3))).drop G1.1).take G1.2)])
) (
 aU (
 some (.inl [I ls 1,D.aC 1 (esD (I ls 2))])
)
)
def Tp(n:Nat)(ab:D)(ah:D)(aT:D):Option D:=
 aw (aK 8 ah)<|
 R (lenP ab) fun bg=>
 R (makeP 1 bg bg) fun afh=>
 aw (bA aT)<|
 R (
 bm (G0 n) n [ab,aT,D.aC 1 (List.replicate afh [ar false]),D.aC 1 [[aT]]]
)<|a7 fun ls=>
 R (cG ((esD (I ls 1))).length (I ls 0)) fun GQ=>
 R (((esD (I ls 1)))[GQ]?) fun afi=>
 R (aW false 1 0 afi) fun g6=>
 oif g6 (
 some (J 14)
) (
 some (J 0)
)
def y6(n:Nat):List D→Option D
 |[ab,ah,aT]=>Tp n ab ah aT
 |_=>none
def G2(n:Nat)(ab:D)(x1:List D):Option D:=
 aw (aK 4 ab)<|
 R (aW false 1 0 x1) fun v6=>
 R (binP false .eql (aa ab 0) v6) fun bN=>
 some bN
def CO(n:Nat):List D→Option D
 |[ab,ah]=>(match ah with| .ref x1 0=>G2 n ab x1|_=>none)
 |_=>none
def CP(n:Nat)(ls:List D):Option (List D⊕(List D⊕D)):=
 R (binP false .lss (I ls 3) (I ls 2)) fun bG=>
 oif bG (
 R (a3 4 (I ls 0) (I ls 3)) fun eK=>
 R (aW true 4 0 eK) fun bg=>
 R (CO n [bg,I ls 1]) fun bx=>
 oif bx (
 aU (
 aU (
 some (I ls 3)
)
)
) (
 R (binP false .add (I ls 3) (J 1)) fun bE=>
 some (.inl [I ls 0,I ls 1,I ls 2,bE])
)
) (
 aU (
 some (.inl [])
)
)
def CQ(n:Nat)(ab:D)(b4:D):Option D:=
 R (lenP ab) fun bN=>
 R (
 bm (CP n) n [ab,b4,bN,J 0]
)<|a7 fun ls=>
 some (J (-1))
def wb(n:Nat):List D→Option D
 |[ab,ah]=>(match fnOf pc ah with|some [b4]=>CQ n ab b4|_=>none)
 |_=>none
def G3(n:Nat)(ab:D)(b4:D):Option D:=
 R (wb n [ab,(D.fn (.func pc) [] [b4])]) fun bN=>
 R (binP false .geq bN (J 0)) fun cg=>
 some cg
def wc(n:Nat):List D→Option D
 |[ab,ah]=>(match fnOf pc ah with|some [b4]=>G3 n ab b4|_=>none)
 |_=>none
def G4(n:Nat)(ab:D)(x1:List D):Option D:=
 aw (aK 5 ab)<|
 R (aW false 1 0 x1) fun v6=>
 R (binP false .eql (aa ab 0) v6) fun bN=>
 some bN
def CR(n:Nat):List D→Option D
 |[ab,ah]=>(match ah with| .ref x1 0=>G4 n ab x1|_=>none)
 |_=>none
def CS(n:Nat)(ls:List D):Option (List D⊕(List D⊕D)):=
 R (binP false .lss (I ls 3) (I ls 2)) fun bG=>
 oif bG (
 R (a3 5 (I ls 0) (I ls 3)) fun eK=>
 R (aW true 5 0 eK) fun bg=>
 R (CR n [bg,I ls 1]) fun bx=>
 oif bx (
 aU (
 aU (
 some (I ls 3)
)
)
) (
 R (binP false .add (I ls 3) (J 1)) fun bE=>
 some (.inl [I ls 0,I ls 1,I ls 2,bE])
)
) (
 aU (
 some (.inl [])
)
)
def CT(n:Nat)(ab:D)(b4:D):Option D:=
 R (lenP ab) fun bN=>
 R (
 bm (CS n) n [ab,b4,bN,J 0]
)<|a7 fun ls=>
 some (J (-1))
def we(n:Nat):List D→Option D
 |[ab,ah]=>(match fnOf pd ah with|some [b4]=>CT n ab b4|_=>none)
 |_=>none
def G5(n:Nat)(ab:D)(b4:D):Option D:=
 R (we n [ab,(D.fn (.func pd) [] [b4])]) fun bN=>
 R (binP false .geq bN (J 0)) fun cg=>
 some cg
def wg(n:Nat):List D→Option D
 |[ab,ah]=>(match fnOf pd ah with|some [b4]=>G5 n ab b4|_=>none)
 |_=>none
def CU(n:Nat)(ab:D)(ah:D)(aT:D):Option D:=
 aw (aK 8 ah)<|
 R (a3 5 ab aT) fun LS=>
 R (aW false 1 0 LS) fun bO=>
 aw (bA bO)<|
 R (qB n [bO]) fun bg=>
 R (unP .not bg) fun bx=>
 oif bx (
 some (J 12)
) (
 R (wc n [aa ah 0,(D.fn (.func pc) [] [D.ref [bO] 0])]) fun bJ=>
 aw bJ.flat<|
 R (
 oif bJ (
 some (.inl [bJ])
) (
 R (ko 5 ab none (some aT)) fun cq=>
 R (wg n [cq,(D.fn (.func pd) [] [D.ref [bO] 0])]) fun ck=>
 aw ck.flat<|
 some (.inl [ck])
)
)<|a7 fun ls=>
 oif (I ls 0) (
 some (J 6)
) (
 some (J 0)
)
)
def r0(n:Nat):List D→Option D
 |[ab,ah,aT]=>CU n ab ah aT
 |_=>none
def Tq(n:Nat)(ab:D):Option D:=
 some (J 8)
def G6(n:Nat):List D→Option D
 |[ab]=>Tq n ab
 |_=>none
def Tr(n:Nat)(ab:D):Option D:=
 some (J 5)
def G7(n:Nat):List D→Option D
 |[ab]=>Tr n ab
 |_=>none
def Ts(n:Nat)(ab:D):Option D:=
 aw (aK 3 ab)<|
 some (aa ab 0)
def G8(n:Nat):List D→Option D
 |[ab]=>Ts n ab
 |_=>none
def Tt(n:Nat)(ab:D):Option D:=
 some (J 2)
def G9(n:Nat):List D→Option D
 |[ab]=>Tt n ab
 |_=>none
def Tu(n:Nat)(ab:D):Option D:=
 some (J 2)
def Ha(n:Nat):List D→Option D
 |[ab]=>Tu n ab
 |_=>none
def Tv(n:Nat)(ab:D):Option D:=
 some (J 2)
def Hb(n:Nat):List D→Option D
 |[ab]=>Tv n ab
 |_=>none
def pt(n:Nat)(ls:List D):Option (List D⊕(List D⊕D)):=
 R (binP false .lss (I ls 1) (J 8)) fun dg=>
 oif dg (
 R (cG 8 (I ls 1)) fun afj=>
 R (jR false 1 (afj*1) (I ls 0)) fun dt=>
 R (binP false .gtr dt (J 64)) fun c1=>
 oif c1 (
 R (binP false .add (J 1) (I ls 1)) fun dP=>
 aw (bA dP)<|
 aw (aK 2 (D.agg [dP,J 64]))<|
 aU (
 aU (
 some (D.aQ [D.agg [dP,J 64],J 18])
)
)
) (
 R (binP false .add (I ls 1) (J 1)) fun gj=>
 some (.inl [I ls 0,gj,I ls 2,I ls 3,I ls 4,I ls 5,I ls 6,I ls 7,I ls 8,I ls 9,I ls 10,I ls 11])
)
) (
 aU (
 some (.inl [I ls 2,I ls 3,I ls 4,I ls 5,I ls 6,I ls 7,I ls 8,I ls 9,I ls 10,I ls 11])
)
)
def gP(n:Nat)(ls:List D):Option (List D⊕(List D⊕(List D⊕(List D⊕(List D⊕D))))):=
 R (binP false .lss (I ls 4) (I ls 3)) fun vw=>
 oif vw (
 R (ifcP (I ls 0)) fun oe=>
 R (fk oe.1 151 (r0 n [oe.2,D.agg [I ls 5,I ls 6,I ls 7,I ls 8,I ls 9,I ls 10,I ls 11,I ls 12],I ls 4]) (fk oe.1 152 (y6 n [oe.2,D.agg [I ls 5,I ls 6,I ls 7,I ls 8,I ls 9,I ls 10,I ls 11,I ls 12],I ls 4]) (fk oe.1 153 (y5 n [oe.2,D.agg [I ls 5,I ls 6,I ls 7,I ls 8,I ls 9,I ls 10,I ls 11,I ls 12],I ls 4]) (fk oe.1 155 (y4 n [oe.2,D.agg [I ls 5,I ls 6,I ls 7,I ls 8,I ls 9,I ls 10,I ls 11,I ls 12],I ls 4]) (fk oe.1 156 (tC n [oe.2,D.agg [I ls 5,I ls 6,I ls 7,I ls 8,I ls 9,I ls 10,I ls 11,I ls 12],I ls 4]) (fk oe.1 157 (rY n [oe.2,D.agg [I ls 5,I ls 6,I ls 7,I ls 8,I ls 9,I ls 10,I ls 11,I ls 12],I ls 4]) (none))))))) fun lZ=>
 R (binP false .neq lZ (J 0)) fun vv=>
 oif vv (
 R (ifcP (I ls 0)) fun og=>
 R (fk og.1 151 (Hb n [og.2]) (fk og.1 152 (Ha n [og.2]) (fk og.1 153 (G9 n [og.2]) (fk og.1 155 (G8 n [og.2]) (fk og.1 156 (G7 n [og.2]) (fk og.1 157 (G6 n [og.2]) (none))))))) fun wh=>
 aw (bA wh)<|
 aw (bA (I ls 4))<|
 aw (aK 2 (D.agg [wh,I ls 4]))<|
 aU (
 aU (
 aU (
 aU (
 aU (
 some (D.aQ [D.agg [wh,I ls 4],lZ])
)
)
)
)
)
) (
 R (binP false .add (I ls 4) (J 1)) fun pg=>
 some (.inl [I ls 0,I ls 1,I ls 2,I ls 3,pg,I ls 5,I ls 6,I ls 7,I ls 8,I ls 9,I ls 10,I ls 11,I ls 12,I ls 13,I ls 14])
)
) (
 aU (
 some (.inl [I ls 1,I ls 2,I ls 5,I ls 6,I ls 7,I ls 8,I ls 9,I ls 10,I ls 11,I ls 12,I ls 13,I ls 14])
)
)
def gG(n:Nat)(ls:List D):Option (List D⊕(List D⊕D)):=
 R (binP false .lss (I ls 1) (J 9)) fun iQ=>
 oif iQ (
 R (
 R (cG 9 (I ls 1)) fun afk=>
 R (jR false 1 (afk*1) (I ls 0)) fun lB=>
 R (ifcP lB) fun oh=>
 R (fk oh.1 151 (B2 n [oh.2]) (fk oh.1 152 (B1 n [oh.2]) (fk oh.1 153 (B0 n [oh.2]) (fk oh.1 155 (ph n [oh.2]) (fk oh.1 156 (BY n [oh.2]) (fk oh.1 157 (BX n [oh.2]) (none))))))) fun qz=>
 R (
 bm (gP n) n [lB,I ls 0,I ls 1,qz,J 0,I ls 2,I ls 3,I ls 4,I ls 5,I ls 6,I ls 7,I ls 8,I ls 9,I ls 10,I ls 11]
)<|a7 fun ls=>
 some (.inl [I ls 0,I ls 1,I ls 2,I ls 3,I ls 4,I ls 5,I ls 6,I ls 7,I ls 8,I ls 9,I ls 10,I ls 11])
)<|a7 fun ls=>
 R (binP false .add (I ls 1) (J 1)) fun kx=>
 some (.inl [I ls 0,kx,I ls 2,I ls 3,I ls 4,I ls 5,I ls 6,I ls 7,I ls 8,I ls 9,I ls 10,I ls 11])
) (
 aU (
 some (.inl [I ls 10,I ls 11])
)
)
def wi(n:Nat)(ab:D):Option D:=
 aw (aK 8 ab)<|
 R (lenP (aa ab 0)) fun bp=>
 R (lenP (aa ab 1)) fun br=>
 R (lenP (aa ab 2)) fun v20=>
 R (lenP (aa ab 3)) fun b7=>
 R (lenP (aa ab 4)) fun ck=>
 R (lenP (aa ab 5)) fun cD=>
 R (lenP (aa ab 6)) fun dr=>
 R (lenP (aa ab 7)) fun fl=>
 aw (bA bp)<|
 aw (bA br)<|
 aw (bA v20)<|
 aw (bA b7)<|
 aw (bA ck)<|
 aw (bA cD)<|
 aw (bA dr)<|
 aw (bA fl)<|
 R (
 bm (pt n) n [D.agg [bp,br,v20,b7,ck,cD,dr,fl],J 0,aa ab 0,aa ab 1,aa ab 2,aa ab 3,aa ab 4,aa ab 5,aa ab 6,aa ab 7,J 0,J 0]
)<|a7 fun ls=>
 R (yV n [I ls 0]) fun cX=>
 R (extP 0 cX) fun fy=>
 R (extP 1 cX) fun e3=>
 R (binP false .neq e3 (J 0)) fun hA=>
 oif hA (
 aw (bA fy)<|
 aw (aK 2 (D.agg [J 1,fy]))<|
 some (D.aQ [D.agg [J 1,fy],e3])
) (
 R (BW n [D.agg [I ls 0,I ls 1,I ls 2,I ls 3,I ls 4,I ls 5,I ls 6,I ls 7]]) fun jG=>
 R (binP false .gtr jG (J 30)) fun eH=>
 oif eH (
 some (D.aQ [D.agg [J 1,J 0],J 18])
) (
 aw (bA (I ls 2))<|
 aw (bA (I ls 3))<|
 aw (bA (I ls 5))<|
 aw (bA (I ls 6))<|
 aw (bA (D.dh 151 (I ls 1)))<|
 aw (bA (D.dh 152 (I ls 1)))<|
 aw (bA (D.dh 153 (I ls 1)))<|
 aw (bA (D.dh 155 (D.agg [J 3,I ls 2,ar false])))<|
 aw (bA (D.dh 155 (D.agg [J 4,I ls 3,ar false])))<|
 aw (bA (D.dh 156 (I ls 4)))<|
 aw (bA (D.dh 155 (D.agg [J 6,I ls 5,ar true])))<|
 aw (bA (D.dh 155 (D.agg [J 7,I ls 6,ar false])))<|
 aw (bA (D.dh 157 (I ls 7)))<|
 R (
 bm (gG n) n [D.agg [D.dh 151 (I ls 1),D.dh 152 (I ls 1),D.dh 153 (I ls 1),D.dh 155 (D.agg [J 3,I ls 2,ar false]),D.dh 155 (D.agg [J 4,I ls 3,ar false]),D.dh 156 (I ls 4),D.dh 155 (D.agg [J 6,I ls 5,ar true]),D.dh 155 (D.agg [J 7,I ls 6,ar false]),D.dh 157 (I ls 7)],J 0,I ls 0,I ls 1,I ls 2,I ls 3,I ls 4,I ls 5,I ls 6,I ls 7,I ls 8,I ls 9]
)<|a7 fun ls=>
 some (D.aQ [D.agg [J 0,J 0],J 0])
)
)
def oi(n:Nat):List D→Option D
 |[ab]=>wi n ab
 |_=>none
def Hc(n:Nat)(ls:List D):Option (List D⊕(List D⊕D)):=
 R (binP false .lss (I ls 3) (I ls 2)) fun bp=>
 oif bp (
 R (a3 4 (I ls 1) (I ls 3)) fun pw=>
 R (aW true 4 0 pw) fun br=>
 aw (aK 4 br)<|
 R (kv n [D.agg [aa br 0,aa br 1,aa br 2,aa br 3],I ls 0]) fun bJ=>
 R (extP 0 bJ) fun bS=>
 R (extP 1 bJ) fun b7=>
 aw (aK 4 bS)<|
 R (binP false .neq b7 (J 0)) fun cE=>
 oif cE (
 aU (
 aU (
 some (D.aQ [D.val (.slice none 0 0),I ls 3,b7])
)
)
) (
 aw (aK 4 (D.agg [aa bS 0,aa bS 1,aa bS 2,aa bS 3]))<|
 aw (cY (((esD (I ls 4))).length+([[aa bS 0,aa bS 1,aa bS 2,aa bS 3]]).length) 56)<|
 R (binP false .add (I ls 3) (J 1)) fun dr=>
 some (.inl [I ls 0,I ls 1,I ls 2,dr,D.aC 4 ((esD (I ls 4))++[[aa bS 0,aa bS 1,aa bS 2,aa bS 3]])])
)
) (
 aU (
 some (.inl [D.aC 4 (esD (I ls 4))])
)
)
def Tw(n:Nat)(ab:D)(ah:D):Option D:=
 R (lenP ab) fun bO=>
 R (
 bm (Hc n) n [ah,ab,bO,J 0,D.aC 4 []]
)<|a7 fun ls=>
 some (D.aQ [D.aC 4 (esD (I ls 0)),J 0,J 0])
def nA(n:Nat):List D→Option D
 |[ab,ah]=>Tw n ab ah
 |_=>none
def Hd(n:Nat)(ls:List D):Option (List D⊕(List D⊕D)):=
 R (binP false .lss (I ls 3) (I ls 2)) fun bp=>
 oif bp (
 R (a3 5 (I ls 1) (I ls 3)) fun pw=>
 R (aW true 5 0 pw) fun br=>
 aw (aK 5 br)<|
 R (kv n [D.agg [aa br 1,aa br 2,aa br 3,aa br 4],I ls 0]) fun bS=>
 R (extP 0 bS) fun b7=>
 R (extP 1 bS) fun cq=>
 aw (aK 4 b7)<|
 R (binP false .neq cq (J 0)) fun ck=>
 oif ck (
 aU (
 aU (
 some (D.aQ [D.val (.slice none 0 0),I ls 3,cq])
)
)
) (
 aw (bA (aa br 0))<|
 aw (aK 4 (D.agg [aa b7 0,aa b7 1,aa b7 2,aa b7 3]))<|
 aw (aK 5 (D.agg [aa br 0,aa b7 0,aa b7 1,aa b7 2,aa b7 3]))<|
 aw (cY (((esD (I ls 4))).length+([[aa br 0,aa b7 0,aa b7 1,aa b7 2,aa b7 3]]).length) 72)<|
 R (binP false .add (I ls 3) (J 1)) fun df=>
 some (.inl [I ls 0,I ls 1,I ls 2,df,D.aC 5 ((esD (I ls 4))++[[aa br 0,aa b7 0,aa b7 1,aa b7 2,aa b7 3]])])
)
) (
 aU (
 some (.inl [D.aC 5 (esD (I ls 4))])
)
)
def Tx(n:Nat)(ab:D)(ah:D):Option D:=
 R (lenP ab) fun bO=>
 R (
 bm (Hd n) n [ah,ab,bO,J 0,D.aC 5 []]
)<|a7 fun ls=>
 some (D.aQ [D.aC 5 (esD (I ls 0)),J 0,J 0])
def wj(n:Nat):List D→Option D
 |[ab,ah]=>Tx n ab ah
 |_=>none
def y7(wk:List D→Option (List D))(n:Nat)(ls:List D):Option (List D⊕(List D⊕(List D))):=
 R (binP false .lss (I ls 2) (I ls 1)) fun fl=>
 oif fl (
 R (a3 6 (I ls 0) (I ls 2)) fun vZ=>
 R (aW true 6 0 vZ) fun dk=>
 aw (aK 6 dk)<|
 R (wk [D.agg [aa dk 0,aa dk 1,aa dk 2,aa dk 3,aa dk 4,aa dk 5],I ls 16]) fun ae=>
 R (extP 0 (I ae 0)) fun c1=>
 R (extP 1 (I ae 0)) fun dZ=>
 aw (aK 6 c1)<|
 R (binP false .neq dZ (J 0)) fun c2=>
 oif c2 (
 aU (
 aU (
 some [D.aQ [D.agg [J 0,J 0,J 0,aJ ⟨#[]⟩,D.val (.slice none 0 0),D.val (.slice none 0 0)],dZ],I ae 1]
)
)
) (
 aw (aK 6 (D.agg [aa c1 0,aa c1 1,aa c1 2,aa c1 3,aa c1 4,aa c1 5]))<|
 aw (cY (((esD (I ls 15))).length+([[aa c1 0,aa c1 1,aa c1 2,aa c1 3,aa c1 4,aa c1 5]]).length) 88)<|
 R (binP false .add (I ls 2) (J 1)) fun e3=>
 some (.inl [I ls 0,I ls 1,e3,I ls 3,I ls 4,I ls 5,I ls 6,I ls 7,I ls 8,I ls 9,I ls 10,I ls 11,I ls 12,I ls 13,I ls 14,D.aC 6 ((esD (I ls 15))++[[aa c1 0,aa c1 1,aa c1 2,aa c1 3,aa c1 4,aa c1 5]]),I ae 1])
)
) (
 aU (
 some (.inl [I ls 3,I ls 4,I ls 5,I ls 6,I ls 7,I ls 8,I ls 9,I ls 10,I ls 11,I ls 12,I ls 13,I ls 14,D.aC 6 (esD (I ls 15)),I ls 16])
)
)
def qL(wk:List D→Option (List D))(n:Nat)(ls:List D):Option (List D):=
 aw (aK 6 (I ls 0))<|
 R (binP false .eql (aa (I ls 0) 0) (J 1)) fun bg=>
 oif bg (
 R (kv n [D.agg [aa (I ls 0) 1,aa (I ls 0) 2,aa (I ls 0) 3,aa (I ls 0) 4],I ls 1]) fun v20=>
 R (extP 0 v20) fun bJ=>
 R (extP 1 v20) fun bS=>
 aw (aK 4 bJ)<|
 R (binP false .neq bS (J 0)) fun cq=>
 oif cq (
 some [D.aQ [D.agg [J 0,J 0,J 0,aJ ⟨#[]⟩,D.val (.slice none 0 0),D.val (.slice none 0 0)],bS],I ls 1]
) (
 aw (bA (aa (I ls 0) 0))<|
 aw (aK 4 (D.agg [aa bJ 0,aa bJ 1,aa bJ 2,aa bJ 3]))<|
 aw (aK 6 (D.agg [aa (I ls 0) 0,aa bJ 0,aa bJ 1,aa bJ 2,aa bJ 3,D.val (.slice none 0 0)]))<|
 some [D.aQ [D.agg [aa (I ls 0) 0,aa bJ 0,aa bJ 1,aa bJ 2,aa bJ 3,D.val (.slice none 0 0)],J 0],I ls 1]
)
) (
 R (lenP (aa (I ls 0) 5)) fun dD=>
 R (
 bm (y7 wk n) n [aa (I ls 0) 5,dD,J 0,aa (I ls 0) 0,aa (I ls 0) 1,aa (I ls 0) 2,aa (I ls 0) 3,aa (I ls 0) 4,aa (I ls 0) 5,J 0,J 0,J 0,aJ ⟨#[]⟩,D.val (.slice none 0 0),D.val (.slice none 0 0),D.aC 6 [],I ls 1]
)<|a7 fun ls=>
 aw (bA (I ls 0))<|
 aw (aK 6 (D.agg [I ls 0,J 0,J 0,aJ ⟨#[]⟩,D.val (.slice none 0 0),D.aC 6 (esD (I ls 12))]))<|
 some [D.aQ [D.agg [I ls 0,J 0,J 0,aJ ⟨#[]⟩,D.val (.slice none 0 0),D.aC 6 (esD (I ls 12))],J 0],I ls 13]
)
def nB:Nat→List D→Option (List D)
 |0,_=>none
 |n+1,ls=>qL (nB n) n ls
def L9(n:Nat)(ab:D)(ah:D):Option D:=
 aw (aK 6 ab)<|
 aw (bA ah)<|
 R (ny n [D.agg [aa ab 0,aa ab 1,aa ab 2,aa ab 3,aa ab 4,aa ab 5]]) fun bG=>
 R (binP false .neq bG (J 0)) fun v11=>
 oif v11 (
 some (D.aQ [D.agg [J 0,J 0,J 0,aJ ⟨#[]⟩,D.val (.slice none 0 0),D.val (.slice none 0 0)],bG])
) (
 R (nB n [D.agg [aa ab 0,aa ab 1,aa ab 2,aa ab 3,aa ab 4,aa ab 5],ah]) fun ad=>
 R (extP 0 (I ad 0)) fun bE=>
 R (extP 1 (I ad 0)) fun ca=>
 aw (aK 6 bE)<|
 some (D.aQ [D.agg [aa bE 0,aa bE 1,aa bE 2,aa bE 3,aa bE 4,aa bE 5],ca])
)
def r1(n:Nat):List D→Option D
 |[ab,ah]=>L9 n ab ah
 |_=>none
def He(n:Nat)(ls:List D):Option (List D⊕(List D⊕D)):=
 R (binP false .lss (I ls 3) (I ls 2)) fun bp=>
 oif bp (
 R (a3 7 (I ls 1) (I ls 3)) fun pw=>
 R (aW true 7 0 pw) fun br=>
 aw (aK 7 br)<|
 R (r1 n [D.agg [aa br 1,aa br 2,aa br 3,aa br 4,aa br 5,aa br 6],I ls 0]) fun bS=>
 R (extP 0 bS) fun b7=>
 R (extP 1 bS) fun cq=>
 aw (aK 6 b7)<|
 R (binP false .neq cq (J 0)) fun ck=>
 oif ck (
 aU (
 aU (
 some (D.aQ [D.val (.slice none 0 0),I ls 3,cq])
)
)
) (
 aw (bA (aa br 0))<|
 aw (aK 6 (D.agg [aa b7 0,aa b7 1,aa b7 2,aa b7 3,aa b7 4,aa b7 5]))<|
 aw (aK 7 (D.agg [aa br 0,aa b7 0,aa b7 1,aa b7 2,aa b7 3,aa b7 4,aa b7 5]))<|
 aw (cY (((esD (I ls 4))).length+([[aa br 0,aa b7 0,aa b7 1,aa b7 2,aa b7 3,aa b7 4,aa b7 5]]).length) 104)<|
 R (binP false .add (I ls 3) (J 1)) fun df=>
 some (.inl [I ls 0,I ls 1,I ls 2,df,D.aC 7 ((esD (I ls 4))++[[aa br 0,aa b7 0,aa b7 1,aa b7 2,aa b7 3,aa b7 4,aa b7 5]])])
)
) (
 aU (
 some (.inl [D.aC 7 (esD (I ls 4))])
)
)
def Tz(n:Nat)(ab:D)(ah:D):Option D:=
 R (lenP ab) fun bO=>
 R (
 bm (He n) n [ah,ab,bO,J 0,D.aC 7 []]
)<|a7 fun ls=>
 some (D.aQ [D.aC 7 (esD (I ls 0)),J 0,J 0])
def wm(n:Nat):List D→Option D
 |[ab,ah]=>Tz n ab ah
 |_=>none
def Ma(n:Nat)(ab:D):Option D:=
 aw (aK 8 ab)<|
 aw (bA (aa ab 0))<|
 R (nA n [aa ab 2,aa ab 1]) fun bR=>
 R (extP 0 bR) fun bp=>
 R (extP 1 bR) fun bg=>
 R (extP 2 bR) fun bx=>
 aw (bA bp)<|
 aw (bA bg)<|
 R (binP false .neq bx (J 0)) fun v20=>
 oif v20 (
 aw (bA bg)<|
 aw (aK 2 (D.agg [J 3,bg]))<|
 some (D.aQ [D.agg [D.val (.slice none 0 0),D.val (.slice none 0 0),D.val (.slice none 0 0),D.val (.slice none 0 0),D.val (.slice none 0 0),D.val (.slice none 0 0),D.val (.slice none 0 0),D.val (.slice none 0 0)],D.agg [J 3,bg],bx])
) (
 R (nA n [aa ab 3,aa ab 1]) fun dH=>
 R (extP 0 dH) fun dr=>
 R (extP 1 dH) fun dD=>
 R (extP 2 dH) fun ds=>
 aw (bA dr)<|
 aw (bA dD)<|
 R (binP false .neq ds (J 0)) fun dg=>
 oif dg (
 aw (bA dD)<|
 aw (aK 2 (D.agg [J 4,dD]))<|
 some (D.aQ [D.agg [D.val (.slice none 0 0),D.val (.slice none 0 0),D.val (.slice none 0 0),D.val (.slice none 0 0),D.val (.slice none 0 0),D.val (.slice none 0 0),D.val (.slice none 0 0),D.val (.slice none 0 0)],D.agg [J 4,dD],ds])
) (
 R (wj n [aa ab 4,aa ab 1]) fun eA=>
 R (extP 0 eA) fun cX=>
 R (extP 1 eA) fun fy=>
 R (extP 2 eA) fun e3=>
 aw (bA cX)<|
 aw (bA fy)<|
 R (binP false .neq e3 (J 0)) fun eX=>
 oif eX (
 aw (bA fy)<|
 aw (aK 2 (D.agg [J 5,fy]))<|
 some (D.aQ [D.agg [D.val (.slice none 0 0),D.val (.slice none 0 0),D.val (.slice none 0 0),D.val (.slice none 0 0),D.val (.slice none 0 0),D.val (.slice none 0 0),D.val (.slice none 0 0),D.val (.slice none 0 0)],D.agg [J 5,fy],e3])
) (
 R (nA n [aa ab 5,aa ab 1]) fun fP=>
 R (extP 0 fP) fun fI=>
 R (extP 1 fP) fun ep=>
 R (extP 2 fP) fun iN=>
 aw (bA fI)<|
 aw (bA ep)<|
 R (binP false .neq iN (J 0)) fun gF=>
 oif gF (
 aw (bA ep)<|
 aw (aK 2 (D.agg [J 6,ep]))<|
 some (D.aQ [D.agg [D.val (.slice none 0 0),D.val (.slice none 0 0),D.val (.slice none 0 0),D.val (.slice none 0 0),D.val (.slice none 0 0),D.val (.slice none 0 0),D.val (.slice none 0 0),D.val (.slice none 0 0)],D.agg [J 6,ep],iN])
) (
 R (nA n [aa ab 6,aa ab 1]) fun hk=>
 R (extP 0 hk) fun jH=>
 R (extP 1 hk) fun px=>
 R (extP 2 hk) fun rW=>
 aw (bA jH)<|
 aw (bA px)<|
 R (binP false .neq rW (J 0)) fun tD=>
 oif tD (
 aw (bA px)<|
 aw (aK 2 (D.agg [J 7,px]))<|
 some (D.aQ [D.agg [D.val (.slice none 0 0),D.val (.slice none 0 0),D.val (.slice none 0 0),D.val (.slice none 0 0),D.val (.slice none 0 0),D.val (.slice none 0 0),D.val (.slice none 0 0),D.val (.slice none 0 0)],D.agg [J 7,px],rW])
) (
 R (wm n [aa ab 7,aa ab 1]) fun py=>
 R (extP 0 py) fun pr=>
 R (extP 1 py) fun lZ=>
 R (extP 2 py) fun r2=>
 aw (bA pr)<|
 aw (bA lZ)<|
 R (binP false .neq r2 (J 0)) fun wo=>
 oif wo (
 aw (bA lZ)<|
 aw (aK 2 (D.agg [J 8,lZ]))<|
 some (D.aQ [D.agg [D.val (.slice none 0 0),D.val (.slice none 0 0),D.val (.slice none 0 0),D.val (.slice none 0 0),D.val (.slice none 0 0),D.val (.slice none 0 0),D.val (.slice none 0 0),D.val (.slice none 0 0)],D.agg [J 8,lZ],r2])
) (
 aw (aK 8 (D.agg [aa ab 0,D.val (.slice none 0 0),bp,dr,cX,fI,jH,pr]))<|
 some (D.aQ [D.agg [aa ab 0,D.val (.slice none 0 0),bp,dr,cX,fI,jH,pr],D.agg [J 0,J 0],J 0])
)
)
)
)
)
)
def CV(n:Nat):List D→Option D
 |[ab]=>Ma n ab
 |_=>none
def Mb(n:Nat)(ab:D):Option D:=
 aw (aK 8 ab)<|
 R (oi n [D.agg [aa ab 0,aa ab 1,aa ab 2,aa ab 3,aa ab 4,aa ab 5,aa ab 6,aa ab 7]]) fun v11=>
 R (extP 0 v11) fun bO=>
 R (extP 1 v11) fun bR=>
 aw (aK 2 bO)<|
 R (binP false .neq bR (J 0)) fun bg=>
 oif bg (
 some (D.aQ [D.agg [D.val (.slice none 0 0),D.val (.slice none 0 0),D.val (.slice none 0 0),D.val (.slice none 0 0),D.val (.slice none 0 0),D.val (.slice none 0 0),D.val (.slice none 0 0),D.val (.slice none 0 0),D.val (.slice none 0 0)],ar false])
) (
 R (CV n [D.agg [aa ab 0,aa ab 1,aa ab 2,aa ab 3,aa ab 4,aa ab 5,aa ab 6,aa ab 7]]) fun ca=>
 R (extP 0 ca) fun v20=>
 R (extP 1 ca) fun bJ=>
 R (extP 2 ca) fun bS=>
 aw (aK 8 v20)<|
 aw (aK 2 bJ)<|
 aw (aK 8 (D.agg [aa v20 0,aa v20 1,aa v20 2,aa v20 3,aa v20 4,aa v20 5,aa v20 6,aa v20 7]))<|
 aw (bA (aa ab 1))<|
 R (binP false .eql bS (J 0)) fun cu=>
 aw (aK 9 (D.agg [aa v20 0,aa v20 1,aa v20 2,aa v20 3,aa v20 4,aa v20 5,aa v20 6,aa v20 7,aa ab 1]))<|
 some (D.aQ [D.agg [aa v20 0,aa v20 1,aa v20 2,aa v20 3,aa v20 4,aa v20 5,aa v20 6,aa v20 7,aa ab 1],cu])
)
def j1(n:Nat):List D→Option D
 |[ab]=>Mb n ab
 |_=>none
def y8(n:Nat)(ls:List D):Option (List D⊕(List D⊕D)):=
 R (binP false .lss (I ls 3) (I ls 2)) fun ca=>
 oif ca (
 R (a3 4 (I ls 1) (I ls 3)) fun r3=>
 R (aW true 4 0 r3) fun bS=>
 aw (aK 4 bS)<|
 R (
 oif (aa bS 1) (
 some (.inl [I ls 0,I ls 3,J 0,J 1,I ls 1,I ls 2,I ls 3])
) (
 some (.inl [I ls 0,I ls 3,aa bS 2,aa bS 3,I ls 1,I ls 2,I ls 3])
)
)<|a7 fun ls=>
 R (a3 1 (I ls 0) (I ls 1)) fun r4=>
 R (aW false 1 0 r4) fun dr=>
 R (binP false .lss dr (I ls 2)) fun ds=>
 R (gD ds false (
 R (a3 1 (I ls 0) (I ls 1)) fun CW=>
 R (aW false 1 0 CW) fun eG=>
 R (binP false .gtr eG (I ls 3)) fun e2=>
 some e2
)) fun e2=>
 R (pickP ds (ar true) e2) fun c1=>
 oif c1 (
 aU (
 aU (
 some (ar false)
)
)
) (
 R (binP false .add (I ls 6) (J 1)) fun dZ=>
 some (.inl [I ls 0,I ls 4,I ls 5,dZ])
)
) (
 aU (
 some (.inl [])
)
)
def TA(n:Nat)(ab:D)(ah:D):Option D:=
 aw (aK 8 ab)<|
 R (lenP ah) fun v10=>
 R (lenP (aa ab 0)) fun bR=>
 R (binP false .neq v10 bR) fun bp=>
 oif bp (
 some (ar false)
) (
 R (lenP (aa ab 0)) fun br=>
 R (
 bm (y8 n) n [ah,aa ab 0,br,J 0]
)<|a7 fun ls=>
 some (ar true)
)
def y9(n:Nat):List D→Option D
 |[ab,ah]=>TA n ab ah
 |_=>none
def TB(n:Nat)(ab:D):Option D:=
 oif ab (
 some (D.aQ [J 1,ar true])
) (
 some (D.aQ [J 0,ar true])
)
def nC(n:Nat):List D→Option D
 |[ab]=>TB n ab
 |_=>none
def TC(n:Nat)(ab:D)(ah:D):Option D:=
 R (unP .not ah) fun bN=>
 R (gD bN false (
 R (binP false .lss ab (J (-9007199254740992))) fun v10=>
 some v10
)) fun v10=>
 R (pickP bN (ar true) v10) fun v11=>
 R (gD v11 false (
 R (binP false .gtr ab (J 9007199254740992)) fun bp=>
 some bp
)) fun bp=>
 R (pickP v11 (ar true) bp) fun bg=>
 oif bg (
 some (D.aQ [J 0,ar false])
) (
 some (D.aQ [ab,ar true])
)
def CX(n:Nat):List D→Option D
 |[ab,ah]=>TC n ab ah
 |_=>none
def Hf(n:Nat)(ab:D)(ah:D):Option D:=
 R (binP false .add ab ah) fun cg=>
 R (binP false .lss ab (J 0)) fun v11=>
 R (binP false .lss ah (J 0)) fun bR=>
 R (binP true .neq v11 bR) fun bp=>
 R (gD bp false (
 R (binP false .lss ab (J 0)) fun br=>
 R (binP false .lss cg (J 0)) fun ca=>
 R (binP true .eql br ca) fun v20=>
 some v20
)) fun v20=>
 R (pickP bp (ar true) v20) fun bJ=>
 R (CX n [cg,bJ]) fun bS=>
 R (extP 0 bS) fun b7=>
 R (extP 1 bS) fun cq=>
 some (D.aQ [b7,cq])
def qM(n:Nat):List D→Option D
 |[ab,ah]=>Hf n ab ah
 |_=>none
def Mc(n:Nat)(ab:D):Option D:=
 R (binP false .lss ab (J 0)) fun v4=>
 oif v4 (
 R (cvP .u64 ab) fun v6=>
 R (unP .neg v6) fun bN=>
 some bN
) (
 R (cvP .u64 ab) fun bG=>
 some bG
)
def wq(n:Nat):List D→Option D
 |[ab]=>Mc n ab
 |_=>none
def Md(n:Nat)(ab:D)(ah:D):Option D:=
 R (binP false .and ab (D.val (.int .u64 4294967295))) fun bg=>
 R (binP false .shr ab (D.val (.int .u64 32))) fun br=>
 R (binP false .and ah (D.val (.int .u64 4294967295))) fun ca=>
 R (binP false .shr ah (D.val (.int .u64 32))) fun bJ=>
 R (binP false .mul bg ca) fun cq=>
 R (binP false .mul br ca) fun cJ=>
 R (binP false .shr cq (D.val (.int .u64 32))) fun cD=>
 R (binP false .add cJ cD) fun v30=>
 R (binP false .and v30 (D.val (.int .u64 4294967295))) fun dr=>
 R (binP false .shr v30 (D.val (.int .u64 32))) fun ds=>
 R (binP false .mul bg bJ) fun dg=>
 R (binP false .add dr dg) fun eG=>
 R (binP false .mul br bJ) fun c1=>
 R (binP false .add c1 ds) fun dP=>
 R (binP false .shr eG (D.val (.int .u64 32))) fun gj=>
 R (binP false .add dP gj) fun iO=>
 R (binP false .mul ab ah) fun cX=>
 some (D.aQ [iO,cX])
def Hg(n:Nat):List D→Option D
 |[ab,ah]=>Md n ab ah
 |_=>none
def CY(n:Nat)(ab:D)(ah:D):Option D:=
 R (wq n [ab]) fun v10=>
 R (wq n [ah]) fun bO=>
 R (Hg n [v10,bO]) fun bR=>
 R (extP 0 bR) fun bp=>
 R (extP 1 bR) fun bg=>
 R (binP false .neq bp (D.val (.int .u64 0))) fun br=>
 R (gD br false (
 R (binP false .gtr bg (D.val (.int .u64 9007199254740992))) fun v20=>
 some v20
)) fun v20=>
 R (pickP br (ar true) v20) fun bJ=>
 oif bJ (
 some (D.aQ [J 0,ar false])
) (
 R (binP false .lss ab (J 0)) fun b7=>
 R (binP false .lss ah (J 0)) fun cE=>
 R (binP true .neq b7 cE) fun ck=>
 oif ck (
 R (cvP .i64 bg) fun cu=>
 R (unP .neg cu) fun cD=>
 some (D.aQ [cD,ar true])
) (
 R (cvP .i64 bg) fun dH=>
 some (D.aQ [dH,ar true])
)
)
def tE(n:Nat):List D→Option D
 |[ab,ah]=>CY n ab ah
 |_=>none
def CZ(n:Nat)(ls:List D):Option (List D⊕(List D⊕D)):=
 R (binP false .lss (I ls 4) (I ls 3)) fun Me=>
 oif Me (
 R (a3 1 (I ls 2) (I ls 4)) fun afl=>
 R (aW false 1 0 afl) fun afm=>
 R (binP false .add (I ls 1) afm) fun za=>
 R (binP false .add (I ls 4) (J 1)) fun tF=>
 some (.inl [I ls 0,za,I ls 2,I ls 3,tF,I ls 5,I ls 6,I ls 7,I ls 8])
) (
 aU (
 some (.inl [I ls 0,I ls 1,I ls 5,I ls 6,I ls 7,I ls 8])
)
)
def jI(n:Nat)(ab:D)(ah:D):Option D:=
 aw (aK 4 ab)<|
 R (binP false .eql (aa ab 0) (J 5)) fun bO=>
 oif bO (
 R (a3 1 ah (J 0)) fun eK=>
 R (aW false 1 0 eK) fun bg=>
 R (binP false .eql bg (J 0)) fun bx=>
 R (nC n [bx]) fun br=>
 R (extP 0 br) fun bE=>
 R (extP 1 br) fun ca=>
 some (D.aQ [bE,ca])
) (
 R (binP false .eql (aa ab 0) (J 8)) fun bJ=>
 oif bJ (
 R (a3 1 ah (J 0)) fun BJ=>
 R (aW false 1 0 BJ) fun cq=>
 R (binP false .eql cq (J 0)) fun cE=>
 R (gD cE false (
 R (a3 1 ah (J 1)) fun rP=>
 R (aW false 1 0 rP) fun cD=>
 R (binP false .neq cD (J 0)) fun v30=>
 some v30
)) fun v30=>
 R (pickP cE (ar true) v30) fun dH=>
 R (nC n [dH]) fun dr=>
 R (extP 0 dr) fun dD=>
 R (extP 1 dr) fun ds=>
 some (D.aQ [dD,ds])
) (
 R (binP false .eql (aa ab 0) (J 9)) fun df=>
 R (
 oif df (
 some (.inl [ah,aa ab 0,df,aa ab 0,aa ab 1,aa ab 2,aa ab 3])
) (
 R (binP false .eql (aa ab 0) (J 10)) fun dk=>
 some (.inl [ah,aa ab 0,dk,aa ab 0,aa ab 1,aa ab 2,aa ab 3])
)
)<|a7 fun ls=>
 oif (I ls 2) (
 R (a3 1 (I ls 0) (J 0)) fun nz=>
 R (aW false 1 0 nz) fun dt=>
 R (a3 1 (I ls 0) (J 1)) fun Mf=>
 R (aW false 1 0 Mf) fun dZ=>
 R (binP false .eql dt dZ) fun dP=>
 R (nC n [dP]) fun c2=>
 R (extP 0 c2) fun gj=>
 R (extP 1 c2) fun iO=>
 some (D.aQ [gj,iO])
) (
 R (binP false .eql (I ls 1) (J 11)) fun eA=>
 oif eA (
 R (a3 1 (I ls 0) (J 0)) fun C0=>
 R (aW false 1 0 C0) fun e3=>
 R (a3 1 (I ls 0) (J 1)) fun Mg=>
 R (aW false 1 0 Mg) fun fa=>
 R (binP false .neq e3 fa) fun eX=>
 R (nC n [eX]) fun gU=>
 R (extP 0 gU) fun eo=>
 R (extP 1 gU) fun jG=>
 some (D.aQ [eo,jG])
) (
 R (binP false .eql (I ls 1) (J 12)) fun gr=>
 oif gr (
 R (a3 1 (I ls 0) (J 0)) fun Ct=>
 R (aW false 1 0 Ct) fun g6=>
 R (a3 1 (I ls 0) (J 1)) fun Mh=>
 R (aW false 1 0 Mh) fun fP=>
 R (binP false .lss g6 fP) fun fI=>
 R (nC n [fI]) fun ep=>
 R (extP 0 ep) fun iN=>
 R (extP 1 ep) fun oc=>
 some (D.aQ [iN,oc])
) (
 R (binP false .eql (I ls 1) (J 13)) fun gv=>
 oif gv (
 R (a3 1 (I ls 0) (J 0)) fun Mi=>
 R (aW false 1 0 Mi) fun hj=>
 R (a3 1 (I ls 0) (J 1)) fun afn=>
 R (aW false 1 0 afn) fun nD=>
 R (binP false .leq hj nD) fun lA=>
 R (nC n [lA]) fun iP=>
 R (extP 0 iP) fun kW=>
 R (extP 1 iP) fun j0=>
 some (D.aQ [kW,j0])
) (
 R (binP false .eql (I ls 1) (J 14)) fun hk=>
 oif hk (
 R (a3 1 (I ls 0) (J 0)) fun Mj=>
 R (aW false 1 0 Mj) fun rW=>
 R (a3 1 (I ls 0) (J 1)) fun afo=>
 R (aW false 1 0 afo) fun wu=>
 R (qM n [rW,wu]) fun tD=>
 R (extP 0 tD) fun lY=>
 R (extP 1 tD) fun ir=>
 some (D.aQ [lY,ir])
) (
 R (binP false .eql (I ls 1) (J 15)) fun lB=>
 oif lB (
 R (a3 1 (I ls 0) (J 0)) fun Mk=>
 R (aW false 1 0 Mk) fun wv=>
 R (a3 1 (I ls 0) (J 1)) fun afp=>
 R (aW false 1 0 afp) fun C1=>
 R (unP .neg C1) fun py=>
 R (qM n [wv,py]) fun pr=>
 R (extP 0 pr) fun lZ=>
 R (extP 1 pr) fun r2=>
 some (D.aQ [lZ,r2])
) (
 R (binP false .eql (I ls 1) (J 16)) fun im=>
 oif im (
 R (a3 1 (I ls 0) (J 0)) fun LZ=>
 R (aW false 1 0 LZ) fun wx=>
 R (a3 1 (I ls 0) (J 1)) fun Ml=>
 R (aW false 1 0 Ml) fun kx=>
 R (tE n [wx,kx]) fun tG=>
 R (extP 0 tG) fun wy=>
 R (extP 1 tG) fun mS=>
 some (D.aQ [wy,mS])
) (
 R (binP false .eql (I ls 1) (J 17)) fun C2=>
 oif C2 (
 R (a3 1 (I ls 0) (J 0)) fun afq=>
 R (aW false 1 0 afq) fun od=>
 R (a3 1 (I ls 0) (J 1)) fun afr=>
 R (aW false 1 0 afr) fun vT=>
 R (binP false .rem od vT) fun zb=>
 R (a3 1 (I ls 0) (J 1)) fun afs=>
 R (aW false 1 0 afs) fun LC=>
 R (binP false .add zb LC) fun vy=>
 R (a3 1 (I ls 0) (J 1)) fun aft=>
 R (aW false 1 0 aft) fun vA=>
 R (binP false .rem vy vA) fun Mm=>
 some (D.aQ [Mm,ar true])
) (
 R (binP false .eql (I ls 1) (J 18)) fun L0=>
 oif L0 (
 R (a3 1 (I ls 0) (J 0)) fun afu=>
 R (aW false 1 0 afu) fun afv=>
 R (binP false .neq afv (J 0)) fun zc=>
 oif zc (
 R (a3 1 (I ls 0) (J 1)) fun afw=>
 R (aW false 1 0 afw) fun rX=>
 some (D.aQ [rX,ar true])
) (
 R (a3 1 (I ls 0) (J 2)) fun afx=>
 R (aW false 1 0 afx) fun afy=>
 some (D.aQ [afy,ar true])
)
) (
 R (lenP (I ls 0)) fun Cw=>
 R (
 bm (CZ n) n [I ls 0,J 0,I ls 0,Cw,J 0,I ls 3,I ls 4,I ls 5,I ls 6]
)<|a7 fun ls=>
 R (lenP (I ls 0)) fun afz=>
 R (binP false .eql (I ls 1) afz) fun qH=>
 R (gD qH false (
 R (binP false .eql (I ls 2) (J 7)) fun C3=>
 some C3
)) fun vV=>
 R (gD vV true (
 R (binP false .gtr (I ls 1) (J 0)) fun C4=>
 some C4
)) fun C4=>
 R (gD qH false (
 R (pickP vV C4 (ar false)) fun Mn=>
 some Mn
)) fun Mn=>
 R (pickP qH (ar true) Mn) fun Cx=>
 R (nC n [Cx]) fun wz=>
 R (extP 0 wz) fun afA=>
 R (extP 1 wz) fun afB=>
 some (D.aQ [afA,afB])
)
)
)
)
)
)
)
)
)
)
)
def iv(n:Nat):List D→Option D
 |[ab,ah]=>jI n ab ah
 |_=>none
def C5(wA:List D→Option (List D))(n:Nat)(ls:List D):Option (List D⊕(List D⊕(List D))):=
 R (binP false .lss (I ls 2) (I ls 1)) fun v20=>
 oif v20 (
 R (a3 4 (I ls 0) (I ls 2)) fun r3=>
 R (aW true 4 0 r3) fun bS=>
 aw (aK 4 bS)<|
 R (wA [D.agg [aa bS 0,aa bS 1,aa bS 2,aa bS 3],I ls 3,I ls 4,I ls 5,I ls 6]) fun ae=>
 R (extP 0 (I ae 0)) fun cJ=>
 R (extP 1 (I ae 0)) fun cu=>
 R (unP .not cu) fun v30=>
 oif v30 (
 aU (
 aU (
 some [D.aQ [J 0,ar false],I ae 1,I ae 2,I ae 3,I ae 4]
)
)
) (
 aw (bA cJ)<|
 aw (cY (((esD (I ls 11))).length+([[cJ]]).length) 8)<|
 R (binP false .add (I ls 2) (J 1)) fun fl=>
 some (.inl [I ls 0,I ls 1,fl,I ae 1,I ae 2,I ae 3,I ae 4,I ls 7,I ls 8,I ls 9,I ls 10,D.aC 1 ((esD (I ls 11))++[[cJ]])])
)
) (
 aU (
 some (.inl [I ls 3,I ls 4,I ls 5,I ls 6,I ls 7,I ls 8,I ls 9,I ls 10,D.aC 1 (esD (I ls 11))])
)
)
def r5(wA:List D→Option (List D))(n:Nat)(ls:List D):Option (List D):=
 aw (aK 4 (I ls 0))<|
 R (lenP (aa (I ls 0) 3)) fun bE=>
 R (
 bm (C5 wA n) n [aa (I ls 0) 3,bE,J 0,I ls 1,I ls 2,I ls 3,I ls 4,aa (I ls 0) 0,aa (I ls 0) 1,aa (I ls 0) 2,aa (I ls 0) 3,D.aC 1 []]
)<|a7 fun ls=>
 R (binP false .eql (I ls 4) (J 1)) fun dP=>
 R (
 oif dP (
 some (.inl [I ls 4,dP,I ls 0,I ls 1,I ls 2,I ls 3,I ls 4,I ls 5,I ls 6,I ls 7,D.aC 1 (esD (I ls 8))])
) (
 R (binP false .eql (I ls 4) (J 2)) fun c2=>
 some (.inl [I ls 4,c2,I ls 0,I ls 1,I ls 2,I ls 3,I ls 4,I ls 5,I ls 6,I ls 7,D.aC 1 (esD (I ls 8))])
)
)<|a7 fun ls=>
 oif (I ls 1) (
 some [D.aQ [I ls 7,ar true],I ls 2,I ls 3,I ls 4,I ls 5]
) (
 R (binP false .eql (I ls 0) (J 3)) fun eA=>
 R (
 oif eA (
 some (.inl [eA,I ls 2,I ls 3,I ls 4,I ls 5,I ls 6,I ls 7,I ls 8,I ls 9,D.aC 1 (esD (I ls 10))])
) (
 R (binP false .eql (I ls 0) (J 4)) fun cX=>
 some (.inl [cX,I ls 2,I ls 3,I ls 4,I ls 5,I ls 6,I ls 7,I ls 8,I ls 9,D.aC 1 (esD (I ls 10))])
)
)<|a7 fun ls=>
 oif (I ls 0) (
 R (kN (I ls 2)) fun afC=>
 R (lookP (.string) (.int .i64 0) false afC (I ls 7)) fun fa=>
 R (binP false .eql (I ls 5) (J 4)) fun eo=>
 R (
 oif eo (
 some (.inl [I ls 3,fa,I ls 4,I ls 1,I ls 2,I ls 3])
) (
 some (.inl [I ls 1,fa,I ls 4,I ls 1,I ls 2,I ls 3])
)
)<|a7 fun ls=>
 R (lenP (I ls 0)) fun gr=>
 R (lenP (I ls 2)) fun kV=>
 R (binP false .neq gr kV) fun g6=>
 oif g6 (
 some [D.aQ [J 0,ar false],I ls 3,I ls 4,I ls 5,I ls 2]
) (
 R (a3 4 (I ls 2) (I ls 1)) fun afD=>
 R (aW false 1 1 afD) fun ep=>
 oif ep (
 R (a3 1 (I ls 0) (I ls 1)) fun LA=>
 R (aW false 1 0 LA) fun gv=>
 R (binP false .neq gv (J 0)) fun gF=>
 R (nC n [gF]) fun mT=>
 R (extP 0 mT) fun hj=>
 R (extP 1 mT) fun gO=>
 some [D.aQ [hj,gO],I ls 3,I ls 4,I ls 5,I ls 2]
) (
 R (a3 1 (I ls 0) (I ls 1)) fun Mo=>
 R (aW false 1 0 Mo) fun iP=>
 R (qM n [iP,J 0]) fun kW=>
 R (extP 0 kW) fun j0=>
 R (extP 1 kW) fun g7=>
 some [D.aQ [j0,g7],I ls 3,I ls 4,I ls 5,I ls 2]
)
)
) (
 R (iv n [D.agg [I ls 5,I ls 6,I ls 7,I ls 8],D.aC 1 (esD (I ls 9))]) fun dt=>
 aw dt.flat<|
 R (extP 0 dt) fun e2=>
 R (extP 1 dt) fun c1=>
 some [D.aQ [e2,c1],I ls 1,I ls 2,I ls 3,I ls 4]
)
)
def r6:Nat→List D→Option (List D)
 |0,_=>none
 |n+1,ls=>r5 (r6 n) n ls
def Hh(n:Nat)(ab:D)(ah:D)(aT:D)(bP:D):Option D:=
 aw (bA ab)<|
 aw (aK 4 ah)<|
 aw (bA aT)<|
 aw (bA bP)<|
 R (qI n [ab,D.agg [aa ah 0,aa ah 1,aa ah 2,aa ah 3],ar true]) fun br=>
 R (extP 0 br) fun bE=>
 R (extP 1 br) fun ca=>
 aw (aK 3 bE)<|
 R (binP false .neq ca (J 0)) fun bJ=>
 R (gD bJ false (
 R (lenP aT) fun cq=>
 R (lenP ab) fun ck=>
 R (binP false .neq cq ck) fun cJ=>
 some cJ
)) fun cJ=>
 R (pickP bJ (ar true) cJ) fun cu=>
 oif cu (
 some (D.aQ [J 0,ar false])
) (
 R (vR n [ab]) fun v30=>
 aw (bA v30)<|
 R (r6 n [D.agg [aa ah 0,aa ah 1,aa ah 2,aa ah 3],aT,v30,bP,ab]) fun ad=>
 R (extP 0 (I ad 0)) fun fl=>
 R (extP 1 (I ad 0)) fun df=>
 some (D.aQ [fl,df])
)
def pz(n:Nat):List D→Option D
 |[ab,ah,aT,bP]=>Hh n ab ah aT bP
 |_=>none
def TD(n:Nat)(ab:D)(ah:D)(aT:D)(bP:D):Option D:=
 aw (aK 9 ab)<|
 aw (aK 4 ah)<|
 R (pz n [aa ab 0,D.agg [aa ah 0,aa ah 1,aa ah 2,aa ah 3],aT,bP]) fun bE=>
 R (extP 0 bE) fun ca=>
 R (extP 1 bE) fun v20=>
 R (gD v20 true (
 R (binP false .neq ca (J 0)) fun cq=>
 some cq
)) fun cq=>
 R (pickP v20 cq (ar false)) fun cE=>
 some cE
def pA(n:Nat):List D→Option D
 |[ab,ah,aT,bP]=>TD n ab ah aT bP
 |_=>none
def Hi(n:Nat)(ab:D)(x1:List D)(h6:List D)(tH:List D):Option D:=
 aw (aK 4 ab)<|
 R (aW true 9 0 x1) fun v6=>
 R (aW false 1 0 h6) fun cg=>
 R (aW false 1 0 tH) fun bG=>
 R (pA n [v6,D.agg [aa ab 0,aa ab 1,aa ab 2,aa ab 3],cg,bG]) fun v10=>
 R (unP .not v10) fun v11=>
 some v11
def C6(n:Nat):List D→Option D
 |[ab,ah,aT,bP]=>(match ah with| .ref x1 0=>(match aT with| .ref h6 0=>(match bP with| .ref tH 0=>Hi n ab x1 h6 tH|_=>none)|_=>none)|_=>none)
 |_=>none
def C7(n:Nat)(ls:List D):Option (List D⊕(List D⊕D)):=
 R (binP false .lss (I ls 5) (I ls 4)) fun bG=>
 oif bG (
 R (a3 4 (I ls 0) (I ls 5)) fun eK=>
 R (aW true 4 0 eK) fun bg=>
 R (C6 n [bg,I ls 1,I ls 2,I ls 3]) fun bx=>
 oif bx (
 aU (
 aU (
 some (I ls 5)
)
)
) (
 R (binP false .add (I ls 5) (J 1)) fun bE=>
 some (.inl [I ls 0,I ls 1,I ls 2,I ls 3,I ls 4,bE])
)
) (
 aU (
 some (.inl [])
)
)
def C8(n:Nat)(ab:D)(b4:D)(nE:D)(nF:D):Option D:=
 R (lenP ab) fun bN=>
 R (
 bm (C7 n) n [ab,b4,nE,nF,bN,J 0]
)<|a7 fun ls=>
 some (J (-1))
def wB(n:Nat):List D→Option D
 |[ab,ah]=>(match fnOf pb ah with|some [b4,nE,nF]=>C8 n ab b4 nE nF|_=>none)
 |_=>none
def Hj(n:Nat)(ab:D)(b4:D)(nE:D)(nF:D):Option D:=
 R (wB n [ab,(D.fn (.func pb) [] [b4,nE,nF])]) fun bN=>
 R (binP false .geq bN (J 0)) fun cg=>
 some cg
def wC(n:Nat):List D→Option D
 |[ab,ah]=>(match fnOf pb ah with|some [b4,nE,nF]=>Hj n ab b4 nE nF|_=>none)
 |_=>none
def TE(n:Nat)(ab:D)(ah:D)(aT:D)(bP:D):Option D:=
 aw (aK 9 ab)<|
 aw (bA aT)<|
 aw (bA bP)<|
 R (wC n [ah,(D.fn (.func pb) [] [D.ref [aa ab 0,aa ab 1,aa ab 2,aa ab 3,aa ab 4,aa ab 5,aa ab 6,aa ab 7,aa ab 8] 0,D.ref [aT] 0,D.ref [bP] 0])]) fun v11=>
 aw v11.flat<|
 R (unP .not v11) fun bO=>
 some bO
def r7(n:Nat):List D→Option D
 |[ab,ah,aT,bP]=>TE n ab ah aT bP
 |_=>none
def Mp(n:Nat)(ab:D)(ah:D):Option D:=
 aw (aK 9 ab)<|
 R (y9 n [D.agg [aa ab 0,aa ab 1,aa ab 2,aa ab 3,aa ab 4,aa ab 5,aa ab 6,aa ab 7],ah]) fun cg=>
 R (gD cg true (
 R (r7 n [D.agg [aa ab 0,aa ab 1,aa ab 2,aa ab 3,aa ab 4,aa ab 5,aa ab 6,aa ab 7,aa ab 8],aa ab 3,ah,D.val (.slice none 0 0)]) fun bg=>
 some bg
)) fun bg=>
 R (pickP cg bg (ar false)) fun bx=>
 some bx
def j2(n:Nat):List D→Option D
 |[ab,ah]=>Mp n ab ah
 |_=>none
def afE(n:Nat)(ls:List D):Option (List D⊕(List D⊕D)):=
 R (binP false .lss (I ls 2) (J 4)) fun bR=>
 oif bR (
 R (cG 4 (I ls 2)) fun LM=>
 R (jR true 2 (LM*2) (I ls 1)) fun bp=>
 aw (aK 2 bp)<|
 R (binP false .eql (I ls 0) (aa bp 0)) fun ca=>
 oif ca (
 aU (
 aU (
 some (aa bp 1)
)
)
) (
 R (binP false .eql (I ls 0) (aa bp 1)) fun cE=>
 oif cE (
 aU (
 aU (
 some (aa bp 0)
)
)
) (
 R (binP false .add (I ls 2) (J 1)) fun cu=>
 some (.inl [I ls 0,I ls 1,cu])
)
)
) (
 aU (
 some (.inl [I ls 0])
)
)
def afF(n:Nat)(ab:D):Option D:=
 R (
 bm (afE n) n [ab,D.agg [J 3,J 4,J 6,J 10,J 7,J 12,J 8,J 11],J 0]
)<|a7 fun ls=>
 some (I ls 0)
def Mq(n:Nat):List D→Option D
 |[ab]=>afF n ab
 |_=>none
def afG(l0:List D→Option D)(nG:List D→Option D)(n:Nat)(ls:List D):Option (List D⊕(List D⊕D)):=
 R (binP false .lss (I ls 3) (I ls 2)) fun bg=>
 oif bg (
 R (a3 6 (I ls 1) (I ls 3)) fun C9=>
 R (aW true 6 0 C9) fun bE=>
 aw (aK 6 bE)<|
 R (a3 1 (I ls 0) (I ls 3)) fun Da=>
 R (aW false 1 0 Da) fun cE=>
 R (nG [D.agg [aa bE 0,aa bE 1,aa bE 2,aa bE 3,aa bE 4,aa bE 5],cE]) fun ck=>
 aw (aK 6 ck)<|
 aw (cY (((esD (I ls 15))).length+([[aa ck 0,aa ck 1,aa ck 2,aa ck 3,aa ck 4,aa ck 5]]).length) 88)<|
 R (binP false .add (I ls 3) (J 1)) fun v30=>
 some (.inl [I ls 0,I ls 1,I ls 2,v30,I ls 4,I ls 5,I ls 6,I ls 7,I ls 8,I ls 9,I ls 10,I ls 11,I ls 12,I ls 13,I ls 14,D.aC 6 ((esD (I ls 15))++[[aa ck 0,aa ck 1,aa ck 2,aa ck 3,aa ck 4,aa ck 5]])])
) (
 aU (
 some (.inl [I ls 4,I ls 5,I ls 6,I ls 7,I ls 8,I ls 9,I ls 10,I ls 11,I ls 12,I ls 13,I ls 14,D.aC 6 (esD (I ls 15))])
)
)
def TF(l0:List D→Option D)(nG:List D→Option D)(n:Nat)(ab:D)(ah:D)(h6:List D):Option D:=
 aw (bA ab)<|
 aw (aK 6 (D.agg [ab,J 0,J 0,aJ ⟨#[]⟩,D.val (.slice none 0 0),D.val (.slice none 0 0)]))<|
 R (aW false 1 5 h6) fun bO=>
 R (lenP bO) fun bR=>
 R (
 bm (afG l0 nG n) n [ah,bO,bR,J 0,J 0,J 0,J 0,aJ ⟨#[]⟩,D.val (.slice none 0 0),D.val (.slice none 0 0),ab,J 0,J 0,aJ ⟨#[]⟩,D.val (.slice none 0 0),D.aC 6 []]
)<|a7 fun ls=>
 aw (aK 6 (D.agg [I ls 6,I ls 7,I ls 8,I ls 9,I ls 10,D.aC 6 (esD (I ls 11))]))<|
 some (D.agg [I ls 6,I ls 7,I ls 8,I ls 9,I ls 10,D.aC 6 (esD (I ls 11))])
def TG(l0:List D→Option D)(nG:List D→Option D)(n:Nat)(ab:D)(ah:D):Option D:=
 aw (aK 6 ab)<|
 R (binP false .eql (aa ab 0) (J 2)) fun v11=>
 oif v11 (
 R (a3 6 (aa ab 5) (J 0)) fun eK=>
 R (aW true 6 0 eK) fun bg=>
 R (unP .not ah) fun br=>
 R (nG [bg,br]) fun bE=>
 aw (aK 6 bE)<|
 some (D.agg [aa bE 0,aa bE 1,aa bE 2,aa bE 3,aa bE 4,aa bE 5])
) (
 R (binP false .eql (aa ab 0) (J 1)) fun bS=>
 R (gD bS true (
 some ah
)) fun cq=>
 R (pickP bS cq (ar false)) fun cE=>
 oif cE (
 aw (aK 4 (D.agg [aa ab 1,aa ab 2,aa ab 3,aa ab 4]))<|
 aw (aK 6 (D.agg [J 1,J 5,J 0,aJ ⟨#[]⟩,D.aC 4 [[aa ab 1,aa ab 2,aa ab 3,aa ab 4]],D.val (.slice none 0 0)]))<|
 some (D.agg [J 1,J 5,J 0,aJ ⟨#[]⟩,D.aC 4 [[aa ab 1,aa ab 2,aa ab 3,aa ab 4]],D.val (.slice none 0 0)])
) (
 R (binP false .eql (aa ab 0) (J 1)) fun ds=>
 oif ds (
 aw (aK 6 (D.agg [aa ab 0,aa ab 1,aa ab 2,aa ab 3,aa ab 4,aa ab 5]))<|
 some (D.agg [aa ab 0,aa ab 1,aa ab 2,aa ab 3,aa ab 4,aa ab 5])
) (
 R (binP false .eql (aa ab 0) (J 5)) fun eG=>
 R (gD eG true (
 some ah
)) fun e2=>
 R (pickP eG e2 (ar false)) fun c1=>
 oif c1 (
 R (l0 [J 3,D.aC 1 [[ar false],[ar true]],D.ref [aa ab 0,aa ab 1,aa ab 2,aa ab 3,aa ab 4,aa ab 5] 0]) fun c2=>
 aw (aK 6 c2)<|
 some (D.agg [aa c2 0,aa c2 1,aa c2 2,aa c2 3,aa c2 4,aa c2 5])
) (
 R (binP false .eql (aa ab 0) (J 5)) fun eA=>
 oif eA (
 R (l0 [J 4,D.aC 1 [[ar true],[ar false]],D.ref [aa ab 0,aa ab 1,aa ab 2,aa ab 3,aa ab 4,aa ab 5] 0]) fun e3=>
 aw (aK 6 e3)<|
 some (D.agg [aa e3 0,aa e3 1,aa e3 2,aa e3 3,aa e3 4,aa e3 5])
) (
 R (binP false .eql (aa ab 0) (J 9)) fun eX=>
 R (gD eX false (
 R (binP false .eql (aa ab 0) (J 13)) fun eH=>
 some eH
)) fun eH=>
 R (pickP eX (ar true) eH) fun gr=>
 oif gr (
 R (l0 [aa ab 0,D.aC 1 [[ar false],[ar false]],D.ref [aa ab 0,aa ab 1,aa ab 2,aa ab 3,aa ab 4,aa ab 5] 0]) fun dW=>
 aw (aK 6 dW)<|
 R (
 oif ah (
 aw (aK 6 (D.agg [aa dW 0,aa dW 1,aa dW 2,aa dW 3,aa dW 4,aa dW 5]))<|
 aw (aK 6 (D.agg [J 2,J 0,J 0,aJ ⟨#[]⟩,D.val (.slice none 0 0),D.aC 6 [[aa dW 0,aa dW 1,aa dW 2,aa dW 3,aa dW 4,aa dW 5]]]))<|
 some (.inl [J 0,J 0,J 0,aJ ⟨#[]⟩,D.val (.slice none 0 0),D.val (.slice none 0 0),J 2,J 0,J 0,aJ ⟨#[]⟩,D.val (.slice none 0 0),D.aC 6 [[aa dW 0,aa dW 1,aa dW 2,aa dW 3,aa dW 4,aa dW 5]]])
) (
 some (.inl [J 0,J 0,J 0,aJ ⟨#[]⟩,D.val (.slice none 0 0),D.val (.slice none 0 0),aa dW 0,aa dW 1,aa dW 2,aa dW 3,aa dW 4,aa dW 5])
)
)<|a7 fun ls=>
 aw (aK 6 (D.agg [I ls 6,I ls 7,I ls 8,I ls 9,I ls 10,I ls 11]))<|
 some (D.agg [I ls 6,I ls 7,I ls 8,I ls 9,I ls 10,I ls 11])
) (
 oif ah (
 R (Mq n [aa ab 0]) fun gO=>
 R (l0 [gO,D.aC 1 [[ar true],[ar true]],D.ref [aa ab 0,aa ab 1,aa ab 2,aa ab 3,aa ab 4,aa ab 5] 0]) fun nD=>
 aw (aK 6 nD)<|
 some (D.agg [aa nD 0,aa nD 1,aa nD 2,aa nD 3,aa nD 4,aa nD 5])
) (
 R (l0 [aa ab 0,D.aC 1 [[ar false],[ar false]],D.ref [aa ab 0,aa ab 1,aa ab 2,aa ab 3,aa ab 4,aa ab 5] 0]) fun g7=>
 aw (aK 6 g7)<|
 some (D.agg [aa g7 0,aa g7 1,aa g7 2,aa g7 3,aa g7 4,aa g7 5])
)
)
)
)
)
)
)
mutual
def zd:Nat→List D→Option D
 |0,_=>none
 |n+1,aF=>match aF with
  |[ab,ah,aT]=>(match aT with| .ref h6 0=>TF (zd n) (r8 n) n ab ah h6|_=>none)
  |_=>none
def r8:Nat→List D→Option D
 |0,_=>none
 |n+1,aF=>match aF with
  |[ab,ah]=>TG (zd n) (r8 n) n ab ah
  |_=>none
end
def afH(n:Nat)(ab:D)(ah:D):Option D:=
 aw (aK 6 ab)<|
 R (ny n [D.agg [aa ab 0,aa ab 1,aa ab 2,aa ab 3,aa ab 4,aa ab 5]]) fun v6=>
 R (binP false .neq v6 (J 0)) fun bN=>
 oif bN (
 aw (aK 6 (D.agg [aa ab 0,aa ab 1,aa ab 2,aa ab 3,aa ab 4,aa ab 5]))<|
 some (D.agg [aa ab 0,aa ab 1,aa ab 2,aa ab 3,aa ab 4,aa ab 5])
) (
 R (r8 n [D.agg [aa ab 0,aa ab 1,aa ab 2,aa ab 3,aa ab 4,aa ab 5],ah]) fun v11=>
 aw (aK 6 v11)<|
 some (D.agg [aa v11 0,aa v11 1,aa v11 2,aa v11 3,aa v11 4,aa v11 5])
)
def ze(n:Nat):List D→Option D
 |[ab,ah]=>afH n ab ah
 |_=>none
def afI(n:Nat)(ab:D):Option D:=
 aw (aK 6 ab)<|
 R (
 R (binP false .eql (aa ab 0) (J 1)) fun v6=>
 oif v6 (
 aU (
 some (J 1)
)
) (
 R (binP false .eql (aa ab 0) (J 3)) fun cg=>
 oif cg (
 aU (
 some (J 3)
)
) (
 R (binP false .eql (aa ab 0) (J 4)) fun v10=>
 oif v10 (
 aU (
 some (J 4)
)
) (
 R (binP false .eql (aa ab 0) (J 10)) fun bO=>
 R (
 oif bO (
 some (.inl [aa ab 0,bO,aa ab 0,aa ab 1,aa ab 2,aa ab 3,aa ab 4,aa ab 5])
) (
 R (binP false .eql (aa ab 0) (J 11)) fun bR=>
 R (
 oif bR (
 some (.inl [aa ab 0,bR,aa ab 0,aa ab 1,aa ab 2,aa ab 3,aa ab 4,aa ab 5])
) (
 R (binP false .eql (aa ab 0) (J 12)) fun bp=>
 R (
 oif bp (
 some (.inl [aa ab 0,bp,aa ab 0,aa ab 1,aa ab 2,aa ab 3,aa ab 4,aa ab 5])
) (
 R (binP false .eql (aa ab 0) (J 13)) fun bg=>
 some (.inl [aa ab 0,bg,aa ab 0,aa ab 1,aa ab 2,aa ab 3,aa ab 4,aa ab 5])
)
)<|a7 fun ls=>
 some (.inl [I ls 0,I ls 1,I ls 2,I ls 3,I ls 4,I ls 5,I ls 6,I ls 7])
)
)<|a7 fun ls=>
 some (.inl [I ls 0,I ls 1,I ls 2,I ls 3,I ls 4,I ls 5,I ls 6,I ls 7])
)
)<|a7 fun ls=>
 oif (I ls 1) (
 aU (
 some (J 2)
)
) (
 R (binP false .eql (I ls 0) (J 6)) fun br=>
 R (
 oif br (
 some (.inl [I ls 0,br,I ls 2,I ls 3,I ls 4,I ls 5,I ls 6,I ls 7])
) (
 R (binP false .eql (I ls 0) (J 7)) fun bE=>
 R (
 oif bE (
 some (.inl [I ls 0,bE,I ls 2,I ls 3,I ls 4,I ls 5,I ls 6,I ls 7])
) (
 R (binP false .eql (I ls 0) (J 8)) fun ca=>
 R (
 oif ca (
 some (.inl [I ls 0,ca,I ls 2,I ls 3,I ls 4,I ls 5,I ls 6,I ls 7])
) (
 R (binP false .eql (I ls 0) (J 9)) fun v20=>
 some (.inl [I ls 0,v20,I ls 2,I ls 3,I ls 4,I ls 5,I ls 6,I ls 7])
)
)<|a7 fun ls=>
 some (.inl [I ls 0,I ls 1,I ls 2,I ls 3,I ls 4,I ls 5,I ls 6,I ls 7])
)
)<|a7 fun ls=>
 some (.inl [I ls 0,I ls 1,I ls 2,I ls 3,I ls 4,I ls 5,I ls 6,I ls 7])
)
)<|a7 fun ls=>
 oif (I ls 1) (
 aU (
 some (J 5)
)
) (
 R (binP false .eql (I ls 0) (J 2)) fun bS=>
 R (
 oif bS (
 R (
 R (lenP (I ls 7)) fun ck=>
 R (binP false .neq ck (J 1)) fun cJ=>
 R (
 oif cJ (
 some (.inl [])
) (
 R (a3 6 (I ls 7) (J 0)) fun r4=>
 R (aW false 1 0 r4) fun dD=>
 R (binP false .eql dD (J 9)) fun ds=>
 oif ds (
 aU (
 aU (
 aU (
 aU (
 some (J 2)
)
)
)
)
) (
 R (a3 6 (I ls 7) (J 0)) fun CW=>
 R (aW false 1 0 CW) fun dt=>
 R (binP false .eql dt (J 13)) fun e2=>
 oif e2 (
 aU (
 aU (
 aU (
 aU (
 some (J 5)
)
)
)
)
) (
 some (.inl [])
)
)
)
)<|a7 fun ls=>
 some (.inl [])
)<|a7 fun ls=>
 some (.inl [])
) (
 some (.inl [])
)
)<|a7 fun ls=>
 some (.inl [])
)
)
)
)
)
)<|a7 fun ls=>
 some (J 0)
def Mr(n:Nat):List D→Option D
 |[ab]=>afI n ab
 |_=>none
def afJ(n:Nat)(ls:List D):Option (List D⊕(List D⊕D)):=
 R (binP false .lss (I ls 3) (I ls 2)) fun bp=>
 oif bp (
 R (a3 1 (I ls 0) (I ls 3)) fun Ms=>
 R (aW false 1 0 Ms) fun ca=>
 R (a3 1 (I ls 1) (I ls 3)) fun wD=>
 R (aW false 1 0 wD) fun b7=>
 R (binP false .neq ca b7) fun cq=>
 oif cq (
 aU (
 aU (
 some (ar false)
)
)
) (
 R (binP false .add (I ls 3) (J 1)) fun cE=>
 some (.inl [I ls 0,I ls 1,I ls 2,cE])
)
) (
 aU (
 some (.inl [])
)
)
def afK(n:Nat)(ab:D)(ah:D):Option D:=
 R (lenP ab) fun bN=>
 R (lenP ah) fun bG=>
 R (binP false .neq bN bG) fun v10=>
 oif v10 (
 some (ar false)
) (
 R (lenP ab) fun bO=>
 R (
 bm (afJ n) n [ab,ah,bO,J 0]
)<|a7 fun ls=>
 some (ar true)
)
def zf(n:Nat):List D→Option D
 |[ab,ah]=>afK n ab ah
 |_=>none
def afL(wE:List D→Option D)(n:Nat)(ls:List D):Option (List D⊕(List D⊕D)):=
 R (binP false .lss (I ls 2) (I ls 1)) fun eG=>
 oif eG (
 R (a3 4 (I ls 0) (I ls 2)) fun wF=>
 R (aW true 4 0 wF) fun c1=>
 aw (aK 4 c1)<|
 R (a3 4 (I ls 6) (I ls 2)) fun v8=>
 R (aW true 4 0 v8) fun fH=>
 R (wE [D.agg [aa c1 0,aa c1 1,aa c1 2,aa c1 3],fH]) fun eA=>
 R (unP .not eA) fun cX=>
 oif cX (
 aU (
 aU (
 some (ar false)
)
)
) (
 R (binP false .add (I ls 2) (J 1)) fun fy=>
 some (.inl [I ls 0,I ls 1,fy,I ls 3,I ls 4,I ls 5,I ls 6])
)
) (
 aU (
 some (.inl [])
)
)
def TH(wE:List D→Option D)(n:Nat)(ab:D)(ah:D):Option D:=
 aw (aK 4 ab)<|
 aw (aK 4 ah)<|
 R (binP false .neq (aa ab 0) (aa ah 0)) fun v11=>
 R (gD v11 false (
 R (binP false .neq (aa ab 1) (aa ah 1)) fun br=>
 some br
)) fun br=>
 R (pickP v11 (ar true) br) fun bE=>
 R (gD bE false (
 R (binP false .neq (aa ab 2) (aa ah 2)) fun cq=>
 some cq
)) fun cq=>
 R (pickP bE (ar true) cq) fun cE=>
 R (gD cE false (
 R (lenP (aa ab 3)) fun cD=>
 R (lenP (aa ah 3)) fun dr=>
 R (binP false .neq cD dr) fun dD=>
 some dD
)) fun dD=>
 R (pickP cE (ar true) dD) fun ds=>
 oif ds (
 some (ar false)
) (
 R (lenP (aa ab 3)) fun dk=>
 R (
 bm (afL wE n) n [aa ab 3,dk,J 0,aa ah 0,aa ah 1,aa ah 2,aa ah 3]
)<|a7 fun ls=>
 some (ar true)
)
def wG:Nat→List D→Option D
 |0,_=>none
 |n+1,aF=>match aF with
  |[ab,ah]=>TH (wG n) n ab ah
  |_=>none
def afM(pB:List D→Option D)(pC:List D→Option D)(n:Nat)(ls:List D):Option (List D⊕(List D⊕D)):=
 R (binP false .lss (I ls 3) (I ls 2)) fun bE=>
 oif bE (
 R (a3 6 (I ls 1) (I ls 3)) fun rU=>
 R (aW true 6 0 rU) fun bJ=>
 aw (aK 6 bJ)<|
 R (a3 6 (I ls 0) (I ls 3)) fun Da=>
 R (aW true 6 0 Da) fun cE=>
 aw (aK 6 cE)<|
 R (pC [D.agg [aa bJ 0,aa bJ 1,aa bJ 2,aa bJ 3,aa bJ 4,aa bJ 5],D.agg [aa cE 0,aa cE 1,aa cE 2,aa cE 3,aa cE 4,aa cE 5]]) fun cD=>
 R (unP .not cD) fun v30=>
 oif v30 (
 aU (
 aU (
 some (ar false)
)
)
) (
 R (binP false .add (I ls 3) (J 1)) fun dH=>
 some (.inl [I ls 0,I ls 1,I ls 2,dH])
)
) (
 aU (
 some (.inl [])
)
)
def TI(pB:List D→Option D)(pC:List D→Option D)(n:Nat)(ab:D)(ah:D):Option D:=
 R (lenP ab) fun v11=>
 R (lenP ah) fun bR=>
 R (binP false .neq v11 bR) fun bp=>
 oif bp (
 some (ar false)
) (
 R (lenP ab) fun bx=>
 R (
 bm (afM pB pC n) n [ah,ab,bx,J 0]
)<|a7 fun ls=>
 some (ar true)
)
def TJ(pB:List D→Option D)(pC:List D→Option D)(n:Nat)(ab:D)(ah:D):Option D:=
 aw (aK 6 ab)<|
 aw (aK 6 ah)<|
 R (binP false .eql (aa ab 0) (aa ah 0)) fun bG=>
 R (gD bG true (
 R (wG n [D.agg [aa ab 1,aa ab 2,aa ab 3,aa ab 4],D.agg [aa ah 1,aa ah 2,aa ah 3,aa ah 4]]) fun bg=>
 some bg
)) fun bg=>
 R (pickP bG bg (ar false)) fun bx=>
 R (gD bx true (
 R (pB [aa ab 5,aa ah 5,(D.val (.func (.func Gx) #[] #[]))]) fun bS=>
 some bS
)) fun bS=>
 R (pickP bx bS (ar false)) fun b7=>
 some b7
mutual
def zg:Nat→List D→Option D
 |0,_=>none
 |n+1,aF=>match aF with
  |[ab,ah,aT]=>aw (isFc Gx aT) (TI (zg n) (pD n) n ab ah)
  |_=>none
def pD:Nat→List D→Option D
 |0,_=>none
 |n+1,aF=>match aF with
  |[ab,ah]=>TJ (zg n) (pD n) n ab ah
  |_=>none
end
def Hk(n:Nat)(ab:D)(x1:List D):Option D:=
 aw (aK 4 ab)<|
 R (aW false 1 0 x1) fun bN=>
 R (binP false .eql (aa ab 0) bN) fun cg=>
 some cg
def Db(n:Nat):List D→Option D
 |[ab,ah]=>(match ah with| .ref x1 0=>Hk n ab x1|_=>none)
 |_=>none
def Dc(n:Nat)(ls:List D):Option (List D⊕(List D⊕D)):=
 R (binP false .lss (I ls 3) (I ls 2)) fun bG=>
 oif bG (
 R (a3 4 (I ls 0) (I ls 3)) fun eK=>
 R (aW true 4 0 eK) fun bg=>
 R (Db n [bg,I ls 1]) fun bx=>
 oif bx (
 aU (
 aU (
 some (I ls 3)
)
)
) (
 R (binP false .add (I ls 3) (J 1)) fun bE=>
 some (.inl [I ls 0,I ls 1,I ls 2,bE])
)
) (
 aU (
 some (.inl [])
)
)
def Dd(n:Nat)(ab:D)(b4:D):Option D:=
 R (lenP ab) fun bN=>
 R (
 bm (Dc n) n [ab,b4,bN,J 0]
)<|a7 fun ls=>
 some (J (-1))
def wH(n:Nat):List D→Option D
 |[ab,ah]=>(match fnOf yI ah with|some [b4]=>Dd n ab b4|_=>none)
 |_=>none
def zh(n:Nat)(ls:List D):Option (List D⊕(List D⊕D)):=
 R (binP false .lss (I ls 4) (I ls 3)) fun cJ=>
 oif cJ (
 R (a3 5 (I ls 2) (I ls 4)) fun rP=>
 R (aW true 5 0 rP) fun cD=>
 aw (aK 5 cD)<|
 R (pz n [I ls 5,D.agg [aa cD 1,aa cD 2,aa cD 3,aa cD 4],I ls 0,D.val (.slice none 0 0)]) fun dk=>
 R (extP 0 dk) fun dg=>
 R (extP 1 dk) fun eG=>
 R (wH n [I ls 5,(D.fn (.func yI) [] [D.ref [aa cD 0,aa cD 1,aa cD 2,aa cD 3,aa cD 4] 0])]) fun dP=>
 aw dP.flat<|
 R (unP .not eG) fun gj=>
 R (gD gj false (
 R (binP false .lss dP (J 0)) fun eA=>
 some eA
)) fun eA=>
 R (pickP gj (ar true) eA) fun cX=>
 R (gD cX false (
 R (a3 1 (I ls 1) dP) fun Mg=>
 R (aW false 1 0 Mg) fun fa=>
 R (binP false .neq fa dg) fun gU=>
 some gU
)) fun gU=>
 R (pickP cX (ar true) gU) fun eo=>
 oif eo (
 aU (
 aU (
 some (ar false)
)
)
) (
 R (binP false .add (I ls 4) (J 1)) fun jG=>
 some (.inl [I ls 0,I ls 1,I ls 2,I ls 3,jG,I ls 5,I ls 6,I ls 7,I ls 8,I ls 9,I ls 10,I ls 11,I ls 12,I ls 13])
)
) (
 aU (
 some (.inl [I ls 0,I ls 1,I ls 5,I ls 6,I ls 7,I ls 8,I ls 9,I ls 10,I ls 11,I ls 12,I ls 13])
)
)
def De(n:Nat)(ab:D)(ah:D)(aT:D):Option D:=
 aw (aK 9 ab)<|
 R (j2 n [D.agg [aa ab 0,aa ab 1,aa ab 2,aa ab 3,aa ab 4,aa ab 5,aa ab 6,aa ab 7,aa ab 8],ah]) fun bp=>
 R (unP .not bp) fun bg=>
 R (gD bg false (
 R (j2 n [D.agg [aa ab 0,aa ab 1,aa ab 2,aa ab 3,aa ab 4,aa ab 5,aa ab 6,aa ab 7,aa ab 8],aT]) fun ca=>
 R (unP .not ca) fun v20=>
 some v20
)) fun v20=>
 R (pickP bg (ar true) v20) fun bJ=>
 oif bJ (
 some (ar false)
) (
 R (lenP (aa ab 4)) fun cE=>
 R (
 bm (zh n) n [ah,aT,aa ab 4,cE,J 0,aa ab 0,aa ab 1,aa ab 2,aa ab 3,aa ab 4,aa ab 5,aa ab 6,aa ab 7,aa ab 8]
)<|a7 fun ls=>
 R (r7 n [D.agg [I ls 2,I ls 3,I ls 4,I ls 5,I ls 6,I ls 7,I ls 8,I ls 9,I ls 10],I ls 7,I ls 0,I ls 1]) fun dW=>
 some dW
)
def pE(n:Nat):List D→Option D
 |[ab,ah,aT]=>De n ab ah aT
 |_=>none
def afN(n:Nat)(ls:List D):Option (List D⊕(List D⊕D)):=
 R (lenP (I ls 0)) fun v30=>
 R (binP false .lss (I ls 2) v30) fun dH=>
 oif dH (
 R (binP false .sub (I ls 2) (J 1)) fun dk=>
 R (a3 1 (I ls 0) dk) fun CW=>
 R (aW false 1 0 CW) fun eG=>
 R (a3 1 (I ls 0) (I ls 2)) fun Mf=>
 R (aW false 1 0 Mf) fun dZ=>
 R (pE n [D.agg [I ls 3,I ls 4,I ls 5,I ls 6,I ls 7,I ls 8,I ls 9,I ls 10,I ls 11],eG,dZ]) fun dP=>
 R (unP .not dP) fun c2=>
 oif c2 (
 aU (
 aU (
 some (ar false)
)
)
) (
 R (binP false .add (I ls 2) (J 1)) fun dD=>
 some (.inl [I ls 0,I ls 1,dD,I ls 3,I ls 4,I ls 5,I ls 6,I ls 7,I ls 8,I ls 9,I ls 10,I ls 11])
)
) (
 aU (
 some (.inl [I ls 0,I ls 1,I ls 3,I ls 4,I ls 5,I ls 6,I ls 7,I ls 8,I ls 9,I ls 10,I ls 11])
)
)
def afO(n:Nat)(ls:List D):Option (List D⊕(List D⊕(List D⊕(List D⊕(List D⊕D))))):=
 R (binP false .lss (I ls 7) (I ls 6)) fun gu=>
 oif gu (
 R (a3 1 (I ls 5) (I ls 7)) fun Df=>
 R (aW false 1 0 Df) fun gF=>
 R (pA n [D.agg [I ls 8,I ls 9,I ls 10,I ls 11,I ls 12,I ls 13,I ls 14,I ls 15,I ls 16],D.agg [I ls 17,I ls 18,I ls 19,I ls 20],gF,D.val (.slice none 0 0)]) fun lz=>
 oif lz (
 aU (
 aU (
 some (.inl [I ls 0,I ls 1,I ls 2,I ls 3,I ls 4,I ls 8,I ls 9,I ls 10,I ls 11,I ls 12,I ls 13,I ls 14,I ls 15,I ls 16])
)
)
) (
 R (binP false .add (I ls 7) (J 1)) fun nD=>
 some (.inl [I ls 0,I ls 1,I ls 2,I ls 3,I ls 4,I ls 5,I ls 6,nD,I ls 8,I ls 9,I ls 10,I ls 11,I ls 12,I ls 13,I ls 14,I ls 15,I ls 16,I ls 17,I ls 18,I ls 19,I ls 20])
)
) (
 aU (
 some (.inl [])
)
)
def afP(n:Nat)(ls:List D):Option (List D⊕(List D⊕D)):=
 R (binP false .lss (I ls 4) (I ls 3)) fun g6=>
 oif g6 (
 R (
 R (a3 4 (I ls 2) (I ls 4)) fun wI=>
 R (aW true 4 0 wI) fun dW=>
 aw (aK 4 dW)<|
 R (ko 1 (I ls 0) (some (I ls 1)) none) fun ep=>
 R (lenP ep) fun iN=>
 R (
 bm (afO n) n [I ls 0,I ls 1,I ls 2,I ls 3,I ls 4,ep,iN,J 0,I ls 5,I ls 6,I ls 7,I ls 8,I ls 9,I ls 10,I ls 11,I ls 12,I ls 13,aa dW 0,aa dW 1,aa dW 2,aa dW 3]
)<|a7 fun ls=>
 aU (
 aU (
 aU (
 some (ar false)
)
)
)
)<|a7 fun ls=>
 R (binP false .add (I ls 4) (J 1)) fun lA=>
 some (.inl [I ls 0,I ls 1,I ls 2,I ls 3,lA,I ls 5,I ls 6,I ls 7,I ls 8,I ls 9,I ls 10,I ls 11,I ls 12,I ls 13])
) (
 aU (
 some (.inl [])
)
)
def afQ(n:Nat)(ab:D)(ah:D)(aT:D):Option D:=
 aw (aK 9 ab)<|
 R (binP false .lss aT (J 0)) fun bR=>
 R (gD bR false (
 R (lenP ah) fun br=>
 R (binP false .geq aT br) fun bE=>
 some bE
)) fun bE=>
 R (pickP bR (ar true) bE) fun ca=>
 R (gD ca false (
 R (a3 1 ah (J 0)) fun BJ=>
 R (aW false 1 0 BJ) fun cq=>
 R (j2 n [D.agg [aa ab 0,aa ab 1,aa ab 2,aa ab 3,aa ab 4,aa ab 5,aa ab 6,aa ab 7,aa ab 8],cq]) fun cE=>
 R (unP .not cE) fun ck=>
 some ck
)) fun ck=>
 R (pickP ca (ar true) ck) fun cJ=>
 oif cJ (
 some (ar false)
) (
 R (
 bm (afN n) n [ah,aT,J 1,aa ab 0,aa ab 1,aa ab 2,aa ab 3,aa ab 4,aa ab 5,aa ab 6,aa ab 7,aa ab 8]
)<|a7 fun ls=>
 R (lenP (I ls 0)) fun eA=>
 R (binP false .sub eA (J 1)) fun cX=>
 R (a3 1 (I ls 0) cX) fun C0=>
 R (aW false 1 0 C0) fun e3=>
 R (a3 1 (I ls 0) (I ls 1)) fun wJ=>
 R (aW false 1 0 wJ) fun eX=>
 R (pE n [D.agg [I ls 2,I ls 3,I ls 4,I ls 5,I ls 6,I ls 7,I ls 8,I ls 9,I ls 10],e3,eX]) fun gU=>
 R (unP .not gU) fun eo=>
 oif eo (
 some (ar false)
) (
 R (lenP (I ls 8)) fun iq=>
 R (
 bm (afP n) n [I ls 0,I ls 1,I ls 8,iq,J 0,I ls 2,I ls 3,I ls 4,I ls 5,I ls 6,I ls 7,I ls 8,I ls 9,I ls 10]
)<|a7 fun ls=>
 some (ar true)
)
)
def Dg(n:Nat):List D→Option D
 |[ab,ah,aT]=>afQ n ab ah aT
 |_=>none
def afR(n:Nat)(ab:D)(ah:D):Option D:=
 aw (aK 6 ab)<|
 R (binP false .lss (aa ab 0) (J 6)) fun bN=>
 R (gD bN false (
 R (binP false .gtr (aa ab 0) (J 13)) fun v11=>
 some v11
)) fun v11=>
 R (pickP bN (ar true) v11) fun bO=>
 some bO
def Mt(n:Nat):List D→Option D
 |[ab,ah]=>afR n ab ah
 |_=>none
def afS(wK:List D→Option D)(n:Nat)(ls:List D):Option (List D⊕(List D⊕D)):=
 R (binP false .lss (I ls 3) (I ls 2)) fun bE=>
 oif bE (
 R (a3 6 (I ls 1) (I ls 3)) fun pj=>
 R (aW true 6 0 pj) fun v20=>
 aw (aK 6 v20)<|
 R (binP false .add (I ls 0) (J 1)) fun b7=>
 R (wK [D.agg [aa v20 0,aa v20 1,aa v20 2,aa v20 3,aa v20 4,aa v20 5],b7,(D.val (.func (.func BG) #[] #[]))]) fun cE=>
 R (unP .not cE) fun ck=>
 oif ck (
 aU (
 aU (
 some (ar false)
)
)
) (
 R (binP false .add (I ls 3) (J 1)) fun cJ=>
 some (.inl [I ls 0,I ls 1,I ls 2,cJ])
)
) (
 aU (
 some (.inl [])
)
)
def TK(wK:List D→Option D)(n:Nat)(ab:D)(ah:D):Option D:=
 aw (aK 6 ab)<|
 R (Mt n [D.agg [aa ab 0,aa ab 1,aa ab 2,aa ab 3,aa ab 4,aa ab 5],ah]) fun bO=>
 R (unP .not bO) fun bR=>
 oif bR (
 some (ar false)
) (
 R (lenP (aa ab 5)) fun bx=>
 R (
 bm (afS wK n) n [ah,aa ab 5,bx,J 0]
)<|a7 fun ls=>
 some (ar true)
)
def wL:Nat→List D→Option D
 |0,_=>none
 |n+1,aF=>match aF with
  |[ab,ah,aT]=>aw (isFc BG aT) (TK (wL n) n ab ah)
  |_=>none
def afT(n:Nat)(ab:D):Option D:=
 aw (aK 6 ab)<|
 R (wL n [D.agg [aa ab 0,aa ab 1,aa ab 2,aa ab 3,aa ab 4,aa ab 5],J 1,(D.val (.func (.func BG) #[] #[]))]) fun v4=>
 some v4
def Mu(n:Nat):List D→Option D
 |[ab]=>afT n ab
 |_=>none
def TL(j3:List D→Option D)(j4:List D→Option D)(j5:List D→Option D)(j6:List D→Option D)(n:Nat)(ab:D)(x1:List D):Option D:=
 aw (aK 6 ab)<|
 R (aW true 9 0 x1) fun v4=>
 R (j6 [v4,D.agg [aa ab 0,aa ab 1,aa ab 2,aa ab 3,aa ab 4,aa ab 5]]) fun v6=>
 R (unP .not v6) fun bN=>
 some bN
def afU(j3:List D→Option D)(j4:List D→Option D)(j5:List D→Option D)(j6:List D→Option D)(n:Nat)(ls:List D):Option (List D⊕(List D⊕D)):=
 R (binP false .lss (I ls 3) (I ls 2)) fun bG=>
 oif bG (
 R (a3 6 (I ls 0) (I ls 3)) fun eK=>
 R (aW true 6 0 eK) fun bg=>
 R (j3 [bg,I ls 1]) fun bx=>
 oif bx (
 aU (
 aU (
 some (I ls 3)
)
)
) (
 R (binP false .add (I ls 3) (J 1)) fun bE=>
 some (.inl [I ls 0,I ls 1,I ls 2,bE])
)
) (
 aU (
 some (.inl [])
)
)
def TM(j3:List D→Option D)(j4:List D→Option D)(j5:List D→Option D)(j6:List D→Option D)(n:Nat)(ab:D)(b4:D):Option D:=
 R (lenP ab) fun bN=>
 R (
 bm (afU j3 j4 j5 j6 n) n [ab,b4,bN,J 0]
)<|a7 fun ls=>
 some (J (-1))
def TN(j3:List D→Option D)(j4:List D→Option D)(j5:List D→Option D)(j6:List D→Option D)(n:Nat)(ab:D)(b4:D):Option D:=
 R (j4 [ab,(D.fn (.func vq) [] [b4])]) fun bN=>
 R (binP false .geq bN (J 0)) fun cg=>
 some cg
def TO(j3:List D→Option D)(j4:List D→Option D)(j5:List D→Option D)(j6:List D→Option D)(n:Nat)(ab:D)(ah:D):Option D:=
 aw (aK 9 ab)<|
 aw (aK 6 ah)<|
 R (binP false .eql (aa ah 0) (J 1)) fun bG=>
 oif bG (
 R (qI n [aa ab 0,D.agg [aa ah 1,aa ah 2,aa ah 3,aa ah 4],ar false]) fun bx=>
 R (extP 0 bx) fun br=>
 R (extP 1 bx) fun bE=>
 aw (aK 3 br)<|
 R (binP false .eql bE (J 0)) fun v20=>
 R (gD v20 true (
 some (aa br 0)
)) fun b7=>
 R (pickP v20 b7 (ar false)) fun cq=>
 some cq
) (
 R (j5 [aa ah 5,(D.fn (.func vq) [] [D.ref [aa ab 0,aa ab 1,aa ab 2,aa ab 3,aa ab 4,aa ab 5,aa ab 6,aa ab 7,aa ab 8] 0])]) fun cu=>
 aw cu.flat<|
 R (unP .not cu) fun cD=>
 some cD
)
mutual
def qN:Nat→List D→Option D
 |0,_=>none
 |n+1,aF=>match aF with
  |[ab,ah]=>(match ah with| .ref x1 0=>TL (qN n) (qO n) (qP n) (nH n) n ab x1|_=>none)
  |_=>none
def qO:Nat→List D→Option D
 |0,_=>none
 |n+1,aF=>match aF with
  |[ab,ah]=>(match fnOf vq ah with|some [b4]=>TM (qN n) (qO n) (qP n) (nH n) n ab b4|_=>none)
  |_=>none
def qP:Nat→List D→Option D
 |0,_=>none
 |n+1,aF=>match aF with
  |[ab,ah]=>(match fnOf vq ah with|some [b4]=>TN (qN n) (qO n) (qP n) (nH n) n ab b4|_=>none)
  |_=>none
def nH:Nat→List D→Option D
 |0,_=>none
 |n+1,aF=>match aF with
  |[ab,ah]=>TO (qN n) (qO n) (qP n) (nH n) n ab ah
  |_=>none
end
def TP(pF:List D→Option D)(n:Nat)(ab:D)(ah:D)(aT:D):Option D:=
 aw (aK 9 ab)<|
 aw (aK 6 ah)<|
 R (binP false .eql (aa ah 0) (J 1)) fun v10=>
 oif v10 (
 R (pA n [D.agg [aa ab 0,aa ab 1,aa ab 2,aa ab 3,aa ab 4,aa ab 5,aa ab 6,aa ab 7,aa ab 8],D.agg [aa ah 1,aa ah 2,aa ah 3,aa ah 4],aT,D.val (.slice none 0 0)]) fun bg=>
 some bg
) (
 R (binP false .eql (aa ah 0) (J 2)) fun br=>
 oif br (
 R (a3 6 (aa ah 5) (J 0)) fun r3=>
 R (aW true 6 0 r3) fun bS=>
 R (pF [D.agg [aa ab 0,aa ab 1,aa ab 2,aa ab 3,aa ab 4,aa ab 5,aa ab 6,aa ab 7,aa ab 8],bS,aT]) fun cq=>
 R (unP .not cq) fun cE=>
 some cE
) (
 R (binP false .eql (aa ah 0) (J 3)) fun cJ=>
 oif cJ (
 R (a3 6 (aa ah 5) (J 0)) fun r4=>
 R (aW true 6 0 r4) fun dr=>
 R (pF [D.agg [aa ab 0,aa ab 1,aa ab 2,aa ab 3,aa ab 4,aa ab 5,aa ab 6,aa ab 7,aa ab 8],dr,aT]) fun ds=>
 R (gD ds true (
 R (a3 6 (aa ah 5) (J 1)) fun nz=>
 R (aW true 6 0 nz) fun dt=>
 R (pF [D.agg [aa ab 0,aa ab 1,aa ab 2,aa ab 3,aa ab 4,aa ab 5,aa ab 6,aa ab 7,aa ab 8],dt,aT]) fun c1=>
 some c1
)) fun c1=>
 R (pickP ds c1 (ar false)) fun dZ=>
 some dZ
) (
 R (binP false .eql (aa ah 0) (J 4)) fun c2=>
 oif c2 (
 R (a3 6 (aa ah 5) (J 0)) fun r9=>
 R (aW true 6 0 r9) fun cX=>
 R (pF [D.agg [aa ab 0,aa ab 1,aa ab 2,aa ab 3,aa ab 4,aa ab 5,aa ab 6,aa ab 7,aa ab 8],cX,aT]) fun e3=>
 R (gD e3 false (
 R (a3 6 (aa ah 5) (J 1)) fun Mv=>
 R (aW true 6 0 Mv) fun eo=>
 R (pF [D.agg [aa ab 0,aa ab 1,aa ab 2,aa ab 3,aa ab 4,aa ab 5,aa ab 6,aa ab 7,aa ab 8],eo,aT]) fun eH=>
 some eH
)) fun eH=>
 R (pickP e3 (ar true) eH) fun gr=>
 some gr
) (
 R (a3 6 (aa ah 5) (J 0)) fun wI=>
 R (aW true 6 0 wI) fun dW=>
 R (pF [D.agg [aa ab 0,aa ab 1,aa ab 2,aa ab 3,aa ab 4,aa ab 5,aa ab 6,aa ab 7,aa ab 8],dW,aT]) fun fI=>
 R (unP .not fI) fun ep=>
 R (gD ep false (
 R (a3 6 (aa ah 5) (J 1)) fun afV=>
 R (aW true 6 0 afV) fun mT=>
 R (pF [D.agg [aa ab 0,aa ab 1,aa ab 2,aa ab 3,aa ab 4,aa ab 5,aa ab 6,aa ab 7,aa ab 8],mT,aT]) fun gO=>
 some gO
)) fun gO=>
 R (pickP ep (ar true) gO) fun lz=>
 some lz
)
)
)
)
def wM:Nat→List D→Option D
 |0,_=>none
 |n+1,aF=>match aF with
  |[ab,ah,aT]=>TP (wM n) n ab ah aT
  |_=>none
def afW(n:Nat)(ab:D)(ah:D)(aT:D):Option D:=
 aw (aK 9 ab)<|
 aw (aK 6 ah)<|
 R (ny n [D.agg [aa ah 0,aa ah 1,aa ah 2,aa ah 3,aa ah 4,aa ah 5]]) fun v11=>
 R (binP false .neq v11 (J 0)) fun bO=>
 R (gD bO false (
 R (Mu n [D.agg [aa ah 0,aa ah 1,aa ah 2,aa ah 3,aa ah 4,aa ah 5]]) fun bg=>
 R (unP .not bg) fun bx=>
 some bx
)) fun bx=>
 R (pickP bO (ar true) bx) fun br=>
 R (gD br false (
 R (j2 n [D.agg [aa ab 0,aa ab 1,aa ab 2,aa ab 3,aa ab 4,aa ab 5,aa ab 6,aa ab 7,aa ab 8],aT]) fun bJ=>
 R (unP .not bJ) fun bS=>
 some bS
)) fun bS=>
 R (pickP br (ar true) bS) fun b7=>
 oif b7 (
 some (D.aQ [ar false,ar false])
) (
 R (r1 n [D.agg [aa ah 0,aa ah 1,aa ah 2,aa ah 3,aa ah 4,aa ah 5],aa ab 8]) fun cu=>
 R (extP 0 cu) fun cD=>
 R (extP 1 cu) fun v30=>
 aw (aK 6 cD)<|
 R (binP false .neq v30 (J 0)) fun dr=>
 R (gD dr false (
 R (nH n [D.agg [aa ab 0,aa ab 1,aa ab 2,aa ab 3,aa ab 4,aa ab 5,aa ab 6,aa ab 7,aa ab 8],D.agg [aa cD 0,aa cD 1,aa cD 2,aa cD 3,aa cD 4,aa cD 5]]) fun df=>
 R (unP .not df) fun dk=>
 some dk
)) fun dk=>
 R (pickP dr (ar true) dk) fun dg=>
 oif dg (
 some (D.aQ [ar false,ar false])
) (
 R (wM n [D.agg [aa ab 0,aa ab 1,aa ab 2,aa ab 3,aa ab 4,aa ab 5,aa ab 6,aa ab 7,aa ab 8],D.agg [aa cD 0,aa cD 1,aa cD 2,aa cD 3,aa cD 4,aa cD 5],aT]) fun c1=>
 some (D.aQ [c1,ar true])
)
)
def zi(n:Nat):List D→Option D
 |[ab,ah,aT]=>afW n ab ah aT
 |_=>none
def afX(n:Nat)(ab:D)(ah:D)(aT:D):Option D:=
 aw (aK 9 ab)<|
 aw (aK 6 ah)<|
 R (binP false .eql (aa ah 1) (J 5)) fun bp=>
 R (gD bp true (
 R (lenP (aa ah 4)) fun ca=>
 R (binP false .eql ca (J 1)) fun v20=>
 some v20
)) fun v20=>
 R (pickP bp v20 (ar false)) fun bJ=>
 oif bJ (
 R (a3 4 (aa ah 4) (J 0)) fun Mw=>
 R (aW true 4 0 Mw) fun cu=>
 aw (aK 4 cu)<|
 R (zi n [D.agg [aa ab 0,aa ab 1,aa ab 2,aa ab 3,aa ab 4,aa ab 5,aa ab 6,aa ab 7,aa ab 8],D.agg [J 1,aa cu 0,aa cu 1,aa cu 2,aa cu 3,D.val (.slice none 0 0)],aT]) fun dH=>
 R (extP 0 dH) fun dr=>
 R (extP 1 dH) fun dD=>
 R (gD dD true (
 R (unP .not dr) fun dk=>
 some dk
)) fun dk=>
 R (pickP dD dk (ar false)) fun dg=>
 some dg
) (
 R (zi n [D.agg [aa ab 0,aa ab 1,aa ab 2,aa ab 3,aa ab 4,aa ab 5,aa ab 6,aa ab 7,aa ab 8],D.agg [aa ah 0,aa ah 1,aa ah 2,aa ah 3,aa ah 4,aa ah 5],aT]) fun dZ=>
 R (extP 0 dZ) fun dP=>
 R (extP 1 dZ) fun c2=>
 R (gD c2 true (
 some dP
)) fun fH=>
 R (pickP c2 fH (ar false)) fun eA=>
 some eA
)
def Mx(n:Nat):List D→Option D
 |[ab,ah,aT]=>afX n ab ah aT
 |_=>none
def afY(n:Nat)(ls:List D):Option (List D⊕(List D⊕(List D))):=
 R (binP false .lss (I ls 2) (I ls 1)) fun bp=>
 oif bp (
 R (a3 1 (I ls 0) (I ls 2)) fun Ci=>
 R (aW false 1 0 Ci) fun bx=>
 aw (aK 6 (D.agg [I ls 3,I ls 4,I ls 5,I ls 6,I ls 7,I ls 8]))<|
 aw (bA bx)<|
 aw (aK 7 (D.agg [I ls 3,I ls 4,I ls 5,I ls 6,I ls 7,I ls 8,bx]))<|
 aw (cY (((esD (I ls 21))).length+([[I ls 3,I ls 4,I ls 5,I ls 6,I ls 7,I ls 8,bx]]).length) 112)<|
 R (binP false .add (I ls 2) (J 1)) fun b7=>
 some (.inl [I ls 0,I ls 1,b7,I ls 3,I ls 4,I ls 5,I ls 6,I ls 7,I ls 8,I ls 9,I ls 10,I ls 11,I ls 12,I ls 13,I ls 14,I ls 15,I ls 16,I ls 17,I ls 18,I ls 19,I ls 20,D.aC 7 ((esD (I ls 21))++[[I ls 3,I ls 4,I ls 5,I ls 6,I ls 7,I ls 8,bx]])])
) (
 aU (
 some (.inl [I ls 9,I ls 10,I ls 11,I ls 12,I ls 13,I ls 14,I ls 15,I ls 16,I ls 17,I ls 18,I ls 19,I ls 20,D.aC 7 (esD (I ls 21))])
)
)
def sa(n:Nat)(ls:List D):Option (List D):=
 aw (aK 6 (I ls 0))<|
 R (ko 1 (I ls 10) none (some (I ls 1))) fun v11=>
 R (lenP v11) fun bO=>
 R (
 bm (afY n) n [v11,bO,J 0,aa (I ls 0) 0,aa (I ls 0) 1,aa (I ls 0) 2,aa (I ls 0) 3,aa (I ls 0) 4,aa (I ls 0) 5,I ls 2,I ls 3,I ls 4,I ls 5,I ls 6,I ls 7,I ls 8,I ls 9,I ls 10,I ls 11,I ls 12,I ls 13,D.aC 7 (esD (I ls 14))]
)<|a7 fun ls=>
 some [D.aQ [],I ls 0,I ls 1,I ls 2,I ls 3,I ls 4,I ls 5,I ls 6,I ls 7,I ls 8,I ls 9,I ls 10,I ls 11,D.aC 7 (esD (I ls 12))]
def afZ(n:Nat)(ab:D)(ah:D):Option D:=
 aw (aK 6 ab)<|
 aw (aK 12 ah)<|
 R (binP false .geq (aa ah 10) (J 0)) fun bO=>
 R (gD bO true (
 R (lenP (aa ah 8)) fun bE=>
 R (binP false .lss (aa ah 10) bE) fun ca=>
 some ca
)) fun ca=>
 R (pickP bO ca (ar false)) fun v20=>
 R (binP false .eql (aa ab 0) (J 6)) fun cE=>
 oif cE (
 R (binP false .neq (aa ah 10) (J 1)) fun cu=>
 R (gD cu false (
 R (unP .not v20) fun dH=>
 some dH
)) fun dH=>
 R (pickP cu (ar true) dH) fun dr=>
 oif dr (
 some (D.aQ [D.val (.slice none 0 0),ar false])
) (
 R (a3 6 (aa ab 5) (J 0)) fun wN=>
 R (aW true 6 0 wN) fun df=>
 R (a3 1 (aa ah 8) (J 1)) fun nz=>
 R (aW false 1 0 nz) fun dt=>
 aw (aK 6 df)<|
 aw (bA dt)<|
 aw (aK 7 (D.agg [aa df 0,aa df 1,aa df 2,aa df 3,aa df 4,aa df 5,dt]))<|
 some (D.aQ [D.aC 7 [[aa df 0,aa df 1,aa df 2,aa df 3,aa df 4,aa df 5,dt]],ar true])
)
) (
 R (binP false .eql (aa ab 0) (J 7)) fun dP=>
 oif dP (
 R (unP .not v20) fun gj=>
 oif gj (
 some (D.aQ [D.val (.slice none 0 0),ar false])
) (
 R (a3 6 (aa ab 5) (J 0)) fun r9=>
 R (aW true 6 0 r9) fun cX=>
 R (a3 1 (aa ah 8) (aa ah 10)) fun wJ=>
 R (aW false 1 0 wJ) fun eX=>
 aw (aK 6 cX)<|
 aw (bA eX)<|
 aw (aK 7 (D.agg [aa cX 0,aa cX 1,aa cX 2,aa cX 3,aa cX 4,aa cX 5,eX]))<|
 some (D.aQ [D.aC 7 [[aa cX 0,aa cX 1,aa cX 2,aa cX 3,aa cX 4,aa cX 5,eX]],ar true])
)
) (
 R (binP false .eql (aa ab 0) (J 8)) fun eH=>
 oif eH (
 R (a3 6 (aa ab 5) (J 0)) fun af0=>
 R (aW true 6 0 af0) fun il=>
 R (lenP (aa ah 8)) fun fI=>
 R (sa n [il,fI,aa ah 0,aa ah 1,aa ah 2,aa ah 3,aa ah 4,aa ah 5,aa ah 6,aa ah 7,aa ah 8,aa ah 9,aa ah 10,aa ah 11,D.aC 7 []]) fun ad=>
 R (binP false .eql (I ad 11) (J 0)) fun gv=>
 some (D.aQ [D.aC 7 (esD (I ad 13)),gv])
) (
 R (binP false .eql (aa ab 0) (J 9)) fun mT=>
 oif mT (
 R (unP .not v20) fun gO=>
 oif gO (
 some (D.aQ [D.val (.slice none 0 0),ar false])
) (
 R (a3 6 (aa ab 5) (J 0)) fun af1=>
 R (aW true 6 0 af1) fun kW=>
 R (sa n [kW,aa ah 10,aa ah 0,aa ah 1,aa ah 2,aa ah 3,aa ah 4,aa ah 5,aa ah 6,aa ah 7,aa ah 8,aa ah 9,aa ah 10,aa ah 11,D.aC 7 []]) fun ae=>
 R (a3 6 (aa ab 5) (J 1)) fun My=>
 R (aW true 6 0 My) fun hM=>
 R (a3 1 (I ae 9) (I ae 11)) fun af2=>
 R (aW false 1 0 af2) fun lB=>
 aw (aK 6 hM)<|
 aw (bA lB)<|
 aw (aK 7 (D.agg [aa hM 0,aa hM 1,aa hM 2,aa hM 3,aa hM 4,aa hM 5,lB]))<|
 aw (cY (((esD (I ae 13))).length+([[aa hM 0,aa hM 1,aa hM 2,aa hM 3,aa hM 4,aa hM 5,lB]]).length) 112)<|
 some (D.aQ [D.aC 7 ((esD (I ae 13))++[[aa hM 0,aa hM 1,aa hM 2,aa hM 3,aa hM 4,aa hM 5,lB]]),ar true])
)
) (
 R (a3 6 (aa ab 5) (J 0)) fun af3=>
 R (aW true 6 0 af3) fun py=>
 aw (aK 6 py)<|
 R (a3 6 (aa py 5) (J 1)) fun LY=>
 R (aW true 6 0 LY) fun vv=>
 R (ze n [vv,ar true]) fun im=>
 aw (aK 6 im)<|
 R (binP false .eql (aa ah 10) (J (-1))) fun wx=>
 oif wx (
 R (lenP (aa ah 8)) fun wy=>
 R (sa n [D.agg [aa im 0,aa im 1,aa im 2,aa im 3,aa im 4,aa im 5],wy,aa ah 0,aa ah 1,aa ah 2,aa ah 3,aa ah 4,aa ah 5,aa ah 6,aa ah 7,aa ah 8,aa ah 9,aa ah 10,aa ah 11,D.aC 7 []]) fun ay=>
 some (D.aQ [D.aC 7 (esD (I ay 13)),ar true])
) (
 R (unP .not v20) fun yN=>
 oif yN (
 some (D.aQ [D.val (.slice none 0 0),ar false])
) (
 R (binP false .add (aa ah 10) (J 1)) fun vT=>
 R (sa n [D.agg [aa im 0,aa im 1,aa im 2,aa im 3,aa im 4,aa im 5],vT,aa ah 0,aa ah 1,aa ah 2,aa ah 3,aa ah 4,aa ah 5,aa ah 6,aa ah 7,aa ah 8,aa ah 9,aa ah 10,aa ah 11,D.aC 7 []]) fun aZ=>
 R (a3 6 (aa py 5) (J 0)) fun Cv=>
 R (aW true 6 0 Cv) fun af4=>
 R (ze n [af4,ar true]) fun iu=>
 R (a3 1 (I aZ 9) (I aZ 11)) fun af5=>
 R (aW false 1 0 af5) fun Hl=>
 aw (aK 6 iu)<|
 aw (bA Hl)<|
 aw (aK 7 (D.agg [aa iu 0,aa iu 1,aa iu 2,aa iu 3,aa iu 4,aa iu 5,Hl]))<|
 aw (cY (((esD (I aZ 13))).length+([[aa iu 0,aa iu 1,aa iu 2,aa iu 3,aa iu 4,aa iu 5,Hl]]).length) 112)<|
 some (D.aQ [D.aC 7 ((esD (I aZ 13))++[[aa iu 0,aa iu 1,aa iu 2,aa iu 3,aa iu 4,aa iu 5,Hl]]),ar true])
)
)
)
)
)
)
def Mz(n:Nat):List D→Option D
 |[ab,ah]=>afZ n ab ah
 |_=>none
def af6(n:Nat)(ab:D)(ah:D)(aT:D):Option D:=
 aw (aK 9 ab)<|
 aw (aK 7 ah)<|
 aw (aK 12 aT)<|
 R (lenP (aa aT 8)) fun v11=>
 R (binP false .eql v11 (J 0)) fun bO=>
 R (gD bO true (
 R (binP false .eql (aa aT 9) (J 0)) fun bx=>
 some bx
)) fun bx=>
 R (pickP bO bx (ar false)) fun br=>
 R (binP false .eql (aa aT 0) (J 1)) fun bJ=>
 oif bJ (
 R (gD br true (
 R (binP false .eql (aa aT 10) (J 0)) fun ck=>
 some ck
)) fun ck=>
 R (pickP br ck (ar false)) fun cJ=>
 R (gD cJ true (
 R (Mx n [D.agg [aa ab 0,aa ab 1,aa ab 2,aa ab 3,aa ab 4,aa ab 5,aa ab 6,aa ab 7,aa ab 8],D.agg [aa ah 0,aa ah 1,aa ah 2,aa ah 3,aa ah 4,aa ah 5],aa ah 6]) fun ds=>
 some ds
)) fun ds=>
 R (pickP cJ ds (ar false)) fun fl=>
 some (D.aQ [D.val (.slice none 0 0),fl])
) (
 R (binP false .eql (aa aT 0) (J 2)) fun dk=>
 oif dk (
 R (gD br true (
 R (binP false .eql (aa aT 10) (J 0)) fun c1=>
 some c1
)) fun c1=>
 R (pickP br c1 (ar false)) fun dZ=>
 some (D.aQ [D.val (.slice none 0 0),dZ])
) (
 R (binP false .eql (aa aT 0) (J 3)) fun c2=>
 oif c2 (
 R (a3 6 (aa ah 5) (J 0)) fun r9=>
 R (aW true 6 0 r9) fun cX=>
 aw (aK 6 cX)<|
 aw (bA (aa ah 6))<|
 R (a3 6 (aa ah 5) (J 1)) fun Mv=>
 R (aW true 6 0 Mv) fun eo=>
 aw (aK 6 eo)<|
 aw (bA (aa ah 6))<|
 aw (aK 7 (D.agg [aa cX 0,aa cX 1,aa cX 2,aa cX 3,aa cX 4,aa cX 5,aa ah 6]))<|
 aw (aK 7 (D.agg [aa eo 0,aa eo 1,aa eo 2,aa eo 3,aa eo 4,aa eo 5,aa ah 6]))<|
 R (gD br true (
 R (binP false .eql (aa aT 10) (J 0)) fun fP=>
 some fP
)) fun fP=>
 R (pickP br fP (ar false)) fun fI=>
 some (D.aQ [D.aC 7 [[aa cX 0,aa cX 1,aa cX 2,aa cX 3,aa cX 4,aa cX 5,aa ah 6],[aa eo 0,aa eo 1,aa eo 2,aa eo 3,aa eo 4,aa eo 5,aa ah 6]],fI])
) (
 R (binP false .eql (aa aT 0) (J 4)) fun iN=>
 oif iN (
 R (binP false .neq (aa aT 10) (J 0)) fun gv=>
 R (gD gv true (
 R (binP false .neq (aa aT 10) (J 1)) fun gO=>
 some gO
)) fun gO=>
 R (pickP gv gO (ar false)) fun lz=>
 oif lz (
 some (D.aQ [D.val (.slice none 0 0),ar false])
) (
 R (a3 6 (aa ah 5) (aa aT 10)) fun af7=>
 R (aW true 6 0 af7) fun hk=>
 aw (aK 6 hk)<|
 aw (bA (aa ah 6))<|
 aw (aK 7 (D.agg [aa hk 0,aa hk 1,aa hk 2,aa hk 3,aa hk 4,aa hk 5,aa ah 6]))<|
 some (D.aQ [D.aC 7 [[aa hk 0,aa hk 1,aa hk 2,aa hk 3,aa hk 4,aa hk 5,aa ah 6]],br])
)
) (
 R (Mz n [D.agg [aa ah 0,aa ah 1,aa ah 2,aa ah 3,aa ah 4,aa ah 5],D.agg [aa aT 0,aa aT 1,aa aT 2,aa aT 3,aa aT 4,aa aT 5,aa aT 6,aa aT 7,aa aT 8,aa aT 9,aa aT 10,aa aT 11]]) fun ir=>
 R (extP 0 ir) fun iQ=>
 R (extP 1 ir) fun lB=>
 some (D.aQ [iQ,lB])
)
)
)
)
def MA(n:Nat):List D→Option D
 |[ab,ah,aT]=>af6 n ab ah aT
 |_=>none
def TQ(n:Nat)(ab:D)(x1:List D):Option D:=
 aw (aK 7 ab)<|
 R (aW false 1 6 x1) fun bN=>
 R (zf n [aa ab 0,bN]) fun cg=>
 R (gD cg true (
 R (aW true 6 0 x1) fun bR=>
 R (pD n [D.agg [aa ab 1,aa ab 2,aa ab 3,aa ab 4,aa ab 5,aa ab 6],bR]) fun bp=>
 some bp
)) fun bp=>
 R (pickP cg bp (ar false)) fun bg=>
 some bg
def Hm(n:Nat):List D→Option D
 |[ab,ah]=>(match ah with| .ref x1 0=>TQ n ab x1|_=>none)
 |_=>none
def af8(n:Nat)(ls:List D):Option (List D⊕(List D⊕D)):=
 R (binP false .lss (I ls 3) (I ls 2)) fun bG=>
 oif bG (
 R (a3 7 (I ls 0) (I ls 3)) fun eK=>
 R (aW true 7 0 eK) fun bg=>
 R (Hm n [bg,I ls 1]) fun bx=>
 oif bx (
 aU (
 aU (
 some (I ls 3)
)
)
) (
 R (binP false .add (I ls 3) (J 1)) fun bE=>
 some (.inl [I ls 0,I ls 1,I ls 2,bE])
)
) (
 aU (
 some (.inl [])
)
)
def TR(n:Nat)(ab:D)(b4:D):Option D:=
 R (lenP ab) fun bN=>
 R (
 bm (af8 n) n [ab,b4,bN,J 0]
)<|a7 fun ls=>
 some (J (-1))
def Hn(n:Nat):List D→Option D
 |[ab,ah]=>(match fnOf vp ah with|some [b4]=>TR n ab b4|_=>none)
 |_=>none
def TS(n:Nat)(ab:D)(b4:D):Option D:=
 R (Hn n [ab,(D.fn (.func vp) [] [b4])]) fun bN=>
 R (binP false .geq bN (J 0)) fun cg=>
 some cg
def Ho(n:Nat):List D→Option D
 |[ab,ah]=>(match fnOf vp ah with|some [b4]=>TS n ab b4|_=>none)
 |_=>none
def af9(wO:List D→Option (List D))(n:Nat)(ls:List D):Option (List D⊕(List D⊕(List D))):=
 R (binP false .lss (I ls 2) (I ls 1)) fun wx=>
 oif wx (
 R (a3 7 (I ls 0) (I ls 2)) fun Ml=>
 R (aW true 7 0 Ml) fun kx=>
 aw (aK 7 kx)<|
 R (a3 12 (I ls 23) (I ls 2)) fun aga=>
 R (aW true 12 0 aga) fun qF=>
 R (wO [D.agg [I ls 3,I ls 4,I ls 5,I ls 6,I ls 7,I ls 8,I ls 9,I ls 10,I ls 11],D.agg [aa kx 0,aa kx 1,aa kx 2,aa kx 3,aa kx 4,aa kx 5,aa kx 6],qF,D.aC 7 (esD (I ls 24))]) fun ad=>
 R (binP false .neq (I ad 0) (J 0)) fun vT=>
 oif vT (
 aU (
 aU (
 some [I ad 0,D.aC 7 (esD (I ad 1))]
)
)
) (
 R (binP false .add (I ls 2) (J 1)) fun qA=>
 some (.inl [I ls 0,I ls 1,qA,I ls 3,I ls 4,I ls 5,I ls 6,I ls 7,I ls 8,I ls 9,I ls 10,I ls 11,I ls 12,I ls 13,I ls 14,I ls 15,I ls 16,I ls 17,I ls 18,I ls 19,I ls 20,I ls 21,I ls 22,I ls 23,D.aC 7 (esD (I ad 1))])
)
) (
 aU (
 some (.inl [D.aC 7 (esD (I ls 24))])
)
)
def TT(wO:List D→Option (List D))(n:Nat)(ls:List D):Option (List D):=
 aw (aK 9 (I ls 0))<|
 aw (aK 7 (I ls 1))<|
 aw (aK 12 (I ls 2))<|
 R (binP false .lss (aa (I ls 2) 0) (J 1)) fun bx=>
 R (gD bx false (
 R (binP false .gtr (aa (I ls 2) 0) (J 5)) fun v20=>
 some v20
)) fun v20=>
 R (pickP bx (ar true) v20) fun bJ=>
 R (gD bJ false (
 R (Mr n [D.agg [aa (I ls 1) 0,aa (I ls 1) 1,aa (I ls 1) 2,aa (I ls 1) 3,aa (I ls 1) 4,aa (I ls 1) 5]]) fun cJ=>
 R (binP false .neq (aa (I ls 2) 0) cJ) fun cu=>
 some cu
)) fun cu=>
 R (pickP bJ (ar true) cu) fun cD=>
 R (gD cD false (
 R (zf n [aa (I ls 2) 1,aa (I ls 1) 6]) fun fl=>
 R (unP .not fl) fun df=>
 some df
)) fun df=>
 R (pickP cD (ar true) df) fun dk=>
 R (gD dk false (
 R (pD n [D.agg [aa (I ls 2) 2,aa (I ls 2) 3,aa (I ls 2) 4,aa (I ls 2) 5,aa (I ls 2) 6,aa (I ls 2) 7],D.agg [aa (I ls 1) 0,aa (I ls 1) 1,aa (I ls 1) 2,aa (I ls 1) 3,aa (I ls 1) 4,aa (I ls 1) 5]]) fun dZ=>
 R (unP .not dZ) fun dP=>
 some dP
)) fun dP=>
 R (pickP dk (ar true) dP) fun c2=>
 oif c2 (
 some [J 23,D.aC 7 (esD (I ls 3))]
) (
 R (binP false .eql (aa (I ls 2) 0) (J 5)) fun fH=>
 R (gD fH true (
 R (Dg n [D.agg [aa (I ls 0) 0,aa (I ls 0) 1,aa (I ls 0) 2,aa (I ls 0) 3,aa (I ls 0) 4,aa (I ls 0) 5,aa (I ls 0) 6,aa (I ls 0) 7,aa (I ls 0) 8],aa (I ls 2) 8,aa (I ls 2) 9]) fun fa=>
 R (unP .not fa) fun eX=>
 some eX
)) fun gU=>
 R (gD gU false (
 R (a3 1 (aa (I ls 2) 8) (J 0)) fun agb=>
 R (aW false 1 0 agb) fun gr=>
 R (zf n [gr,aa (I ls 2) 1]) fun g6=>
 R (unP .not g6) fun il=>
 some il
)) fun il=>
 R (gD fH true (
 R (pickP gU (ar true) il) fun dW=>
 some dW
)) fun dW=>
 R (pickP fH dW (ar false)) fun fP=>
 oif fP (
 some [J 22,D.aC 7 (esD (I ls 3))]
) (
 R (MA n [D.agg [aa (I ls 0) 0,aa (I ls 0) 1,aa (I ls 0) 2,aa (I ls 0) 3,aa (I ls 0) 4,aa (I ls 0) 5,aa (I ls 0) 6,aa (I ls 0) 7,aa (I ls 0) 8],D.agg [aa (I ls 1) 0,aa (I ls 1) 1,aa (I ls 1) 2,aa (I ls 1) 3,aa (I ls 1) 4,aa (I ls 1) 5,aa (I ls 1) 6],D.agg [aa (I ls 2) 0,aa (I ls 2) 1,aa (I ls 2) 2,aa (I ls 2) 3,aa (I ls 2) 4,aa (I ls 2) 5,aa (I ls 2) 6,aa (I ls 2) 7,aa (I ls 2) 8,aa (I ls 2) 9,aa (I ls 2) 10,aa (I ls 2) 11]]) fun gu=>
 R (extP 0 gu) fun gv=>
 R (extP 1 gu) fun gF=>
 R (unP .not gF) fun hj=>
 R (gD hj false (
 R (lenP gv) fun nD=>
 R (lenP (aa (I ls 2) 11)) fun kW=>
 R (binP false .neq nD kW) fun j0=>
 some j0
)) fun j0=>
 R (pickP hj (ar true) j0) fun g7=>
 oif g7 (
 some [J 23,D.aC 7 (esD (I ls 3))]
) (
 R (binP false .eql (aa (I ls 2) 0) (J 2)) fun px=>
 R (gD px true (
 R (Ho n [D.aC 7 (esD (I ls 3)),(D.fn (.func vp) [] [D.ref [aa (I ls 1) 0,aa (I ls 1) 1,aa (I ls 1) 2,aa (I ls 1) 3,aa (I ls 1) 4,aa (I ls 1) 5,aa (I ls 1) 6] 0])]) fun lY=>
 aw lY.flat<|
 R (unP .not lY) fun ir=>
 some ir
)) fun ir=>
 R (pickP px ir (ar false)) fun iQ=>
 R (
 oif iQ (
 aw (bA (aa (I ls 1) 6))<|
 aw (aK 6 (D.agg [aa (I ls 1) 0,aa (I ls 1) 1,aa (I ls 1) 2,aa (I ls 1) 3,aa (I ls 1) 4,aa (I ls 1) 5]))<|
 aw (aK 7 (D.agg [aa (I ls 1) 6,aa (I ls 1) 0,aa (I ls 1) 1,aa (I ls 1) 2,aa (I ls 1) 3,aa (I ls 1) 4,aa (I ls 1) 5]))<|
 aw (cY (((esD (I ls 3))).length+([[aa (I ls 1) 6,aa (I ls 1) 0,aa (I ls 1) 1,aa (I ls 1) 2,aa (I ls 1) 3,aa (I ls 1) 4,aa (I ls 1) 5]]).length) 112)<|
 some (.inl [gv,aa (I ls 0) 0,aa (I ls 0) 1,aa (I ls 0) 2,aa (I ls 0) 3,aa (I ls 0) 4,aa (I ls 0) 5,aa (I ls 0) 6,aa (I ls 0) 7,aa (I ls 0) 8,aa (I ls 2) 0,aa (I ls 2) 1,aa (I ls 2) 2,aa (I ls 2) 3,aa (I ls 2) 4,aa (I ls 2) 5,aa (I ls 2) 6,aa (I ls 2) 7,aa (I ls 2) 8,aa (I ls 2) 9,aa (I ls 2) 10,aa (I ls 2) 11,D.aC 7 ((esD (I ls 3))++[[aa (I ls 1) 6,aa (I ls 1) 0,aa (I ls 1) 1,aa (I ls 1) 2,aa (I ls 1) 3,aa (I ls 1) 4,aa (I ls 1) 5]])])
) (
 some (.inl [gv,aa (I ls 0) 0,aa (I ls 0) 1,aa (I ls 0) 2,aa (I ls 0) 3,aa (I ls 0) 4,aa (I ls 0) 5,aa (I ls 0) 6,aa (I ls 0) 7,aa (I ls 0) 8,aa (I ls 2) 0,aa (I ls 2) 1,aa (I ls 2) 2,aa (I ls 2) 3,aa (I ls 2) 4,aa (I ls 2) 5,aa (I ls 2) 6,aa (I ls 2) 7,aa (I ls 2) 8,aa (I ls 2) 9,aa (I ls 2) 10,aa (I ls 2) 11,D.aC 7 (esD (I ls 3))])
)
)<|a7 fun ls=>
 R (lenP (I ls 0)) fun wh=>
 R (
 bm (af9 wO n) n [I ls 0,wh,J 0,I ls 1,I ls 2,I ls 3,I ls 4,I ls 5,I ls 6,I ls 7,I ls 8,I ls 9,I ls 10,I ls 11,I ls 12,I ls 13,I ls 14,I ls 15,I ls 16,I ls 17,I ls 18,I ls 19,I ls 20,I ls 21,D.aC 7 (esD (I ls 22))]
)<|a7 fun ls=>
 some [J 0,D.aC 7 (esD (I ls 0))]
)
)
)
def zj:Nat→List D→Option (List D)
 |0,_=>none
 |n+1,ls=>TT (zj n) n ls
def agc(n:Nat)(ab:D)(ah:D)(aT:D)(bP:D):Option D:=
 aw (aK 8 ab)<|
 aw (aK 6 ah)<|
 aw (aK 12 bP)<|
 R (j1 n [D.agg [aa ab 0,aa ab 1,aa ab 2,aa ab 3,aa ab 4,aa ab 5,aa ab 6,aa ab 7]]) fun bx=>
 R (extP 0 bx) fun br=>
 R (extP 1 bx) fun bE=>
 aw (aK 9 br)<|
 R (unP .not bE) fun v20=>
 oif v20 (
 some (D.aQ [D.val (.slice none 0 0),J 1])
) (
 R (ny n [D.agg [aa ah 0,aa ah 1,aa ah 2,aa ah 3,aa ah 4,aa ah 5]]) fun bS=>
 R (binP false .neq bS (J 0)) fun cq=>
 oif cq (
 some (D.aQ [D.val (.slice none 0 0),bS])
) (
 R (j2 n [D.agg [aa br 0,aa br 1,aa br 2,aa br 3,aa br 4,aa br 5,aa br 6,aa br 7,aa br 8],aT]) fun cu=>
 R (unP .not cu) fun cD=>
 oif cD (
 some (D.aQ [D.val (.slice none 0 0),J 21])
) (
 R (ze n [D.agg [aa ah 0,aa ah 1,aa ah 2,aa ah 3,aa ah 4,aa ah 5],ar false]) fun dr=>
 aw (aK 6 dr)<|
 aw (bA aT)<|
 R (zj n [D.agg [aa br 0,aa br 1,aa br 2,aa br 3,aa br 4,aa br 5,aa br 6,aa br 7,aa br 8],D.agg [aa dr 0,aa dr 1,aa dr 2,aa dr 3,aa dr 4,aa dr 5,aT],D.agg [aa bP 0,aa bP 1,aa bP 2,aa bP 3,aa bP 4,aa bP 5,aa bP 6,aa bP 7,aa bP 8,aa bP 9,aa bP 10,aa bP 11],D.aC 7 []]) fun ad=>
 R (binP false .neq (I ad 0) (J 0)) fun dg=>
 oif dg (
 some (D.aQ [D.val (.slice none 0 0),I ad 0])
) (
 some (D.aQ [D.aC 7 (esD (I ad 1)),J 0])
)
)
)
)
def MB(n:Nat):List D→Option D
 |[ab,ah,aT,bP]=>agc n ab ah aT bP
 |_=>none
def agd(n:Nat)(ab:D)(ah:D)(aT:D):Option D:=
 aw (aK 8 ab)<|
 aw (aK 6 ah)<|
 R (j1 n [D.agg [aa ab 0,aa ab 1,aa ab 2,aa ab 3,aa ab 4,aa ab 5,aa ab 6,aa ab 7]]) fun v11=>
 R (extP 0 v11) fun bO=>
 R (extP 1 v11) fun bR=>
 aw (aK 9 bO)<|
 R (unP .not bR) fun bg=>
 oif bg (
 some (D.aQ [ar false,ar false])
) (
 R (zi n [D.agg [aa bO 0,aa bO 1,aa bO 2,aa bO 3,aa bO 4,aa bO 5,aa bO 6,aa bO 7,aa bO 8],D.agg [aa ah 0,aa ah 1,aa ah 2,aa ah 3,aa ah 4,aa ah 5],aT]) fun ca=>
 R (extP 0 ca) fun v20=>
 R (extP 1 ca) fun bJ=>
 some (D.aQ [v20,bJ])
)
def MC(n:Nat):List D→Option D
 |[ab,ah,aT]=>agd n ab ah aT
 |_=>none
def MD(n:Nat)(ab:D)(ah:D)(aT:D):Option D:=
 aw (aK 8 ab)<|
 R (j1 n [D.agg [aa ab 0,aa ab 1,aa ab 2,aa ab 3,aa ab 4,aa ab 5,aa ab 6,aa ab 7]]) fun v11=>
 R (extP 0 v11) fun bO=>
 R (extP 1 v11) fun bR=>
 aw (aK 9 bO)<|
 R (gD bR true (
 R (pE n [D.agg [aa bO 0,aa bO 1,aa bO 2,aa bO 3,aa bO 4,aa bO 5,aa bO 6,aa bO 7,aa bO 8],ah,aT]) fun ca=>
 some ca
)) fun ca=>
 R (pickP bR ca (ar false)) fun v20=>
 some v20
def tI(n:Nat):List D→Option D
 |[ab,ah,aT]=>MD n ab ah aT
 |_=>none
def age(n:Nat)(ab:D)(ah:D)(aT:D):Option D:=
 aw (aK 8 ab)<|
 R (j1 n [D.agg [aa ab 0,aa ab 1,aa ab 2,aa ab 3,aa ab 4,aa ab 5,aa ab 6,aa ab 7]]) fun v11=>
 R (extP 0 v11) fun bO=>
 R (extP 1 v11) fun bR=>
 aw (aK 9 bO)<|
 R (gD bR true (
 R (Dg n [D.agg [aa bO 0,aa bO 1,aa bO 2,aa bO 3,aa bO 4,aa bO 5,aa bO 6,aa bO 7,aa bO 8],ah,aT]) fun ca=>
 some ca
)) fun ca=>
 R (pickP bR ca (ar false)) fun v20=>
 some v20
def ME(n:Nat):List D→Option D
 |[ab,ah,aT]=>age n ab ah aT
 |_=>none
def agf(n:Nat):Option D:=
 R (LF n []) fun bG=>
 aw (aK 8 bG)<|
 aw (aK 6 (D.agg [J 1,J 10,J 0,aJ ⟨#[]⟩,D.aC 4 [[J 3,J 0,aJ ⟨#[120]⟩,D.val (.slice none 0 0)],[J 1,J 2,aJ ⟨#[]⟩,D.val (.slice none 0 0)]],D.val (.slice none 0 0)]))<|
 aw (bA (D.aC 1 [[J 0]]))<|
 aw (bA (D.aC 1 [[J 1]]))<|
 aw (bA (D.aC 1 [[J 2]]))<|
 aw (aK 6 (D.agg [J 1,J 10,J 0,aJ ⟨#[]⟩,D.aC 4 [[J 3,J 0,aJ ⟨#[120]⟩,D.val (.slice none 0 0)],[J 1,J 2,aJ ⟨#[]⟩,D.val (.slice none 0 0)]],D.val (.slice none 0 0)]))<|
 aw (aK 12 (D.agg [J 1,D.aC 1 [[J 2]],J 1,J 10,J 0,aJ ⟨#[]⟩,D.aC 4 [[J 3,J 0,aJ ⟨#[120]⟩,D.val (.slice none 0 0)],[J 1,J 2,aJ ⟨#[]⟩,D.val (.slice none 0 0)]],D.val (.slice none 0 0),D.val (.slice none 0 0),J 0,J 0,D.val (.slice none 0 0)]))<|
 R (MB n [D.agg [aa bG 0,aa bG 1,aa bG 2,aa bG 3,aa bG 4,aa bG 5,aa bG 6,aa bG 7],D.agg [J 7,J 0,J 0,aJ ⟨#[]⟩,D.val (.slice none 0 0),D.aC 6 [[J 1,J 10,J 0,aJ ⟨#[]⟩,D.aC 4 [[J 3,J 0,aJ ⟨#[120]⟩,D.val (.slice none 0 0)],[J 1,J 2,aJ ⟨#[]⟩,D.val (.slice none 0 0)]],D.val (.slice none 0 0)]]],D.aC 1 [[J 0]],D.agg [J 5,D.aC 1 [[J 0]],J 7,J 0,J 0,aJ ⟨#[]⟩,D.val (.slice none 0 0),D.aC 6 [[J 1,J 10,J 0,aJ ⟨#[]⟩,D.aC 4 [[J 3,J 0,aJ ⟨#[120]⟩,D.val (.slice none 0 0)],[J 1,J 2,aJ ⟨#[]⟩,D.val (.slice none 0 0)]],D.val (.slice none 0 0)]],D.aC 1 [[D.aC 1 [[J 0]]],[D.aC 1 [[J 1]]],[D.aC 1 [[J 2]]]],J 0,J 2,D.aC 12 [[J 1,D.aC 1 [[J 2]],J 1,J 10,J 0,aJ ⟨#[]⟩,D.aC 4 [[J 3,J 0,aJ ⟨#[120]⟩,D.val (.slice none 0 0)],[J 1,J 2,aJ ⟨#[]⟩,D.val (.slice none 0 0)]],D.val (.slice none 0 0),D.val (.slice none 0 0),J 0,J 0,D.val (.slice none 0 0)]]]]) fun ds=>
 R (extP 0 ds) fun fl=>
 R (extP 1 ds) fun df=>
 R (MC n [D.agg [aa bG 0,aa bG 1,aa bG 2,aa bG 3,aa bG 4,aa bG 5,aa bG 6,aa bG 7],D.agg [J 1,J 10,J 0,aJ ⟨#[]⟩,D.aC 4 [[J 3,J 0,aJ ⟨#[120]⟩,D.val (.slice none 0 0)],[J 1,J 2,aJ ⟨#[]⟩,D.val (.slice none 0 0)]],D.val (.slice none 0 0)],D.aC 1 [[J 2]]]) fun e2=>
 aw e2.flat<|
 R (extP 0 e2) fun c1=>
 R (extP 1 e2) fun dZ=>
 R (binP false .eql df (J 0)) fun c2=>
 R (gD c2 true (
 R (lenP fl) fun fH=>
 R (binP false .eql fH (J 0)) fun eA=>
 some eA
)) fun eA=>
 R (pickP c2 eA (ar false)) fun cX=>
 R (gD cX true (
 some c1
)) fun e3=>
 R (pickP cX e3 (ar false)) fun hL=>
 R (gD hL true (
 some dZ
)) fun fa=>
 R (pickP hL fa (ar false)) fun eX=>
 R (gD eX true (
 R (tI n [D.agg [aa bG 0,aa bG 1,aa bG 2,aa bG 3,aa bG 4,aa bG 5,aa bG 6,aa bG 7],D.aC 1 [[J 2]],D.aC 1 [[J 0]]]) fun gr=>
 aw gr.flat<|
 some gr
)) fun gr=>
 R (pickP eX gr (ar false)) fun iq=>
 R (gD iq true (
 R (ME n [D.agg [aa bG 0,aa bG 1,aa bG 2,aa bG 3,aa bG 4,aa bG 5,aa bG 6,aa bG 7],D.aC 1 [[D.aC 1 [[J 0]]],[D.aC 1 [[J 1]]],[D.aC 1 [[J 2]]]],J 2]) fun fP=>
 R (unP .not fP) fun fI=>
 some fI
)) fun fI=>
 R (pickP iq fI (ar false)) fun ep=>
 some ep
def zk(n:Nat):List D→Option D
 |[]=>agf n
 |_=>none
def TU(n:Nat)(ab:D):Option D:=
 R (binP false .geq ab (D.val (.int .u8 97))) fun v4=>
 R (gD v4 true (
 R (binP false .leq ab (D.val (.int .u8 122))) fun bN=>
 some bN
)) fun bN=>
 R (pickP v4 bN (ar false)) fun cg=>
 R (gD cg false (
 R (binP false .geq ab (D.val (.int .u8 65))) fun v11=>
 some v11
)) fun bO=>
 R (gD bO true (
 R (binP false .leq ab (D.val (.int .u8 90))) fun bp=>
 some bp
)) fun bp=>
 R (gD cg false (
 R (pickP bO bp (ar false)) fun bg=>
 some bg
)) fun bg=>
 R (pickP cg (ar true) bg) fun bx=>
 some bx
def wP(n:Nat):List D→Option D
 |[ab]=>TU n ab
 |_=>none
def TV(n:Nat)(ab:D):Option D:=
 R (binP false .geq ab (D.val (.int .u8 48))) fun v4=>
 R (gD v4 true (
 R (binP false .leq ab (D.val (.int .u8 57))) fun bN=>
 some bN
)) fun bN=>
 R (pickP v4 bN (ar false)) fun cg=>
 some cg
def Dh(n:Nat):List D→Option D
 |[ab]=>TV n ab
 |_=>none
def Di(n:Nat)(ls:List D):Option (List D⊕(List D⊕D)):=
 R (nj (I ls 0)) fun bG=>
 R (binP false .lss (I ls 1) bG) fun v10=>
 R (gD v10 true (
 R (sixP (I ls 0) (I ls 1)) fun bp=>
 R (Dh n [bp]) fun bg=>
 some bg
)) fun bx=>
 R (gD bx false (
 R (unP .not (I ls 2)) fun bE=>
 some bE
)) fun ca=>
 R (gD ca true (
 R (sixP (I ls 0) (I ls 1)) fun bS=>
 R (wP n [bS]) fun b7=>
 some b7
)) fun cq=>
 R (gD cq false (
 R (sixP (I ls 0) (I ls 1)) fun cJ=>
 R (binP false .eql cJ (D.val (.int .u8 95))) fun cu=>
 some cu
)) fun cu=>
 R (gD ca true (
 R (pickP cq (ar true) cu) fun cD=>
 some cD
)) fun cD=>
 R (gD bx false (
 R (pickP ca cD (ar false)) fun v30=>
 some v30
)) fun v30=>
 R (gD v10 true (
 R (pickP bx (ar true) v30) fun dH=>
 some dH
)) fun dH=>
 R (pickP v10 dH (ar false)) fun dr=>
 oif dr (
 R (binP false .add (I ls 1) (J 1)) fun ds=>
 some (.inl [I ls 0,ds,I ls 2])
) (
 aU (
 some (.inl [I ls 1])
)
)
def TW(n:Nat)(ab:D)(ah:D)(aT:D):Option D:=
 R (
 bm (Di n) n [ab,ah,aT]
)<|a7 fun ls=>
 some (I ls 0)
def Dj(n:Nat):List D→Option D
 |[ab,ah,aT]=>TW n ab ah aT
 |_=>none
def agh(n:Nat):Option D:=
 some (D.aC 1 [[aJ ⟨#[65]⟩],[aJ ⟨#[65,70]⟩],[aJ ⟨#[65,71]⟩],[aJ ⟨#[65,88]⟩],[aJ ⟨#[69]⟩],[aJ ⟨#[69,70]⟩],[aJ ⟨#[69,71]⟩],[aJ ⟨#[69,88]⟩],[aJ ⟨#[85]⟩],[aJ ⟨#[98,111,111,108]⟩],[aJ ⟨#[100,101,102]⟩],[aJ ⟨#[101,108,115,101]⟩],[aJ ⟨#[102,97,105,114]⟩],[aJ ⟨#[102,97,108,115,101]⟩],[aJ ⟨#[105,102]⟩],[aJ ⟨#[105,110,105,116]⟩],[aJ ⟨#[105,110,118,97,114]⟩],[aJ ⟨#[109,111,100]⟩],[aJ ⟨#[110,101,120,116]⟩],[aJ ⟨#[115,112,101,99]⟩],[aJ ⟨#[116,104,101,110]⟩],[aJ ⟨#[116,114,97,110,115]⟩],[aJ ⟨#[116,114,117,101]⟩],[aJ ⟨#[118,97,114]⟩]])
def Hp(n:Nat):List D→Option D
 |[]=>agh n
 |_=>none
def zl(n:Nat)(ls:List D):Option (List D⊕(List D⊕D)):=
 R (lenP (I ls 0)) fun cg=>
 R (binP false .lss (I ls 2) cg) fun bG=>
 oif bG (
 R (a3 1 (I ls 0) (I ls 2)) fun eK=>
 R (aW false 1 0 eK) fun bg=>
 R (binP false .eql bg (I ls 1)) fun br=>
 oif br (
 aU (
 aU (
 some (ar true)
)
)
) (
 R (binP false .add (I ls 2) (J 1)) fun v11=>
 some (.inl [I ls 0,I ls 1,v11])
)
) (
 aU (
 some (.inl [])
)
)
def MF(n:Nat)(ab:D)(ah:D):Option D:=
 R (
 bm (zl n) n [ab,ah,J 0]
)<|a7 fun ls=>
 some (ar false)
def zm(n:Nat):List D→Option D
 |[ab,ah]=>MF n ab ah
 |_=>none
def MG(n:Nat)(ab:D):Option D:=
 R (nj ab) fun v4=>
 R (binP false .geq v4 (J 1)) fun jZ=>
 R (gD jZ true (
 R (nj ab) fun cg=>
 R (binP false .leq cg (J 24)) fun bG=>
 some bG
)) fun bG=>
 R (pickP jZ bG (ar false)) fun v10=>
 R (gD v10 true (
 R (sixP ab (J 0)) fun bR=>
 R (wP n [bR]) fun bp=>
 some bp
)) fun bp=>
 R (pickP v10 bp (ar false)) fun bg=>
 R (gD bg true (
 R (Dj n [ab,J 0,ar false]) fun bE=>
 R (nj ab) fun v20=>
 R (binP false .eql bE v20) fun bJ=>
 some bJ
)) fun bJ=>
 R (pickP bg bJ (ar false)) fun bS=>
 R (gD bS true (
 R (Hp n []) fun cq=>
 R (zm n [cq,ab]) fun ck=>
 R (unP .not ck) fun cJ=>
 some cJ
)) fun cJ=>
 R (pickP bS cJ (ar false)) fun cu=>
 some cu
def qQ(n:Nat):List D→Option D
 |[ab]=>MG n ab
 |_=>none
def TX(n:Nat)(ab:D):Option D:=
 R (binP false .geq ab (J (-255))) fun v4=>
 R (gD v4 true (
 R (binP false .leq ab (J 255)) fun bN=>
 some bN
)) fun bN=>
 R (pickP v4 bN (ar false)) fun cg=>
 some cg
def zn(n:Nat):List D→Option D
 |[ab]=>TX n ab
 |_=>none
def TY(n:Nat)(ab:D):Option D:=
 aw (aK 4 ab)<|
 oif (aa ab 1) (
 some (J 2)
) (
 R (binP false .gtr (aa ab 2) (aa ab 3)) fun v10=>
 oif v10 (
 some (J 0)
) (
 R (cvP .u64 (aa ab 3)) fun bR=>
 R (cvP .u64 (aa ab 2)) fun bx=>
 R (binP false .sub bR bx) fun br=>
 R (binP false .gtr br (D.val (.int .u64 1073741824))) fun ca=>
 R (
 oif ca (
 some (.inl [D.val (.int .u64 1073741824)])
) (
 some (.inl [br])
)
)<|a7 fun ls=>
 R (cvP .i64 (I ls 0)) fun bJ=>
 R (binP false .add bJ (J 1)) fun bS=>
 some bS
)
)
def wQ(n:Nat):List D→Option D
 |[ab]=>TY n ab
 |_=>none
def Dk(n:Nat)(ls:List D):Option (List D⊕(List D⊕(List D⊕(List D⊕(List D⊕D))))):=
 R (binP false .lss (I ls 2) (I ls 1)) fun bS=>
 oif bS (
 R (a3 4 (I ls 0) (I ls 2)) fun Mw=>
 R (aW false 1 0 Mw) fun cD=>
 R (a3 4 (I ls 0) (I ls 1)) fun LR=>
 R (aW false 1 0 LR) fun ds=>
 R (binP false .eql cD ds) fun fl=>
 oif fl (
 aU (
 aU (
 aU (
 aU (
 aU (
 some (D.aQ [I ls 1,J 6])
)
)
)
)
)
) (
 R (binP false .add (I ls 2) (J 1)) fun cq=>
 some (.inl [I ls 0,I ls 1,cq])
)
) (
 aU (
 some (.inl [I ls 0,I ls 1])
)
)
def wR(n:Nat)(ls:List D):Option (List D⊕(List D⊕D)):=
 R (lenP (I ls 0)) fun cg=>
 R (binP false .lss (I ls 1) cg) fun bG=>
 oif bG (
 R (
 R (a3 4 (I ls 0) (I ls 1)) fun eK=>
 R (aW false 1 0 eK) fun bx=>
 R (qQ n [bx]) fun br=>
 R (unP .not br) fun bE=>
 oif bE (
 aU (
 aU (
 aU (
 some (D.aQ [I ls 1,J 12])
)
)
)
) (
 R (
 bm (Dk n) n [I ls 0,I ls 1,J 0]
)<|a7 fun ls=>
 R (a3 4 (I ls 0) (I ls 1)) fun nz=>
 R (aW false 1 1 nz) fun e2=>
 R (gD e2 true (
 R (a3 4 (I ls 0) (I ls 1)) fun Dl=>
 R (aW false 1 2 Dl) fun iO=>
 R (binP false .neq iO (J 0)) fun fH=>
 some fH
)) fun eA=>
 R (gD eA false (
 R (a3 4 (I ls 0) (I ls 1)) fun LU=>
 R (aW false 1 3 LU) fun hA=>
 R (binP false .neq hA (J 0)) fun fa=>
 some fa
)) fun fa=>
 R (gD e2 true (
 R (pickP eA (ar true) fa) fun eX=>
 some eX
)) fun eX=>
 R (pickP e2 eX (ar false)) fun gU=>
 oif gU (
 aU (
 aU (
 aU (
 some (D.aQ [I ls 1,J 3])
)
)
)
) (
 R (a3 4 (I ls 0) (I ls 1)) fun Cn=>
 R (aW false 1 1 Cn) fun kV=>
 R (unP .not kV) fun g6=>
 R (gD g6 true (
 R (a3 4 (I ls 0) (I ls 1)) fun MH=>
 R (aW false 1 2 MH) fun iN=>
 R (a3 4 (I ls 0) (I ls 1)) fun Df=>
 R (aW false 1 3 Df) fun mT=>
 R (binP false .gtr iN mT) fun hj=>
 some hj
)) fun gO=>
 R (gD gO false (
 R (a3 4 (I ls 0) (I ls 1)) fun Mo=>
 R (aW false 1 2 Mo) fun kW=>
 R (zn n [kW]) fun j0=>
 R (unP .not j0) fun g7=>
 some g7
)) fun g7=>
 R (gD g6 true (
 R (pickP gO (ar true) g7) fun hk=>
 some hk
)) fun jH=>
 R (gD jH false (
 R (a3 4 (I ls 0) (I ls 1)) fun My=>
 R (aW false 1 3 My) fun wu=>
 R (zn n [wu]) fun tD=>
 R (unP .not tD) fun lY=>
 some lY
)) fun lY=>
 R (gD g6 true (
 R (pickP jH (ar true) lY) fun ir=>
 some ir
)) fun iQ=>
 R (gD iQ false (
 R (a3 4 (I ls 0) (I ls 1)) fun Mk=>
 R (aW true 4 0 Mk) fun wv=>
 R (wQ n [wv]) fun vw=>
 R (binP false .gtr vw (J 64)) fun pq=>
 some pq
)) fun pq=>
 R (gD g6 true (
 R (pickP iQ (ar true) pq) fun C1=>
 some C1
)) fun C1=>
 R (pickP g6 C1 (ar false)) fun py=>
 oif py (
 aU (
 aU (
 aU (
 some (D.aQ [I ls 1,J 2])
)
)
)
) (
 some (.inl [I ls 0,I ls 1])
)
)
)
)<|a7 fun ls=>
 R (binP false .add (I ls 1) (J 1)) fun v11=>
 some (.inl [I ls 0,v11])
) (
 aU (
 some (.inl [])
)
)
def agi(n:Nat)(ab:D):Option D:=
 R (
 bm (wR n) n [ab,J 0]
)<|a7 fun ls=>
 some (D.aQ [J 0,J 0])
def Dm(n:Nat):List D→Option D
 |[ab]=>agi n ab
 |_=>none
def Hq(n:Nat)(ls:List D):Option (List D⊕(List D⊕D)):=
 R (binP false .gtr (I ls 0) (J 1)) fun jZ=>
 oif jZ (
 R (binP false .quo (I ls 0) (J 2)) fun bN=>
 R (binP false .rem (I ls 0) (J 2)) fun bG=>
 R (binP false .add bN bG) fun v10=>
 R (binP false .add (I ls 1) (J 1)) fun bO=>
 some (.inl [v10,bO])
) (
 aU (
 some (.inl [I ls 1])
)
)
def TZ(n:Nat)(ab:D):Option D:=
 R (
 bm (Hq n) n [ab,J 0]
)<|a7 fun ls=>
 some (I ls 0)
def Dn(n:Nat):List D→Option D
 |[ab]=>TZ n ab
 |_=>none
def Hr(n:Nat)(ls:List D):Option (List D⊕(List D⊕D)):=
 R (lenP (I ls 2)) fun cg=>
 R (binP false .lss (I ls 1) cg) fun bG=>
 oif bG (
 R (a3 4 (I ls 2) (I ls 1)) fun pw=>
 R (aW true 4 0 pw) fun br=>
 R (wQ n [br]) fun bE=>
 R (Dn n [bE]) fun ca=>
 R (binP false .add (I ls 0) ca) fun v20=>
 R (binP false .add (I ls 1) (J 1)) fun v11=>
 some (.inl [v20,v11,I ls 2,I ls 3,I ls 4,I ls 5,I ls 6,I ls 7,I ls 8,I ls 9])
) (
 aU (
 some (.inl [I ls 0])
)
)
def T0(n:Nat)(ab:D):Option D:=
 aw (aK 8 ab)<|
 R (
 bm (Hr n) n [J 0,J 0,aa ab 0,aa ab 1,aa ab 2,aa ab 3,aa ab 4,aa ab 5,aa ab 6,aa ab 7]
)<|a7 fun ls=>
 some (I ls 0)
def Dp(n:Nat):List D→Option D
 |[ab]=>T0 n ab
 |_=>none
def Dq(n:Nat)(ls:List D):Option (List D⊕(List D⊕D)):=
 R (lenP (I ls 2)) fun bG=>
 R (binP false .lss (I ls 1) bG) fun v10=>
 oif v10 (
 R (a3 4 (I ls 2) (I ls 1)) fun pw=>
 R (aW false 1 0 pw) fun bE=>
 R (binP false .eql bE (I ls 0)) fun v20=>
 oif v20 (
 aU (
 aU (
 some (I ls 1)
)
)
) (
 R (binP false .add (I ls 1) (J 1)) fun bO=>
 some (.inl [I ls 0,bO,I ls 2,I ls 3,I ls 4,I ls 5,I ls 6,I ls 7,I ls 8,I ls 9])
)
) (
 aU (
 some (.inl [])
)
)
def T1(n:Nat)(ab:D)(ah:D):Option D:=
 aw (aK 8 ab)<|
 R (
 bm (Dq n) n [ah,J 0,aa ab 0,aa ab 1,aa ab 2,aa ab 3,aa ab 4,aa ab 5,aa ab 6,aa ab 7]
)<|a7 fun ls=>
 some (J (-1))
def wS(n:Nat):List D→Option D
 |[ab,ah]=>T1 n ab ah
 |_=>none
def Dr(n:Nat)(ls:List D):Option (List D⊕(List D⊕D)):=
 R (lenP (I ls 3)) fun bG=>
 R (binP false .lss (I ls 1) bG) fun v10=>
 oif v10 (
 R (a3 5 (I ls 3) (I ls 1)) fun pw=>
 R (aW false 1 0 pw) fun bE=>
 R (binP false .eql bE (I ls 0)) fun v20=>
 oif v20 (
 aU (
 aU (
 some (I ls 1)
)
)
) (
 R (binP false .add (I ls 1) (J 1)) fun bO=>
 some (.inl [I ls 0,bO,I ls 2,I ls 3,I ls 4,I ls 5,I ls 6,I ls 7,I ls 8,I ls 9])
)
) (
 aU (
 some (.inl [])
)
)
def T2(n:Nat)(ab:D)(ah:D):Option D:=
 aw (aK 8 ab)<|
 R (
 bm (Dr n) n [ah,J 0,aa ab 0,aa ab 1,aa ab 2,aa ab 3,aa ab 4,aa ab 5,aa ab 6,aa ab 7]
)<|a7 fun ls=>
 some (J (-1))
def wT(n:Nat):List D→Option D
 |[ab,ah]=>T2 n ab ah
 |_=>none
def Ds(n:Nat)(ls:List D):Option (List D⊕(List D⊕D)):=
 R (lenP (I ls 0)) fun cg=>
 R (binP false .lss (I ls 2) cg) fun bG=>
 oif bG (
 R (a3 1 (I ls 0) (I ls 2)) fun eK=>
 R (aW false 1 0 eK) fun bg=>
 R (binP false .eql bg (I ls 1)) fun br=>
 oif br (
 aU (
 aU (
 some (ar true)
)
)
) (
 R (binP false .add (I ls 2) (J 1)) fun v11=>
 some (.inl [I ls 0,I ls 1,v11])
)
) (
 aU (
 some (.inl [])
)
)
def T3(n:Nat)(ab:D)(ah:D):Option D:=
 R (
 bm (Ds n) n [ab,ah,J 0]
)<|a7 fun ls=>
 some (ar false)
def Dt(n:Nat):List D→Option D
 |[ab,ah]=>T3 n ab ah
 |_=>none
def zo(n:Nat)(ls:List D):Option (List D⊕(List D⊕D)):=
 R (lenP (I ls 0)) fun bg=>
 R (binP false .lss (I ls 3) bg) fun bx=>
 oif bx (
 R (unP .not (I ls 2)) fun v20=>
 R (gD v20 true (
 R (a3 1 (I ls 0) (I ls 3)) fun Da=>
 R (aW false 1 0 Da) fun cE=>
 R (binP false .gtr cE (I ls 1)) fun cJ=>
 some cJ
)) fun cJ=>
 R (pickP v20 cJ (ar false)) fun cu=>
 R (
 oif cu (
 aw (bA (I ls 1))<|
 aw (cY (((esD (I ls 4))).length+([[I ls 1]]).length) 16)<|
 some (.inl [I ls 0,I ls 1,ar true,I ls 3,D.aC 1 ((esD (I ls 4))++[[I ls 1]])])
) (
 some (.inl [I ls 0,I ls 1,I ls 2,I ls 3,D.aC 1 (esD (I ls 4))])
)
)<|a7 fun ls=>
 R (a3 1 (I ls 0) (I ls 3)) fun vZ=>
 R (aW false 1 0 vZ) fun dk=>
 aw (bA dk)<|
 aw (cY (((esD (I ls 4))).length+([[dk]]).length) 16)<|
 R (binP false .add (I ls 3) (J 1)) fun bE=>
 some (.inl [I ls 0,I ls 1,I ls 2,bE,D.aC 1 ((esD (I ls 4))++[[dk]])])
) (
 aU (
 some (.inl [I ls 1,I ls 2,D.aC 1 (esD (I ls 4))])
)
)
def Hs(n:Nat)(ab:D)(ah:D):Option D:=
 R (Dt n [ab,ah]) fun v10=>
 oif v10 (
 some ab
) (
 R (
 bm (zo n) n [ab,ah,ar false,J 0,D.aC 1 ([]:List (List D))]
)<|a7 fun ls=>
 R (unP .not (I ls 1)) fun e2=>
 R (
 oif e2 (
 aw (bA (I ls 0))<|
 aw (cY (((esD (I ls 2))).length+([[I ls 0]]).length) 16)<|
 some (.inl [D.aC 1 ((esD (I ls 2))++[[I ls 0]])])
) (
 some (.inl [D.aC 1 (esD (I ls 2))])
)
)<|a7 fun ls=>
 some (D.aC 1 (esD (I ls 0)))
)
def wU(n:Nat):List D→Option D
 |[ab,ah]=>Hs n ab ah
 |_=>none
def Ht(wV:List D→Option D)(n:Nat)(ls:List D):Option (List D⊕(List D⊕D)):=
 R (lenP (I ls 6)) fun ca=>
 R (binP false .lss (I ls 2) ca) fun v20=>
 oif v20 (
 R (a3 4 (I ls 6) (I ls 2)) fun L7=>
 R (aW true 4 0 L7) fun cJ=>
 R (wV [cJ,I ls 0,I ls 1]) fun v30=>
 R (binP false .add (I ls 2) (J 1)) fun bS=>
 some (.inl [I ls 0,v30,bS,I ls 3,I ls 4,I ls 5,I ls 6])
) (
 aU (
 some (.inl [I ls 1])
)
)
def Du(wV:List D→Option D)(n:Nat)(ab:D)(ah:D)(aT:D):Option D:=
 aw (aK 4 ab)<|
 R (binP false .eql (aa ab 0) ah) fun v11=>
 R (
 oif v11 (
 R (wU n [aT,aa ab 2]) fun bg=>
 some (.inl [ah,bg,aa ab 0,aa ab 1,aa ab 2,aa ab 3])
) (
 some (.inl [ah,aT,aa ab 0,aa ab 1,aa ab 2,aa ab 3])
)
)<|a7 fun ls=>
 R (
 bm (Ht wV n) n [I ls 0,I ls 1,J 0,I ls 2,I ls 3,I ls 4,I ls 5]
)<|a7 fun ls=>
 some (I ls 0)
def pG:Nat→List D→Option D
 |0,_=>none
 |n+1,aF=>match aF with
  |[ab,ah,aT]=>Du (pG n) n ab ah aT
  |_=>none
def T4(n:Nat)(ab:D):Option D:=
 aw (aK 4 ab)<|
 R (pG n [D.agg [aa ab 0,aa ab 1,aa ab 2,aa ab 3],J 3,D.val (.slice none 0 0)]) fun jZ=>
 R (pG n [D.agg [aa ab 0,aa ab 1,aa ab 2,aa ab 3],J 4,D.val (.slice none 0 0)]) fun bN=>
 some (D.aQ [jZ,bN])
def sb(n:Nat):List D→Option D
 |[ab]=>T4 n ab
 |_=>none
def wW(n:Nat)(ls:List D):Option (List D⊕(List D⊕(List D⊕(List D⊕(List D⊕D))))):=
 R (lenP (I ls 1)) fun eG=>
 R (binP false .lss (I ls 2) eG) fun dt=>
 oif dt (
 R (
 R (a3 1 (I ls 1) (I ls 2)) fun agj=>
 R (aW false 1 0 agj) fun iO=>
 R (wT n [D.agg [I ls 3,I ls 4,I ls 5,I ls 6,I ls 7,I ls 8,I ls 9,I ls 10],iO]) fun fH=>
 R (binP false .geq fH (J 0)) fun cX=>
 R (gD cX true (
 R (cG ((esD (I ls 11))).length fH) fun agk=>
 R (((esD (I ls 11)))[agk]?) fun agl=>
 R (aW false 1 0 agl) fun fa=>
 R (unP .not fa) fun eX=>
 some eX
)) fun eX=>
 R (pickP cX eX (ar false)) fun gU=>
 R (
 oif gU (
 R (cG ((esD (I ls 11))).length fH) fun T5=>
 R (((esD (I ls 11)))[T5]?) fun lk=>
 aw (bA fH)<|
 aw (cY (((esD (I ls 12))).length+([[fH]]).length) 8)<|
 some (.inl [I ls 0,I ls 1,I ls 2,I ls 3,I ls 4,I ls 5,I ls 6,I ls 7,I ls 8,I ls 9,I ls 10,D.aC 1 (((esD (I ls 11))).set T5 (k9 lk 0 [ar true])),D.aC 1 ((esD (I ls 12))++[[fH]])])
) (
 some (.inl [I ls 0,I ls 1,I ls 2,I ls 3,I ls 4,I ls 5,I ls 6,I ls 7,I ls 8,I ls 9,I ls 10,D.aC 1 (esD (I ls 11)),D.aC 1 (esD (I ls 12))])
)
)<|a7 fun ls=>
 some (.inl [I ls 0,I ls 1,I ls 2,I ls 3,I ls 4,I ls 5,I ls 6,I ls 7,I ls 8,I ls 9,I ls 10,D.aC 1 (esD (I ls 11)),D.aC 1 (esD (I ls 12))])
)<|a7 fun ls=>
 R (binP false .add (I ls 2) (J 1)) fun c1=>
 some (.inl [I ls 0,I ls 1,c1,I ls 3,I ls 4,I ls 5,I ls 6,I ls 7,I ls 8,I ls 9,I ls 10,D.aC 1 (esD (I ls 11)),D.aC 1 (esD (I ls 12))])
) (
 aU (
 some (.inl [I ls 0,I ls 3,I ls 4,I ls 5,I ls 6,I ls 7,I ls 8,I ls 9,I ls 10,D.aC 1 (esD (I ls 11)),D.aC 1 (esD (I ls 12))])
)
)
def Hu(n:Nat)(ls:List D):Option (List D⊕(List D⊕D)):=
 R (binP false .lss (I ls 0) (J ((esD (I ls 10))).length)) fun bJ=>
 oif bJ (
 R (
 R (cG ((esD (I ls 10))).length (I ls 0)) fun agm=>
 R (((esD (I ls 10)))[agm]?) fun agn=>
 R (aW false 1 0 agn) fun v30=>
 R (a3 5 (I ls 2) v30) fun r4=>
 R (aW true 4 1 r4) fun dD=>
 R (sb n [dD]) fun ds=>
 R (extP 0 ds) fun fl=>
 R (extP 1 ds) fun df=>
 R (
 bm (wW n) n [I ls 0,fl,J 0,I ls 1,I ls 2,I ls 3,I ls 4,I ls 5,I ls 6,I ls 7,I ls 8,D.aC 1 (esD (I ls 9)),D.aC 1 (esD (I ls 10))]
)<|a7 fun ls=>
 some (.inl [I ls 0,I ls 1,I ls 2,I ls 3,I ls 4,I ls 5,I ls 6,I ls 7,I ls 8,D.aC 1 (esD (I ls 9)),D.aC 1 (esD (I ls 10))])
)<|a7 fun ls=>
 R (binP false .add (I ls 0) (J 1)) fun b7=>
 some (.inl [b7,I ls 1,I ls 2,I ls 3,I ls 4,I ls 5,I ls 6,I ls 7,I ls 8,D.aC 1 (esD (I ls 9)),D.aC 1 (esD (I ls 10))])
) (
 aU (
 some (.inl [D.aC 1 (esD (I ls 9))])
)
)
def T6(n:Nat)(ab:D)(ah:D):Option D:=
 aw (aK 8 ab)<|
 R (lenP (aa ab 1)) fun bp=>
 R (makeP 1 bp bp) fun ago=>
 aw (bA ah)<|
 R (
 bm (Hu n) n [J 0,aa ab 0,aa ab 1,aa ab 2,aa ab 3,aa ab 4,aa ab 5,aa ab 6,aa ab 7,D.aC 1 (List.replicate ago [ar false]),D.aC 1 [[ah]]]
)<|a7 fun ls=>
 some (D.aC 1 (esD (I ls 0)))
def Dv(n:Nat):List D→Option D
 |[ab,ah]=>T6 n ab ah
 |_=>none
def MI(n:Nat)(ab:D):Option D:=
 R (
 R (binP false .eql ab (J 1)) fun v6=>
 R (
 oif v6 (
 some (.inl [ab,ab,v6])
) (
 R (binP false .eql ab (J 2)) fun bN=>
 R (
 oif bN (
 some (.inl [ab,ab,bN])
) (
 R (binP false .eql ab (J 3)) fun cg=>
 R (
 oif cg (
 some (.inl [ab,ab,cg])
) (
 R (binP false .eql ab (J 4)) fun bG=>
 some (.inl [ab,ab,bG])
)
)<|a7 fun ls=>
 some (.inl [I ls 0,I ls 1,I ls 2])
)
)<|a7 fun ls=>
 some (.inl [I ls 0,I ls 1,I ls 2])
)
)<|a7 fun ls=>
 oif (I ls 2) (
 aU (
 some (D.aQ [J 0,J 0])
)
) (
 R (binP false .eql (I ls 1) (J 5)) fun v11=>
 oif v11 (
 aU (
 some (D.aQ [J 1,J 1])
)
) (
 R (binP false .eql (I ls 1) (J 6)) fun bR=>
 R (
 oif bR (
 some (.inl [I ls 0,I ls 1,bR])
) (
 R (binP false .eql (I ls 1) (J 7)) fun bp=>
 some (.inl [I ls 0,I ls 1,bp])
)
)<|a7 fun ls=>
 oif (I ls 2) (
 aU (
 some (D.aQ [J 1,J 64])
)
) (
 R (binP false .eql (I ls 1) (J 18)) fun bx=>
 oif bx (
 aU (
 some (D.aQ [J 3,J 3])
)
) (
 some (.inl [I ls 0])
)
)
)
)
)<|a7 fun ls=>
 R (binP false .lss (I ls 0) (J 1)) fun bE=>
 R (gD bE false (
 R (binP false .gtr (I ls 0) (J 18)) fun bJ=>
 some bJ
)) fun bJ=>
 R (pickP bE (ar true) bJ) fun bS=>
 oif bS (
 some (D.aQ [J (-1),J (-1)])
) (
 some (D.aQ [J 2,J 2])
)
def zp(n:Nat):List D→Option D
 |[ab]=>MI n ab
 |_=>none
def T7(n:Nat)(ab:D)(ah:D):Option D:=
 aw (aK 4 ab)<|
 R (binP false .gtr ah (J 64)) fun v11=>
 oif v11 (
 some (J 17)
) (
 R (zp n [aa ab 0]) fun bg=>
 R (extP 0 bg) fun bx=>
 R (extP 1 bg) fun br=>
 R (binP false .lss bx (J 0)) fun ca=>
 oif ca (
 some (J 11)
) (
 R (binP false .eql (aa ab 0) (J 1)) fun bS=>
 R (
 oif bS (
 some (.inl [bx,br,J (-255),J 255,aa ab 0,aa ab 1,aa ab 2,aa ab 3])
) (
 some (.inl [bx,br,J 0,J 0,aa ab 0,aa ab 1,aa ab 2,aa ab 3])
)
)<|a7 fun ls=>
 R (binP false .eql (I ls 4) (J 2)) fun cE=>
 R (
 oif cE (
 some (.inl [I ls 0,I ls 1,I ls 2,J 1,I ls 4,I ls 5,I ls 6,I ls 7])
) (
 some (.inl [I ls 0,I ls 1,I ls 2,I ls 3,I ls 4,I ls 5,I ls 6,I ls 7])
)
)<|a7 fun ls=>
 R (binP false .lss (I ls 5) (I ls 2)) fun cD=>
 R (gD cD false (
 R (binP false .gtr (I ls 5) (I ls 3)) fun ds=>
 some ds
)) fun ds=>
 R (pickP cD (ar true) ds) fun fl=>
 oif fl (
 some (J 2)
) (
 R (binP false .eql (I ls 4) (J 3)) fun dg=>
 R (gD dg false (
 R (binP false .eql (I ls 4) (J 4)) fun c1=>
 some c1
)) fun c1=>
 R (pickP dg (ar true) c1) fun dZ=>
 R (gD dZ true (
 R (nj (I ls 6)) fun fH=>
 R (binP false .lss fH (J 1)) fun eA=>
 some eA
)) fun cX=>
 R (gD cX false (
 R (nj (I ls 6)) fun hL=>
 R (binP false .gtr hL (J 24)) fun hA=>
 some hA
)) fun hA=>
 R (gD dZ true (
 R (pickP cX (ar true) hA) fun fa=>
 some fa
)) fun fa=>
 R (pickP dZ fa (ar false)) fun eX=>
 R (gD eX false (
 R (unP .not dZ) fun jG=>
 some jG
)) fun eH=>
 R (gD eH true (
 R (binP false .neq (I ls 6) (aJ ⟨#[]⟩)) fun kV=>
 some kV
)) fun kV=>
 R (gD eX false (
 R (pickP eH kV (ar false)) fun g6=>
 some g6
)) fun g6=>
 R (pickP eX (ar true) g6) fun il=>
 oif il (
 some (J 12)
) (
 R (lenP (I ls 7)) fun fI=>
 R (binP false .lss fI (I ls 0)) fun iN=>
 R (gD iN false (
 R (lenP (I ls 7)) fun gF=>
 R (binP false .gtr gF (I ls 1)) fun hj=>
 some hj
)) fun hj=>
 R (pickP iN (ar true) hj) fun gO=>
 oif gO (
 some (J 3)
) (
 some (J 0)
)
)
)
)
)
def wX(n:Nat):List D→Option D
 |[ab,ah]=>T7 n ab ah
 |_=>none
def Hv(wY:List D→Option D)(n:Nat)(ls:List D):Option (List D⊕(List D⊕D)):=
 R (lenP (I ls 6)) fun cJ=>
 R (binP false .lss (I ls 2) cJ) fun cu=>
 oif cu (
 R (a3 4 (I ls 6) (I ls 2)) fun wN=>
 R (aW true 4 0 wN) fun df=>
 R (binP false .add (I ls 0) (J 1)) fun dg=>
 R (wY [df,dg,I ls 1]) fun dt=>
 R (extP 0 dt) fun e2=>
 R (extP 1 dt) fun c1=>
 R (binP false .neq e2 (J 0)) fun dP=>
 oif dP (
 aU (
 aU (
 some (D.aQ [e2,c1])
)
)
) (
 R (binP false .add (I ls 2) (J 1)) fun v30=>
 some (.inl [I ls 0,c1,v30,I ls 3,I ls 4,I ls 5,I ls 6])
)
) (
 aU (
 some (.inl [I ls 1])
)
)
def MJ(wY:List D→Option D)(n:Nat)(ab:D)(ah:D)(aT:D):Option D:=
 aw (aK 4 ab)<|
 R (binP false .add aT (J 1)) fun bR=>
 R (wX n [D.agg [aa ab 0,aa ab 1,aa ab 2,aa ab 3],ah]) fun bx=>
 R (binP false .neq bx (J 0)) fun bE=>
 oif bE (
 some (D.aQ [bx,bR])
) (
 R (binP false .gtr bR (J 4096)) fun bS=>
 oif bS (
 some (D.aQ [J 4,bR])
) (
 R (
 bm (Hv wY n) n [ah,bR,J 0,aa ab 0,aa ab 1,aa ab 2,aa ab 3]
)<|a7 fun ls=>
 some (D.aQ [J 0,I ls 0])
)
)
def qR:Nat→List D→Option D
 |0,_=>none
 |n+1,aF=>match aF with
  |[ab,ah,aT]=>MJ (qR n) n ab ah aT
  |_=>none
def T8(n:Nat)(ab:D):Option D:=
 aw (aK 4 ab)<|
 R (qR n [D.agg [aa ab 0,aa ab 1,aa ab 2,aa ab 3],J 1,J 0]) fun bN=>
 R (extP 0 bN) fun cg=>
 R (extP 1 bN) fun bG=>
 some cg
def sc(n:Nat):List D→Option D
 |[ab]=>T8 n ab
 |_=>none
def Dw(n:Nat)(ls:List D):Option (List D⊕(List D⊕D)):=
 R (lenP (I ls 0)) fun cg=>
 R (binP false .lss (I ls 2) cg) fun bG=>
 oif bG (
 R (a3 5 (I ls 0) (I ls 2)) fun eK=>
 R (aW false 1 0 eK) fun bx=>
 R (binP false .eql bx (I ls 1)) fun bE=>
 oif bE (
 aU (
 aU (
 some (I ls 2)
)
)
) (
 R (binP false .add (I ls 2) (J 1)) fun v11=>
 some (.inl [I ls 0,I ls 1,v11])
)
) (
 aU (
 some (.inl [])
)
)
def T9(n:Nat)(ab:D)(ah:D):Option D:=
 R (
 bm (Dw n) n [ab,ah,J 0]
)<|a7 fun ls=>
 some (J (-1))
def tJ(n:Nat):List D→Option D
 |[ab,ah]=>T9 n ab ah
 |_=>none
def Dx(n:Nat)(ls:List D):Option (List D⊕(List D⊕D)):=
 R (lenP (I ls 1)) fun bE=>
 R (binP false .lss (I ls 2) bE) fun ca=>
 oif ca (
 R (
 R (a3 1 (I ls 1) (I ls 2)) fun MK=>
 R (aW false 1 0 MK) fun ck=>
 R (tJ n [I ls 0,ck]) fun cJ=>
 R (binP false .geq cJ (J 0)) fun cD=>
 R (
 oif cD (
 aw (bA cJ)<|
 aw (cY (((esD (I ls 3))).length+([[cJ]]).length) 8)<|
 some (.inl [I ls 0,I ls 1,I ls 2,D.aC 1 ((esD (I ls 3))++[[cJ]])])
) (
 some (.inl [I ls 0,I ls 1,I ls 2,D.aC 1 (esD (I ls 3))])
)
)<|a7 fun ls=>
 some (.inl [I ls 0,I ls 1,I ls 2,D.aC 1 (esD (I ls 3))])
)<|a7 fun ls=>
 R (binP false .add (I ls 2) (J 1)) fun bJ=>
 some (.inl [I ls 0,I ls 1,bJ,D.aC 1 (esD (I ls 3))])
) (
 aU (
 some (.inl [D.aC 1 (esD (I ls 3))])
)
)
def Ua(n:Nat)(ab:D)(ah:D):Option D:=
 aw (aK 4 ab)<|
 R (sb n [D.agg [aa ab 0,aa ab 1,aa ab 2,aa ab 3]]) fun bR=>
 R (extP 0 bR) fun bp=>
 R (extP 1 bR) fun bg=>
 R (
 bm (Dx n) n [ah,bp,J 0,D.aC 1 ([]:List (List D))]
)<|a7 fun ls=>
 some (D.aC 1 (esD (I ls 0)))
def Dy(n:Nat):List D→Option D
 |[ab,ah]=>Ua n ab ah
 |_=>none
def zq(n:Nat)(ls:List D):Option (List D⊕(List D⊕D)):=
 R (lenP (I ls 0)) fun cg=>
 R (binP false .lss (I ls 2) cg) fun bG=>
 oif bG (
 R (a3 1 (I ls 0) (I ls 2)) fun eK=>
 R (aW false 1 0 eK) fun bg=>
 R (binP false .eql bg (I ls 1)) fun br=>
 oif br (
 aU (
 aU (
 some (ar true)
)
)
) (
 R (binP false .add (I ls 2) (J 1)) fun v11=>
 some (.inl [I ls 0,I ls 1,v11])
)
) (
 aU (
 some (.inl [])
)
)
def ML(n:Nat)(ab:D)(ah:D):Option D:=
 R (
 bm (zq n) n [ab,ah,J 0]
)<|a7 fun ls=>
 some (ar false)
def tK(n:Nat):List D→Option D
 |[ab,ah]=>ML n ab ah
 |_=>none
def Dz(wZ:List D→Option D)(n:Nat)(ls:List D):Option (List D⊕(List D⊕D)):=
 R (lenP (I ls 2)) fun bp=>
 R (binP false .lss (I ls 3) bp) fun bg=>
 oif bg (
 R (
 R (a3 1 (I ls 2) (I ls 3)) fun r3=>
 R (aW false 1 0 r3) fun bS=>
 R (tK n [I ls 1,bS]) fun b7=>
 R (unP .not b7) fun cq=>
 R (
 oif cq (
 R (a3 1 (I ls 2) (I ls 3)) fun rP=>
 R (aW false 1 0 rP) fun cD=>
 R (a3 5 (I ls 0) cD) fun MM=>
 R (aW true 4 1 MM) fun dr=>
 R (a3 1 (I ls 2) (I ls 3)) fun nz=>
 R (aW false 1 0 nz) fun dt=>
 R (elP (I ls 1)) fun DA=>
 aw (decide (DA.1=1∨DA.2=[])&&decide (0<1))<|
 aw (cY ((([]:List (List D))).length+(DA.2).length) 8)<|
 aw (bA dt)<|
 aw (cY (((([]:List (List D))++DA.2)).length+([[dt]]).length) 8)<|
 R (wZ [dr,I ls 0,D.aC 1 ((([]:List (List D))++DA.2)++[[dt]])]) fun dZ=>
 some (.inl [I ls 0,dZ,I ls 2,I ls 3])
) (
 some (.inl [I ls 0,I ls 1,I ls 2,I ls 3])
)
)<|a7 fun ls=>
 some (.inl [I ls 0,I ls 1,I ls 2,I ls 3])
)<|a7 fun ls=>
 R (binP false .add (I ls 3) (J 1)) fun br=>
 some (.inl [I ls 0,I ls 1,I ls 2,br])
) (
 aU (
 some (.inl [I ls 1])
)
)
def Hw(wZ:List D→Option D)(n:Nat)(ab:D)(ah:D)(aT:D):Option D:=
 aw (aK 4 ab)<|
 R (Dy n [D.agg [aa ab 0,aa ab 1,aa ab 2,aa ab 3],ah]) fun v11=>
 R (
 bm (Dz wZ n) n [ah,aT,v11,J 0]
)<|a7 fun ls=>
 some (I ls 0)
def oj:Nat→List D→Option D
 |0,_=>none
 |n+1,aF=>match aF with
  |[ab,ah,aT]=>Hw (oj n) n ab ah aT
  |_=>none
def Ub(n:Nat)(ab:D)(ah:D):Option D:=
 R (a3 5 ab ah) fun cK=>
 R (aW true 4 1 cK) fun bG=>
 R (oj n [bG,ab,D.val (.slice none 0 0)]) fun v11=>
 R (tK n [v11,ah]) fun bR=>
 some bR
def DB(n:Nat):List D→Option D
 |[ab,ah]=>Ub n ab ah
 |_=>none
def DC(tL:List D→Option D)(n:Nat)(ls:List D):Option (List D⊕(List D⊕D)):=
 R (lenP (I ls 7)) fun gU=>
 R (binP false .lss (I ls 3) gU) fun eo=>
 oif eo (
 R (a3 4 (I ls 7) (I ls 3)) fun wI=>
 R (aW true 4 0 wI) fun dW=>
 R (binP false .add (I ls 1) (J 1)) fun ep=>
 R (tL [dW,I ls 0,ep,I ls 2]) fun oc=>
 R (extP 0 oc) fun gu=>
 R (extP 1 oc) fun gv=>
 R (extP 2 oc) fun gF=>
 aw (aK 4 gu)<|
 R (binP false .neq gF (J 0)) fun hj=>
 oif hj (
 aU (
 aU (
 some (D.aQ [D.agg [J 0,J 0,aJ ⟨#[]⟩,D.val (.slice none 0 0)],gv,gF])
)
)
) (
 aw (aK 4 (D.agg [aa gu 0,aa gu 1,aa gu 2,aa gu 3]))<|
 aw (cY (((esD (I ls 12))).length+([[aa gu 0,aa gu 1,aa gu 2,aa gu 3]]).length) 56)<|
 R (binP false .add (I ls 3) (J 1)) fun eH=>
 some (.inl [I ls 0,I ls 1,gv,eH,I ls 4,I ls 5,I ls 6,I ls 7,I ls 8,I ls 9,I ls 10,I ls 11,D.aC 4 ((esD (I ls 12))++[[aa gu 0,aa gu 1,aa gu 2,aa gu 3]])])
)
) (
 aU (
 some (.inl [I ls 2,I ls 4,I ls 5,I ls 6,I ls 7,I ls 8,I ls 9,I ls 10,I ls 11,D.aC 4 (esD (I ls 12))])
)
)
def pH(tL:List D→Option D)(n:Nat)(ab:D)(ah:D)(aT:D)(bP:D):Option D:=
 aw (aK 4 ab)<|
 R (binP false .eql (aa ab 0) (J 3)) fun v20=>
 R (
 oif v20 (
 R (tJ n [ah,aa ab 2]) fun cq=>
 R (binP false .geq cq (J 0)) fun ck=>
 oif ck (
 R (a3 5 ah cq) fun rZ=>
 R (aW true 4 1 rZ) fun dH=>
 R (tL [dH,ah,aT,bP]) fun fl=>
 R (extP 0 fl) fun df=>
 R (extP 1 fl) fun dk=>
 R (extP 2 fl) fun dg=>
 aw (aK 4 df)<|
 aU (
 some (D.aQ [D.agg [aa df 0,aa df 1,aa df 2,aa df 3],dk,dg])
)
) (
 some (.inl [ah,aT,bP,aa ab 0,aa ab 1,aa ab 2,aa ab 3,J 0,J 0,aJ ⟨#[]⟩,D.val (.slice none 0 0)])
)
) (
 some (.inl [ah,aT,bP,aa ab 0,aa ab 1,aa ab 2,aa ab 3,J 0,J 0,aJ ⟨#[]⟩,D.val (.slice none 0 0)])
)
)<|a7 fun ls=>
 R (binP false .add (I ls 2) (J 1)) fun dt=>
 R (wX n [D.agg [I ls 3,I ls 4,I ls 5,I ls 6],I ls 1]) fun dZ=>
 R (binP false .neq dZ (J 0)) fun c2=>
 oif c2 (
 some (D.aQ [D.agg [J 0,J 0,aJ ⟨#[]⟩,D.val (.slice none 0 0)],dt,dZ])
) (
 R (binP false .gtr dt (J 4096)) fun cX=>
 oif cX (
 some (D.aQ [D.agg [J 0,J 0,aJ ⟨#[]⟩,D.val (.slice none 0 0)],dt,J 4])
) (
 R (
 bm (DC tL n) n [I ls 0,I ls 1,dt,J 0,I ls 3,I ls 4,I ls 5,I ls 6,I ls 7,I ls 8,I ls 9,I ls 10,D.aC 4 ([]:List (List D))]
)<|a7 fun ls=>
 aw (bA (I ls 1))<|
 aw (bA (I ls 2))<|
 aw (bA (I ls 3))<|
 some (D.aQ [D.agg [I ls 1,I ls 2,I ls 3,D.aC 4 (esD (I ls 9))],I ls 0,J 0])
)
)
def pI:Nat→List D→Option D
 |0,_=>none
 |n+1,aF=>match aF with
  |[ab,ah,aT,bP]=>pH (pI n) n ab ah aT bP
  |_=>none
def DD(n:Nat)(ls:List D):Option (List D⊕(List D⊕D)):=
 R (lenP (I ls 1)) fun b7=>
 R (binP false .lss (I ls 2) b7) fun cq=>
 oif cq (
 R (a3 1 (I ls 1) (I ls 2)) fun MM=>
 R (aW false 1 0 MM) fun dH=>
 R (DB n [I ls 0,dH]) fun dr=>
 oif dr (
 aU (
 aU (
 some (D.aQ [D.agg [J 0,J 0,aJ ⟨#[]⟩,D.val (.slice none 0 0)],J 14])
)
)
) (
 R (binP false .add (I ls 2) (J 1)) fun ck=>
 some (.inl [I ls 0,I ls 1,ck,I ls 3,I ls 4,I ls 5,I ls 6,I ls 7,I ls 8,I ls 9,I ls 10])
)
) (
 aU (
 some (.inl [I ls 0,I ls 3,I ls 4,I ls 5,I ls 6,I ls 7,I ls 8,I ls 9,I ls 10])
)
)
def DE(n:Nat)(ab:D)(ah:D):Option D:=
 aw (aK 4 ab)<|
 R (sc n [D.agg [aa ab 0,aa ab 1,aa ab 2,aa ab 3]]) fun bR=>
 R (binP false .neq bR (J 0)) fun bg=>
 oif bg (
 some (D.aQ [D.agg [J 0,J 0,aJ ⟨#[]⟩,D.val (.slice none 0 0)],bR])
) (
 R (oj n [D.agg [aa ab 0,aa ab 1,aa ab 2,aa ab 3],ah,D.val (.slice none 0 0)]) fun v20=>
 R (
 bm (DD n) n [ah,v20,J 0,aa ab 0,aa ab 1,aa ab 2,aa ab 3,J 0,J 0,aJ ⟨#[]⟩,D.val (.slice none 0 0)]
)<|a7 fun ls=>
 R (pI n [D.agg [I ls 1,I ls 2,I ls 3,I ls 4],I ls 0,J 1,J 0]) fun dk=>
 R (extP 0 dk) fun dg=>
 R (extP 1 dk) fun eG=>
 R (extP 2 dk) fun dt=>
 aw (aK 4 dg)<|
 aw (aK 4 (D.agg [aa dg 0,aa dg 1,aa dg 2,aa dg 3]))<|
 some (D.aQ [D.agg [aa dg 0,aa dg 1,aa dg 2,aa dg 3],dt])
)
def ky(n:Nat):List D→Option D
 |[ab,ah]=>DE n ab ah
 |_=>none
def Uc(n:Nat)(ab:D)(ah:D):Option D:=
 R (unP .neg (J 1048576)) fun bG=>
 R (binP false .lss ab bG) fun v10=>
 R (gD v10 false (
 R (binP false .gtr ab (J 1048576)) fun bp=>
 some bp
)) fun bp=>
 R (pickP v10 (ar true) bp) fun bg=>
 R (gD bg false (
 R (unP .neg (J 1048576)) fun ca=>
 R (binP false .lss ah ca) fun v20=>
 some v20
)) fun v20=>
 R (pickP bg (ar true) v20) fun bJ=>
 R (gD bJ false (
 R (binP false .gtr ah (J 1048576)) fun cE=>
 some cE
)) fun cE=>
 R (pickP bJ (ar true) cE) fun ck=>
 R (gD ck false (
 R (binP false .lss ah ab) fun v30=>
 some v30
)) fun v30=>
 R (pickP ck (ar true) v30) fun dH=>
 R (gD dH false (
 R (binP false .sub ah ab) fun fl=>
 R (binP false .gtr fl (J 4096)) fun df=>
 some df
)) fun df=>
 R (pickP dH (ar true) df) fun dk=>
 oif dk (
 some (D.aQ [D.agg [ar false,J 0,J 0],J 2])
) (
 aw (bA ab)<|
 aw (bA ah)<|
 aw (aK 3 (D.agg [ar false,ab,ah]))<|
 some (D.aQ [D.agg [ar false,ab,ah],J 0])
)
def om(n:Nat):List D→Option D
 |[ab,ah]=>Uc n ab ah
 |_=>none
def DF(n:Nat)(ls:List D):Option (List D⊕(List D⊕D)):=
 R (lenP (I ls 0)) fun cg=>
 R (binP false .lss (I ls 2) cg) fun bG=>
 oif bG (
 R (a3 4 (I ls 0) (I ls 2)) fun eK=>
 R (aW false 1 0 eK) fun bx=>
 R (binP false .eql bx (I ls 1)) fun bE=>
 oif bE (
 aU (
 aU (
 some (I ls 2)
)
)
) (
 R (binP false .add (I ls 2) (J 1)) fun v11=>
 some (.inl [I ls 0,I ls 1,v11])
)
) (
 aU (
 some (.inl [])
)
)
def Ud(n:Nat)(ab:D)(ah:D):Option D:=
 R (
 bm (DF n) n [ab,ah,J 0]
)<|a7 fun ls=>
 some (J (-1))
def sd(n:Nat):List D→Option D
 |[ab,ah]=>Ud n ab ah
 |_=>none
def DG(n:Nat)(ls:List D):Option (List D⊕(List D⊕D)):=
 R (lenP (I ls 0)) fun v6=>
 R (binP false .lss (I ls 1) v6) fun bN=>
 oif bN (
 R (a3 3 (I ls 0) (I ls 1)) fun agp=>
 R (aW false 1 0 agp) fun bp=>
 R (unP .not bp) fun bg=>
 oif bg (
 aU (
 aU (
 some (ar false)
)
)
) (
 R (binP false .add (I ls 1) (J 1)) fun bG=>
 some (.inl [I ls 0,bG])
)
) (
 aU (
 some (.inl [])
)
)
def Ue(n:Nat)(ab:D):Option D:=
 R (
 bm (DG n) n [ab,J 0]
)<|a7 fun ls=>
 some (ar true)
def DH(n:Nat):List D→Option D
 |[ab]=>Ue n ab
 |_=>none
def Hx(n:Nat)(ls:List D):Option (List D⊕(List D⊕D)):=
 R (binP false .lss (I ls 2) (J 4)) fun dg=>
 oif dg (
 R (cG ((esD (I ls 3))).length (I ls 2)) fun agq=>
 R (((esD (I ls 3)))[agq]?) fun agr=>
 R (aW false 1 0 agr) fun c2=>
 R (jz false [I ls 0,c2]) fun gj=>
 R (cG ((esD (I ls 3))).length (I ls 2)) fun ags=>
 R (((esD (I ls 3)))[ags]?) fun agt=>
 R (aW false 1 0 agt) fun fy=>
 R (jz true [I ls 1,fy]) fun e3=>
 R (binP false .add (I ls 2) (J 1)) fun dt=>
 some (.inl [gj,e3,dt,D.aC 1 (esD (I ls 3))])
) (
 aU (
 some (.inl [I ls 0,I ls 1])
)
)
def Uf(n:Nat)(ab:D)(ah:D):Option D:=
 aw (aK 3 ab)<|
 aw (aK 3 ah)<|
 R (binP false .mul (aa ab 1) (aa ah 1)) fun bp=>
 R (binP false .mul (aa ab 1) (aa ah 2)) fun ca=>
 R (binP false .mul (aa ab 2) (aa ah 1)) fun cq=>
 R (binP false .mul (aa ab 2) (aa ah 2)) fun cD=>
 aw (bA bp)<|
 aw (bA ca)<|
 aw (bA cq)<|
 aw (bA cD)<|
 R (cG ([[bp],[ca],[cq],[cD]]).length (J 0)) fun agu=>
 R (([[bp],[ca],[cq],[cD]])[agu]?) fun agv=>
 R (aW false 1 0 agv) fun dD=>
 R (cG ([[bp],[ca],[cq],[cD]]).length (J 0)) fun agw=>
 R (([[bp],[ca],[cq],[cD]])[agw]?) fun agx=>
 R (aW false 1 0 agx) fun df=>
 R (
 bm (Hx n) n [dD,df,J 1,D.aC 1 [[bp],[ca],[cq],[cD]]]
)<|a7 fun ls=>
 some (D.aQ [I ls 0,I ls 1])
def DI(n:Nat):List D→Option D
 |[ab,ah]=>Uf n ab ah
 |_=>none
def Hy(n:Nat)(ab:D)(ah:D):Option D:=
 aw (aK 4 ab)<|
 R (
 R (binP false .eql (aa ab 0) (J 5)) fun bp=>
 R (
 oif bp (
 some (.inl [ah,J 13,aa ab 0,bp,aa ab 0,aa ab 1,aa ab 2,aa ab 3,ar false,J 0,J 0,ar true,J 0,J 0])
) (
 R (binP false .eql (aa ab 0) (J 6)) fun bg=>
 R (
 oif bg (
 some (.inl [ah,J 13,aa ab 0,bg,aa ab 0,aa ab 1,aa ab 2,aa ab 3,ar false,J 0,J 0,ar true,J 0,J 0])
) (
 R (binP false .eql (aa ab 0) (J 7)) fun bx=>
 R (
 oif bx (
 some (.inl [ah,J 13,aa ab 0,bx,aa ab 0,aa ab 1,aa ab 2,aa ab 3,ar false,J 0,J 0,ar true,J 0,J 0])
) (
 R (binP false .eql (aa ab 0) (J 8)) fun br=>
 R (
 oif br (
 some (.inl [ah,J 13,aa ab 0,br,aa ab 0,aa ab 1,aa ab 2,aa ab 3,ar false,J 0,J 0,ar true,J 0,J 0])
) (
 R (binP false .eql (aa ab 0) (J 9)) fun bE=>
 some (.inl [ah,J 13,aa ab 0,bE,aa ab 0,aa ab 1,aa ab 2,aa ab 3,ar false,J 0,J 0,ar true,J 0,J 0])
)
)<|a7 fun ls=>
 some (.inl [I ls 0,I ls 1,I ls 2,I ls 3,I ls 4,I ls 5,I ls 6,I ls 7,I ls 8,I ls 9,I ls 10,I ls 11,I ls 12,I ls 13])
)
)<|a7 fun ls=>
 some (.inl [I ls 0,I ls 1,I ls 2,I ls 3,I ls 4,I ls 5,I ls 6,I ls 7,I ls 8,I ls 9,I ls 10,I ls 11,I ls 12,I ls 13])
)
)<|a7 fun ls=>
 some (.inl [I ls 0,I ls 1,I ls 2,I ls 3,I ls 4,I ls 5,I ls 6,I ls 7,I ls 8,I ls 9,I ls 10,I ls 11,I ls 12,I ls 13])
)
)<|a7 fun ls=>
 oif (I ls 3) (
 R (DH n [I ls 0]) fun v20=>
 R (unP .not v20) fun bJ=>
 oif bJ (
 aU (
 some (D.aQ [D.agg [ar false,J 0,J 0],I ls 1])
)
) (
 aw (aK 3 (D.agg [I ls 11,I ls 12,I ls 13]))<|
 aU (
 some (D.aQ [D.agg [I ls 11,I ls 12,I ls 13],J 0])
)
)
) (
 R (binP false .eql (I ls 2) (J 10)) fun ck=>
 R (
 oif ck (
 some (.inl [I ls 0,I ls 1,I ls 2,ck,I ls 4,I ls 5,I ls 6,I ls 7,I ls 8,I ls 9,I ls 10,I ls 11,I ls 12,I ls 13])
) (
 R (binP false .eql (I ls 2) (J 11)) fun cJ=>
 some (.inl [I ls 0,I ls 1,I ls 2,cJ,I ls 4,I ls 5,I ls 6,I ls 7,I ls 8,I ls 9,I ls 10,I ls 11,I ls 12,I ls 13])
)
)<|a7 fun ls=>
 oif (I ls 3) (
 R (a3 3 (I ls 0) (J 0)) fun rZ=>
 R (aW false 1 0 rZ) fun dH=>
 R (a3 3 (I ls 0) (J 1)) fun L8=>
 R (aW false 1 0 L8) fun fl=>
 R (binP true .neq dH fl) fun df=>
 oif df (
 aU (
 some (D.aQ [D.agg [ar false,J 0,J 0],I ls 1])
)
) (
 aw (aK 3 (D.agg [I ls 11,I ls 12,I ls 13]))<|
 aU (
 some (D.aQ [D.agg [I ls 11,I ls 12,I ls 13],J 0])
)
)
) (
 R (binP false .eql (I ls 2) (J 18)) fun e2=>
 oif e2 (
 R (a3 3 (I ls 0) (J 0)) fun agy=>
 R (aW false 1 0 agy) fun c2=>
 R (unP .not c2) fun gj=>
 R (gD gj false (
 R (a3 3 (I ls 0) (J 1)) fun r9=>
 R (aW false 1 0 r9) fun fy=>
 R (a3 3 (I ls 0) (J 2)) fun MN=>
 R (aW false 1 0 MN) fun fa=>
 R (binP true .neq fy fa) fun eX=>
 some eX
)) fun eX=>
 R (pickP gj (ar true) eX) fun gU=>
 oif gU (
 aU (
 some (D.aQ [D.agg [ar false,J 0,J 0],I ls 1])
)
) (
 R (a3 3 (I ls 0) (J 1)) fun Cn=>
 R (aW false 1 0 Cn) fun kV=>
 oif kV (
 aw (aK 3 (D.agg [I ls 11,I ls 12,I ls 13]))<|
 aU (
 some (D.aQ [D.agg [I ls 11,I ls 12,I ls 13],J 0])
)
) (
 R (a3 3 (I ls 0) (J 1)) fun Mh=>
 R (aW false 1 1 Mh) fun fI=>
 R (a3 3 (I ls 0) (J 2)) fun agz=>
 R (aW false 1 1 agz) fun gu=>
 R (jz false [fI,gu]) fun gv=>
 R (a3 3 (I ls 0) (J 1)) fun Mi=>
 R (aW false 1 2 Mi) fun gO=>
 R (a3 3 (I ls 0) (J 2)) fun agA=>
 R (aW false 1 2 agA) fun iP=>
 R (jz true [gO,iP]) fun kW=>
 R (om n [gv,kW]) fun j0=>
 R (extP 0 j0) fun g7=>
 R (extP 1 j0) fun hk=>
 aw (aK 3 g7)<|
 aU (
 some (D.aQ [D.agg [aa g7 0,aa g7 1,aa g7 2],hk])
)
)
)
) (
 some (.inl [I ls 0,I ls 1,I ls 4,I ls 5,I ls 6,I ls 7,I ls 8,I ls 9,I ls 10,I ls 11,I ls 12,I ls 13])
)
)
)
)<|a7 fun ls=>
 R (a3 3 (I ls 0) (J 0)) fun Mj=>
 R (aW false 1 0 Mj) fun Ug=>
 R (gD Ug false (
 R (a3 3 (I ls 0) (J 1)) fun LW=>
 R (aW false 1 0 LW) fun ir=>
 some ir
)) fun ir=>
 R (pickP Ug (ar true) ir) fun iQ=>
 oif iQ (
 some (D.aQ [D.agg [ar false,J 0,J 0],I ls 1])
) (
 R (binP false .eql (I ls 2) (J 14)) fun pq=>
 oif pq (
 R (a3 3 (I ls 0) (J 0)) fun LX=>
 R (aW false 1 1 LX) fun lZ=>
 R (a3 3 (I ls 0) (J 1)) fun agB=>
 R (aW false 1 1 agB) fun wh=>
 R (binP false .add lZ wh) fun wo=>
 R (a3 3 (I ls 0) (J 0)) fun agC=>
 R (aW false 1 2 agC) fun kx=>
 R (a3 3 (I ls 0) (J 1)) fun agD=>
 R (aW false 1 2 agD) fun LB=>
 R (binP false .add kx LB) fun C2=>
 R (om n [wo,C2]) fun yN=>
 R (extP 0 yN) fun qF=>
 R (extP 1 yN) fun od=>
 aw (aK 3 qF)<|
 some (D.aQ [D.agg [aa qF 0,aa qF 1,aa qF 2],od])
) (
 R (binP false .eql (I ls 2) (J 15)) fun qG=>
 oif qG (
 R (a3 3 (I ls 0) (J 0)) fun agE=>
 R (aW false 1 1 agE) fun Cu=>
 R (a3 3 (I ls 0) (J 1)) fun Cv=>
 R (aW false 1 2 Cv) fun iu=>
 R (binP false .sub Cu iu) fun vA=>
 R (a3 3 (I ls 0) (J 0)) fun MO=>
 R (aW false 1 2 MO) fun vU=>
 R (a3 3 (I ls 0) (J 1)) fun agF=>
 R (aW false 1 1 agF) fun hB=>
 R (binP false .sub vU hB) fun Hz=>
 R (om n [vA,Hz]) fun rX=>
 R (extP 0 rX) fun tM=>
 R (extP 1 rX) fun MP=>
 aw (aK 3 tM)<|
 some (D.aQ [D.agg [aa tM 0,aa tM 1,aa tM 2],MP])
) (
 R (binP false .eql (I ls 2) (J 16)) fun MQ=>
 oif MQ (
 R (a3 3 (I ls 0) (J 0)) fun agG=>
 R (aW true 3 0 agG) fun agH=>
 R (a3 3 (I ls 0) (J 1)) fun agI=>
 R (aW true 3 0 agI) fun MR=>
 R (DI n [agH,MR]) fun za=>
 R (extP 0 za) fun tF=>
 R (extP 1 za) fun CB=>
 R (om n [tF,CB]) fun qH=>
 R (extP 0 qH) fun vW=>
 R (extP 1 qH) fun y2=>
 aw (aK 3 vW)<|
 some (D.aQ [D.agg [aa vW 0,aa vW 1,aa vW 2],y2])
) (
 R (binP false .eql (I ls 2) (J 17)) fun C3=>
 oif C3 (
 R (a3 4 (I ls 5) (J 1)) fun agJ=>
 R (aW false 1 0 agJ) fun Cx=>
 R (binP false .neq Cx (J 1)) fun wz=>
 R (gD wz false (
 R (a3 4 (I ls 5) (J 1)) fun agK=>
 R (aW false 1 1 agK) fun y0=>
 R (binP false .lss y0 (J 1)) fun MS=>
 some MS
)) fun MS=>
 R (pickP wz (ar true) MS) fun agL=>
 oif agL (
 some (D.aQ [D.agg [ar false,J 0,J 0],J 2])
) (
 R (a3 4 (I ls 5) (J 1)) fun agM=>
 R (aW false 1 1 agM) fun agN=>
 R (binP false .sub agN (J 1)) fun MT=>
 R (om n [J 0,MT]) fun Uh=>
 R (extP 0 Uh) fun y1=>
 R (extP 1 Uh) fun Cz=>
 aw (aK 3 y1)<|
 some (D.aQ [D.agg [aa y1 0,aa y1 1,aa y1 2],Cz])
)
) (
 aw (aK 3 (D.agg [I ls 9,I ls 10,I ls 11]))<|
 some (D.aQ [D.agg [I ls 9,I ls 10,I ls 11],J 0])
)
)
)
)
)
def w1(n:Nat):List D→Option D
 |[ab,ah]=>Hy n ab ah
 |_=>none
def zr(w2:List D→Option D)(n:Nat)(ls:List D):Option (List D⊕(List D⊕D)):=
 R (lenP (I ls 6)) fun fI=>
 R (binP false .lss (I ls 2) fI) fun ep=>
 oif ep (
 R (a3 4 (I ls 6) (I ls 2)) fun agO=>
 R (aW true 4 0 agO) fun lz=>
 R (w2 [I ls 0,lz,I ls 1]) fun lA=>
 R (extP 0 lA) fun iP=>
 R (extP 1 lA) fun kW=>
 aw (aK 3 iP)<|
 R (binP false .neq kW (J 0)) fun g7=>
 oif g7 (
 aU (
 aU (
 some (D.aQ [D.agg [ar false,J 0,J 0],kW])
)
)
) (
 aw (aK 3 (D.agg [aa iP 0,aa iP 1,aa iP 2]))<|
 aw (cY (((esD (I ls 10))).length+([[aa iP 0,aa iP 1,aa iP 2]]).length) 24)<|
 R (binP false .add (I ls 2) (J 1)) fun oc=>
 some (.inl [I ls 0,I ls 1,oc,I ls 3,I ls 4,I ls 5,I ls 6,I ls 7,I ls 8,I ls 9,D.aC 3 ((esD (I ls 10))++[[aa iP 0,aa iP 1,aa iP 2]])])
)
) (
 aU (
 some (.inl [I ls 3,I ls 4,I ls 5,I ls 6,I ls 7,I ls 8,I ls 9,D.aC 3 (esD (I ls 10))])
)
)
def se(w2:List D→Option D)(n:Nat)(ab:D)(ah:D)(aT:D):Option D:=
 aw (aK 4 ah)<|
 R (binP false .eql (aa ah 0) (J 1)) fun bx=>
 oif bx (
 R (om n [aa ah 1,aa ah 1]) fun bJ=>
 R (extP 0 bJ) fun bS=>
 R (extP 1 bJ) fun b7=>
 aw (aK 3 bS)<|
 some (D.aQ [D.agg [aa bS 0,aa bS 1,aa bS 2],b7])
) (
 R (binP false .eql (aa ah 0) (J 2)) fun cE=>
 oif cE (
 some (D.aQ [D.agg [ar true,J 0,J 0],J 0])
) (
 R (binP false .eql (aa ah 0) (J 3)) fun cu=>
 R (
 oif cu (
 some (.inl [ab,aT,cu,aa ah 0,aa ah 1,aa ah 2,aa ah 3,ar false,J 0,J 0])
) (
 R (binP false .eql (aa ah 0) (J 4)) fun cD=>
 some (.inl [ab,aT,cD,aa ah 0,aa ah 1,aa ah 2,aa ah 3,ar false,J 0,J 0])
)
)<|a7 fun ls=>
 oif (I ls 2) (
 R (sd n [I ls 0,I ls 5]) fun dD=>
 R (binP false .lss dD (J 0)) fun fl=>
 oif fl (
 some (D.aQ [D.agg [ar false,J 0,J 0],J 12])
) (
 R (binP false .eql (I ls 3) (J 4)) fun eG=>
 R (gD eG true (
 R (unP .not (I ls 1)) fun c1=>
 some c1
)) fun c1=>
 R (pickP eG c1 (ar false)) fun dZ=>
 oif dZ (
 some (D.aQ [D.agg [ar false,J 0,J 0],J 24])
) (
 R (a3 4 (I ls 0) dD) fun v8=>
 R (aW false 1 1 v8) fun eA=>
 oif eA (
 some (D.aQ [D.agg [ar true,J 0,J 0],J 0])
) (
 R (a3 4 (I ls 0) dD) fun MN=>
 R (aW false 1 2 MN) fun fa=>
 R (a3 4 (I ls 0) dD) fun Cs=>
 R (aW false 1 3 Cs) fun eH=>
 R (om n [fa,eH]) fun gr=>
 R (extP 0 gr) fun iq=>
 R (extP 1 gr) fun kV=>
 aw (aK 3 iq)<|
 some (D.aQ [D.agg [aa iq 0,aa iq 1,aa iq 2],kV])
)
)
)
) (
 R (
 bm (zr w2 n) n [I ls 0,I ls 1,J 0,I ls 3,I ls 4,I ls 5,I ls 6,I ls 7,I ls 8,I ls 9,D.aC 3 ([]:List (List D))]
)<|a7 fun ls=>
 R (w1 n [D.agg [I ls 0,I ls 1,I ls 2,I ls 3],D.aC 3 (esD (I ls 7))]) fun lY=>
 aw lY.flat<|
 R (extP 0 lY) fun ir=>
 R (extP 1 lY) fun iQ=>
 aw (aK 3 ir)<|
 some (D.aQ [D.agg [aa ir 0,aa ir 1,aa ir 2],iQ])
)
)
)
def kX:Nat→List D→Option D
 |0,_=>none
 |n+1,aF=>match aF with
  |[ab,ah,aT]=>se (kX n) n ab ah aT
  |_=>none
def MU(n:Nat)(ab:D)(ah:D)(aT:D):Option D:=
 aw (aK 4 ah)<|
 R (sc n [D.agg [aa ah 0,aa ah 1,aa ah 2,aa ah 3]]) fun v10=>
 R (binP false .neq v10 (J 0)) fun bO=>
 oif bO (
 some (D.aQ [D.agg [ar false,J 0,J 0],v10])
) (
 R (kX n [ab,D.agg [aa ah 0,aa ah 1,aa ah 2,aa ah 3],aT]) fun bE=>
 R (extP 0 bE) fun ca=>
 R (extP 1 bE) fun v20=>
 aw (aK 3 ca)<|
 some (D.aQ [D.agg [aa ca 0,aa ca 1,aa ca 2],v20])
)
def tN(n:Nat):List D→Option D
 |[ab,ah,aT]=>MU n ab ah aT
 |_=>none
def MV(n:Nat)(ab:D)(ah:D)(aT:D):Option D:=
 aw (aK 8 ab)<|
 aw (aK 4 ah)<|
 R (ky n [D.agg [aa ah 0,aa ah 1,aa ah 2,aa ah 3],aa ab 1]) fun bp=>
 R (extP 0 bp) fun bg=>
 R (extP 1 bp) fun bx=>
 aw (aK 4 bg)<|
 R (binP false .neq bx (J 0)) fun bE=>
 oif bE (
 some (D.aQ [D.agg [ar false,J 0,J 0],bx])
) (
 R (tN n [aa ab 0,D.agg [aa bg 0,aa bg 1,aa bg 2,aa bg 3],aT]) fun cE=>
 R (extP 0 cE) fun ck=>
 R (extP 1 cE) fun cJ=>
 aw (aK 3 ck)<|
 some (D.aQ [D.agg [aa ck 0,aa ck 1,aa ck 2],cJ])
)
def qS(n:Nat):List D→Option D
 |[ab,ah,aT]=>MV n ab ah aT
 |_=>none
def w3(n:Nat)(ls:List D):Option (List D⊕(List D⊕D)):=
 R (lenP (I ls 2)) fun bO=>
 R (binP false .lss (I ls 0) bO) fun bR=>
 oif bR (
 R (a3 5 (I ls 2) (I ls 0)) fun pj=>
 R (aW false 1 0 pj) fun bJ=>
 R (qQ n [bJ]) fun bS=>
 R (unP .not bS) fun b7=>
 oif b7 (
 aU (
 aU (
 some (D.aQ [I ls 0,J 12])
)
)
) (
 R (a3 5 (I ls 2) (I ls 0)) fun rZ=>
 R (aW false 1 0 rZ) fun dH=>
 R (wS n [D.agg [I ls 1,I ls 2,I ls 3,I ls 4,I ls 5,I ls 6,I ls 7,I ls 8],dH]) fun dr=>
 R (binP false .geq dr (J 0)) fun dD=>
 R (gD dD false (
 R (a3 5 (I ls 2) (I ls 0)) fun nz=>
 R (aW false 1 0 nz) fun e2=>
 R (wT n [D.agg [I ls 1,I ls 2,I ls 3,I ls 4,I ls 5,I ls 6,I ls 7,I ls 8],e2]) fun c1=>
 R (binP false .lss c1 (I ls 0)) fun dP=>
 some dP
)) fun dP=>
 R (pickP dD (ar true) dP) fun c2=>
 oif c2 (
 aU (
 aU (
 some (D.aQ [I ls 0,J 6])
)
)
) (
 R (binP false .add (I ls 0) (J 1)) fun bg=>
 some (.inl [bg,I ls 1,I ls 2,I ls 3,I ls 4,I ls 5,I ls 6,I ls 7,I ls 8])
)
)
) (
 aU (
 some (.inl [I ls 1,I ls 2,I ls 3,I ls 4,I ls 5,I ls 6,I ls 7,I ls 8])
)
)
def DJ(n:Nat)(ls:List D):Option (List D⊕(List D⊕D)):=
 R (lenP (I ls 2)) fun cX=>
 R (binP false .lss (I ls 0) cX) fun fy=>
 oif fy (
 R (Dv n [D.agg [I ls 1,I ls 2,I ls 3,I ls 4,I ls 5,I ls 6,I ls 7,I ls 8],I ls 0]) fun eX=>
 R (a3 1 eX (I ls 0)) fun Cs=>
 R (aW false 1 0 Cs) fun jG=>
 oif jG (
 aU (
 aU (
 some (D.aQ [I ls 0,J 14])
)
)
) (
 R (binP false .add (I ls 0) (J 1)) fun hL=>
 some (.inl [hL,I ls 1,I ls 2,I ls 3,I ls 4,I ls 5,I ls 6,I ls 7,I ls 8])
)
) (
 aU (
 some (.inl [I ls 1,I ls 2,I ls 3,I ls 4,I ls 5,I ls 6,I ls 7,I ls 8])
)
)
def DK(n:Nat)(ls:List D):Option (List D⊕(List D⊕D)):=
 R (lenP (I ls 2)) fun g6=>
 R (binP false .lss (I ls 0) g6) fun il=>
 oif il (
 R (a3 5 (I ls 2) (I ls 0)) fun Df=>
 R (aW true 4 1 Df) fun mT=>
 R (qS n [D.agg [I ls 1,I ls 2,I ls 3,I ls 4,I ls 5,I ls 6,I ls 7,I ls 8],mT,ar false]) fun hj=>
 R (extP 0 hj) fun gO=>
 R (extP 1 hj) fun lz=>
 aw (aK 3 gO)<|
 R (binP false .neq lz (J 0)) fun lA=>
 oif lA (
 aU (
 aU (
 some (D.aQ [I ls 0,lz])
)
)
) (
 R (binP false .add (I ls 0) (J 1)) fun fP=>
 some (.inl [fP,I ls 1,I ls 2,I ls 3,I ls 4,I ls 5,I ls 6,I ls 7,I ls 8])
)
) (
 aU (
 some (.inl [])
)
)
def DL(n:Nat)(ab:D):Option D:=
 aw (aK 8 ab)<|
 R (
 bm (w3 n) n [J 0,aa ab 0,aa ab 1,aa ab 2,aa ab 3,aa ab 4,aa ab 5,aa ab 6,aa ab 7]
)<|a7 fun ls=>
 R (
 bm (DJ n) n [J 0,I ls 0,I ls 1,I ls 2,I ls 3,I ls 4,I ls 5,I ls 6,I ls 7]
)<|a7 fun ls=>
 R (
 bm (DK n) n [J 0,I ls 0,I ls 1,I ls 2,I ls 3,I ls 4,I ls 5,I ls 6,I ls 7]
)<|a7 fun ls=>
 some (D.aQ [J 0,J 0])
def tO(n:Nat):List D→Option D
 |[ab]=>DL n ab
 |_=>none
def MW(n:Nat)(ab:D)(ah:D)(aT:D):Option D:=
 aw (aK 8 ab)<|
 aw (aK 4 ah)<|
 R (qS n [D.agg [aa ab 0,aa ab 1,aa ab 2,aa ab 3,aa ab 4,aa ab 5,aa ab 6,aa ab 7],D.agg [aa ah 0,aa ah 1,aa ah 2,aa ah 3],aT]) fun bR=>
 R (extP 0 bR) fun bp=>
 R (extP 1 bR) fun bg=>
 aw (aK 3 bp)<|
 R (binP false .eql bg (J 0)) fun br=>
 R (gD br true (
 R (unP .not (aa bp 0)) fun bJ=>
 some bJ
)) fun bJ=>
 R (pickP br bJ (ar false)) fun bS=>
 oif bS (
 some (J 13)
) (
 some bg
)
def tP(n:Nat):List D→Option D
 |[ab,ah,aT]=>MW n ab ah aT
 |_=>none
def DM(n:Nat)(ls:List D):Option (List D⊕(List D⊕D)):=
 R (lenP (I ls 0)) fun bO=>
 R (binP false .lss (I ls 2) bO) fun bR=>
 oif bR (
 R (a3 4 (I ls 0) (I ls 2)) fun pj=>
 R (aW true 4 0 pj) fun v20=>
 R (tP n [D.agg [I ls 3,I ls 4,I ls 5,I ls 6,I ls 7,I ls 8,I ls 9,I ls 10],v20,I ls 1]) fun bS=>
 R (binP false .neq bS (J 0)) fun cq=>
 oif cq (
 aU (
 aU (
 some (D.aQ [I ls 2,bS])
)
)
) (
 R (binP false .add (I ls 2) (J 1)) fun bg=>
 some (.inl [I ls 0,I ls 1,bg,I ls 3,I ls 4,I ls 5,I ls 6,I ls 7,I ls 8,I ls 9,I ls 10])
)
) (
 aU (
 some (.inl [])
)
)
def MX(n:Nat)(ab:D)(ah:D)(aT:D):Option D:=
 aw (aK 8 ab)<|
 R (
 bm (DM n) n [ah,aT,J 0,aa ab 0,aa ab 1,aa ab 2,aa ab 3,aa ab 4,aa ab 5,aa ab 6,aa ab 7]
)<|a7 fun ls=>
 some (D.aQ [J 0,J 0])
def sf(n:Nat):List D→Option D
 |[ab,ah,aT]=>MX n ab ah aT
 |_=>none
def zs(n:Nat)(ls:List D):Option (List D⊕(List D⊕(List D⊕(List D⊕(List D⊕D))))):=
 R (binP false .lss (I ls 2) (I ls 0)) fun cD=>
 oif cD (
 R (a3 5 (I ls 7) (I ls 2)) fun wN=>
 R (aW false 1 0 wN) fun dk=>
 R (a3 5 (I ls 7) (I ls 0)) fun wF=>
 R (aW false 1 0 wF) fun dZ=>
 R (binP false .eql dk dZ) fun dP=>
 oif dP (
 aU (
 aU (
 aU (
 aU (
 aU (
 some (D.aQ [I ls 0,J 6])
)
)
)
)
)
) (
 R (binP false .add (I ls 2) (J 1)) fun dH=>
 some (.inl [I ls 0,I ls 1,dH,I ls 3,I ls 4,I ls 5,I ls 6,I ls 7,I ls 8,I ls 9,I ls 10])
)
) (
 aU (
 some (.inl [I ls 0,I ls 1,I ls 3,I ls 4,I ls 5,I ls 6,I ls 7,I ls 8,I ls 9,I ls 10])
)
)
def tQ(n:Nat)(ls:List D):Option (List D⊕(List D⊕D)):=
 R (lenP (I ls 5)) fun bO=>
 R (binP false .lss (I ls 0) bO) fun bR=>
 oif bR (
 R (
 R (a3 5 (I ls 5) (I ls 0)) fun rU=>
 R (aW false 1 0 rU) fun bS=>
 R (wS n [D.agg [I ls 1,I ls 2,I ls 3,I ls 4,I ls 5,I ls 6,I ls 7,I ls 8],bS]) fun b7=>
 R (binP false .lss b7 (J 0)) fun cE=>
 oif cE (
 aU (
 aU (
 aU (
 some (D.aQ [I ls 0,J 12])
)
)
)
) (
 R (
 bm (zs n) n [I ls 0,b7,J 0,I ls 1,I ls 2,I ls 3,I ls 4,I ls 5,I ls 6,I ls 7,I ls 8]
)<|a7 fun ls=>
 R (a3 5 (I ls 6) (I ls 0)) fun C0=>
 R (aW true 4 1 C0) fun hL=>
 R (qS n [D.agg [I ls 2,I ls 3,I ls 4,I ls 5,I ls 6,I ls 7,I ls 8,I ls 9],hL,ar false]) fun hA=>
 R (extP 0 hA) fun fa=>
 R (extP 1 hA) fun eX=>
 aw (aK 3 fa)<|
 R (binP false .eql eX (J 0)) fun eo=>
 R (gD eo true (
 R (a3 4 (I ls 2) (I ls 1)) fun wI=>
 R (aW false 1 1 wI) fun fP=>
 R (binP true .neq (aa fa 0) fP) fun fI=>
 some fI
)) fun fI=>
 R (pickP eo fI (ar false)) fun ep=>
 R (
 oif ep (
 some (.inl [I ls 0,J 13,I ls 2,I ls 3,I ls 4,I ls 5,I ls 6,I ls 7,I ls 8,I ls 9])
) (
 some (.inl [I ls 0,eX,I ls 2,I ls 3,I ls 4,I ls 5,I ls 6,I ls 7,I ls 8,I ls 9])
)
)<|a7 fun ls=>
 R (binP false .neq (I ls 1) (J 0)) fun oc=>
 oif oc (
 aU (
 aU (
 aU (
 some (D.aQ [I ls 0,I ls 1])
)
)
)
) (
 some (.inl [I ls 0,I ls 2,I ls 3,I ls 4,I ls 5,I ls 6,I ls 7,I ls 8,I ls 9])
)
)
)<|a7 fun ls=>
 R (binP false .add (I ls 0) (J 1)) fun bg=>
 some (.inl [bg,I ls 1,I ls 2,I ls 3,I ls 4,I ls 5,I ls 6,I ls 7,I ls 8])
) (
 aU (
 some (.inl [])
)
)
def MY(n:Nat)(ab:D):Option D:=
 aw (aK 8 ab)<|
 R (
 bm (tQ n) n [J 0,aa ab 0,aa ab 1,aa ab 2,aa ab 3,aa ab 4,aa ab 5,aa ab 6,aa ab 7]
)<|a7 fun ls=>
 some (D.aQ [J 0,J 0])
def zt(n:Nat):List D→Option D
 |[ab]=>MY n ab
 |_=>none
def Ui(n:Nat)(ab:D):Option D:=
 R (
 R (binP false .eql ab (J 1)) fun jZ=>
 oif jZ (
 aU (
 some (J 0)
)
) (
 R (binP false .eql ab (J 2)) fun bN=>
 R (
 oif bN (
 some (.inl [ab,bN])
) (
 R (binP false .eql ab (J 6)) fun cg=>
 R (
 oif cg (
 some (.inl [ab,cg])
) (
 R (binP false .eql ab (J 7)) fun bG=>
 R (
 oif bG (
 some (.inl [ab,bG])
) (
 R (binP false .eql ab (J 8)) fun v10=>
 R (
 oif v10 (
 some (.inl [ab,v10])
) (
 R (binP false .eql ab (J 10)) fun v11=>
 R (
 oif v11 (
 some (.inl [ab,v11])
) (
 R (binP false .eql ab (J 11)) fun bO=>
 R (
 oif bO (
 some (.inl [ab,bO])
) (
 R (binP false .eql ab (J 12)) fun bR=>
 some (.inl [ab,bR])
)
)<|a7 fun ls=>
 some (.inl [I ls 0,I ls 1])
)
)<|a7 fun ls=>
 some (.inl [I ls 0,I ls 1])
)
)<|a7 fun ls=>
 some (.inl [I ls 0,I ls 1])
)
)<|a7 fun ls=>
 some (.inl [I ls 0,I ls 1])
)
)<|a7 fun ls=>
 some (.inl [I ls 0,I ls 1])
)
)<|a7 fun ls=>
 oif (I ls 1) (
 aU (
 some (J 1)
)
) (
 R (binP false .eql (I ls 0) (J 3)) fun bg=>
 R (
 oif bg (
 some (.inl [bg])
) (
 R (binP false .eql (I ls 0) (J 4)) fun bx=>
 R (
 oif bx (
 some (.inl [bx])
) (
 R (binP false .eql (I ls 0) (J 5)) fun br=>
 R (
 oif br (
 some (.inl [br])
) (
 R (binP false .eql (I ls 0) (J 9)) fun bE=>
 R (
 oif bE (
 some (.inl [bE])
) (
 R (binP false .eql (I ls 0) (J 13)) fun ca=>
 some (.inl [ca])
)
)<|a7 fun ls=>
 some (.inl [I ls 0])
)
)<|a7 fun ls=>
 some (.inl [I ls 0])
)
)<|a7 fun ls=>
 some (.inl [I ls 0])
)
)<|a7 fun ls=>
 oif (I ls 0) (
 aU (
 some (J 2)
)
) (
 some (.inl [])
)
)
)
)<|a7 fun ls=>
 some (J (-1))
def zu(n:Nat):List D→Option D
 |[ab]=>Ui n ab
 |_=>none
def Uj(n:Nat)(ab:D):Option D:=
 aw (aK 4 ab)<|
 R (binP false .eql (aa ab 0) (J 0)) fun jZ=>
 R (gD jZ true (
 R (binP false .eql (aa ab 1) (J 0)) fun bG=>
 some bG
)) fun bG=>
 R (pickP jZ bG (ar false)) fun v10=>
 R (gD v10 true (
 R (binP false .eql (aa ab 2) (aJ ⟨#[]⟩)) fun bp=>
 some bp
)) fun bp=>
 R (pickP v10 bp (ar false)) fun bg=>
 R (gD bg true (
 R (lenP (aa ab 3)) fun ca=>
 R (binP false .eql ca (J 0)) fun v20=>
 some v20
)) fun v20=>
 R (pickP bg v20 (ar false)) fun bJ=>
 some bJ
def DN(n:Nat):List D→Option D
 |[ab]=>Uj n ab
 |_=>none
def zv(n:Nat)(ab:D):Option D:=
 aw (aK 6 ab)<|
 R (zu n [aa ab 0]) fun cg=>
 R (binP false .lss cg (J 0)) fun bG=>
 oif bG (
 some (J 11)
) (
 R (binP false .eql (aa ab 0) (J 1)) fun bO=>
 R (
 oif bO (
 R (sc n [D.agg [aa ab 1,aa ab 2,aa ab 3,aa ab 4]]) fun bg=>
 R (binP false .neq bg (J 0)) fun br=>
 oif br (
 aU (
 some bg
)
) (
 R (sb n [D.agg [aa ab 1,aa ab 2,aa ab 3,aa ab 4]]) fun bS=>
 R (extP 0 bS) fun b7=>
 R (extP 1 bS) fun cq=>
 R (lenP cq) fun ck=>
 R (binP false .gtr ck (J 0)) fun cJ=>
 oif cJ (
 aU (
 some (J 24)
)
) (
 some (.inl [aa ab 0,aa ab 1,aa ab 2,aa ab 3,aa ab 4,aa ab 5])
)
)
) (
 some (.inl [aa ab 0,aa ab 1,aa ab 2,aa ab 3,aa ab 4,aa ab 5])
)
)<|a7 fun ls=>
 R (lenP (I ls 5)) fun v30=>
 R (zu n [I ls 0]) fun dD=>
 R (binP false .neq v30 dD) fun ds=>
 R (gD ds false (
 R (binP false .neq (I ls 0) (J 1)) fun dg=>
 some dg
)) fun eG=>
 R (gD eG true (
 R (DN n [D.agg [I ls 1,I ls 2,I ls 3,I ls 4]]) fun c1=>
 R (unP .not c1) fun dZ=>
 some dZ
)) fun dZ=>
 R (gD ds false (
 R (pickP eG dZ (ar false)) fun dP=>
 some dP
)) fun dP=>
 R (pickP ds (ar true) dP) fun c2=>
 oif c2 (
 some (J 3)
) (
 some (J 0)
)
)
def sg(n:Nat):List D→Option D
 |[ab]=>zv n ab
 |_=>none
def HA(w4:List D→Option D)(n:Nat)(ls:List D):Option (List D⊕(List D⊕D)):=
 R (lenP (I ls 8)) fun cJ=>
 R (binP false .lss (I ls 2) cJ) fun cu=>
 oif cu (
 R (a3 6 (I ls 8) (I ls 2)) fun wN=>
 R (aW true 6 0 wN) fun df=>
 R (binP false .add (I ls 0) (J 1)) fun dg=>
 R (w4 [df,dg,I ls 1]) fun dt=>
 R (extP 0 dt) fun e2=>
 R (extP 1 dt) fun c1=>
 R (binP false .neq e2 (J 0)) fun dP=>
 oif dP (
 aU (
 aU (
 some (D.aQ [e2,c1])
)
)
) (
 R (binP false .add (I ls 2) (J 1)) fun v30=>
 some (.inl [I ls 0,c1,v30,I ls 3,I ls 4,I ls 5,I ls 6,I ls 7,I ls 8])
)
) (
 aU (
 some (.inl [I ls 1])
)
)
def MZ(w4:List D→Option D)(n:Nat)(ab:D)(ah:D)(aT:D):Option D:=
 aw (aK 6 ab)<|
 R (binP false .gtr ah (J 64)) fun v11=>
 oif v11 (
 some (D.aQ [J 17,aT])
) (
 R (sg n [D.agg [aa ab 0,aa ab 1,aa ab 2,aa ab 3,aa ab 4,aa ab 5]]) fun bp=>
 R (binP false .neq bp (J 0)) fun bx=>
 oif bx (
 some (D.aQ [bp,aT])
) (
 R (binP false .add aT (J 1)) fun v20=>
 R (binP false .gtr v20 (J 4096)) fun bS=>
 oif bS (
 some (D.aQ [J 4,v20])
) (
 R (
 bm (HA w4 n) n [ah,v20,J 0,aa ab 0,aa ab 1,aa ab 2,aa ab 3,aa ab 4,aa ab 5]
)<|a7 fun ls=>
 some (D.aQ [J 0,I ls 0])
)
)
)
def qT:Nat→List D→Option D
 |0,_=>none
 |n+1,aF=>match aF with
  |[ab,ah,aT]=>MZ (qT n) n ab ah aT
  |_=>none
def Uk(n:Nat)(ab:D):Option D:=
 aw (aK 6 ab)<|
 R (qT n [D.agg [aa ab 0,aa ab 1,aa ab 2,aa ab 3,aa ab 4,aa ab 5],J 1,J 0]) fun bN=>
 R (extP 0 bN) fun cg=>
 R (extP 1 bN) fun bG=>
 some cg
def w5(n:Nat):List D→Option D
 |[ab]=>Uk n ab
 |_=>none
def DO(w6:List D→Option D)(n:Nat)(ls:List D):Option (List D⊕(List D⊕D)):=
 R (lenP (I ls 14)) fun br=>
 R (binP false .lss (I ls 0) br) fun bE=>
 oif bE (
 R (a3 6 (I ls 14) (I ls 0)) fun MK=>
 R (aW true 6 0 MK) fun ck=>
 R (w6 [D.agg [I ls 1,I ls 2,I ls 3,I ls 4,I ls 5,I ls 6,I ls 7,I ls 8],ck]) fun cJ=>
 R (binP false .neq cJ (J 0)) fun cD=>
 oif cD (
 aU (
 aU (
 some cJ
)
)
) (
 R (binP false .add (I ls 0) (J 1)) fun v20=>
 some (.inl [v20,I ls 1,I ls 2,I ls 3,I ls 4,I ls 5,I ls 6,I ls 7,I ls 8,I ls 9,I ls 10,I ls 11,I ls 12,I ls 13,I ls 14])
)
) (
 aU (
 some (.inl [])
)
)
def DP(w6:List D→Option D)(n:Nat)(ab:D)(ah:D):Option D:=
 aw (aK 8 ab)<|
 aw (aK 6 ah)<|
 R (binP false .eql (aa ah 0) (J 1)) fun bG=>
 oif bG (
 R (tP n [D.agg [aa ab 0,aa ab 1,aa ab 2,aa ab 3,aa ab 4,aa ab 5,aa ab 6,aa ab 7],D.agg [aa ah 1,aa ah 2,aa ah 3,aa ah 4],ar false]) fun bR=>
 some bR
) (
 R (
 bm (DO w6 n) n [J 0,aa ab 0,aa ab 1,aa ab 2,aa ab 3,aa ab 4,aa ab 5,aa ab 6,aa ab 7,aa ah 0,aa ah 1,aa ah 2,aa ah 3,aa ah 4,aa ah 5]
)<|a7 fun ls=>
 some (J 0)
)
def qU:Nat→List D→Option D
 |0,_=>none
 |n+1,aF=>match aF with
  |[ab,ah]=>DP (qU n) n ab ah
  |_=>none
def zw(n:Nat)(ls:List D):Option (List D⊕(List D⊕(List D⊕(List D⊕(List D⊕D))))):=
 R (binP false .lss (I ls 1) (I ls 0)) fun cE=>
 oif cE (
 R (a3 7 (I ls 9) (I ls 1)) fun r4=>
 R (aW false 1 0 r4) fun dD=>
 R (a3 7 (I ls 9) (I ls 0)) fun DQ=>
 R (aW false 1 0 DQ) fun eG=>
 R (binP false .eql dD eG) fun dt=>
 oif dt (
 aU (
 aU (
 aU (
 aU (
 aU (
 some (D.aQ [I ls 0,J 6])
)
)
)
)
)
) (
 R (binP false .add (I ls 1) (J 1)) fun cJ=>
 some (.inl [I ls 0,cJ,I ls 2,I ls 3,I ls 4,I ls 5,I ls 6,I ls 7,I ls 8,I ls 9])
)
) (
 aU (
 some (.inl [I ls 0,I ls 2,I ls 3,I ls 4,I ls 5,I ls 6,I ls 7,I ls 8,I ls 9])
)
)
def tR(n:Nat)(ls:List D):Option (List D⊕(List D⊕D)):=
 R (lenP (I ls 8)) fun v10=>
 R (binP false .lss (I ls 0) v10) fun v11=>
 oif v11 (
 R (
 R (a3 7 (I ls 8) (I ls 0)) fun C9=>
 R (aW false 1 0 C9) fun ca=>
 R (qQ n [ca]) fun v20=>
 R (unP .not v20) fun bJ=>
 oif bJ (
 aU (
 aU (
 aU (
 some (D.aQ [I ls 0,J 12])
)
)
)
) (
 R (
 bm (zw n) n [I ls 0,J 0,I ls 1,I ls 2,I ls 3,I ls 4,I ls 5,I ls 6,I ls 7,I ls 8]
)<|a7 fun ls=>
 R (a3 7 (I ls 8) (I ls 0)) fun Dl=>
 R (aW true 6 1 Dl) fun iO=>
 R (w5 n [iO]) fun fH=>
 R (binP false .eql fH (J 0)) fun cX=>
 R (
 oif cX (
 R (a3 7 (I ls 8) (I ls 0)) fun wJ=>
 R (aW true 6 1 wJ) fun gU=>
 R (qU n [D.agg [I ls 1,I ls 2,I ls 3,I ls 4,I ls 5,I ls 6,I ls 7,I ls 8],gU]) fun eo=>
 some (.inl [I ls 0,eo,I ls 1,I ls 2,I ls 3,I ls 4,I ls 5,I ls 6,I ls 7,I ls 8])
) (
 some (.inl [I ls 0,fH,I ls 1,I ls 2,I ls 3,I ls 4,I ls 5,I ls 6,I ls 7,I ls 8])
)
)<|a7 fun ls=>
 R (binP false .neq (I ls 1) (J 0)) fun eH=>
 oif eH (
 aU (
 aU (
 aU (
 some (D.aQ [I ls 0,I ls 1])
)
)
)
) (
 some (.inl [I ls 0,I ls 2,I ls 3,I ls 4,I ls 5,I ls 6,I ls 7,I ls 8,I ls 9])
)
)
)<|a7 fun ls=>
 R (binP false .add (I ls 0) (J 1)) fun bR=>
 some (.inl [bR,I ls 1,I ls 2,I ls 3,I ls 4,I ls 5,I ls 6,I ls 7,I ls 8])
) (
 aU (
 some (.inl [])
)
)
def M0(n:Nat)(ab:D):Option D:=
 aw (aK 8 ab)<|
 R (
 bm (tR n) n [J 0,aa ab 0,aa ab 1,aa ab 2,aa ab 3,aa ab 4,aa ab 5,aa ab 6,aa ab 7]
)<|a7 fun ls=>
 some (D.aQ [J 0,J 0])
def zx(n:Nat):List D→Option D
 |[ab]=>M0 n ab
 |_=>none
def pJ(n:Nat)(ls:List D):Option (List D⊕(List D⊕D)):=
 R (binP false .lss (I ls 0) (J ((esD (I ls 11))).length)) fun dk=>
 oif dk (
 R (cG ((esD (I ls 11))).length (I ls 0)) fun agP=>
 R (((esD (I ls 11)))[agP]?) fun agQ=>
 R (aW false 1 0 agQ) fun dZ=>
 R (binP false .gtr dZ (J 64)) fun dP=>
 oif dP (
 R (binP false .add (I ls 0) (J 1)) fun gj=>
 aw (bA gj)<|
 aw (aK 2 (D.agg [gj,J 64]))<|
 aU (
 aU (
 some (D.aQ [D.agg [gj,J 64],J 18])
)
)
) (
 R (binP false .add (I ls 0) (J 1)) fun eG=>
 some (.inl [eG,I ls 1,I ls 2,I ls 3,I ls 4,I ls 5,I ls 6,I ls 7,I ls 8,I ls 9,I ls 10,D.aC 1 (esD (I ls 11))])
)
) (
 aU (
 some (.inl [I ls 1,I ls 2,I ls 3,I ls 4,I ls 5,I ls 6,I ls 7,I ls 8,I ls 9,I ls 10])
)
)
def hN(n:Nat)(ls:List D):Option (List D⊕(List D⊕D)):=
 R (binP false .leq (I ls 2) (J 8)) fun g6=>
 oif g6 (
 R (
 R (
 R (binP false .eql (I ls 2) (J 2)) fun ep=>
 R (
 oif ep (
 R (tO n [D.agg [I ls 3,I ls 4,I ls 5,I ls 6,I ls 7,I ls 8,I ls 9,I ls 10]]) fun gu=>
 R (extP 0 gu) fun gv=>
 R (extP 1 gu) fun gF=>
 some (.inl [gv,gF,I ls 2,I ls 3,I ls 4,I ls 5,I ls 6,I ls 7,I ls 8,I ls 9,I ls 10,I ls 11,I ls 12])
) (
 R (binP false .eql (I ls 2) (J 3)) fun hj=>
 R (
 oif hj (
 R (sf n [D.agg [I ls 3,I ls 4,I ls 5,I ls 6,I ls 7,I ls 8,I ls 9,I ls 10],I ls 5,ar false]) fun iP=>
 R (extP 0 iP) fun kW=>
 R (extP 1 iP) fun j0=>
 some (.inl [kW,j0,I ls 2,I ls 3,I ls 4,I ls 5,I ls 6,I ls 7,I ls 8,I ls 9,I ls 10,I ls 11,I ls 12])
) (
 R (binP false .eql (I ls 2) (J 4)) fun hk=>
 R (
 oif hk (
 R (sf n [D.agg [I ls 3,I ls 4,I ls 5,I ls 6,I ls 7,I ls 8,I ls 9,I ls 10],I ls 6,ar false]) fun hM=>
 R (extP 0 hM) fun wu=>
 R (extP 1 hM) fun tD=>
 some (.inl [wu,tD,I ls 2,I ls 3,I ls 4,I ls 5,I ls 6,I ls 7,I ls 8,I ls 9,I ls 10,I ls 11,I ls 12])
) (
 R (binP false .eql (I ls 2) (J 5)) fun ir=>
 R (
 oif ir (
 R (zt n [D.agg [I ls 3,I ls 4,I ls 5,I ls 6,I ls 7,I ls 8,I ls 9,I ls 10]]) fun qy=>
 R (extP 0 qy) fun qz=>
 R (extP 1 qy) fun wv=>
 some (.inl [qz,wv,I ls 2,I ls 3,I ls 4,I ls 5,I ls 6,I ls 7,I ls 8,I ls 9,I ls 10,I ls 11,I ls 12])
) (
 R (binP false .eql (I ls 2) (J 6)) fun pq=>
 R (
 oif pq (
 R (sf n [D.agg [I ls 3,I ls 4,I ls 5,I ls 6,I ls 7,I ls 8,I ls 9,I ls 10],I ls 8,ar true]) fun r2=>
 R (extP 0 r2) fun vv=>
 R (extP 1 r2) fun im=>
 some (.inl [vv,im,I ls 2,I ls 3,I ls 4,I ls 5,I ls 6,I ls 7,I ls 8,I ls 9,I ls 10,I ls 11,I ls 12])
) (
 R (binP false .eql (I ls 2) (J 7)) fun wo=>
 R (
 oif wo (
 R (sf n [D.agg [I ls 3,I ls 4,I ls 5,I ls 6,I ls 7,I ls 8,I ls 9,I ls 10],I ls 9,ar false]) fun tG=>
 R (extP 0 tG) fun wy=>
 R (extP 1 tG) fun mS=>
 some (.inl [wy,mS,I ls 2,I ls 3,I ls 4,I ls 5,I ls 6,I ls 7,I ls 8,I ls 9,I ls 10,I ls 11,I ls 12])
) (
 R (binP false .eql (I ls 2) (J 8)) fun C2=>
 R (
 oif C2 (
 R (zx n [D.agg [I ls 3,I ls 4,I ls 5,I ls 6,I ls 7,I ls 8,I ls 9,I ls 10]]) fun od=>
 R (extP 0 od) fun yZ=>
 R (extP 1 od) fun qG=>
 some (.inl [yZ,qG,I ls 2,I ls 3,I ls 4,I ls 5,I ls 6,I ls 7,I ls 8,I ls 9,I ls 10,I ls 11,I ls 12])
) (
 some (.inl [I ls 0,I ls 1,I ls 2,I ls 3,I ls 4,I ls 5,I ls 6,I ls 7,I ls 8,I ls 9,I ls 10,I ls 11,I ls 12])
)
)<|a7 fun ls=>
 some (.inl [I ls 0,I ls 1,I ls 2,I ls 3,I ls 4,I ls 5,I ls 6,I ls 7,I ls 8,I ls 9,I ls 10,I ls 11,I ls 12])
)
)<|a7 fun ls=>
 some (.inl [I ls 0,I ls 1,I ls 2,I ls 3,I ls 4,I ls 5,I ls 6,I ls 7,I ls 8,I ls 9,I ls 10,I ls 11,I ls 12])
)
)<|a7 fun ls=>
 some (.inl [I ls 0,I ls 1,I ls 2,I ls 3,I ls 4,I ls 5,I ls 6,I ls 7,I ls 8,I ls 9,I ls 10,I ls 11,I ls 12])
)
)<|a7 fun ls=>
 some (.inl [I ls 0,I ls 1,I ls 2,I ls 3,I ls 4,I ls 5,I ls 6,I ls 7,I ls 8,I ls 9,I ls 10,I ls 11,I ls 12])
)
)<|a7 fun ls=>
 some (.inl [I ls 0,I ls 1,I ls 2,I ls 3,I ls 4,I ls 5,I ls 6,I ls 7,I ls 8,I ls 9,I ls 10,I ls 11,I ls 12])
)
)<|a7 fun ls=>
 some (.inl [I ls 0,I ls 1,I ls 2,I ls 3,I ls 4,I ls 5,I ls 6,I ls 7,I ls 8,I ls 9,I ls 10,I ls 11,I ls 12])
)
)<|a7 fun ls=>
 some (.inl [I ls 0,I ls 1,I ls 2,I ls 3,I ls 4,I ls 5,I ls 6,I ls 7,I ls 8,I ls 9,I ls 10,I ls 11,I ls 12])
)<|a7 fun ls=>
 R (binP false .neq (I ls 1) (J 0)) fun zb=>
 oif zb (
 aw (bA (I ls 2))<|
 aw (bA (I ls 0))<|
 aw (aK 2 (D.agg [I ls 2,I ls 0]))<|
 aU (
 aU (
 aU (
 some (D.aQ [D.agg [I ls 2,I ls 0],I ls 1])
)
)
)
) (
 some (.inl [I ls 0,I ls 1,I ls 2,I ls 3,I ls 4,I ls 5,I ls 6,I ls 7,I ls 8,I ls 9,I ls 10,I ls 11,I ls 12])
)
)<|a7 fun ls=>
 R (binP false .add (I ls 2) (J 1)) fun dW=>
 some (.inl [I ls 0,I ls 1,dW,I ls 3,I ls 4,I ls 5,I ls 6,I ls 7,I ls 8,I ls 9,I ls 10,I ls 11,I ls 12])
) (
 aU (
 some (.inl [I ls 11,I ls 12])
)
)
def w7(n:Nat)(ab:D):Option D:=
 aw (aK 8 ab)<|
 R (lenP (aa ab 0)) fun v11=>
 R (lenP (aa ab 1)) fun bp=>
 R (lenP (aa ab 2)) fun br=>
 R (lenP (aa ab 3)) fun v20=>
 R (lenP (aa ab 4)) fun b7=>
 R (lenP (aa ab 5)) fun ck=>
 R (lenP (aa ab 6)) fun cD=>
 R (lenP (aa ab 7)) fun dr=>
 aw (bA v11)<|
 aw (bA bp)<|
 aw (bA br)<|
 aw (bA v20)<|
 aw (bA b7)<|
 aw (bA ck)<|
 aw (bA cD)<|
 aw (bA dr)<|
 R (
 bm (pJ n) n [J 0,aa ab 0,aa ab 1,aa ab 2,aa ab 3,aa ab 4,aa ab 5,aa ab 6,aa ab 7,J 0,J 0,D.aC 1 [[v11],[bp],[br],[v20],[b7],[ck],[cD],[dr]]]
)<|a7 fun ls=>
 R (Dm n [I ls 0]) fun fy=>
 R (extP 0 fy) fun e3=>
 R (extP 1 fy) fun hL=>
 R (binP false .neq hL (J 0)) fun fa=>
 oif fa (
 aw (bA e3)<|
 aw (aK 2 (D.agg [J 1,e3]))<|
 some (D.aQ [D.agg [J 1,e3],hL])
) (
 R (Dp n [D.agg [I ls 0,I ls 1,I ls 2,I ls 3,I ls 4,I ls 5,I ls 6,I ls 7]]) fun eH=>
 R (binP false .gtr eH (J 30)) fun gr=>
 oif gr (
 some (D.aQ [D.agg [J 1,J 0],J 18])
) (
 R (
 bm (hN n) n [e3,hL,J 2,I ls 0,I ls 1,I ls 2,I ls 3,I ls 4,I ls 5,I ls 6,I ls 7,I ls 8,I ls 9]
)<|a7 fun ls=>
 some (D.aQ [D.agg [J 0,J 0],J 0])
)
)
def oo(n:Nat):List D→Option D
 |[ab]=>w7 n ab
 |_=>none
def Ul(n:Nat)(ab:D):Option D:=
 aw (aK 8 ab)<|
 R (oo n [D.agg [aa ab 0,aa ab 1,aa ab 2,aa ab 3,aa ab 4,aa ab 5,aa ab 6,aa ab 7]]) fun bN=>
 R (extP 0 bN) fun cg=>
 R (extP 1 bN) fun bG=>
 aw (aK 2 cg)<|
 R (binP false .eql bG (J 0)) fun v11=>
 some v11
def w8(n:Nat):List D→Option D
 |[ab]=>Ul n ab
 |_=>none
def HB(n:Nat)(ls:List D):Option (List D⊕(List D⊕D)):=
 R (lenP (I ls 0)) fun bp=>
 R (binP false .lss (I ls 2) bp) fun bg=>
 oif bg (
 R (a3 4 (I ls 0) (I ls 2)) fun r3=>
 R (aW true 4 0 r3) fun bS=>
 R (ky n [bS,I ls 1]) fun cq=>
 R (extP 0 cq) fun cE=>
 R (extP 1 cq) fun ck=>
 aw (aK 4 cE)<|
 R (binP false .neq ck (J 0)) fun cu=>
 oif cu (
 aU (
 aU (
 some (D.aQ [D.val (.slice none 0 0),I ls 2,ck])
)
)
) (
 aw (aK 4 (D.agg [aa cE 0,aa cE 1,aa cE 2,aa cE 3]))<|
 aw (cY (((esD (I ls 3))).length+([[aa cE 0,aa cE 1,aa cE 2,aa cE 3]]).length) 56)<|
 R (binP false .add (I ls 2) (J 1)) fun br=>
 some (.inl [I ls 0,I ls 1,br,D.aC 4 ((esD (I ls 3))++[[aa cE 0,aa cE 1,aa cE 2,aa cE 3]])])
)
) (
 aU (
 some (.inl [D.aC 4 (esD (I ls 3))])
)
)
def Um(n:Nat)(ab:D)(ah:D):Option D:=
 R (
 bm (HB n) n [ab,ah,J 0,D.aC 4 ([]:List (List D))]
)<|a7 fun ls=>
 some (D.aQ [D.aC 4 (esD (I ls 0)),J 0,J 0])
def nI(n:Nat):List D→Option D
 |[ab,ah]=>Um n ab ah
 |_=>none
def zy(w9:List D→Option D)(n:Nat)(ls:List D):Option (List D⊕(List D⊕D)):=
 R (lenP (I ls 7)) fun dD=>
 R (binP false .lss (I ls 1) dD) fun ds=>
 oif ds (
 R (a3 6 (I ls 7) (I ls 1)) fun wF=>
 R (aW true 6 0 wF) fun c1=>
 R (w9 [c1,I ls 0]) fun dP=>
 R (extP 0 dP) fun c2=>
 R (extP 1 dP) fun gj=>
 aw (aK 6 c2)<|
 R (binP false .neq gj (J 0)) fun fH=>
 oif fH (
 aU (
 aU (
 some (D.aQ [D.agg [J 0,J 0,J 0,aJ ⟨#[]⟩,D.val (.slice none 0 0),D.val (.slice none 0 0)],gj])
)
)
) (
 aw (aK 6 (D.agg [aa c2 0,aa c2 1,aa c2 2,aa c2 3,aa c2 4,aa c2 5]))<|
 aw (cY (((esD (I ls 14))).length+([[aa c2 0,aa c2 1,aa c2 2,aa c2 3,aa c2 4,aa c2 5]]).length) 88)<|
 R (binP false .add (I ls 1) (J 1)) fun df=>
 some (.inl [I ls 0,df,I ls 2,I ls 3,I ls 4,I ls 5,I ls 6,I ls 7,I ls 8,I ls 9,I ls 10,I ls 11,I ls 12,I ls 13,D.aC 6 ((esD (I ls 14))++[[aa c2 0,aa c2 1,aa c2 2,aa c2 3,aa c2 4,aa c2 5]])])
)
) (
 aU (
 some (.inl [I ls 2,I ls 3,I ls 4,I ls 5,I ls 6,I ls 7,I ls 8,I ls 9,I ls 10,I ls 11,I ls 12,I ls 13,D.aC 6 (esD (I ls 14))])
)
)
def qV(w9:List D→Option D)(n:Nat)(ab:D)(ah:D):Option D:=
 aw (aK 6 ab)<|
 R (binP false .eql (aa ab 0) (J 1)) fun bp=>
 oif bp (
 R (ky n [D.agg [aa ab 1,aa ab 2,aa ab 3,aa ab 4],ah]) fun ca=>
 R (extP 0 ca) fun v20=>
 R (extP 1 ca) fun bJ=>
 aw (aK 4 v20)<|
 R (binP false .neq bJ (J 0)) fun b7=>
 oif b7 (
 some (D.aQ [D.agg [J 0,J 0,J 0,aJ ⟨#[]⟩,D.val (.slice none 0 0),D.val (.slice none 0 0)],bJ])
) (
 aw (aK 4 (D.agg [aa v20 0,aa v20 1,aa v20 2,aa v20 3]))<|
 aw (aK 6 (D.agg [aa ab 0,aa v20 0,aa v20 1,aa v20 2,aa v20 3,aa ab 5]))<|
 some (D.aQ [D.agg [aa ab 0,aa v20 0,aa v20 1,aa v20 2,aa v20 3,aa ab 5],J 0])
)
) (
 R (
 bm (zy w9 n) n [ah,J 0,aa ab 0,aa ab 1,aa ab 2,aa ab 3,aa ab 4,aa ab 5,J 0,J 0,J 0,aJ ⟨#[]⟩,D.val (.slice none 0 0),D.val (.slice none 0 0),D.aC 6 ([]:List (List D))]
)<|a7 fun ls=>
 aw (bA (I ls 0))<|
 aw (bA (I ls 1))<|
 aw (bA (I ls 2))<|
 aw (bA (I ls 3))<|
 aw (bA (I ls 4))<|
 some (D.aQ [D.agg [I ls 0,I ls 1,I ls 2,I ls 3,I ls 4,D.aC 6 (esD (I ls 12))],J 0])
)
def mW:Nat→List D→Option D
 |0,_=>none
 |n+1,aF=>match aF with
  |[ab,ah]=>qV (mW n) n ab ah
  |_=>none
def M1(n:Nat)(ab:D)(ah:D):Option D:=
 aw (aK 6 ab)<|
 R (w5 n [D.agg [aa ab 0,aa ab 1,aa ab 2,aa ab 3,aa ab 4,aa ab 5]]) fun cg=>
 R (binP false .neq cg (J 0)) fun v10=>
 oif v10 (
 some (D.aQ [D.agg [J 0,J 0,J 0,aJ ⟨#[]⟩,D.val (.slice none 0 0),D.val (.slice none 0 0)],cg])
) (
 R (mW n [D.agg [aa ab 0,aa ab 1,aa ab 2,aa ab 3,aa ab 4,aa ab 5],ah]) fun bg=>
 R (extP 0 bg) fun bx=>
 R (extP 1 bg) fun br=>
 aw (aK 6 bx)<|
 some (D.aQ [D.agg [aa bx 0,aa bx 1,aa bx 2,aa bx 3,aa bx 4,aa bx 5],br])
)
def xa(n:Nat):List D→Option D
 |[ab,ah]=>M1 n ab ah
 |_=>none
def zz(n:Nat)(ls:List D):Option (List D⊕(List D⊕D)):=
 R (lenP (I ls 5)) fun fa=>
 R (binP false .lss (I ls 0) fa) fun eX=>
 oif eX (
 R (a3 5 (I ls 5) (I ls 0)) fun Ct=>
 R (aW true 4 1 Ct) fun il=>
 R (ky n [il,I ls 2]) fun fI=>
 R (extP 0 fI) fun ep=>
 R (extP 1 fI) fun iN=>
 aw (aK 4 ep)<|
 R (binP false .neq iN (J 0)) fun gu=>
 oif gu (
 aw (bA (I ls 0))<|
 aw (aK 2 (D.agg [J 5,I ls 0]))<|
 aU (
 aU (
 some (D.aQ [D.agg [D.val (.slice none 0 0),D.val (.slice none 0 0),D.val (.slice none 0 0),D.val (.slice none 0 0),D.val (.slice none 0 0),D.val (.slice none 0 0),D.val (.slice none 0 0),D.val (.slice none 0 0)],D.agg [J 5,I ls 0],iN])
)
)
) (
 R (a3 5 (I ls 5) (I ls 0)) fun LV=>
 R (aW false 1 0 LV) fun g7=>
 aw (bA g7)<|
 aw (aK 4 (D.agg [aa ep 0,aa ep 1,aa ep 2,aa ep 3]))<|
 aw (aK 5 (D.agg [g7,aa ep 0,aa ep 1,aa ep 2,aa ep 3]))<|
 aw (cY (((esD (I ls 26))).length+([[g7,aa ep 0,aa ep 1,aa ep 2,aa ep 3]]).length) 72)<|
 R (binP false .add (I ls 0) (J 1)) fun eo=>
 some (.inl [eo,I ls 1,I ls 2,I ls 3,I ls 4,I ls 5,I ls 6,I ls 7,I ls 8,I ls 9,I ls 10,I ls 11,I ls 12,I ls 13,I ls 14,I ls 15,I ls 16,I ls 17,I ls 18,I ls 19,I ls 20,I ls 21,I ls 22,I ls 23,I ls 24,I ls 25,D.aC 5 ((esD (I ls 26))++[[g7,aa ep 0,aa ep 1,aa ep 2,aa ep 3]])])
)
) (
 aU (
 some (.inl [I ls 1,I ls 2,I ls 3,I ls 4,I ls 5,I ls 6,I ls 7,I ls 8,I ls 9,I ls 10,I ls 11,I ls 12,I ls 13,I ls 14,I ls 15,I ls 16,I ls 17,I ls 18,I ls 19,I ls 20,I ls 21,I ls 22,I ls 23,I ls 24,I ls 25,D.aC 5 (esD (I ls 26))])
)
)
def zA(n:Nat)(ls:List D):Option (List D⊕(List D⊕D)):=
 R (lenP (I ls 8)) fun qA=>
 R (binP false .lss (I ls 0) qA) fun Cu=>
 oif Cu (
 R (a3 7 (I ls 8) (I ls 0)) fun MO=>
 R (aW true 6 1 MO) fun vU=>
 R (xa n [vU,I ls 2]) fun zc=>
 R (extP 0 zc) fun hB=>
 R (extP 1 zc) fun Hz=>
 aw (aK 6 hB)<|
 R (binP false .neq Hz (J 0)) fun tM=>
 oif tM (
 aw (bA (I ls 0))<|
 aw (aK 2 (D.agg [J 8,I ls 0]))<|
 aU (
 aU (
 some (D.aQ [D.agg [D.val (.slice none 0 0),D.val (.slice none 0 0),D.val (.slice none 0 0),D.val (.slice none 0 0),D.val (.slice none 0 0),D.val (.slice none 0 0),D.val (.slice none 0 0),D.val (.slice none 0 0)],D.agg [J 8,I ls 0],Hz])
)
)
) (
 R (a3 7 (I ls 8) (I ls 0)) fun agR=>
 R (aW false 1 0 agR) fun tF=>
 aw (bA tF)<|
 aw (aK 6 (D.agg [aa hB 0,aa hB 1,aa hB 2,aa hB 3,aa hB 4,aa hB 5]))<|
 aw (aK 7 (D.agg [tF,aa hB 0,aa hB 1,aa hB 2,aa hB 3,aa hB 4,aa hB 5]))<|
 aw (cY (((esD (I ls 26))).length+([[tF,aa hB 0,aa hB 1,aa hB 2,aa hB 3,aa hB 4,aa hB 5]]).length) 104)<|
 R (binP false .add (I ls 0) (J 1)) fun vy=>
 some (.inl [vy,I ls 1,I ls 2,I ls 3,I ls 4,I ls 5,I ls 6,I ls 7,I ls 8,I ls 9,I ls 10,I ls 11,I ls 12,I ls 13,I ls 14,I ls 15,I ls 16,I ls 17,I ls 18,I ls 19,I ls 20,I ls 21,I ls 22,I ls 23,I ls 24,D.aC 5 (esD (I ls 25)),D.aC 7 ((esD (I ls 26))++[[tF,aa hB 0,aa hB 1,aa hB 2,aa hB 3,aa hB 4,aa hB 5]])])
)
) (
 aU (
 some (.inl [I ls 9,I ls 10,I ls 11,I ls 12,I ls 13,I ls 14,I ls 15,I ls 16,I ls 17,I ls 18,I ls 19,I ls 20,I ls 21,I ls 22,I ls 23,I ls 24,D.aC 5 (esD (I ls 25)),D.aC 7 (esD (I ls 26))])
)
)
def M3(n:Nat)(ab:D):Option D:=
 aw (aK 8 ab)<|
 aw (bA (aa ab 0))<|
 aw (aK 8 (D.agg [aa ab 0,D.val (.slice none 0 0),D.val (.slice none 0 0),D.val (.slice none 0 0),D.val (.slice none 0 0),D.val (.slice none 0 0),D.val (.slice none 0 0),D.val (.slice none 0 0)]))<|
 R (nI n [aa ab 2,aa ab 1]) fun b7=>
 R (extP 0 b7) fun cq=>
 R (extP 1 b7) fun cE=>
 R (extP 2 b7) fun ck=>
 R (binP false .neq ck (J 0)) fun cu=>
 oif cu (
 aw (bA cE)<|
 aw (aK 2 (D.agg [J 3,cE]))<|
 some (D.aQ [D.agg [D.val (.slice none 0 0),D.val (.slice none 0 0),D.val (.slice none 0 0),D.val (.slice none 0 0),D.val (.slice none 0 0),D.val (.slice none 0 0),D.val (.slice none 0 0),D.val (.slice none 0 0)],D.agg [J 3,cE],ck])
) (
 aw (bA cq)<|
 R (nI n [aa ab 3,aa ab 1]) fun dt=>
 R (extP 0 dt) fun e2=>
 R (extP 1 dt) fun c1=>
 R (extP 2 dt) fun dZ=>
 R (binP false .neq dZ (J 0)) fun c2=>
 oif c2 (
 aw (bA c1)<|
 aw (aK 2 (D.agg [J 4,c1]))<|
 some (D.aQ [D.agg [D.val (.slice none 0 0),D.val (.slice none 0 0),D.val (.slice none 0 0),D.val (.slice none 0 0),D.val (.slice none 0 0),D.val (.slice none 0 0),D.val (.slice none 0 0),D.val (.slice none 0 0)],D.agg [J 4,c1],dZ])
) (
 aw (bA e2)<|
 R (
 bm (zz n) n [J 0,aa ab 0,aa ab 1,aa ab 2,aa ab 3,aa ab 4,aa ab 5,aa ab 6,aa ab 7,D.val (.slice none 0 0),D.val (.slice none 0 0),D.val (.slice none 0 0),D.val (.slice none 0 0),D.val (.slice none 0 0),D.val (.slice none 0 0),D.val (.slice none 0 0),D.val (.slice none 0 0),J 0,J 0,aa ab 0,D.val (.slice none 0 0),cq,e2,D.val (.slice none 0 0),D.val (.slice none 0 0),D.val (.slice none 0 0),D.aC 5 []]
)<|a7 fun ls=>
 R (nI n [I ls 5,I ls 1]) fun iQ=>
 R (extP 0 iQ) fun lB=>
 R (extP 1 iQ) fun qy=>
 R (extP 2 iQ) fun qz=>
 R (binP false .neq qz (J 0)) fun vw=>
 oif vw (
 aw (bA qy)<|
 aw (aK 2 (D.agg [J 6,qy]))<|
 some (D.aQ [D.agg [D.val (.slice none 0 0),D.val (.slice none 0 0),D.val (.slice none 0 0),D.val (.slice none 0 0),D.val (.slice none 0 0),D.val (.slice none 0 0),D.val (.slice none 0 0),D.val (.slice none 0 0)],D.agg [J 6,qy],qz])
) (
 aw (bA lB)<|
 R (nI n [I ls 6,I ls 1]) fun vx=>
 R (extP 0 vx) fun pg=>
 R (extP 1 vx) fun kx=>
 R (extP 2 vx) fun tG=>
 R (binP false .neq tG (J 0)) fun mS=>
 oif mS (
 aw (bA kx)<|
 aw (aK 2 (D.agg [J 7,kx]))<|
 some (D.aQ [D.agg [D.val (.slice none 0 0),D.val (.slice none 0 0),D.val (.slice none 0 0),D.val (.slice none 0 0),D.val (.slice none 0 0),D.val (.slice none 0 0),D.val (.slice none 0 0),D.val (.slice none 0 0)],D.agg [J 7,kx],tG])
) (
 aw (bA pg)<|
 R (
 aw (nilP (I ls 24))<|
 bm (zA n) n [J 0,I ls 0,I ls 1,I ls 2,I ls 3,I ls 4,I ls 5,I ls 6,I ls 7,I ls 8,I ls 9,I ls 10,I ls 11,I ls 12,I ls 13,I ls 14,I ls 15,I ls 16,I ls 17,I ls 18,I ls 19,I ls 20,I ls 21,lB,pg,D.aC 5 (esD (I ls 25)),D.aC 7 []]
)<|a7 fun ls=>
 aw (aK 8 (D.agg [I ls 10,I ls 11,I ls 12,I ls 13,D.aC 5 (esD (I ls 16)),I ls 14,I ls 15,D.aC 7 (esD (I ls 17))]))<|
 some (D.aQ [D.agg [I ls 10,I ls 11,I ls 12,I ls 13,D.aC 5 (esD (I ls 16)),I ls 14,I ls 15,D.aC 7 (esD (I ls 17))],D.agg [J 0,J 0],J 0])
)
)
)
)
def DR(n:Nat):List D→Option D
 |[ab]=>M3 n ab
 |_=>none
def HC(n:Nat)(ab:D):Option D:=
 aw (aK 8 ab)<|
 R (lenP (aa ab 1)) fun cg=>
 R (binP false .eql cg (J 0)) fun bG=>
 oif bG (
 aw (aK 8 (D.agg [aa ab 0,aa ab 1,aa ab 2,aa ab 3,aa ab 4,aa ab 5,aa ab 6,aa ab 7]))<|
 some (D.agg [aa ab 0,aa ab 1,aa ab 2,aa ab 3,aa ab 4,aa ab 5,aa ab 6,aa ab 7])
) (
 R (DR n [D.agg [aa ab 0,aa ab 1,aa ab 2,aa ab 3,aa ab 4,aa ab 5,aa ab 6,aa ab 7]]) fun bR=>
 R (extP 0 bR) fun bp=>
 R (extP 1 bR) fun bg=>
 R (extP 2 bR) fun bx=>
 aw (aK 8 bp)<|
 aw (aK 2 bg)<|
 aw (aK 8 (D.agg [aa bp 0,aa bp 1,aa bp 2,aa bp 3,aa bp 4,aa bp 5,aa bp 6,aa bp 7]))<|
 some (D.agg [aa bp 0,aa bp 1,aa bp 2,aa bp 3,aa bp 4,aa bp 5,aa bp 6,aa bp 7])
)
def nJ(n:Nat):List D→Option D
 |[ab]=>HC n ab
 |_=>none
def pK(n:Nat)(ls:List D):Option (List D⊕(List D⊕D)):=
 R (lenP (I ls 0)) fun bg=>
 R (binP false .lss (I ls 1) bg) fun bx=>
 oif bx (
 R (a3 4 (I ls 2) (I ls 1)) fun wD=>
 R (aW true 4 0 wD) fun b7=>
 aw (aK 4 b7)<|
 R (gD (aa b7 1) true (
 R (a3 1 (I ls 0) (I ls 1)) fun rZ=>
 R (aW false 1 0 rZ) fun v30=>
 R (binP false .neq v30 (J 0)) fun dH=>
 some dH
)) fun dH=>
 R (pickP (aa b7 1) dH (ar false)) fun dr=>
 R (gD dr true (
 R (a3 1 (I ls 0) (I ls 1)) fun vZ=>
 R (aW false 1 0 vZ) fun dk=>
 R (binP false .neq dk (J 1)) fun dg=>
 some dg
)) fun dg=>
 R (pickP dr dg (ar false)) fun eG=>
 R (gD eG false (
 R (unP .not (aa b7 1)) fun dZ=>
 some dZ
)) fun dP=>
 R (gD dP true (
 R (a3 1 (I ls 0) (I ls 1)) fun v8=>
 R (aW false 1 0 v8) fun fH=>
 R (binP false .lss fH (aa b7 2)) fun fy=>
 some fy
)) fun e3=>
 R (gD e3 false (
 R (a3 1 (I ls 0) (I ls 1)) fun wJ=>
 R (aW false 1 0 wJ) fun eX=>
 R (binP false .gtr eX (aa b7 3)) fun jG=>
 some jG
)) fun jG=>
 R (gD dP true (
 R (pickP e3 (ar true) jG) fun eH=>
 some eH
)) fun eH=>
 R (gD eG false (
 R (pickP dP eH (ar false)) fun gr=>
 some gr
)) fun gr=>
 R (pickP eG (ar true) gr) fun iq=>
 oif iq (
 aU (
 aU (
 some (ar false)
)
)
) (
 R (binP false .add (I ls 1) (J 1)) fun bE=>
 some (.inl [I ls 0,bE,I ls 2,I ls 3,I ls 4,I ls 5,I ls 6,I ls 7,I ls 8,I ls 9])
)
) (
 aU (
 some (.inl [])
)
)
def Un(n:Nat)(ab:D)(ah:D):Option D:=
 aw (aK 8 ab)<|
 R (lenP ah) fun cg=>
 R (lenP (aa ab 0)) fun v11=>
 R (binP false .neq cg v11) fun bO=>
 oif bO (
 some (ar false)
) (
 R (
 bm (pK n) n [ah,J 0,aa ab 0,aa ab 1,aa ab 2,aa ab 3,aa ab 4,aa ab 5,aa ab 6,aa ab 7]
)<|a7 fun ls=>
 some (ar true)
)
def zB(n:Nat):List D→Option D
 |[ab,ah]=>Un n ab ah
 |_=>none
def DS(xb:List D→Option D)(n:Nat)(ls:List D):Option (List D⊕(List D⊕D)):=
 R (lenP (I ls 4)) fun v10=>
 R (binP false .lss (I ls 0) v10) fun v11=>
 oif v11 (
 R (a3 4 (I ls 4) (I ls 0)) fun C9=>
 R (aW true 4 0 C9) fun bE=>
 R (xb [bE]) fun ca=>
 oif ca (
 aU (
 aU (
 some (ar true)
)
)
) (
 R (binP false .add (I ls 0) (J 1)) fun bR=>
 some (.inl [bR,I ls 1,I ls 2,I ls 3,I ls 4])
)
) (
 aU (
 some (.inl [])
)
)
def HD(xb:List D→Option D)(n:Nat)(ab:D):Option D:=
 aw (aK 4 ab)<|
 R (binP false .eql (aa ab 0) (J 4)) fun v6=>
 oif v6 (
 some (ar true)
) (
 R (
 bm (DS xb n) n [J 0,aa ab 0,aa ab 1,aa ab 2,aa ab 3]
)<|a7 fun ls=>
 some (ar false)
)
def pL:Nat→List D→Option D
 |0,_=>none
 |n+1,aF=>match aF with
  |[ab]=>HD (pL n) n ab
  |_=>none
def Uo(n:Nat)(ab:D):Option D:=
 oif ab (
 some (J 1)
) (
 some (J 0)
)
def nK(n:Nat):List D→Option D
 |[ab]=>Uo n ab
 |_=>none
def HE(n:Nat)(ab:D):Option D:=
 R (binP false .lss ab (J (-9007199254740992))) fun v4=>
 R (gD v4 false (
 R (binP false .gtr ab (J 9007199254740992)) fun bN=>
 some bN
)) fun bN=>
 R (pickP v4 (ar true) bN) fun cg=>
 some cg
def tS(n:Nat):List D→Option D
 |[ab]=>HE n ab
 |_=>none
def Up(n:Nat)(ab:D):Option D:=
 R (unP .neg ab) fun jZ=>
 R (jz true [ab,jZ]) fun v6=>
 some v6
def zC(n:Nat):List D→Option D
 |[ab]=>Up n ab
 |_=>none
def tT(xc:List D→Option D)(n:Nat)(ls:List D):Option (List D⊕(List D⊕D)):=
 R (lenP (I ls 8)) fun jG=>
 R (binP false .lss (I ls 4) jG) fun eH=>
 oif eH (
 R (
 R (a3 4 (I ls 8) (I ls 4)) fun MH=>
 R (aW true 4 0 MH) fun ep=>
 R (xc [I ls 0,ep,I ls 1,I ls 2]) fun gu=>
 R (extP 0 gu) fun gv=>
 R (extP 1 gu) fun gF=>
 R (unP .not gF) fun hj=>
 oif hj (
 aU (
 aU (
 aU (
 some (D.aQ [J 0,ar false])
)
)
)
) (
 aw (bA gv)<|
 aw (cY (((esD (I ls 9))).length+([[gv]]).length) 8)<|
 R (binP false .eql (I ls 5) (J 6)) fun j0=>
 R (gD j0 false (
 R (binP false .eql (I ls 5) (J 7)) fun px=>
 some px
)) fun px=>
 R (pickP j0 (ar true) px) fun rW=>
 R (
 oif rW (
 R (binP false .add (I ls 3) gv) fun wu=>
 some (.inl [I ls 0,I ls 1,I ls 2,wu,I ls 4,I ls 5,I ls 6,I ls 7,I ls 8,D.aC 1 ((esD (I ls 9))++[[gv]])])
) (
 some (.inl [I ls 0,I ls 1,I ls 2,I ls 3,I ls 4,I ls 5,I ls 6,I ls 7,I ls 8,D.aC 1 ((esD (I ls 9))++[[gv]])])
)
)<|a7 fun ls=>
 some (.inl [I ls 0,I ls 1,I ls 2,I ls 3,I ls 4,I ls 5,I ls 6,I ls 7,I ls 8,D.aC 1 (esD (I ls 9))])
)
)<|a7 fun ls=>
 R (binP false .add (I ls 4) (J 1)) fun iq=>
 some (.inl [I ls 0,I ls 1,I ls 2,I ls 3,iq,I ls 5,I ls 6,I ls 7,I ls 8,D.aC 1 (esD (I ls 9))])
) (
 aU (
 some (.inl [I ls 3,I ls 5,I ls 6,I ls 7,I ls 8,D.aC 1 (esD (I ls 9))])
)
)
def j7(xc:List D→Option D)(n:Nat)(ab:D)(ah:D)(aT:D)(bP:D):Option D:=
 aw (aK 4 ah)<|
 R (binP false .eql (aa ah 0) (J 1)) fun bJ=>
 R (
 oif bJ (
 some (.inl [ab,aT,bP,aa ah 0,bJ,aa ah 0,aa ah 1,aa ah 2,aa ah 3])
) (
 R (binP false .eql (aa ah 0) (J 2)) fun bS=>
 some (.inl [ab,aT,bP,aa ah 0,bS,aa ah 0,aa ah 1,aa ah 2,aa ah 3])
)
)<|a7 fun ls=>
 oif (I ls 4) (
 some (D.aQ [I ls 6,ar true])
) (
 R (binP false .eql (I ls 3) (J 3)) fun ck=>
 R (
 oif ck (
 some (.inl [I ls 0,I ls 1,I ls 2,ck,I ls 5,I ls 6,I ls 7,I ls 8])
) (
 R (binP false .eql (I ls 3) (J 4)) fun cJ=>
 some (.inl [I ls 0,I ls 1,I ls 2,cJ,I ls 5,I ls 6,I ls 7,I ls 8])
)
)<|a7 fun ls=>
 oif (I ls 3) (
 R (sd n [I ls 0,I ls 6]) fun dH=>
 R (binP false .eql (I ls 4) (J 3)) fun ds=>
 R (
 oif ds (
 R (a3 1 (I ls 1) dH) fun DQ=>
 R (aW false 1 0 DQ) fun dg=>
 some (.inl [I ls 0,dH,dg])
) (
 R (a3 1 (I ls 2) dH) fun wF=>
 R (aW false 1 0 wF) fun c1=>
 some (.inl [I ls 0,dH,c1])
)
)<|a7 fun ls=>
 R (a3 4 (I ls 0) (I ls 1)) fun Dl=>
 R (aW false 1 1 Dl) fun iO=>
 oif iO (
 R (binP false .neq (I ls 2) (J 0)) fun eA=>
 R (nK n [eA]) fun cX=>
 some (D.aQ [cX,ar true])
) (
 R (tS n [I ls 2]) fun hL=>
 R (unP .not hL) fun hA=>
 some (D.aQ [I ls 2,hA])
)
) (
 R (
 bm (tT xc n) n [I ls 0,I ls 1,I ls 2,J 0,J 0,I ls 4,I ls 5,I ls 6,I ls 7,D.aC 1 ([]:List (List D))]
)<|a7 fun ls=>
 R (
 R (binP false .eql (I ls 1) (J 5)) fun iQ=>
 R (
 oif iQ (
 R (cG ((esD (I ls 5))).length (J 0)) fun agS=>
 R (((esD (I ls 5)))[agS]?) fun agT=>
 R (aW false 1 0 agT) fun qz=>
 R (binP false .sub (J 1) qz) fun wv=>
 some (.inl [wv])
) (
 R (binP false .eql (I ls 1) (J 6)) fun pq=>
 R (
 oif pq (
 R (binP false .eql (I ls 0) (J ((esD (I ls 5))).length)) fun lZ=>
 R (nK n [lZ]) fun r2=>
 some (.inl [r2])
) (
 R (binP false .eql (I ls 1) (J 7)) fun im=>
 R (
 oif im (
 R (binP false .gtr (I ls 0) (J 0)) fun wo=>
 R (nK n [wo]) fun wx=>
 some (.inl [wx])
) (
 R (binP false .eql (I ls 1) (J 8)) fun pg=>
 R (
 oif pg (
 R (cG ((esD (I ls 5))).length (J 0)) fun agU=>
 R (((esD (I ls 5)))[agU]?) fun agV=>
 R (aW false 1 0 agV) fun wy=>
 R (binP false .eql wy (J 0)) fun mS=>
 R (gD mS false (
 R (cG ((esD (I ls 5))).length (J 1)) fun agW=>
 R (((esD (I ls 5)))[agW]?) fun agX=>
 R (aW false 1 0 agX) fun qF=>
 R (binP false .eql qF (J 1)) fun od=>
 some od
)) fun od=>
 R (pickP mS (ar true) od) fun yZ=>
 R (nK n [yZ]) fun qG=>
 some (.inl [qG])
) (
 R (binP false .eql (I ls 1) (J 9)) fun zb=>
 R (
 oif zb (
 some (.inl [J 0,I ls 1,zb,D.aC 1 (esD (I ls 5))])
) (
 R (binP false .eql (I ls 1) (J 10)) fun qA=>
 some (.inl [J 0,I ls 1,qA,D.aC 1 (esD (I ls 5))])
)
)<|a7 fun ls=>
 R (
 oif (I ls 2) (
 R (cG ((esD (I ls 3))).length (J 0)) fun agY=>
 R (((esD (I ls 3)))[agY]?) fun agZ=>
 R (aW false 1 0 agZ) fun vy=>
 R (cG ((esD (I ls 3))).length (J 1)) fun ag0=>
 R (((esD (I ls 3)))[ag0]?) fun ag1=>
 R (aW false 1 0 ag1) fun vA=>
 R (binP false .eql vy vA) fun Mm=>
 R (nK n [Mm]) fun ag2=>
 some (.inl [ag2])
) (
 R (binP false .eql (I ls 1) (J 11)) fun vU=>
 R (
 oif vU (
 R (cG ((esD (I ls 3))).length (J 0)) fun ag3=>
 R (((esD (I ls 3)))[ag3]?) fun ag4=>
 R (aW false 1 0 ag4) fun zc=>
 R (cG ((esD (I ls 3))).length (J 1)) fun ag5=>
 R (((esD (I ls 3)))[ag5]?) fun ag6=>
 R (aW false 1 0 ag6) fun rX=>
 R (binP false .neq zc rX) fun tM=>
 R (nK n [tM]) fun MP=>
 some (.inl [MP])
) (
 R (binP false .eql (I ls 1) (J 12)) fun MQ=>
 R (
 oif MQ (
 R (cG ((esD (I ls 3))).length (J 0)) fun ag7=>
 R (((esD (I ls 3)))[ag7]?) fun ag8=>
 R (aW false 1 0 ag8) fun Me=>
 R (cG ((esD (I ls 3))).length (J 1)) fun ag9=>
 R (((esD (I ls 3)))[ag9]?) fun aha=>
 R (aW false 1 0 aha) fun ahb=>
 R (binP false .lss Me ahb) fun MR=>
 R (nK n [MR]) fun za=>
 some (.inl [za])
) (
 R (binP false .eql (I ls 1) (J 13)) fun CB=>
 R (
 oif CB (
 R (cG ((esD (I ls 3))).length (J 0)) fun ahc=>
 R (((esD (I ls 3)))[ahc]?) fun ahd=>
 R (aW false 1 0 ahd) fun qH=>
 R (cG ((esD (I ls 3))).length (J 1)) fun ahe=>
 R (((esD (I ls 3)))[ahe]?) fun ahf=>
 R (aW false 1 0 ahf) fun L2=>
 R (binP false .leq qH L2) fun C3=>
 R (nK n [C3]) fun vV=>
 some (.inl [vV])
) (
 R (binP false .eql (I ls 1) (J 14)) fun C4=>
 R (
 oif C4 (
 R (cG ((esD (I ls 3))).length (J 0)) fun ahg=>
 R (((esD (I ls 3)))[ahg]?) fun ahh=>
 R (aW false 1 0 ahh) fun wz=>
 R (cG ((esD (I ls 3))).length (J 1)) fun ahi=>
 R (((esD (I ls 3)))[ahi]?) fun ahj=>
 R (aW false 1 0 ahj) fun Cy=>
 R (binP false .add wz Cy) fun ahk=>
 some (.inl [ahk])
) (
 R (binP false .eql (I ls 1) (J 15)) fun y0=>
 R (
 oif y0 (
 R (cG ((esD (I ls 3))).length (J 0)) fun ahl=>
 R (((esD (I ls 3)))[ahl]?) fun ahm=>
 R (aW false 1 0 ahm) fun ahn=>
 R (cG ((esD (I ls 3))).length (J 1)) fun aho=>
 R (((esD (I ls 3)))[aho]?) fun ahp=>
 R (aW false 1 0 ahp) fun ahq=>
 R (binP false .sub ahn ahq) fun ahr=>
 some (.inl [ahr])
) (
 R (binP false .eql (I ls 1) (J 16)) fun MT=>
 R (
 oif MT (
 R (cG ((esD (I ls 3))).length (J 0)) fun ahs=>
 R (((esD (I ls 3)))[ahs]?) fun aht=>
 R (aW false 1 0 aht) fun Cz=>
 R (binP false .neq Cz (J 0)) fun CA=>
 R (gD CA true (
 R (cG ((esD (I ls 3))).length (J 1)) fun ahu=>
 R (((esD (I ls 3)))[ahu]?) fun ahv=>
 R (aW false 1 0 ahv) fun ahw=>
 R (zC n [ahw]) fun ahx=>
 R (cG ((esD (I ls 3))).length (J 0)) fun ahy=>
 R (((esD (I ls 3)))[ahy]?) fun ahz=>
 R (aW false 1 0 ahz) fun ahA=>
 R (zC n [ahA]) fun ahB=>
 R (binP false .quo (J 9007199254740992) ahB) fun ahC=>
 R (binP false .gtr ahx ahC) fun M4=>
 some M4
)) fun M4=>
 R (pickP CA M4 (ar false)) fun ahD=>
 oif ahD (
 aU (
 aU (
 aU (
 aU (
 aU (
 aU (
 aU (
 aU (
 aU (
 aU (
 aU (
 aU (
 some (D.aQ [J 0,ar false])
)
)
)
)
)
)
)
)
)
)
)
)
) (
 R (cG ((esD (I ls 3))).length (J 0)) fun ahE=>
 R (((esD (I ls 3)))[ahE]?) fun ahF=>
 R (aW false 1 0 ahF) fun ahG=>
 R (cG ((esD (I ls 3))).length (J 1)) fun ahH=>
 R (((esD (I ls 3)))[ahH]?) fun ahI=>
 R (aW false 1 0 ahI) fun ahJ=>
 R (binP false .mul ahG ahJ) fun ahK=>
 some (.inl [ahK])
)
) (
 R (binP false .eql (I ls 1) (J 17)) fun ahL=>
 R (
 oif ahL (
 R (cG ((esD (I ls 3))).length (J 0)) fun ahM=>
 R (((esD (I ls 3)))[ahM]?) fun ahN=>
 R (aW false 1 0 ahN) fun ahO=>
 R (cG ((esD (I ls 3))).length (J 1)) fun ahP=>
 R (((esD (I ls 3)))[ahP]?) fun ahQ=>
 R (aW false 1 0 ahQ) fun ahR=>
 R (binP false .rem ahO ahR) fun ahS=>
 R (cG ((esD (I ls 3))).length (J 1)) fun ahT=>
 R (((esD (I ls 3)))[ahT]?) fun ahU=>
 R (aW false 1 0 ahU) fun ahV=>
 R (binP false .add ahS ahV) fun ahW=>
 R (cG ((esD (I ls 3))).length (J 1)) fun ahX=>
 R (((esD (I ls 3)))[ahX]?) fun ahY=>
 R (aW false 1 0 ahY) fun ahZ=>
 R (binP false .rem ahW ahZ) fun ah0=>
 some (.inl [ah0])
) (
 R (binP false .eql (I ls 1) (J 18)) fun ah1=>
 R (
 oif ah1 (
 R (cG ((esD (I ls 3))).length (J 2)) fun ah2=>
 R (((esD (I ls 3)))[ah2]?) fun ah3=>
 R (aW false 1 0 ah3) fun ah4=>
 R (cG ((esD (I ls 3))).length (J 0)) fun ah5=>
 R (((esD (I ls 3)))[ah5]?) fun ah6=>
 R (aW false 1 0 ah6) fun ah7=>
 R (binP false .eql ah7 (J 1)) fun ah8=>
 R (
 oif ah8 (
 R (cG ((esD (I ls 3))).length (J 1)) fun ah9=>
 R (((esD (I ls 3)))[ah9]?) fun aia=>
 R (aW false 1 0 aia) fun aib=>
 some (.inl [aib])
) (
 some (.inl [ah4])
)
)<|a7 fun ls=>
 some (.inl [I ls 0])
) (
 some (.inl [I ls 0])
)
)<|a7 fun ls=>
 some (.inl [I ls 0])
)
)<|a7 fun ls=>
 some (.inl [I ls 0])
)
)<|a7 fun ls=>
 some (.inl [I ls 0])
)
)<|a7 fun ls=>
 some (.inl [I ls 0])
)
)<|a7 fun ls=>
 some (.inl [I ls 0])
)
)<|a7 fun ls=>
 some (.inl [I ls 0])
)
)<|a7 fun ls=>
 some (.inl [I ls 0])
)
)<|a7 fun ls=>
 some (.inl [I ls 0])
)
)<|a7 fun ls=>
 some (.inl [I ls 0])
)
)<|a7 fun ls=>
 some (.inl [I ls 0])
)
)<|a7 fun ls=>
 some (.inl [I ls 0])
)
)<|a7 fun ls=>
 some (.inl [I ls 0])
)
)<|a7 fun ls=>
 some (.inl [I ls 0])
)<|a7 fun ls=>
 R (tS n [I ls 0]) fun aic=>
 R (unP .not aic) fun aid=>
 some (D.aQ [I ls 0,aid])
)
)
def pM:Nat→List D→Option D
 |0,_=>none
 |n+1,aF=>match aF with
  |[ab,ah,aT,bP]=>j7 (pM n) n ab ah aT bP
  |_=>none
def zD(n:Nat)(ab:D)(ah:D)(aT:D)(bP:D):Option D:=
 aw (aK 4 ah)<|
 R (tN n [ab,D.agg [aa ah 0,aa ah 1,aa ah 2,aa ah 3],ar true]) fun br=>
 R (extP 0 br) fun bE=>
 R (extP 1 br) fun ca=>
 aw (aK 3 bE)<|
 R (binP false .neq ca (J 0)) fun bJ=>
 R (gD bJ false (
 R (lenP aT) fun cq=>
 R (lenP ab) fun ck=>
 R (binP false .neq cq ck) fun cJ=>
 some cJ
)) fun cJ=>
 R (pickP bJ (ar true) cJ) fun cu=>
 R (gD cu false (
 R (pL n [D.agg [aa ah 0,aa ah 1,aa ah 2,aa ah 3]]) fun dH=>
 some dH
)) fun dr=>
 R (gD dr true (
 R (lenP bP) fun ds=>
 R (lenP ab) fun df=>
 R (binP false .neq ds df) fun dk=>
 some dk
)) fun dk=>
 R (gD cu false (
 R (pickP dr dk (ar false)) fun dg=>
 some dg
)) fun dg=>
 R (pickP cu (ar true) dg) fun eG=>
 oif eG (
 some (D.aQ [J 0,ar false])
) (
 R (pM n [ab,D.agg [aa ah 0,aa ah 1,aa ah 2,aa ah 3],aT,bP]) fun c2=>
 R (extP 0 c2) fun gj=>
 R (extP 1 c2) fun iO=>
 R (unP .not iO) fun eA=>
 oif eA (
 some (D.aQ [J 0,ar false])
) (
 some (D.aQ [gj,ar true])
)
)
def nL(n:Nat):List D→Option D
 |[ab,ah,aT,bP]=>zD n ab ah aT bP
 |_=>none
def DT(n:Nat)(ls:List D):Option (List D⊕(List D⊕D)):=
 R (lenP (I ls 1)) fun bp=>
 R (binP false .lss (I ls 4) bp) fun bg=>
 oif bg (
 R (a3 4 (I ls 1) (I ls 4)) fun wD=>
 R (aW true 4 0 wD) fun b7=>
 R (nL n [I ls 0,b7,I ls 2,I ls 3]) fun ck=>
 R (extP 0 ck) fun cJ=>
 R (extP 1 ck) fun cu=>
 R (unP .not cu) fun v30=>
 R (gD v30 false (
 R (binP false .neq cJ (J 1)) fun dD=>
 some dD
)) fun dD=>
 R (pickP v30 (ar true) dD) fun ds=>
 oif ds (
 aU (
 aU (
 some (ar false)
)
)
) (
 R (binP false .add (I ls 4) (J 1)) fun br=>
 some (.inl [I ls 0,I ls 1,I ls 2,I ls 3,br])
)
) (
 aU (
 some (.inl [])
)
)
def M5(n:Nat)(ab:D)(ah:D)(aT:D)(bP:D):Option D:=
 R (
 bm (DT n) n [ab,ah,aT,bP,J 0]
)<|a7 fun ls=>
 some (ar true)
def oq(n:Nat):List D→Option D
 |[ab,ah,aT,bP]=>M5 n ab ah aT bP
 |_=>none
def M6(n:Nat)(ab:D)(ah:D):Option D:=
 aw (aK 8 ab)<|
 R (zB n [D.agg [aa ab 0,aa ab 1,aa ab 2,aa ab 3,aa ab 4,aa ab 5,aa ab 6,aa ab 7],ah]) fun bN=>
 R (gD bN true (
 R (oq n [aa ab 0,aa ab 3,ah,D.val (.slice none 0 0)]) fun bp=>
 some bp
)) fun bp=>
 R (pickP bN bp (ar false)) fun bg=>
 some bg
def pN(n:Nat):List D→Option D
 |[ab,ah]=>M6 n ab ah
 |_=>none
def Uq(n:Nat)(ab:D)(ah:D):Option D:=
 aw (aK 8 ab)<|
 R (nJ n [D.agg [aa ab 0,aa ab 1,aa ab 2,aa ab 3,aa ab 4,aa ab 5,aa ab 6,aa ab 7]]) fun v6=>
 R (pN n [v6,ah]) fun cg=>
 some cg
def xd(n:Nat):List D→Option D
 |[ab,ah]=>Uq n ab ah
 |_=>none
def zE(n:Nat)(ls:List D):Option (List D⊕(List D⊕D)):=
 R (lenP (I ls 7)) fun cJ=>
 R (binP false .lss (I ls 2) cJ) fun cu=>
 oif cu (
 R (a3 5 (I ls 7) (I ls 2)) fun DQ=>
 R (aW true 4 1 DQ) fun eG=>
 R (nL n [I ls 3,eG,I ls 0,D.val (.slice none 0 0)]) fun e2=>
 R (extP 0 e2) fun c1=>
 R (extP 1 e2) fun dZ=>
 R (a3 5 (I ls 7) (I ls 2)) fun r9=>
 R (aW false 1 0 r9) fun fy=>
 R (sd n [I ls 3,fy]) fun e3=>
 R (unP .not dZ) fun hA=>
 R (gD hA false (
 R (binP false .lss e3 (J 0)) fun gU=>
 some gU
)) fun gU=>
 R (pickP hA (ar true) gU) fun eo=>
 R (gD eo false (
 R (a3 1 (I ls 1) e3) fun aie=>
 R (aW false 1 0 aie) fun kV=>
 R (binP false .neq kV c1) fun il=>
 some il
)) fun il=>
 R (pickP eo (ar true) il) fun dW=>
 oif dW (
 aU (
 aU (
 some (ar false)
)
)
) (
 R (binP false .add (I ls 2) (J 1)) fun v30=>
 some (.inl [I ls 0,I ls 1,v30,I ls 3,I ls 4,I ls 5,I ls 6,I ls 7,I ls 8,I ls 9,I ls 10])
)
) (
 aU (
 some (.inl [I ls 0,I ls 1,I ls 3,I ls 4,I ls 5,I ls 6,I ls 7,I ls 8,I ls 9,I ls 10])
)
)
def DU(n:Nat)(ab:D)(ah:D)(aT:D):Option D:=
 aw (aK 8 ab)<|
 R (nJ n [D.agg [aa ab 0,aa ab 1,aa ab 2,aa ab 3,aa ab 4,aa ab 5,aa ab 6,aa ab 7]]) fun bR=>
 aw (aK 8 bR)<|
 R (pN n [D.agg [aa bR 0,aa bR 1,aa bR 2,aa bR 3,aa bR 4,aa bR 5,aa bR 6,aa bR 7],ah]) fun bx=>
 R (unP .not bx) fun br=>
 R (gD br false (
 R (pN n [D.agg [aa bR 0,aa bR 1,aa bR 2,aa bR 3,aa bR 4,aa bR 5,aa bR 6,aa bR 7],aT]) fun bJ=>
 R (unP .not bJ) fun bS=>
 some bS
)) fun bS=>
 R (pickP br (ar true) bS) fun b7=>
 oif b7 (
 some (ar false)
) (
 R (
 bm (zE n) n [ah,aT,J 0,aa bR 0,aa bR 1,aa bR 2,aa bR 3,aa bR 4,aa bR 5,aa bR 6,aa bR 7]
)<|a7 fun ls=>
 R (oq n [I ls 2,I ls 7,I ls 0,I ls 1]) fun gv=>
 some gv
)
def tU(n:Nat):List D→Option D
 |[ab,ah,aT]=>DU n ab ah aT
 |_=>none
def HF(n:Nat)(ls:List D):Option (List D⊕(List D⊕D)):=
 R (lenP (I ls 8)) fun bp=>
 R (binP false .lss (I ls 1) bp) fun bg=>
 oif bg (
 R (binP false .add (I ls 1) (J 1)) fun cE=>
 R (ko 4 (I ls 8) (some (I ls 1)) (some cE)) fun ck=>
 R (oq n [I ls 2,ck,I ls 0,D.val (.slice none 0 0)]) fun cu=>
 aw (bA cu)<|
 aw (cY (((esD (I ls 10))).length+([[cu]]).length) 1)<|
 R (binP false .add (I ls 1) (J 1)) fun br=>
 some (.inl [I ls 0,br,I ls 2,I ls 3,I ls 4,I ls 5,I ls 6,I ls 7,I ls 8,I ls 9,D.aC 1 ((esD (I ls 10))++[[cu]])])
) (
 aU (
 some (.inl [D.aC 1 (esD (I ls 10))])
)
)
def Ur(n:Nat)(ab:D)(ah:D):Option D:=
 aw (aK 8 ab)<|
 R (nJ n [D.agg [aa ab 0,aa ab 1,aa ab 2,aa ab 3,aa ab 4,aa ab 5,aa ab 6,aa ab 7]]) fun bG=>
 aw (aK 8 bG)<|
 R (
 bm (HF n) n [ah,J 0,aa bG 0,aa bG 1,aa bG 2,aa bG 3,aa bG 4,aa bG 5,aa bG 6,aa bG 7,D.aC 1 ([]:List (List D))]
)<|a7 fun ls=>
 some (D.aC 1 (esD (I ls 0)))
def DV(n:Nat):List D→Option D
 |[ab,ah]=>Ur n ab ah
 |_=>none
def M7(n:Nat)(ab:D)(ah:D):Option D:=
 aw (aK 8 ab)<|
 R (j1 n [D.agg [aa ab 0,aa ab 1,aa ab 2,aa ab 3,aa ab 4,aa ab 5,aa ab 6,aa ab 7]]) fun bG=>
 R (extP 0 bG) fun v10=>
 R (extP 1 bG) fun v11=>
 aw (aK 9 v10)<|
 R (gD v11 true (
 R (j2 n [D.agg [aa v10 0,aa v10 1,aa v10 2,aa v10 3,aa v10 4,aa v10 5,aa v10 6,aa v10 7,aa v10 8],ah]) fun bx=>
 some bx
)) fun bx=>
 R (pickP v11 bx (ar false)) fun br=>
 some br
def zF(n:Nat):List D→Option D
 |[ab,ah]=>M7 n ab ah
 |_=>none
def HG(n:Nat)(ab:D)(ah:D):Option D:=
 aw (aK 8 ab)<|
 R (j1 n [D.agg [aa ab 0,aa ab 1,aa ab 2,aa ab 3,aa ab 4,aa ab 5,aa ab 6,aa ab 7]]) fun bG=>
 R (extP 0 bG) fun v10=>
 R (extP 1 bG) fun v11=>
 aw (aK 9 v10)<|
 R (gD v11 true (
 R (j2 n [D.agg [aa v10 0,aa v10 1,aa v10 2,aa v10 3,aa v10 4,aa v10 5,aa v10 6,aa v10 7,aa v10 8],ah]) fun bx=>
 some bx
)) fun bx=>
 R (pickP v11 bx (ar false)) fun br=>
 R (gD br true (
 R (r7 n [D.agg [aa v10 0,aa v10 1,aa v10 2,aa v10 3,aa v10 4,aa v10 5,aa v10 6,aa v10 7,aa v10 8],aa v10 2,ah,D.val (.slice none 0 0)]) fun cq=>
 some cq
)) fun cq=>
 R (pickP br cq (ar false)) fun cE=>
 some cE
def xe(n:Nat):List D→Option D
 |[ab,ah]=>HG n ab ah
 |_=>none
def M8(n:Nat)(ab:D)(ah:D):Option D:=
 aw (aK 8 ab)<|
 R (nJ n [D.agg [aa ab 0,aa ab 1,aa ab 2,aa ab 3,aa ab 4,aa ab 5,aa ab 6,aa ab 7]]) fun bN=>
 aw (aK 8 bN)<|
 R (pN n [D.agg [aa bN 0,aa bN 1,aa bN 2,aa bN 3,aa bN 4,aa bN 5,aa bN 6,aa bN 7],ah]) fun v10=>
 R (gD v10 true (
 R (oq n [aa bN 0,aa bN 2,ah,D.val (.slice none 0 0)]) fun br=>
 some br
)) fun br=>
 R (pickP v10 br (ar false)) fun bE=>
 some bE
def zG(n:Nat):List D→Option D
 |[ab,ah]=>M8 n ab ah
 |_=>none
def HH(n:Nat)(ls:List D):Option (List D⊕(List D⊕D)):=
 R (binP false .lss (I ls 3) (I ls 2)) fun bR=>
 oif bR (
 R (a3 4 (I ls 1) (I ls 3)) fun eK=>
 R (aW true 4 0 eK) fun bg=>
 aw (aK 4 bg)<|
 R (pA n [D.agg [I ls 4,I ls 5,I ls 6,I ls 7,I ls 8,I ls 9,I ls 10,I ls 11,I ls 12],D.agg [aa bg 0,aa bg 1,aa bg 2,aa bg 3],I ls 0,D.val (.slice none 0 0)]) fun v20=>
 aw (bA v20)<|
 aw (cY (((esD (I ls 13))).length+([[v20]]).length) 1)<|
 R (binP false .add (I ls 3) (J 1)) fun b7=>
 some (.inl [I ls 0,I ls 1,I ls 2,b7,I ls 4,I ls 5,I ls 6,I ls 7,I ls 8,I ls 9,I ls 10,I ls 11,I ls 12,D.aC 1 ((esD (I ls 13))++[[v20]])])
) (
 aU (
 some (.inl [D.aC 1 (esD (I ls 13))])
)
)
def Us(n:Nat)(ab:D)(ah:D):Option D:=
 aw (aK 9 ab)<|
 R (lenP (aa ab 6)) fun v11=>
 R (
 bm (HH n) n [ah,aa ab 6,v11,J 0,aa ab 0,aa ab 1,aa ab 2,aa ab 3,aa ab 4,aa ab 5,aa ab 6,aa ab 7,aa ab 8,D.aC 1 []]
)<|a7 fun ls=>
 some (D.aC 1 (esD (I ls 0)))
def DW(n:Nat):List D→Option D
 |[ab,ah]=>Us n ab ah
 |_=>none
def HI(n:Nat)(ab:D)(ah:D):Option D:=
 aw (aK 8 ab)<|
 R (j1 n [D.agg [aa ab 0,aa ab 1,aa ab 2,aa ab 3,aa ab 4,aa ab 5,aa ab 6,aa ab 7]]) fun bG=>
 R (extP 0 bG) fun v10=>
 R (extP 1 bG) fun v11=>
 aw (aK 9 v10)<|
 R (unP .not v11) fun bR=>
 R (gD bR false (
 R (j2 n [D.agg [aa v10 0,aa v10 1,aa v10 2,aa v10 3,aa v10 4,aa v10 5,aa v10 6,aa v10 7,aa v10 8],ah]) fun br=>
 R (unP .not br) fun bE=>
 some bE
)) fun bE=>
 R (pickP bR (ar true) bE) fun ca=>
 oif ca (
 some (D.val (.slice none 0 0))
) (
 R (DW n [D.agg [aa v10 0,aa v10 1,aa v10 2,aa v10 3,aa v10 4,aa v10 5,aa v10 6,aa v10 7,aa v10 8],ah]) fun bS=>
 some bS
)
def xf(n:Nat):List D→Option D
 |[ab,ah]=>HI n ab ah
 |_=>none
def HJ(n:Nat)(ab:D)(ah:D):Option D:=
 aw (aK 8 ab)<|
 R (w8 n [D.agg [aa ab 0,aa ab 1,aa ab 2,aa ab 3,aa ab 4,aa ab 5,aa ab 6,aa ab 7]]) fun v6=>
 R (unP .not v6) fun bN=>
 R (gD bN false (
 R (xd n [D.agg [aa ab 0,aa ab 1,aa ab 2,aa ab 3,aa ab 4,aa ab 5,aa ab 6,aa ab 7],ah]) fun v11=>
 R (unP .not v11) fun bO=>
 some bO
)) fun bO=>
 R (pickP bN (ar true) bO) fun bR=>
 oif bR (
 some (D.val (.slice none 0 0))
) (
 R (DV n [D.agg [aa ab 0,aa ab 1,aa ab 2,aa ab 3,aa ab 4,aa ab 5,aa ab 6,aa ab 7],ah]) fun bx=>
 some bx
)
def xg(n:Nat):List D→Option D
 |[ab,ah]=>HJ n ab ah
 |_=>none
def HK(n:Nat)(ls:List D):Option (List D⊕(List D⊕D)):=
 R (binP false .lss (I ls 3) (I ls 2)) fun bp=>
 oif bp (
 R (a3 1 (I ls 0) (I ls 3)) fun Ms=>
 R (aW false 1 0 Ms) fun ca=>
 R (a3 1 (I ls 1) (I ls 3)) fun wD=>
 R (aW false 1 0 wD) fun b7=>
 R (binP true .neq ca b7) fun cq=>
 oif cq (
 aU (
 aU (
 some (ar false)
)
)
) (
 R (binP false .add (I ls 3) (J 1)) fun cE=>
 some (.inl [I ls 0,I ls 1,I ls 2,cE])
)
) (
 aU (
 some (.inl [])
)
)
def Ut(n:Nat)(ab:D)(ah:D):Option D:=
 R (lenP ab) fun bN=>
 R (lenP ah) fun bG=>
 R (binP false .neq bN bG) fun v10=>
 oif v10 (
 some (ar false)
) (
 R (lenP ab) fun bO=>
 R (
 bm (HK n) n [ab,ah,bO,J 0]
)<|a7 fun ls=>
 some (ar true)
)
def zH(n:Nat):List D→Option D
 |[ab,ah]=>Ut n ab ah
 |_=>none
def HL(n:Nat)(ab:D)(ah:D)(aT:D):Option D:=
 aw (aK 8 ab)<|
 aw (bA ah)<|
 aw (bA aT)<|
 R (tz n [D.agg [aa ab 0,aa ab 1,aa ab 2,aa ab 3,aa ab 4,aa ab 5,aa ab 6,aa ab 7],D.aC 1 [[ah],[aT]]]) fun bO=>
 aw bO.flat<|
 R (unP .not bO) fun bR=>
 oif bR (
 R (zk n []) fun bp=>
 some bp
) (
 R (w8 n [D.agg [aa ab 0,aa ab 1,aa ab 2,aa ab 3,aa ab 4,aa ab 5,aa ab 6,aa ab 7]]) fun bx=>
 R (zF n [D.agg [aa ab 0,aa ab 1,aa ab 2,aa ab 3,aa ab 4,aa ab 5,aa ab 6,aa ab 7],ah]) fun ca=>
 R (gD bx true (
 R (xd n [D.agg [aa ab 0,aa ab 1,aa ab 2,aa ab 3,aa ab 4,aa ab 5,aa ab 6,aa ab 7],ah]) fun cq=>
 some cq
)) fun cq=>
 R (pickP bx cq (ar false)) fun cE=>
 R (binP true .neq ca cE) fun ck=>
 R (gD ck false (
 R (xe n [D.agg [aa ab 0,aa ab 1,aa ab 2,aa ab 3,aa ab 4,aa ab 5,aa ab 6,aa ab 7],ah]) fun v30=>
 some (D.agg [v30,bx])
)) fun M9=>
 R (gD (aa M9 1) true (
 R (zG n [D.agg [aa ab 0,aa ab 1,aa ab 2,aa ab 3,aa ab 4,aa ab 5,aa ab 6,aa ab 7],ah]) fun fl=>
 some fl
)) fun fl=>
 R (gD ck false (
 R (pickP (aa M9 1) fl (ar false)) fun df=>
 R (binP true .neq (aa M9 0) df) fun dk=>
 some dk
)) fun dk=>
 R (pickP ck (ar true) dk) fun dg=>
 oif dg (
 some (ar false)
) (
 R (tI n [D.agg [aa ab 0,aa ab 1,aa ab 2,aa ab 3,aa ab 4,aa ab 5,aa ab 6,aa ab 7],ah,aT]) fun c1=>
 R (gD bx true (
 R (tU n [D.agg [aa ab 0,aa ab 1,aa ab 2,aa ab 3,aa ab 4,aa ab 5,aa ab 6,aa ab 7],ah,aT]) fun fH=>
 some fH
)) fun fH=>
 R (pickP bx fH (ar false)) fun eA=>
 R (binP true .eql c1 eA) fun cX=>
 R (gD cX true (
 R (xf n [D.agg [aa ab 0,aa ab 1,aa ab 2,aa ab 3,aa ab 4,aa ab 5,aa ab 6,aa ab 7],ah]) fun hA=>
 R (xg n [D.agg [aa ab 0,aa ab 1,aa ab 2,aa ab 3,aa ab 4,aa ab 5,aa ab 6,aa ab 7],ah]) fun gU=>
 R (zH n [hA,gU]) fun eo=>
 some eo
)) fun eo=>
 R (pickP cX eo (ar false)) fun jG=>
 R (gD jG true (
 R (zk n []) fun gr=>
 some gr
)) fun gr=>
 R (pickP jG gr (ar false)) fun iq=>
 some iq
)
)
def DX(n:Nat):List D→Option D
 |[ab,ah,aT]=>HL n ab ah aT
 |_=>none
end Go.Am
