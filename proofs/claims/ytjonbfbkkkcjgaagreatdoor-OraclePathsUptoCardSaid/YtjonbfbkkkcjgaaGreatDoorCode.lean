/- What each function of the seat computes, on data. No condition. -/
import Derived.Test.YtjonbfbkkkcjgaaGreatDoorEngC
import Derived.Test.YtjonbfbkkkcjgaaGreatDoorHd
set_option linter.all false
set_option linter.unnecessarySimpa false
namespace Go.Am
abbrev b2:=Option (lZ⊕(lZ⊕D))
abbrev h1:=Option (lZ⊕(lZ⊕(lZ⊕(lZ⊕(lZ⊕D)))))
abbrev jM:=oY
abbrev nf:=Option (lZ⊕(lZ⊕lZ))
abbrev Di:=Option (lZ⊕(lZ⊕(lZ⊕(lZ⊕(lZ⊕(lZ⊕(lZ⊕(lZ⊕D))))))))
abbrev ef(a:Type):=D->D->D->D->D->a
section
variable{β:Type}
abbrev cu(F:D->β)(l:lZ):=F (bI l 0)
abbrev cW(F:D->D->β)(l:lZ):=F (bI l 0) (bI l 1)
abbrev fz(F:D->D->D->β)(l:lZ):=F (bI l 0) (bI l 1) (bI l 2)
abbrev dP(F:D->D->D->D->β)(l:lZ):=F (bI l 0) (bI l 1) (bI l 2) (bI l 3)
abbrev fD(F:ef β)(l:lZ):=F (bI l 0) (bI l 1) (bI l 2) (bI l 3) (bI l 4)
abbrev hn(F:ef (D->β))(l:lZ):=fD F l (bI l 5)
abbrev fR(F:ef (D->D->β))(l:lZ):=hn F l (bI l 6)
abbrev u8(F:ef (D->D->D->β))(l:lZ):=fR F l (bI l 7)
abbrev eL(F:ef (D->D->D->D->β))(l:lZ):=u8 F l (bI l 8)
abbrev e7(F:ef (ef β))(l:lZ):=eL F l (bI l 9)
abbrev ho(F:ef (ef (D->β)))(l:lZ):=e7 F l (bI l 10)
abbrev iR(F:ef (ef (D->D->β)))(l:lZ):=ho F l (bI l 11)
abbrev gJ(F:ef (ef (D->D->D->β)))(l:lZ):=iR F l (bI l 12)
abbrev ly(F:ef (ef (D->D->D->D->β)))(l:lZ):=gJ F l (bI l 13)
abbrev kZ(F:ef (ef (ef β)))(l:lZ):=ly F l (bI l 14)
abbrev u16(F:ef (ef (ef (D->β))))(l:lZ):=kZ F l (bI l 15)
abbrev uR(F:ef (ef (ef (D->D->β))))(l:lZ):=u16 F l (bI l 16)
abbrev Dj(F:ef (ef (ef (D->D->D->β))))(l:lZ):=uR F l (bI l 17)
abbrev uS(F:ef (ef (ef (D->D->D->D->β))))(l:lZ):=Dj F l (bI l 18)
abbrev yA(F:ef (ef (ef (ef β))))(l:lZ):=uS F l (bI l 19)
abbrev Jt(F:ef (ef (ef (ef (ef (D->β))))))(l:lZ):=yA F l (bI l 20) (bI l 21) (bI l 22) (bI l 23) (bI l 24) (bI l 25)
abbrev Ju(F:ef (ef (ef (ef (ef (D->D->β))))))(l:lZ):=Jt F l (bI l 26)
end
attribute [simp, go_sem] cu cW fz dP fD hn fR u8 eL e7 ho iR gJ ly kZ u16 uR Dj uS yA Jt Ju
variable(a:Nat)(b c d e f g:D)(l:lZ)
def yB:lZ:=[aD ⟨#[65]⟩,aD ⟨#[65,70]⟩,aD ⟨#[65,71]⟩,aD ⟨#[65,88]⟩,aD ⟨#[69]⟩,aD ⟨#[69,70]⟩,aD ⟨#[69,71]⟩,aD ⟨#[69,88]⟩,aD ⟨#[85]⟩,aD ⟨#[98,111,111,108]⟩,aD ⟨#[100,101,102]⟩,aD ⟨#[101,108,115,101]⟩,aD ⟨#[102,97,105,114]⟩,aD ⟨#[102,97,108,115,101]⟩,aD ⟨#[105,102]⟩,aD ⟨#[105,110,105,116]⟩,aD ⟨#[105,110,118,97,114]⟩,aD ⟨#[109,111,100]⟩,aD ⟨#[110,101,120,116]⟩,aD ⟨#[115,112,101,99]⟩,aD ⟨#[116,104,101,110]⟩,aD ⟨#[116,114,97,110,115]⟩,aD ⟨#[116,114,117,101]⟩,aD ⟨#[118,97,114]⟩]
abbrev j9:=34
abbrev Dk:=36
abbrev ka:=37
abbrev uT:=38
abbrev uU:=40
abbrev uV:=41
abbrev uW:=42
abbrev uX:=44
abbrev uY:=45
abbrev yC:=55
abbrev yD:=56
abbrev oc:=72
abbrev Qg:=76
abbrev sA:=81
abbrev u0:=85
abbrev hJ:=90
abbrev Qh:=95
abbrev Qi:=98
abbrev u1:=123
abbrev od:=157
abbrev Qj:=164
abbrev Qk:=166
abbrev yE:=210
abbrev Dl:=216
abbrev qQ:=236
abbrev qR:=237
abbrev ng:=260
abbrev nh:=262
abbrev u2:=268
abbrev u3:=280
abbrev ni:=282
abbrev nj:=288
def Ql(a:Nat)(b:D):oX:=aN .eql b bH λa=>af (a6 a (av [b,a]) (aN .eql b (aa 2) λa=>af (a6 a (av [b,a]) (aN .eql b (aa 3) λa=>af (a6 a (av [b,a]) (aN .eql b (aa 4) λa=>av [b,a]))<|aH<|cW λa b=>av [a,b]))<|aH<|cW λa b=>av [a,b]))<|aH<|cW λa b=>a6 b (some (D.aB [al,al])) (aM .eql a (aa 5) (some (D.aB [bH,bH])) (aN .eql a (aa 6) λb=>af (a6 b (av [a,b]) (aN .eql a (aa 7) λb=>av [a,b]))<|aH<|cW λa b=>a6 b (some (D.aB [bH,aa 64])) (aN .eql a (aa 8) λb=>af (a6 b (av [a,b]) (aN .eql a (aa 9) λb=>af (a6 b (av [a,b]) (aN .eql a (aa 10) λb=>af (a6 b (av [a,b]) (aN .eql a (aa 11) λb=>af (a6 b (av [a,b]) (aN .eql a (aa 12) λb=>af (a6 b (av [a,b]) (aN .eql a (aa 13) λb=>af (a6 b (av [a,b]) (aN .eql a (aa 14) λb=>af (a6 b (av [a,b]) (aN .eql a (aa 15) λb=>af (a6 b (av [a,b]) (aN .eql a (aa 16) λb=>af (a6 b (av [a,b]) (aN .eql a (aa 17) λb=>av [a,b]))<|aH<|cW λa b=>av [a,b]))<|aH<|cW λa b=>av [a,b]))<|aH<|cW λa b=>av [a,b]))<|aH<|cW λa b=>av [a,b]))<|aH<|cW λa b=>av [a,b]))<|aH<|cW λa b=>av [a,b]))<|aH<|cW λa b=>av [a,b]))<|aH<|cW λa b=>av [a,b]))<|aH<|cW λa b=>a6 b (some (D.aB [aa 2,aa 2])) (aM .eql a (aa 18) (some (D.aB [aa 3,aa 3])) (some (D.aB [aa (-1),aa (-1)]))))))
def Dm:=cO (Ql a)
def Qm:oX:=aK 4 b<|af (Dm a [ad b 0]) λa=>bT a λc=>bU a λa=>aM .lss c al (some (aa 11)) (af (aN .eql (ad b 0) bH λd=>af (a6 d (av [c,a,aa (-255),aa 255,ad b 0,ad b 1,ad b 2,ad b 3]) (aN .eql (ad b 0) (aa 2) λd=>af (a6 d (av [c,a,al,bH,ad b 0,ad b 1,ad b 2,ad b 3]) (av [c,a,al,al,ad b 0,ad b 1,ad b 2,ad b 3]))<|aH<|u8 λa b c d e f g h=>av [a,b,c,d,e,f,g,h]))<|aH<|u8 λa b c d e f g h=>av [a,b,c,d,e,f,g,h])<|aH<|u8 λa b c d e f g h=>aN .eql e (aa 3) λi=>cZ i (aU (aV false .eql e (aa 4))) λe=>aN .lss f c λc=>cZ c (aU (aV false .gtr f d)) λc=>a6 c (some (aa 2)) (af (cE e true (aU (aV false .eql g (aD ⟨#[]⟩)))) λc=>af (cE c false (af (lk g) λd=>aU (aV false .gtr d (aa 24)))) λd=>b7 e (aU (en c cf d)) λc=>af (cE c false (aU (cd .not e))) λd=>af (cE d true (aU (aV false .neq g (aD ⟨#[]⟩)))) λe=>cZ c (aU (en d e bo)) λc=>a6 c (some (aa 12)) (bh h λc=>aN .lss c a λa=>cZ a (bh h λa=>aU (aV false .gtr a b)) λa=>a6 a (some (aa 3)) (some al))))
def Dn:=cO (Qm a)
def yG:jM:=fz (λc d e=>aK 4 c<|bu e λe=>bp e<|aN .gtr d (aa 64) λd=>af (a6 d (av [aa 17,e]) (af (Dn a [cc c]) λa=>bp a<|aN .eql a al λc=>b7 c (aU (aV false .gtr e (aa 4096))) λc=>af (a6 c (av [aa 4,e]) (av [a,e]))<|aH<|cW λa c=>av [a,c]))<|aH<|cW λa c=>aN .eql a al λd=>some [d,c,a]) l
def yH(a:Nat)(b:lZ):b2:=dP (λa c d e=>aM .lss d c (af (af (bc 4 a d) λf=>af (aR true 4 0 f) λf=>aK 4 f<|af (gU (.string) (.int .i64 0) true (dT e) (ad f 0)) λg=>bT g λh=>bU g λg=>af (cd .not g) λg=>af (a6 g (af (lU (.string) (dT e) (ad f 0) d) λf=>av [a,c,d,D.mp f]) (av [a,c,d,D.mp (dT e)]))<|aH<|dP λa c d f=>av [a,c,d,D.mp (dT f)])<|aH<|dP λa c d f=>bu d λd=>av [a,c,d,D.mp (dT f)]) (bx [D.mp (dT e)])) b
def Qn:oX:=bh b λc=>af (aS (yH a) a [b,c,al,D.mp []])<|aH<|cu λa=>some (D.mp (dT a))
def yI:=cO (Qn a)
def Qo(a:Nat)(b c:D):oX:=aN .lss b (aa (-1048576)) λa=>cZ a (aU (aV false .gtr c (aa 1048576))) λa=>cZ a (aU (aV false .gtr b c)) λa=>cZ a (aN .sub c b λa=>aU (aV false .gtr a (aa 4096))) λa=>a6 a (some (D.aB [D.agg [bo,al,al],aa 2])) (bp b<|bp c<|aK 3 (D.agg [bo,b,c])<|some (D.aB [D.agg [bo,b,c],al]))
def py:=di (Qo a)
def yJ(a:Nat)(b:lZ):b2:=hn (λa c d e f g=>aM .lss d c (af (bc 3 a d) λh=>af (aR true 3 0 h) λh=>aK 3 h<|db (cd .not (ad h 0)) (aY (aY (some (D.aB [D.agg [bo,al,al],aa 13])))) (bu d λd=>av [a,c,d,e,f,g])) (bx [e,f,g])) b
def Qp(n:Nat)(a0:D):oX:=bh a0 λa=>af (aS (yJ n) n [a0,a,al,bo,al,al])<|aH λ_=>some (D.aB [D.agg [cf,al,al],al])
def Dp:=cO (Qp a)
def Dq:oX:=aK 3 c<|aK 3 d<|aN .eql b (aa 15) λe=>af (a6 e (af (cd .neg (ad d 2)) λe=>af (cd .neg (ad d 1)) λf=>bp e<|bp f<|aK 3 (D.agg [bo,e,f])<|av [aa 14,ad c 0,ad c 1,ad c 2,bo,e,f,bo,al,al]) (av [b,ad c 0,ad c 1,ad c 2,ad d 0,ad d 1,ad d 2,bo,al,al]))<|aH<|fR λb c d e f g h=>aM .eql b (aa 14) (aN .add d g λb=>aN .add e h λc=>af (py a [b,c]) λb=>bT b λc=>bU b λb=>aK 3 c<|some (D.aB [D.agg [ad c 0,ad c 1,ad c 2],b])) (aN .mul d g λb=>aN .mul d h λc=>aN .mul e g λd=>aN .mul e h λe=>af (hZ false [b,c,d,e]) λf=>af (hZ true [b,c,d,e]) λb=>af (py a [f,b]) λa=>bT a λb=>bU a λa=>aK 3 b<|some (D.aB [D.agg [ad b 0,ad b 1,ad b 2],a]))
def u4:=gH (Dq a)
def oe:oX:=aK 4 d<|af (aM .eql (ad d 0) bH (af (py a [ad d 1,ad d 1]) λg=>bT g λh=>bU g λg=>aK 3 h<|aY (some (D.aB [D.agg [ad h 0,ad h 1,ad h 2],g]))) (aM .eql (ad d 0) (aa 2) (aY (some (D.aB [D.agg [cf,al,al],al]))) (aN .eql (ad d 0) (aa 3) λg=>af (a6 g (av [b,c,e,f,ad d 0,g,ad d 0,ad d 1,ad d 2,ad d 3,bo,al,al]) (aN .eql (ad d 0) (aa 4) λg=>av [b,c,e,f,ad d 0,g,ad d 0,ad d 1,ad d 2,ad d 3,bo,al,al]))<|aH<|gJ λb c d e f g h i j k l m n=>a6 g (af (jA c) λc=>af (gU (.string) (.int .i64 0) true c j) λc=>bT c λg=>bU c λc=>db (cd .not c) (aY (some (D.aB [D.agg [bo,al,al],aa 12]))) (aN .eql h (aa 4) λc=>b7 c (aU (cd .not d)) λc=>a6 c (aY (some (D.aB [D.agg [bo,al,al],aa 24]))) (af (bc 4 b g) λc=>db (aR false 1 1 c) (aY (some (D.aB [D.agg [cf,al,al],al]))) (af (bc 4 b g) λc=>af (aR false 1 2 c) λc=>af (bc 4 b g) λb=>af (aR false 1 3 b) λb=>af (py a [c,b]) λb=>bT b λc=>bU b λb=>aK 3 c<|aY (some (D.aB [D.agg [ad c 0,ad c 1,ad c 2],b])))))) (aN .eql f (aa 5) λb=>af (a6 b (av [e,f,b,h,i,j,k,l,m,n]) (aN .eql f (aa 6) λb=>af (a6 b (av [e,f,b,h,i,j,k,l,m,n]) (aN .eql f (aa 7) λb=>af (a6 b (av [e,f,b,h,i,j,k,l,m,n]) (aN .eql f (aa 8) λb=>af (a6 b (av [e,f,b,h,i,j,k,l,m,n]) (aN .eql f (aa 9) λb=>av [e,f,b,h,i,j,k,l,m,n]))<|aH<|e7 λb c d e f g h i j k=>av [b,c,d,e,f,g,h,i,j,k]))<|aH<|e7 λb c d e f g h i j k=>av [b,c,d,e,f,g,h,i,j,k]))<|aH<|e7 λb c d e f g h i j k=>av [b,c,d,e,f,g,h,i,j,k]))<|aH<|e7 λb c d e f g h i j k=>a6 d (af (Dp a [b]) λd=>bT d λl=>bU d λd=>aK 3 l<|aY (some (D.aB [D.agg [ad l 0,ad l 1,ad l 2],d]))) (aM .eql c (aa 18) (af (bc 3 b al) λd=>af (aR false 1 0 d) λd=>af (cd .not d) λd=>cZ d (af (bc 3 b bH) λd=>af (aR false 1 0 d) λd=>af (bc 3 b (aa 2)) λl=>af (aR false 1 0 l) λl=>aU (aV true .neq d l)) λd=>a6 d (aY (some (D.aB [D.agg [bo,al,al],aa 13]))) (af (bc 3 b bH) λd=>db (aR false 1 0 d) (af (bc 3 b bH) λd=>af (aR true 3 0 d) λd=>aK 3 d<|aY (some (D.aB [D.agg [ad d 0,ad d 1,ad d 2],al]))) (af (bc 3 b bH) λd=>af (aR false 1 1 d) λd=>af (bc 3 b (aa 2)) λl=>af (aR false 1 1 l) λl=>af (hZ false [d,l]) λd=>af (bc 3 b bH) λl=>af (aR false 1 2 l) λl=>af (bc 3 b (aa 2)) λm=>af (aR false 1 2 m) λm=>af (hZ true [l,m]) λl=>af (py a [d,l]) λd=>bT d λl=>bU d λd=>aK 3 l<|aY (some (D.aB [D.agg [ad l 0,ad l 1,ad l 2],d]))))) (aN .eql c (aa 10) λd=>af (a6 d (av [b,d,e,f,g,h,i,j,k]) (aN .eql c (aa 11) λc=>av [b,c,e,f,g,h,i,j,k]))<|aH<|eL λb c d e f g h i j=>a6 c (af (bc 3 b al) λc=>af (aR false 1 0 c) λc=>af (bc 3 b bH) λk=>af (aR false 1 0 k) λk=>db (aV true .neq c k) (aY (some (D.aB [D.agg [bo,al,al],aa 13]))) (aY (some (D.aB [D.agg [cf,al,al],al])))) (av [b,d,e,f,g,h,i,j])))))))<|aH<|u8 λb c d e f g h i=>af (bc 3 b al) λj=>af (aR false 1 0 j) λj=>cZ j (af (bc 3 b bH) λj=>aU (aR false 1 0 j)) λj=>a6 j (some (D.aB [D.agg [bo,al,al],aa 13])) (aN .eql c (aa 12) λj=>af (a6 j (av [b,c,j,c,d,e,f,g,h,i]) (aN .eql c (aa 13) λj=>av [b,c,j,c,d,e,f,g,h,i]))<|aH<|fR λb c d e f g h=>a6 d (some (D.aB [D.agg [cf,al,al],al])) (aM .eql c (aa 17) (af (bc 4 h bH) λc=>af (aR true 4 0 c) λc=>aK 4 c<|aN .neq (ad c 0) bH λd=>cZ d (aU (aV false .lss (ad c 1) bH)) λc=>a6 c (some (D.aB [D.agg [bo,al,al],aa 2])) (af (bc 4 h bH) λc=>af (aR false 1 1 c) λc=>aN .sub c bH λc=>af (py a [al,c]) λc=>bT c λd=>bU c λc=>aK 3 d<|some (D.aB [D.agg [ad d 0,ad d 1,ad d 2],c]))) (af (bc 3 b al) λc=>af (aR true 3 0 c) λc=>af (bc 3 b bH) λb=>af (aR true 3 0 b) λb=>af (u4 a [e,c,b]) λa=>bT a λb=>bU a λa=>aK 3 b<|some (D.aB [D.agg [ad b 0,ad b 1,ad b 2],a]))))
def lz:=CZ (oe a)
def u5(a:lZ->oX)(b:Nat)(c:lZ):b2:=ly (λb d e f g h i j k l m n o p=>aM .lss h g (af (bc 4 f h) λq=>af (aR true 4 0 q) λq=>aK 4 q<|af (a [b,d,cc q,e]) λa=>bT a λq=>bU a λa=>aK 3 q<|aM .neq a al (aY (aY (some (D.aB [D.agg [bo,al,al],a])))) (aK 3 (D.agg [ad q 0,ad q 1,ad q 2])<|bF (b1 ((aF p).length+([[ad q 0,ad q 1,ad q 2]]).length) 24)<|bu h λa=>av [b,d,e,f,g,a,i,j,k,l,m,n,o,D.aw 3 ((aF p)++[[ad q 0,ad q 1,ad q 2]])])) (bx [b,d,e,i,j,k,l,m,n,o,D.aw 3 (aF p)])) c
def Jv(a:lZ->oX)(b:Nat)(c d e f:D):oX:=aK 4 e<|bh (ad e 3) λg=>af (aS (u5 a b) b [c,d,f,ad e 3,g,al,ad e 0,ad e 1,ad e 2,ad e 3,bo,al,al,D.aw 3 []])<|aH<|ho λa c d e f g h i j k l=>af (lz b [a,c,D.agg [e,f,g,h],d,D.aw 3 (aF l)]) λa=>bF a.flat<|bT a λb=>bU a λa=>aK 3 b<|some (D.aB [D.agg [ad b 0,ad b 1,ad b 2],a])
def og:Nat->lZ->oX|0,_=>none|n+1,a=>match a with|[a0,aG,a2,a3]=>Jv (og n) n a0 aG a2 a3|_=>none
def Qq(a:Nat)(b:D):oX:=a6 b (some (D.aB [bH,cf])) (some (D.aB [al,cf]))
def nk:=cO (Qq a)
def Qr(a:Nat)(b c:D):oX:=af (cd .not c) λa=>cZ a (aU (aV false .lss b (aa (-9007199254740992)))) λa=>cZ a (aU (aV false .gtr b (aa 9007199254740992))) λa=>a6 a (some (D.aB [al,bo])) (some (D.aB [b,cf]))
def Dr:=di (Qr a)
def Ds:oX:=aN .add b c λd=>aN .lss b al λe=>aN .lss c al λc=>af (aV true .neq e c) λc=>cZ c (aN .lss b al λb=>aN .lss d al λc=>aU (aV true .eql b c)) λb=>af (Dr a [d,b]) λa=>bT a λb=>bU a λa=>some (D.aB [b,a])
def qS:=di (Ds a)
def Jw(a:Nat)(b:D):oX:=aM .lss b al (af (j4 .u64 b) λa=>aU (cd .neg a)) (aU (j4 .u64 b))
def u6:=cO (Jw a)
def Jx(a:Nat)(b c:D):oX:=aN .and b (D.val (.int .u64 4294967295)) λa=>aN .shr b (D.val (.int .u64 32)) λd=>aN .and c (D.val (.int .u64 4294967295)) λe=>aN .shr c (D.val (.int .u64 32)) λf=>aN .mul a e λg=>aN .mul d e λe=>aN .shr g (D.val (.int .u64 32)) λg=>aN .add e g λe=>aN .and e (D.val (.int .u64 4294967295)) λg=>aN .shr e (D.val (.int .u64 32)) λe=>aN .mul a f λa=>aN .add g a λa=>aN .mul d f λd=>aN .add d e λd=>aN .shr a (D.val (.int .u64 32)) λa=>aN .add d a λa=>aN .mul b c λb=>some (D.aB [a,b])
def Jy:=di (Jx a)
def yK:oX:=af (u6 a [b]) λd=>af (u6 a [c]) λe=>af (Jy a [d,e]) λa=>bT a λd=>bU a λa=>aN .neq d (D.val (.int .u64 0)) λd=>cZ d (aU (aV false .gtr a (D.val (.int .u64 9007199254740992)))) λd=>a6 d (some (D.aB [al,bo])) (aN .lss b al λb=>aN .lss c al λc=>db (aV true .neq b c) (af (j4 .i64 a) λb=>af (cd .neg b) λb=>some (D.aB [b,cf])) (af (j4 .i64 a) λa=>some (D.aB [a,cf])))
def sB:=di (yK a)
def yL(a:Nat)(b:lZ):b2:=eL (λa c d e f g h i j=>aM .lss f e (bO d f λk=>aN .add c k λk=>bu f λf=>av [a,k,d,e,f,g,h,i,j]) (bx [a,c,g,h,i,j])) b
def iA:oX:=aK 4 b<|aM .eql (ad b 0) (aa 5) (bO c al λd=>aN .eql d al λd=>af (nk a [d]) λd=>bT d λe=>bU d λd=>some (D.aB [e,d])) (aM .eql (ad b 0) (aa 8) (bO c al λd=>aN .eql d al λd=>cZ d (bO c bH λd=>aU (aV false .neq d al)) λd=>af (nk a [d]) λd=>bT d λe=>bU d λd=>some (D.aB [e,d])) (aN .eql (ad b 0) (aa 9) λd=>af (a6 d (av [c,ad b 0,d,ad b 0,ad b 1,ad b 2,ad b 3]) (aN .eql (ad b 0) (aa 10) λd=>av [c,ad b 0,d,ad b 0,ad b 1,ad b 2,ad b 3]))<|aH<|fR λb c d e f g h=>a6 d (bO b al λd=>bO b bH λi=>aN .eql d i λd=>af (nk a [d]) λd=>bT d λi=>bU d λd=>some (D.aB [i,d])) (aM .eql c (aa 11) (bO b al λd=>bO b bH λi=>aN .neq d i λd=>af (nk a [d]) λd=>bT d λi=>bU d λd=>some (D.aB [i,d])) (aM .eql c (aa 12) (bO b al λd=>bO b bH λi=>aN .lss d i λd=>af (nk a [d]) λd=>bT d λi=>bU d λd=>some (D.aB [i,d])) (aM .eql c (aa 13) (bO b al λd=>bO b bH λi=>aN .leq d i λd=>af (nk a [d]) λd=>bT d λi=>bU d λd=>some (D.aB [i,d])) (aM .eql c (aa 14) (bO b al λd=>bO b bH λi=>af (qS a [d,i]) λd=>bT d λi=>bU d λd=>some (D.aB [i,d])) (aM .eql c (aa 15) (bO b al λd=>bO b bH λi=>af (cd .neg i) λi=>af (qS a [d,i]) λd=>bT d λi=>bU d λd=>some (D.aB [i,d])) (aM .eql c (aa 16) (bO b al λd=>bO b bH λi=>af (sB a [d,i]) λd=>bT d λi=>bU d λd=>some (D.aB [i,d])) (aM .eql c (aa 17) (bO b al λd=>bO b bH λi=>aN .rem d i λd=>bO b bH λi=>aN .add d i λd=>bO b bH λi=>aN .rem d i λd=>some (D.aB [d,cf])) (aM .eql c (aa 18) (bO b al λc=>aM .neq c al (bO b bH λc=>some (D.aB [c,cf])) (bO b (aa 2) λc=>some (D.aB [c,cf]))) (bh b λc=>af (aS (yL a) a [b,al,b,c,al,e,f,g,h])<|aH<|fz λb c d=>bh b λb=>aN .eql c b λb=>af (cE b false (aU (aV false .eql d (aa 7)))) λd=>af (cE d true (aU (aV false .gtr c al))) λc=>cZ b (aU (en d c bo)) λb=>af (nk a [b]) λa=>bT a λb=>bU a λa=>some (D.aB [b,a]))))))))))))
def h2:=di (iA a)
def yM(a:lZ->oY)(b:Nat)(c:lZ):nf:=iR (λb d e f g h i j k l m n=>aM .lss e d (af (bc 4 b e) λo=>af (aR true 4 0 o) λo=>aK 4 o<|af (a [cc o,f,g,h,i]) λa=>af (eJ 0 (bI a 0)) λo=>af (eJ 1 (bI a 0)) λp=>db (cd .not p) (aY (aY (some [D.aB [al,bo],bI a 1,bI a 2,bI a 3,bI a 4]))) (bp o<|bF (b1 ((aF n).length+([[o]]).length) 8)<|bu e λe=>av [b,d,e,bI a 1,bI a 2,bI a 3,bI a 4,j,k,l,m,D.aw 1 ((aF n)++[[o]])])) (bx [f,g,h,i,j,k,l,m,ax n])) c
def pz(a:lZ->oY)(b:Nat)(c:lZ):jM:=fD (λd e f g h=>aK 4 d<|bh (ad d 3) λi=>af (aS (yM a b) b [ad d 3,i,al,e,f,g,h,ad d 0,ad d 1,ad d 2,ad d 3,D.aw 1 []])<|aH<|eL λa d e f g h i j k=>aN .eql g bH λl=>af (a6 l (av [g,l,a,d,e,f,g,h,i,j,ax k]) (aN .eql g (aa 2) λl=>av [g,l,a,d,e,f,g,h,i,j,ax k]))<|aH<|ho λa d e f g h i j k l m=>a6 d (some [D.aB [j,cf],e,f,g,h]) (aN .eql a (aa 3) λd=>af (a6 d (av [d,e,f,g,h,i,j,k,l,ax m]) (aN .eql a (aa 4) λa=>av [a,e,f,g,h,i,j,k,l,ax m]))<|aH<|e7 λa d e f g h i j k l=>a6 a (af (jA e) λa=>af (gU (.string) (.int .i64 0) false a j) λa=>aN .eql h (aa 4) λm=>af (a6 m (av [f,a,g,d,e,f]) (av [d,a,g,d,e,f]))<|aH<|hn λa m n o p q=>bh a λr=>bh n λs=>aM .neq r s (some [D.aB [al,bo],o,p,q,n]) (af (bc 4 n m) λr=>db (aR false 1 1 r) (bO a m λr=>aN .neq r al λr=>af (nk b [r]) λr=>bT r λs=>bU r λr=>some [D.aB [s,r],o,p,q,n]) (bO a m λa=>af (qS b [a,al]) λa=>bT a λm=>bU a λa=>some [D.aB [m,a],o,p,q,n]))) (af (h2 b [D.agg [h,i,j,k],ax l]) λa=>bF a.flat<|bT a λb=>bU a λa=>some [D.aB [b,a],d,e,f,g]))) c
def pA:Nat->lZ->oY|0,_=>none|n+1,l=>pz (pA n) n l
def Jz(a:Nat)(b:D)(c:lZ):oX:=af (aR false 1 0 c) λa=>bO a b λa=>aU (cd .not a)
def Dt(n:Nat):lZ->oX|[a0,aG]=>(match aG with| .ref x1 0=>Jz n a0 x1|_=>none)|_=>none
def Du:b2:=dP (λc d e f=>aM .lss e d (af (Dt a [e,c]) λa=>ct f e λg=>bp a<|af (aF f)[g]? λh=>bu e λe=>av [c,d,e,D.aw 1 ((aF f).set g (dS h 0 [a]))]) (bx [ax f])) l
def JA:oX:=aK 4 b<|bh (ad b 0) λb=>af (e5 1 b b) λb=>af (aS (Du a) a [c,aa (List.replicate b [bo]).length,al,D.aw 1 (List.replicate b [bo])])<|aH<|cu λa=>some (ax a)
def Dv(n:Nat):lZ->oX|[a0,aG]=>(match fJ Dk aG with|some [a]=>JA n a0 a|_=>none)|_=>none
def JB(c:lZ):oX:=bp b<|af (aR true 4 0 c) λc=>aU (Dv a [c,(D.fn (.func Dk) [] [D.ref [b] 0])])
def jN(n:Nat):lZ->oX|[a0,aG]=>(match aG with| .ref x1 0=>JB n a0 x1|_=>none)|_=>none
def JC(a:Nat)(b:D)(c:lZ)(d:lZ):oX:=af (aR false 1 0 c) λa=>bO a b λa=>b7 a (af (aR false 1 0 d) λa=>bO a b λa=>some a) λa=>some a
def Dw(n:Nat):lZ->oX|[a0,aG,a2]=>(match aG with| .ref x1 0=>(match a2 with| .ref c9 0=>JC n a0 x1 c9|_=>none)|_=>none)|_=>none
def Dx:b2:=fD (λc d e f g=>aM .lss f e (af (Dw a [f,c,d]) λa=>ct g f λh=>bp a<|af (aF g)[h]? λi=>bu f λf=>av [c,d,e,f,D.aw 1 ((aF g).set h (dS i 0 [a]))]) (bx [ax g])) l
def JD:oX:=aK 4 b<|bh (ad b 0) λb=>af (e5 1 b b) λb=>af (aS (Dx a) a [c,d,aa (List.replicate b [bo]).length,al,D.aw 1 (List.replicate b [bo])])<|aH<|cu λa=>some (ax a)
def u7(n:Nat):lZ->oX|[a0,aG]=>(match fJ uU aG with|some [a,b]=>JD n a0 a b|_=>none)|_=>none
def JE(a:Nat)(b:D)(c:lZ)(d:lZ):oX:=af (aR false 1 0 c) λa=>bO a b λa=>cZ a (af (aR false 1 0 d) λa=>bO a b λa=>some a) λa=>some a
def Dy(n:Nat):lZ->oX|[a0,aG,a2]=>(match aG with| .ref x1 0=>(match a2 with| .ref c9 0=>JE n a0 x1 c9|_=>none)|_=>none)|_=>none
def Dz:b2:=fD (λc d e f g=>aM .lss f e (af (Dy a [f,c,d]) λa=>ct g f λh=>bp a<|af (aF g)[h]? λi=>bu f λf=>av [c,d,e,f,D.aw 1 ((aF g).set h (dS i 0 [a]))]) (bx [ax g])) l
def JF:oX:=aK 4 b<|bh (ad b 0) λb=>af (e5 1 b b) λb=>af (aS (Dz a) a [c,d,aa (List.replicate b [bo]).length,al,D.aw 1 (List.replicate b [bo])])<|aH<|cu λa=>some (ax a)
def u9(n:Nat):lZ->oX|[a0,aG]=>(match fJ uV aG with|some [a,b]=>JF n a0 a b|_=>none)|_=>none
def JG(a:Nat)(b:D)(c:lZ)(d:lZ):oX:=af (aR false 1 0 c) λa=>bO a b λa=>af (cd .not a) λa=>cZ a (af (aR false 1 0 d) λa=>bO a b λa=>some a) λa=>some a
def DA(n:Nat):lZ->oX|[a0,aG,a2]=>(match aG with| .ref x1 0=>(match a2 with| .ref c9 0=>JG n a0 x1 c9|_=>none)|_=>none)|_=>none
def DB:b2:=fD (λc d e f g=>aM .lss f e (af (DA a [f,c,d]) λa=>ct g f λh=>bp a<|af (aF g)[h]? λi=>bu f λf=>av [c,d,e,f,D.aw 1 ((aF g).set h (dS i 0 [a]))]) (bx [ax g])) l
def JH:oX:=aK 4 b<|bh (ad b 0) λb=>af (e5 1 b b) λb=>af (aS (DB a) a [c,d,aa (List.replicate b [bo]).length,al,D.aw 1 (List.replicate b [bo])])<|aH<|cu λa=>some (ax a)
def vb(n:Nat):lZ->oX|[a0,aG]=>(match fJ uW aG with|some [a,b]=>JH n a0 a b|_=>none)|_=>none
def Qs(a:Nat)(b c:D):oX:=aK 4 b<|bh (ad b 0) λa=>af (e5 1 a a) λa=>af (jz c) λb=>bF (decide (b.1=1\/b.2=[]))<|some (D.aw 1 ((b.2).take (min (b.2).length (List.replicate a [bo]).length)++(List.replicate a [bo]).drop (min (b.2).length (List.replicate a [bo]).length)))
def sC:=di (Qs a)
def Qt(a:Nat)(b:D):oX:=some cf
def JI:=cO (Qt a)
def DC:b2:=fz (λc d e=>aM .lss d c (af (JI a [d]) λa=>ct e d λf=>bp a<|af (aF e)[f]? λg=>bu d λd=>av [c,d,D.aw 1 ((aF e).set f (dS g 0 [a]))]) (bx [ax e])) l
def JJ:oX:=aK 4 b<|bh (ad b 0) λb=>af (e5 1 b b) λb=>af (aS (DC a) a [aa (List.replicate b [bo]).length,al,D.aw 1 (List.replicate b [bo])])<|aH<|cu λa=>some (ax a)
def DD(n:Nat):lZ->oX|[a0,aG]=>bF (sh u0 aG) (JJ n a0)|_=>none
def Qu:oX:=aK 4 b<|aU (DD a [cc b,(D.val (.func (.func u0) #[] #[]))])
def qT:=cO (Qu a)
def DE(a:Nat)(b:D)(c:lZ):oX:=af (aR false 1 0 c) λa=>bh a λa=>aN .lss b a λa=>b7 a (af (aR false 1 0 c) λa=>bO a b λa=>some a) λa=>some a
def qU(n:Nat):lZ->oX|[a0,aG]=>(match aG with| .ref x1 0=>DE n a0 x1|_=>none)|_=>none
def qV:h1:=fR (λc d e f g h i=>aM .gtr (aa (aF i).length) al (af (aN .sub (aa (aF i).length) bH λj=>ct i j λj=>af (aF i)[j]? λk=>af (aR false 1 1 k) λk=>cr i j λl=>bO c l λl=>bh l λl=>aM .eql k l (cr i j λk=>bp k<|bF (b1 ((aF g).length+([[k]]).length) 8)<|aN .sub (aa (aF i).length) bH λl=>af (hG (aF i).length none (some l)) λl=>bF (decide (l.1+l.2<=(aF i).length))<|av [c,d,e,f,D.aw 1 ((aF g)++[[k]]),ax h,D.aw 2 (((aF i).drop l.1).take l.2)]) (cr i j λk=>bO c k λk=>af (aF i)[j]? λl=>af (aR false 1 1 l) λl=>bO k l λk=>af (aF i)[j]? λl=>af (aR false 1 1 l) λl=>bu l λl=>bp l<|af (aF i)[j]? λm=>af (qU a [k,d]) λa=>b7 a (ct h k λa=>cr h a λa=>aU (cd .not a)) λa=>af (a6 a (ct h k λa=>af (aF h)[a]? λn=>bp k<|aK 2 (D.agg [k,al])<|bF (b1 (((aF i).set j (dS m 1 [l])).length+([[k,al]]).length) 16)<|av [c,d,e,f,ax g,D.aw 1 ((aF h).set a (dS n 0 [cf])),D.aw 2 (((aF i).set j (dS m 1 [l]))++[[k,al]])]) (av [c,d,e,f,ax g,ax h,D.aw 2 ((aF i).set j (dS m 1 [l]))]))<|aH<|fR λa i j k l m n=>av [a,i,j,k,ax l,ax m,D.aw 2 (aF n)]))<|aH<|fR λa i j k l m n=>av [a,i,j,k,ax l,ax m,D.aw 2 (aF n)]) (bx [c,d,e,f,ax g,ax h])) l
def vc:b2:=hn (λc d e f g h=>aM .lss f e (af (af (qU a [f,d]) λi=>af (cd .not i) λi=>cZ i (ct h f λi=>cr h i λi=>some i) λi=>a6 i (av [c,d,e,f,ax g,ax h]) (ct h f λi=>af (aF h)[i]? λj=>bp f<|aK 2 (D.agg [f,al])<|af (aS (qV a) a [c,d,e,f,ax g,D.aw 1 ((aF h).set i (dS j 0 [cf])),D.aw 2 [[f,al]]])<|aH<|hn λa c d e f h=>av [a,c,d,e,ax f,ax h]))<|aH<|hn λa c d e f h=>bu e λe=>av [a,c,d,e,ax f,ax h]) (bx [ax g])) l
def JK:oX:=bh b λd=>af (e5 1 d d) λd=>bh b λe=>af (aS (vc a) a [b,c,e,al,D.aw 1 [],D.aw 1 (List.replicate d [bo])])<|aH<|cu λa=>some (ax a)
def yN(n:Nat):lZ->oX|[a0,aG]=>(match fJ hJ aG with|some [a]=>JK n a0 a|_=>none)|_=>none
def oh(a:Nat)(b:lZ):jM:=fz (λa c d=>aN .geq a al λe=>b7 e (aU (aV false .lss a (aa (aF c).length))) λe=>b7 e (ct c a λe=>cr c e λe=>aU (cd .not e)) λe=>af (a6 e (ct c a λe=>af (aF c)[e]? λf=>bp a<|bF (b1 ((aF d).length+([[a]]).length) 8)<|av [D.aw 1 ((aF c).set e (dS f 0 [cf])),D.aw 1 ((aF d)++[[a]])]) (av [ax c,ax d]))<|aH<|cW λa c=>some [D.aB [],ax a,ax c]) b
def vd:jM:=dP (λc d e f=>af (qU a [c,D.ref (dK d) 0]) λg=>af (a6 g (af (oh a [c,ax e,ax f]) λa=>av [D.agg (dK d),ax (bI a 1),ax (bI a 2)]) (av [D.agg (dK d),ax e,ax f]))<|aH<|fz λa c d=>some [D.aB [],D.agg (dK a),ax c,ax d]) l
def DF:nf:=hn (λc d e f g h=>aM .lss e d (bO c e λi=>af (vd a [i,D.agg (dK f),ax g,ax h]) λa=>bu e λe=>av [c,d,e,D.agg (dK (bI a 1)),ax (bI a 2),ax (bI a 3)]) (bx [D.agg (dK f),ax g,ax h])) l
def yO:jM:=dP (λc d e f=>bh c λg=>af (aS (DF a) a [c,g,al,D.agg (dK d),ax e,ax f])<|aH<|fz λa c d=>some [D.aB [],D.agg (dK a),ax c,ax d]) l
def yP:h1:=u8 (λc d e f g h i j=>aM .gtr (aa (aF j).length) al (ct j al λk=>cr j k λk=>af (hG (aF j).length (some bH) none) λl=>bF (decide (l.1+l.2<=(aF j).length))<|bp k<|bF (b1 ((aF h).length+([[k]]).length) 8)<|bO d k λm=>af (yO a [m,D.agg (dK f),ax i,D.aw 1 (((aF j).drop l.1).take l.2)]) λa=>av [c,d,e,D.agg (dK (bI a 1)),ax g,D.aw 1 ((aF h)++[[k]]),ax (bI a 2),ax (bI a 3)]) (bx [c,d,e,D.agg (dK f),ax g,ax h,ax i,ax j])) l
def ve:b2:=fR (λc d e f g h i=>aM .geq e al (af (bO c e λj=>ct h j λj=>cr h j λj=>a6 j (av [c,d,e,D.agg (dK f),ax g,ax h,ax i]) (bO c e λj=>af (oh a [j,ax h,ax i]) λh=>af (aS (yP a) a [c,d,e,D.agg (dK f),ax g,D.aw 1 [],ax (bI h 1),ax (bI h 2)])<|aH<|u8 λc d e f h i j k=>af (yy a [ax i]) λa=>bF (c8 (ax (bI a 1)))<|bF (b1 ((aF h).length+([[ax (bI a 1)]]).length) 24)<|av [c,d,e,D.agg (dK f),D.aw 1 ((aF h)++[[ax (bI a 1)]]),ax j,ax k]))<|aH<|fR λa c d e f h i=>aN .sub d bH λd=>av [a,c,d,D.agg (dK e),ax f,ax h,ax i]) (bx [ax g])) l
def Qv:oX:=aK 4 b<|bp c<|af (yN a [ad b 1,(D.fn (.func hJ) [] [D.ref [c] 0])]) λd=>af (yz a [cc b]) λe=>bh (ad b 0) λb=>af (e5 1 b b) λb=>bh d λf=>aN .sub f bH λf=>af (aS (ve a) a [d,e,f,D.agg [c],D.aw 1 [],D.aw 1 (List.replicate b [bo]),D.aw 1 []])<|aH<|cu λb=>af (uQ a [ax b]) λa=>some (ax (bI a 1))
def DG:=di (Qv a)
def yQ(a:Nat)(b:lZ):b2:=eL (λa c d e f g h i j=>aM .lss e d (bO c e λk=>af (lU (.int .i64) (dT j) k cf) λk=>bu e λe=>av [a,c,d,e,f,g,h,i,D.mp k]) (bx [a,f,g,h,i,D.mp (dT j)])) b
def vf(a:Nat)(b:lZ):h1:=gJ (λa c d e f g h i j k l m n=>aM .lss i h (bO g i λo=>db (gU (.int .i64) (.bool false) false (dT n) o) (aY (aY (aY (bx [a,cf,j,k,l,m])))) (bu i λi=>av [a,c,d,e,f,g,h,i,j,k,l,m,D.mp (dT n)])) (bx [a,c,d,e,f,j,k,l,m,D.mp (dT n)])) b
def vg:b2:=e7 (λc d e f g h i j k l=>aM .lss g f (af (bO e g λm=>bO i m λm=>bh m λn=>af (aS (vf a) a [c,d,e,f,g,m,n,al,h,i,j,k,D.mp (dT l)])<|aH<|e7 λa e f g l m n o p q=>av [a,e,f,g,l,m,n,o,p,D.mp (dT q)])<|aH<|e7 λa e f g l m n o p q=>bu l λl=>av [a,e,f,g,l,m,n,o,p,D.mp (dT q)]) (bx [c,d,h,i,j,k])) l
def vh(a:Nat)(b:lZ):h1:=ho (λa c d e f g h i j k l=>aM .lss h g (bO f h λm=>bO l m λm=>bO m c λm=>a6 m (aY (bx [a,d,e,i,j,k,l])) (bu h λh=>av [a,c,d,e,f,g,h,i,j,k,l])) (bx [])) b
def vi(n:Nat)(l:lZ):b2:=fR (λa c b e f g h=>aM .lss b c (af (bh a λd=>af (aS (vh n) n [a,b,c,b,a,d,al,e,f,g,h])<|aH λ_=>aY (aY (aY (some bo))))<|aH<|fR λa c b e f g h=>bu b λv75=>av [a,c,v75,e,f,g,h]) (bx [])) l
def DH(n:Nat)(a0 aG:D):oX:=aK 4 a0<|bh aG λc=>af (aS (yQ n) n [aG,aG,c,al,ad a0 0,ad a0 1,ad a0 2,ad a0 3,D.mp []])<|aH<|hn λa f g h i b=>bh a λd=>af (aS (vg n) n [a,bo,a,d,al,f,g,h,i,D.mp (dT b)])<|aH<|hn λa f g h i b=>db (cd .not f) (some bo) (bO a al λv53=>bO b v53 λv55=>bh v55 λe=>af (aS (vi n) n [a,e,al,g,h,i,b])<|aH λ_=>some cf)
def vj:=di (DH a)
def yR(a:Nat)(b:lZ):jM:=cW (λa c=>aK 4 a<|bh (ad a 0) λa=>af (e5 1 a a) λa=>af (jz c) λc=>bF (decide (c.1=1\/c.2=[]))<|some [D.aw 1 ((c.2).take (min (c.2).length (List.replicate a [bo]).length)++(List.replicate a [bo]).drop (min (c.2).length (List.replicate a [bo]).length))]) b
def vk(a:Nat)(b:lZ):b2:=eL (λa c d e f g h i j=>aM .lss d c (af (ct i d λk=>cr i k λk=>af (a6 k (bp d<|bF (b1 ((aF j).length+([[d]]).length) 8)<|av [a,c,d,e,f,g,h,ax i,D.aw 1 ((aF j)++[[d]])]) (av [a,c,d,e,f,g,h,ax i,ax j]))<|aH<|eL λc d k l m n o p q=>av [c,d,k,l,m,n,o,ax p,ax q])<|aH<|eL λc d k l m n o p q=>bu k λk=>av [c,d,k,l,m,n,o,ax p,ax q]) (bx [a,e,f,g,h,ax i,ax j])) b
def sD(a:Nat)(b:lZ):h1:=fR (λa c d e f g h=>aM .lss f e (af (bO d f λi=>bO a i λj=>b7 j (ct g i λj=>cr g j λj=>aU (cd .not j)) λj=>af (a6 j (ct g i λj=>af (aF g)[j]? λk=>bp i<|bF (b1 ((aF h).length+([[i]]).length) 8)<|av [a,c,d,e,f,D.aw 1 ((aF g).set j (dS k 0 [cf])),D.aw 1 ((aF h)++[[i]])]) (av [a,c,d,e,f,ax g,ax h]))<|aH<|fR λd e f i j k l=>av [d,e,f,i,j,ax k,ax l])<|aH<|fR λd e f i j k l=>bu j λj=>av [d,e,f,i,j,ax k,ax l]) (bx [a,c,ax g,ax h])) b
def DI:b2:=dP (λc d e f=>aM .gtr (aa (aF f).length) al (af (ct f al λg=>cr f g λg=>bO d g λg=>bh g λh=>af (aS (sD a) a [c,d,g,h,al,ax e,ax f])<|aH<|dP λa c d f=>av [a,c,ax d,ax f])<|aH<|dP λa c d f=>af (hG (aF f).length (some bH) none) λg=>bF (decide (g.1+g.2<=(aF f).length))<|av [a,c,ax d,D.aw 1 (((aF f).drop g.1).take g.2)]) (bx [ax e])) l
def Qw:oX:=aK 4 b<|af (yR a [cc b,d]) λd=>af (aS (vk a) a [c,aa (aF (bI d 0)).length,al,ad b 0,ad b 1,ad b 2,ad b 3,ax (bI d 0),D.aw 1 []])<|aH<|fR λb c d e f g h=>af (yz a [D.agg [c,d,e,f]]) λc=>af (aS (DI a) a [b,c,ax g,ax h])<|aH<|cu λa=>some (ax a)
def yS:=gH (Qw a)
def yU(a:Nat)(b:lZ):Option (lZ⊕(lZ⊕(lZ⊕(lZ⊕(lZ⊕(lZ⊕D)))))):=iR (λa c d e f g h i j k l m=>aM .lss h g (bO f h λn=>ct m n λn=>af (aF m)[n]? λo=>bu h λh=>av [a,c,d,e,f,g,h,i,j,k,l,D.aw 1 ((aF m).set n (dS o 0 [cf]))]) (bx [a,c,d,e,i,j,k,l,ax m])) b
def vl:b2:=eL (λc d e f g h i j k=>aM .lss f e (af (bO d f λl=>af (vj a [D.agg [g,h,i,j],l]) λm=>af (a6 m (bh l λm=>af (aS (yU a) a [c,d,e,f,l,m,al,g,h,i,j,ax k])<|aH<|eL λa l m n o p q r s=>av [a,l,m,n,o,p,q,r,ax s]) (av [c,d,e,f,g,h,i,j,ax k]))<|aH<|eL λa d e f l m n o p=>av [a,d,e,f,l,m,n,o,ax p])<|aH<|eL λa d e f l m n o p=>bu f λf=>av [a,d,e,f,l,m,n,o,ax p]) (bx [c,g,h,i,j,ax k])) l
def Qx:oX:=aK 4 b<|af (sC a [cc b,c]) λc=>bh c λd=>af (e5 1 d d) λd=>af (DG a [cc b,c]) λe=>bh e λf=>af (aS (vl a) a [c,e,f,al,ad b 0,ad b 1,ad b 2,ad b 3,D.aw 1 (List.replicate d [bo])])<|aH<|hn λb c d e f g=>aU (yS a [D.agg [c,d,e,f],b,ax g])
def sE:=di (Qx a)
def vm(a:Nat)(b:lZ):b2:=fD (λa c d e f=>aM .lss f e (bO d f λg=>af (aR false 1 0 (dK a)) λh=>bO h g λh=>b7 h (af (aR false 1 0 (dK c)) λh=>bO h g λg=>some g) λg=>a6 g (aY (aY (some cf))) (bu f λf=>av [D.agg (dK a),D.agg (dK c),d,e,f])) (bx [])) b
def DJ(n:Nat)(a0:D)(x1:lZ)(c9:lZ)(b:lZ):oX:=af (aR false 1 1 x1) λv9=>bO v9 a0 λv12=>bh v12 λa=>af (aS (vm n) n [D.agg c9,D.agg b,v12,a,al])<|aH λ_=>some bo
def yV(n:Nat):lZ->oX|[a0,aG,a2,a3]=>(match aG with| .ref x1 0=>(match a2 with| .ref c9 0=>(match a3 with| .ref a 0=>DJ n a0 x1 c9 a|_=>none)|_=>none)|_=>none)|_=>none
def yW:b2:=hn (λc d e f g h=>aM .lss g f (af (yV a [g,c,d,e]) λa=>ct h g λi=>bp a<|af (aF h)[i]? λj=>bu g λg=>av [c,d,e,f,g,D.aw 1 ((aF h).set i (dS j 0 [a]))]) (bx [ax h])) l
def JL:oX:=aK 4 b<|bh (ad b 0) λb=>af (e5 1 b b) λb=>af (aS (yW a) a [c,d,e,aa (List.replicate b [bo]).length,al,D.aw 1 (List.replicate b [bo])])<|aH<|cu λa=>some (ax a)
def yX(n:Nat):lZ->oX|[a0,aG]=>(match fJ yC aG with|some [a,b,c]=>JL n a0 a b c|_=>none)|_=>none
def Qy:oX:=aK 4 b<|bp c<|af (sC a [cc b,c]) λc=>bp c<|af (qT a [cc b]) λd=>af (sE a [cc b,d]) λd=>bp d<|aU (yX a [cc b,(D.fn (.func yC) [] [D.ref [ad b 0,ad b 1,ad b 2,ad b 3] 0,D.ref [c] 0,D.ref [d] 0])])
def sF:=di (Qy a)
def JM(a:Nat)(b:D)(c:lZ)(d:lZ):oX:=af (aR false 1 0 c) λa=>bO a b λa=>b7 a (af (aR false 1 0 d) λa=>bO a b λa=>some a) λa=>some a
def DK(n:Nat):lZ->oX|[a0,aG,a2]=>(match aG with| .ref x1 0=>(match a2 with| .ref c9 0=>JM n a0 x1 c9|_=>none)|_=>none)|_=>none
def DL:b2:=fD (λc d e f g=>aM .lss f e (af (DK a [f,c,d]) λa=>ct g f λh=>bp a<|af (aF g)[h]? λi=>bu f λf=>av [c,d,e,f,D.aw 1 ((aF g).set h (dS i 0 [a]))]) (bx [ax g])) l
def JN:oX:=aK 4 b<|bh (ad b 0) λb=>af (e5 1 b b) λb=>af (aS (DL a) a [c,d,aa (List.replicate b [bo]).length,al,D.aw 1 (List.replicate b [bo])])<|aH<|cu λa=>some (ax a)
def yY(n:Nat):lZ->oX|[a0,aG]=>(match fJ yD aG with|some [a,b]=>JN n a0 a b|_=>none)|_=>none
def Qz:oX:=aK 4 b<|bp d<|af (sC a [cc b,d]) λd=>bp d<|af (qT a [cc b]) λe=>af (sE a [cc b,e]) λe=>bp e<|af (sC a [cc b,c]) λc=>af (yY a [cc b,(D.fn (.func yD) [] [D.ref [d] 0,D.ref [e] 0])]) λd=>aU (yS a [cc b,c,d])
def pB:=gH (Qz a)
def QA:oX:=aK 4 b<|aU (sE a [cc b,c])
def qW:=di (QA a)
def JO(a:Nat)(b:D)(c:lZ)(d:lZ):oX:=af (aR false 1 0 c) λa=>bO a b λa=>af (cd .not a) λa=>b7 a (af (aR false 1 0 d) λa=>bO a b λa=>aU (cd .not a)) λa=>some a
def DM(n:Nat):lZ->oX|[a0,aG,a2]=>(match aG with| .ref x1 0=>(match a2 with| .ref c9 0=>JO n a0 x1 c9|_=>none)|_=>none)|_=>none
def DN:b2:=fD (λc d e f g=>aM .lss f e (af (DM a [f,c,d]) λa=>ct g f λh=>bp a<|af (aF g)[h]? λi=>bu f λf=>av [c,d,e,f,D.aw 1 ((aF g).set h (dS i 0 [a]))]) (bx [ax g])) l
def JP:oX:=aK 4 b<|bh (ad b 0) λb=>af (e5 1 b b) λb=>af (aS (DN a) a [c,d,aa (List.replicate b [bo]).length,al,D.aw 1 (List.replicate b [bo])])<|aH<|cu λa=>some (ax a)
def vn(n:Nat):lZ->oX|[a0,aG]=>(match fJ uX aG with|some [a,b]=>JP n a0 a b|_=>none)|_=>none
def JQ(a:Nat)(b:D)(c:lZ)(d:lZ):oX:=af (aR false 1 0 c) λa=>bO a b λa=>af (cd .not a) λa=>b7 a (af (aR false 1 0 d) λa=>bO a b λa=>aU (cd .not a)) λa=>some a
def DO(n:Nat):lZ->oX|[a0,aG,a2]=>(match aG with| .ref x1 0=>(match a2 with| .ref c9 0=>JQ n a0 x1 c9|_=>none)|_=>none)|_=>none
def DP:b2:=fD (λc d e f g=>aM .lss f e (af (DO a [f,c,d]) λa=>ct g f λh=>bp a<|af (aF g)[h]? λi=>bu f λf=>av [c,d,e,f,D.aw 1 ((aF g).set h (dS i 0 [a]))]) (bx [ax g])) l
def JR:oX:=aK 4 b<|bh (ad b 0) λb=>af (e5 1 b b) λb=>af (aS (DP a) a [c,d,aa (List.replicate b [bo]).length,al,D.aw 1 (List.replicate b [bo])])<|aH<|cu λa=>some (ax a)
def vo(n:Nat):lZ->oX|[a0,aG]=>(match fJ uY aG with|some [a,b]=>JR n a0 a b|_=>none)|_=>none
def QB(a:Nat)(b:D):oX:=aN .geq b (D.val (.int .u8 97)) λa=>b7 a (aU (aV false .leq b (D.val (.int .u8 122)))) λa=>af (cE a false (aU (aV false .geq b (D.val (.int .u8 65))))) λc=>af (cE c true (aU (aV false .leq b (D.val (.int .u8 90))))) λb=>cZ a (aU (en c b bo)) λa=>some a
def yZ:=cO (QB a)
def QC(a:Nat)(b:D):oX:=aN .geq b (D.val (.int .u8 48)) λa=>b7 a (aU (aV false .leq b (D.val (.int .u8 57)))) λa=>some a
def DQ:=cO (QC a)
def y0:b2:=fz (λc d e=>af (lk c) λf=>aN .lss d f λf=>af (cE f true (af (mN c d) λg=>aU (DQ a [g]))) λg=>af (cE g false (aU (cd .not e))) λh=>af (cE h true (af (mN c d) λi=>aU (yZ a [i]))) λa=>af (cE a false (af (mN c d) λi=>aU (aV false .eql i (D.val (.int .u8 95))))) λi=>af (cE h true (aU (en a cf i))) λa=>af (cE g false (aU (en h a bo))) λa=>b7 f (aU (en g cf a)) λa=>a6 a (bu d λa=>av [c,a,e]) (bx [d])) l
def QD:oX:=af (aS (y0 a) a [b,c,d])<|aH<|cu λa=>some a
def DR:=gH (QD a)
def acz(a:Nat):oX:=some (D.aw 1 [[aD ⟨#[65]⟩],[aD ⟨#[65,70]⟩],[aD ⟨#[65,71]⟩],[aD ⟨#[65,88]⟩],[aD ⟨#[69]⟩],[aD ⟨#[69,70]⟩],[aD ⟨#[69,71]⟩],[aD ⟨#[69,88]⟩],[aD ⟨#[85]⟩],[aD ⟨#[98,111,111,108]⟩],[aD ⟨#[100,101,102]⟩],[aD ⟨#[101,108,115,101]⟩],[aD ⟨#[102,97,105,114]⟩],[aD ⟨#[102,97,108,115,101]⟩],[aD ⟨#[105,102]⟩],[aD ⟨#[105,110,105,116]⟩],[aD ⟨#[105,110,118,97,114]⟩],[aD ⟨#[109,111,100]⟩],[aD ⟨#[110,101,120,116]⟩],[aD ⟨#[115,112,101,99]⟩],[aD ⟨#[116,104,101,110]⟩],[aD ⟨#[116,114,97,110,115]⟩],[aD ⟨#[116,114,117,101]⟩],[aD ⟨#[118,97,114]⟩]])
def JS:=yi (acz a)
def vp(a:Nat)(b:lZ):b2:=fz (λa c d=>bh a λe=>aM .lss d e (bO a d λe=>aM .eql e c (aY (aY (some cf))) (bu d λd=>av [a,c,d])) (bx [])) b
def JT(n:Nat)(a0 aG:D):oX:=af (aS (vp n) n [a0,aG,al])<|aH λ_=>some bo
def y1:=di (JT a)
def JU:oX:=af (lk b) λc=>aN .geq c bH λc=>b7 c (af (lk b) λc=>aU (aV false .leq c (aa 24))) λc=>b7 c (af (mN b al) λc=>aU (yZ a [c])) λc=>b7 c (af (DR a [b,al,bo]) λc=>af (lk b) λd=>aU (aV false .eql c d)) λc=>b7 c (af (JS a []) λc=>af (y1 a [c,b]) λa=>aU (cd .not a)) λa=>some a
def sG:=cO (JU a)
def QE(a:Nat)(b:D):oX:=aN .geq b (aa (-255)) λa=>b7 a (aU (aV false .leq b (aa 255))) λa=>some a
def y2:=cO (QE a)
def QF(a:Nat)(b:D):oX:=aK 4 b<|a6 (ad b 1) (some (aa 2)) (aM .gtr (ad b 2) (ad b 3) (some al) (af (j4 .u64 (ad b 3)) λa=>af (j4 .u64 (ad b 2)) λb=>aN .sub a b λa=>aN .gtr a (D.val (.int .u64 1073741824)) λb=>af (a6 b (av [D.val (.int .u64 1073741824)]) (av [a]))<|aH<|cu λa=>af (j4 .i64 a) λa=>aU (aV false .add a bH)))
def pC:=cO (QF a)
def y3(a:Nat)(b:lZ):h1:=fz (λa c d=>aM .lss d c (af (bc 4 a d) λe=>af (aR false 1 0 e) λe=>af (bc 4 a c) λf=>af (aR false 1 0 f) λf=>aM .eql e f (aY (aY (aY (aY (aY (some (D.aB [c,aa 6]))))))) (bu d λd=>av [a,c,d])) (bx [a,c])) b
def sH:b2:=cW (λc d=>bh c λe=>aM .lss d e (af (af (bc 4 c d) λe=>af (aR false 1 0 e) λe=>af (sG a [e]) λe=>db (cd .not e) (aY (aY (aY (some (D.aB [d,aa 12]))))) (af (aS (y3 a) a [c,d,al])<|aH<|cW λc d=>af (bc 4 c d) λe=>af (aR false 1 1 e) λe=>af (cE e true (af (bc 4 c d) λf=>af (aR false 1 2 f) λf=>aU (aV false .neq f al))) λf=>af (cE f false (af (bc 4 c d) λg=>af (aR false 1 3 g) λg=>aU (aV false .neq g al))) λg=>b7 e (aU (en f cf g)) λe=>a6 e (aY (aY (aY (some (D.aB [d,aa 3]))))) (af (bc 4 c d) λe=>af (aR false 1 1 e) λe=>af (cd .not e) λe=>af (cE e true (af (bc 4 c d) λf=>af (aR false 1 2 f) λf=>af (bc 4 c d) λg=>af (aR false 1 3 g) λg=>aU (aV false .gtr f g))) λf=>af (cE f false (af (bc 4 c d) λg=>af (aR false 1 2 g) λg=>af (y2 a [g]) λg=>aU (cd .not g))) λg=>af (cE e true (aU (en f cf g))) λf=>af (cE f false (af (bc 4 c d) λg=>af (aR false 1 3 g) λg=>af (y2 a [g]) λg=>aU (cd .not g))) λg=>af (cE e true (aU (en f cf g))) λf=>af (cE f false (af (bc 4 c d) λg=>af (aR true 4 0 g) λg=>af (pC a [g]) λa=>aU (aV false .gtr a (aa 64)))) λa=>b7 e (aU (en f cf a)) λa=>a6 a (aY (aY (aY (some (D.aB [d,aa 2]))))) (av [c,d]))))<|aH<|cW λa c=>bu c λc=>av [a,c]) (bx [])) l
def acA(n:Nat)(a0:D):oX:=af (aS (sH n) n [a0,al])<|aH λ_=>some (D.aB [al,al])
def DS:=cO (acA a)
def DT(a:Nat)(b:lZ):b2:=cW (λa c=>aM .gtr a bH (aN .quo a (aa 2) λd=>aN .rem a (aa 2) λa=>aN .add d a λa=>bu c λd=>av [a,d]) (bx [c])) b
def QG:oX:=af (aS (DT a) a [b,al])<|aH<|cu λa=>some a
def DU:=cO (QG a)
def DV:b2:=e7 (λc d e f g h i j k l=>bh e λm=>aM .lss d m (af (bc 4 e d) λm=>af (aR true 4 0 m) λm=>af (pC a [m]) λm=>af (DU a [m]) λa=>aN .add c a λa=>bu d λd=>av [a,d,e,f,g,h,i,j,k,l]) (bx [c])) l
def QH:oX:=aK 8 b<|af (aS (DV a) a [al,al,ad b 0,ad b 1,ad b 2,ad b 3,ad b 4,ad b 5,ad b 6,ad b 7])<|aH<|cu λa=>some a
def DW:=cO (QH a)
def y4(a:Nat)(b:lZ):b2:=e7 (λa c d e f g h i j k=>bh d λl=>aM .lss c l (af (bc 4 d c) λl=>af (aR false 1 0 l) λl=>aM .eql l a (aY (aY (some c))) (bu c λc=>av [a,c,d,e,f,g,h,i,j,k])) (bx [])) b
def QI(n:Nat)(a0 aG:D):oX:=aK 8 a0<|af (aS (y4 n) n [aG,al,ad a0 0,ad a0 1,ad a0 2,ad a0 3,ad a0 4,ad a0 5,ad a0 6,ad a0 7])<|aH λ_=>some (aa (-1))
def y5:=di (QI a)
def y6(a:Nat)(b:lZ):b2:=e7 (λa c d e f g h i j k=>bh e λl=>aM .lss c l (af (bc 5 e c) λl=>af (aR false 1 0 l) λl=>aM .eql l a (aY (aY (some c))) (bu c λc=>av [a,c,d,e,f,g,h,i,j,k])) (bx [])) b
def QJ(n:Nat)(a0 aG:D):oX:=aK 8 a0<|af (aS (y6 n) n [aG,al,ad a0 0,ad a0 1,ad a0 2,ad a0 3,ad a0 4,ad a0 5,ad a0 6,ad a0 7])<|aH λ_=>some (aa (-1))
def y7:=di (QJ a)
def y8(a:Nat)(b:lZ):b2:=fz (λa c d=>bh a λe=>aM .lss d e (bO a d λe=>aM .eql e c (aY (aY (some cf))) (bu d λd=>av [a,c,d])) (bx [])) b
def QK(n:Nat)(a0 aG:D):oX:=af (aS (y8 n) n [a0,aG,al])<|aH λ_=>some bo
def DX:=di (QK a)
def vq(a:Nat)(b:lZ):b2:=fD (λa c d e f=>bh a λg=>aM .lss e g (af (cd .not d) λg=>b7 g (bO a e λg=>aU (aV false .gtr g c)) λg=>af (a6 g (bp c<|bF (b1 ((aF f).length+([[c]]).length) 16)<|av [a,c,cf,e,D.aw 1 ((aF f)++[[c]])]) (av [a,c,d,e,ax f]))<|aH<|fD λa e g h i=>bO a h λj=>bp j<|bF (b1 ((aF i).length+([[j]]).length) 16)<|bu h λh=>av [a,e,g,h,D.aw 1 ((aF i)++[[j]])]) (bx [c,d,ax f])) b
def DY:oX:=db (DX a [b,c]) (some b) (af (aS (vq a) a [b,c,bo,al,D.aw 1 ([]:mW)])<|aH<|fz λa b c=>af (cd .not b) λb=>af (a6 b (bp a<|bF (b1 ((aF c).length+([[a]]).length) 16)<|av [D.aw 1 ((aF c)++[[a]])]) (av [ax c]))<|aH<|cu λa=>some (ax a))
def vr:=di (DY a)
def DZ(a:lZ->oX)(b:Nat)(c:lZ):b2:=fR (λb d e f g h i=>bh i λj=>aM .lss e j (af (bc 4 i e) λj=>af (aR true 4 0 j) λj=>af (a [j,b,d]) λa=>bu e λe=>av [b,a,e,f,g,h,i]) (bx [d])) c
def y9(a:lZ->oX)(b:Nat)(c d e:D):oX:=aK 4 c<|aN .eql (ad c 0) d λf=>af (a6 f (af (vr b [e,ad c 2]) λf=>av [d,f,ad c 0,ad c 1,ad c 2,ad c 3]) (av [d,e,ad c 0,ad c 1,ad c 2,ad c 3]))<|aH<|hn λc d e f g h=>af (aS (DZ a b) b [c,d,al,e,f,g,h])<|aH<|cu λa=>some a
def oi:Nat->lZ->oX|0,_=>none|n+1,a=>match a with|[a0,aG,a2]=>y9 (oi n) n a0 aG a2|_=>none
def QL:oX:=aK 4 b<|af (oi a [cc b,aa 3,a7]) λc=>af (oi a [cc b,aa 4,a7]) λa=>some (D.aB [c,a])
def vt:=cO (QL a)
def sI:h1:=gJ (λc d e f g h i j k l m n o=>bh d λp=>aM .lss e p (af (bO d e λp=>af (y7 a [D.agg [f,g,h,i,j,k,l,m],p]) λa=>aN .geq a al λp=>b7 p (ct n a λp=>cr n p λp=>aU (cd .not p)) λp=>af (a6 p (ct n a λp=>af (aF n)[p]? λq=>bp a<|bF (b1 ((aF o).length+([[a]]).length) 8)<|av [c,d,e,f,g,h,i,j,k,l,m,D.aw 1 ((aF n).set p (dS q 0 [cf])),D.aw 1 ((aF o)++[[a]])]) (av [c,d,e,f,g,h,i,j,k,l,m,ax n,ax o]))<|aH<|gJ λa d e p q r s t u w x y z=>av [a,d,e,p,q,r,s,t,u,w,x,ax y,ax z])<|aH<|gJ λa d e p q r s t u w x y z=>bu e λe=>av [a,d,e,p,q,r,s,t,u,w,x,ax y,ax z]) (bx [c,f,g,h,i,j,k,l,m,ax n,ax o])) l
def D0:b2:=ho (λc d e f g h i j k l m=>aM .lss c (aa (aF m).length) (af (ct m c λn=>cr m n λn=>af (bc 5 e n) λn=>af (aR true 4 1 n) λn=>af (vt a [n]) λn=>bT n λo=>bU n λn=>af (aS (sI a) a [c,o,al,d,e,f,g,h,i,j,k,ax l,ax m])<|aH<|ho λa c d e f g h i j k m=>av [a,c,d,e,f,g,h,i,j,ax k,ax m])<|aH<|ho λa c d e f g h i j k m=>bu a λa=>av [a,c,d,e,f,g,h,i,j,ax k,ax m]) (bx [ax l])) l
def QM:oX:=aK 8 b<|bh (ad b 1) λd=>af (e5 1 d d) λd=>bp c<|af (aS (D0 a) a [al,ad b 0,ad b 1,ad b 2,ad b 3,ad b 4,ad b 5,ad b 6,ad b 7,D.aw 1 (List.replicate d [bo]),D.aw 1 [[c]]])<|aH<|cu λa=>some (ax a)
def D1:=di (QM a)
def JV(a:Nat)(b:D):oX:=af (aN .eql b bH λa=>af (a6 a (av [b,b,a]) (aN .eql b (aa 2) λa=>af (a6 a (av [b,b,a]) (aN .eql b (aa 3) λa=>af (a6 a (av [b,b,a]) (aN .eql b (aa 4) λa=>av [b,b,a]))<|aH<|fz λa b c=>av [a,b,c]))<|aH<|fz λa b c=>av [a,b,c]))<|aH<|fz λa b c=>a6 c (aY (some (D.aB [al,al]))) (aM .eql b (aa 5) (aY (some (D.aB [bH,bH]))) (aN .eql b (aa 6) λc=>af (a6 c (av [a,b,c]) (aN .eql b (aa 7) λc=>av [a,b,c]))<|aH<|fz λa b c=>a6 c (aY (some (D.aB [bH,aa 64]))) (aM .eql b (aa 18) (aY (some (D.aB [aa 3,aa 3]))) (av [a])))))<|aH<|cu λa=>aN .lss a bH λb=>cZ b (aU (aV false .gtr a (aa 18))) λa=>a6 a (some (D.aB [aa (-1),aa (-1)])) (some (D.aB [aa 2,aa 2]))
def za:=cO (JV a)
def QN:oX:=aK 4 b<|aM .gtr c (aa 64) (some (aa 17)) (af (za a [ad b 0]) λa=>bT a λc=>bU a λa=>aM .lss c al (some (aa 11)) (aN .eql (ad b 0) bH λd=>af (a6 d (av [c,a,aa (-255),aa 255,ad b 0,ad b 1,ad b 2,ad b 3]) (av [c,a,al,al,ad b 0,ad b 1,ad b 2,ad b 3]))<|aH<|u8 λa b c d e f g h=>aN .eql e (aa 2) λi=>af (a6 i (av [a,b,c,bH,e,f,g,h]) (av [a,b,c,d,e,f,g,h]))<|aH<|u8 λa b c d e f g h=>aN .lss f c λc=>cZ c (aU (aV false .gtr f d)) λc=>a6 c (some (aa 2)) (aN .eql e (aa 3) λc=>cZ c (aU (aV false .eql e (aa 4))) λc=>af (cE c true (af (lk g) λd=>aU (aV false .lss d bH))) λd=>af (cE d false (af (lk g) λe=>aU (aV false .gtr e (aa 24)))) λe=>b7 c (aU (en d cf e)) λd=>af (cE d false (aU (cd .not c))) λc=>af (cE c true (aU (aV false .neq g (aD ⟨#[]⟩)))) λe=>cZ d (aU (en c e bo)) λc=>a6 c (some (aa 12)) (bh h λc=>aN .lss c a λa=>cZ a (bh h λa=>aU (aV false .gtr a b)) λa=>a6 a (some (aa 3)) (some al)))))
def zb:=di (QN a)
def D2(a:lZ->oX)(b:Nat)(c:lZ):b2:=fR (λb d e f g h i=>bh i λj=>aM .lss e j (af (bc 4 i e) λj=>af (aR true 4 0 j) λj=>bu b λk=>af (a [j,k,d]) λa=>bT a λj=>bU a λa=>aM .neq j al (aY (aY (some (D.aB [j,a])))) (bu e λe=>av [b,a,e,f,g,h,i])) (bx [d])) c
def JW(a:lZ->oX)(b:Nat)(c d e:D):oX:=aK 4 c<|bu e λe=>af (zb b [cc c,d]) λf=>aM .neq f al (some (D.aB [f,e])) (aM .gtr e (aa 4096) (some (D.aB [aa 4,e])) (af (aS (D2 a b) b [d,e,al,ad c 0,ad c 1,ad c 2,ad c 3])<|aH<|cu λa=>some (D.aB [al,a])))
def pD:Nat->lZ->oX|0,_=>none|n+1,a=>match a with|[a0,aG,a2]=>JW (pD n) n a0 aG a2|_=>none
def QO:oX:=aK 4 b<|af (pD a [cc b,bH,al]) λa=>bT a λb=>bU a λa=>some b
def vu:=cO (QO a)
def zc(a:Nat)(b:lZ):b2:=fz (λa c d=>bh a λe=>aM .lss d e (af (bc 5 a d) λe=>af (aR false 1 0 e) λe=>aM .eql e c (aY (aY (some d))) (bu d λd=>av [a,c,d])) (bx [])) b
def QP(n:Nat)(a0 aG:D):oX:=af (aS (zc n) n [a0,aG,al])<|aH λ_=>some (aa (-1))
def vv:=di (QP a)
def zd:b2:=dP (λc d e f=>bh d λg=>aM .lss e g (af (bO d e λg=>af (vv a [c,g]) λa=>aN .geq a al λg=>af (a6 g (bp a<|bF (b1 ((aF f).length+([[a]]).length) 8)<|av [c,d,e,D.aw 1 ((aF f)++[[a]])]) (av [c,d,e,ax f]))<|aH<|dP λa c d e=>av [a,c,d,ax e])<|aH<|dP λa c d e=>bu d λd=>av [a,c,d,ax e]) (bx [ax f])) l
def QQ:oX:=aK 4 b<|af (vt a [cc b]) λb=>bT b λd=>bU b λb=>af (aS (zd a) a [c,d,al,D.aw 1 ([]:mW)])<|aH<|cu λa=>some (ax a)
def ze:=di (QQ a)
def vw(a:Nat)(b:lZ):b2:=fz (λa c d=>bh a λe=>aM .lss d e (bO a d λe=>aM .eql e c (aY (aY (some cf))) (bu d λd=>av [a,c,d])) (bx [])) b
def JX(n:Nat)(a0 aG:D):oX:=af (aS (vw n) n [a0,aG,al])<|aH λ_=>some bo
def sJ:=di (JX a)
def zf(a:lZ->oX)(b:Nat)(c:lZ):b2:=dP (λd e f g=>bh f λh=>aM .lss g h (af (bO f g λh=>af (sJ b [e,h]) λb=>af (cd .not b) λb=>af (a6 b (bO f g λb=>af (bc 5 d b) λb=>af (aR true 4 1 b) λb=>bO f g λh=>af (jz e) λi=>bF (decide (i.1=1\/i.2=[])&&decide (0<1))<|bF (b1 (([]:mW).length+(i.2).length) 8)<|bp h<|bF (b1 ((([]:mW)++i.2).length+([[h]]).length) 8)<|af (a [b,d,D.aw 1 ((([]:mW)++i.2)++[[h]])]) λa=>av [d,a,f,g]) (av [d,e,f,g]))<|aH<|dP λa b d f=>av [a,b,d,f])<|aH<|dP λa b d f=>bu f λf=>av [a,b,d,f]) (bx [e])) c
def D3(a:lZ->oX)(b:Nat)(c d e:D):oX:=aK 4 c<|af (ze b [cc c,d]) λc=>af (aS (zf a b) b [d,e,c,al])<|aH<|cu λa=>some a
def oj:Nat->lZ->oX|0,_=>none|n+1,a=>match a with|[a0,aG,a2]=>D3 (oj n) n a0 aG a2|_=>none
def QR:oX:=af (bc 5 b c) λd=>af (aR true 4 1 d) λd=>af (oj a [d,b,a7]) λb=>aU (sJ a [b,c])
def D4:=di (QR a)
def zg(a:lZ->oX)(b:Nat)(c:lZ):b2:=gJ (λb d e f g h i j k l m n o=>bh j λp=>aM .lss f p (af (bc 4 j f) λp=>af (aR true 4 0 p) λp=>bu d λq=>af (a [p,b,q,e]) λa=>bT a λp=>bU a λq=>af (eJ 2 a) λa=>aK 4 p<|aM .neq a al (aY (aY (some (D.aB [D.agg [al,al,aD ⟨#[]⟩,a7],q,a])))) (aK 4 (cc p)<|bF (b1 ((aF o).length+([[ad p 0,ad p 1,ad p 2,ad p 3]]).length) 56)<|bu f λa=>av [b,d,q,a,g,h,i,j,k,l,m,n,D.aw 4 ((aF o)++[[ad p 0,ad p 1,ad p 2,ad p 3]])])) (bx [e,g,h,i,j,k,l,m,n,D.aw 4 (aF o)])) c
def nm(a:lZ->oX)(b:Nat)(c d e f:D):oX:=aK 4 c<|aN .eql (ad c 0) (aa 3) λg=>af (a6 g (af (vv b [d,ad c 2]) λg=>aM .geq g al (af (bc 5 d g) λg=>af (aR true 4 1 g) λg=>af (a [g,d,e,f]) λg=>bT g λh=>bU g λi=>af (eJ 2 g) λg=>aK 4 h<|aY (some (D.aB [cc h,i,g]))) (av [d,e,f,ad c 0,ad c 1,ad c 2,ad c 3,al,al,aD ⟨#[]⟩,a7])) (av [d,e,f,ad c 0,ad c 1,ad c 2,ad c 3,al,al,aD ⟨#[]⟩,a7]))<|aH<|ho λc d e f g h i j k l m=>bu e λe=>af (zb b [D.agg [f,g,h,i],d]) λn=>aM .neq n al (some (D.aB [D.agg [al,al,aD ⟨#[]⟩,a7],e,n])) (aM .gtr e (aa 4096) (some (D.aB [D.agg [al,al,aD ⟨#[]⟩,a7],e,aa 4])) (af (aS (zg a b) b [c,d,e,al,f,g,h,i,j,k,l,m,D.aw 4 ([]:mW)])<|aH<|e7 λa b c d e f g h i j=>bp b<|bp c<|bp d<|some (D.aB [D.agg [b,c,d,D.aw 4 (aF j)],a,al])))
def om:Nat->lZ->oX|0,_=>none|n+1,a=>match a with|[a0,aG,a2,a3]=>nm (om n) n a0 aG a2 a3|_=>none
def zh:b2:=ho (λc d e f g h i j k l m=>bh d λn=>aM .lss e n (bO d e λn=>db (D4 a [c,n]) (aY (aY (some (D.aB [D.agg [al,al,aD ⟨#[]⟩,a7],aa 14])))) (bu e λa=>av [c,d,a,f,g,h,i,j,k,l,m])) (bx [c,f,g,h,i,j,k,l,m])) l
def zi:oX:=aK 4 b<|af (vu a [cc b]) λd=>aM .neq d al (some (D.aB [D.agg [al,al,aD ⟨#[]⟩,a7],d])) (af (oj a [cc b,c,a7]) λd=>af (aS (zh a) a [c,d,al,ad b 0,ad b 1,ad b 2,ad b 3,al,al,aD ⟨#[]⟩,a7])<|aH<|fD λb c d e f=>af (om a [D.agg [c,d,e,f],b,bH,al]) λa=>bT a λb=>bU a λc=>af (eJ 2 a) λa=>aK 4 b<|aK 4 (cc b)<|some (D.aB [cc b,a]))
def k0:=di (zi a)
def QS(a:Nat)(b c:D):oX:=af (cd .neg (aa 1048576)) λa=>aN .lss b a λa=>cZ a (aU (aV false .gtr b (aa 1048576))) λa=>cZ a (af (cd .neg (aa 1048576)) λa=>aU (aV false .lss c a)) λa=>cZ a (aU (aV false .gtr c (aa 1048576))) λa=>cZ a (aU (aV false .lss c b)) λa=>cZ a (aN .sub c b λa=>aU (aV false .gtr a (aa 4096))) λa=>a6 a (some (D.aB [D.agg [bo,al,al],aa 2])) (bp b<|bp c<|aK 3 (D.agg [bo,b,c])<|some (D.aB [D.agg [bo,b,c],al]))
def oo:=di (QS a)
def zj(a:Nat)(b:lZ):b2:=fz (λa c d=>bh a λe=>aM .lss d e (af (bc 4 a d) λe=>af (aR false 1 0 e) λe=>aM .eql e c (aY (aY (some d))) (bu d λd=>av [a,c,d])) (bx [])) b
def QT(n:Nat)(a0 aG:D):oX:=af (aS (zj n) n [a0,aG,al])<|aH λ_=>some (aa (-1))
def vx:=di (QT a)
def zk(a:Nat)(b:lZ):b2:=cW (λa c=>bh a λd=>aM .lss c d (af (bc 3 a c) λd=>af (aR false 1 0 d) λd=>db (cd .not d) (aY (aY (some bo))) (bu c λc=>av [a,c])) (bx [])) b
def QU(n:Nat)(a0:D):oX:=af (aS (zk n) n [a0,al])<|aH λ_=>some cf
def D5:=cO (QU a)
def D6(a:Nat)(b:lZ):b2:=dP (λa c d e=>aM .lss d (aa 4) (ct e d λf=>cr e f λf=>af (hZ false [a,f]) λf=>ct e d λg=>cr e g λg=>af (hZ true [c,g]) λg=>bu d λd=>av [f,g,d,ax e]) (bx [a,c])) b
def QV:oX:=aK 3 b<|aK 3 c<|aN .mul (ad b 1) (ad c 1) λd=>aN .mul (ad b 1) (ad c 2) λe=>aN .mul (ad b 2) (ad c 1) λf=>aN .mul (ad b 2) (ad c 2) λb=>bp d<|bp e<|bp f<|bp b<|af (cI ([[d],[e],[f],[b]]).length al) λc=>af (([[d],[e],[f],[b]])[c]?) λc=>af (aR false 1 0 c) λc=>af (cI ([[d],[e],[f],[b]]).length al) λg=>af (([[d],[e],[f],[b]])[g]?) λg=>af (aR false 1 0 g) λg=>af (aS (D6 a) a [c,g,bH,D.aw 1 [[d],[e],[f],[b]]])<|aH<|cW λa b=>some (D.aB [a,b])
def D7:=di (QV a)
def D8:oX:=aK 4 b<|af (aN .eql (ad b 0) (aa 5) λd=>af (a6 d (av [c,aa 13,ad b 0,d,ad b 0,ad b 1,ad b 2,ad b 3,bo,al,al,cf,al,al]) (aN .eql (ad b 0) (aa 6) λd=>af (a6 d (av [c,aa 13,ad b 0,d,ad b 0,ad b 1,ad b 2,ad b 3,bo,al,al,cf,al,al]) (aN .eql (ad b 0) (aa 7) λd=>af (a6 d (av [c,aa 13,ad b 0,d,ad b 0,ad b 1,ad b 2,ad b 3,bo,al,al,cf,al,al]) (aN .eql (ad b 0) (aa 8) λd=>af (a6 d (av [c,aa 13,ad b 0,d,ad b 0,ad b 1,ad b 2,ad b 3,bo,al,al,cf,al,al]) (aN .eql (ad b 0) (aa 9) λd=>av [c,aa 13,ad b 0,d,ad b 0,ad b 1,ad b 2,ad b 3,bo,al,al,cf,al,al]))<|aH<|ly λb c d e f g h i j k l m n o=>av [b,c,d,e,f,g,h,i,j,k,l,m,n,o]))<|aH<|ly λb c d e f g h i j k l m n o=>av [b,c,d,e,f,g,h,i,j,k,l,m,n,o]))<|aH<|ly λb c d e f g h i j k l m n o=>av [b,c,d,e,f,g,h,i,j,k,l,m,n,o]))<|aH<|ly λb c d e f g h i j k l m n o=>a6 e (af (D5 a [b]) λe=>db (cd .not e) (aY (some (D.aB [D.agg [bo,al,al],c]))) (aK 3 (D.agg [m,n,o])<|aY (some (D.aB [D.agg [m,n,o],al])))) (aN .eql d (aa 10) λe=>af (a6 e (av [b,c,d,e,f,g,h,i,j,k,l,m,n,o]) (aN .eql d (aa 11) λe=>av [b,c,d,e,f,g,h,i,j,k,l,m,n,o]))<|aH<|ly λb c d e f g h i j k l m n o=>a6 e (af (bc 3 b al) λe=>af (aR false 1 0 e) λe=>af (bc 3 b bH) λp=>af (aR false 1 0 p) λp=>db (aV true .neq e p) (aY (some (D.aB [D.agg [bo,al,al],c]))) (aK 3 (D.agg [m,n,o])<|aY (some (D.aB [D.agg [m,n,o],al])))) (aM .eql d (aa 18) (af (bc 3 b al) λd=>af (aR false 1 0 d) λd=>af (cd .not d) λd=>cZ d (af (bc 3 b bH) λd=>af (aR false 1 0 d) λd=>af (bc 3 b (aa 2)) λe=>af (aR false 1 0 e) λe=>aU (aV true .neq d e)) λd=>a6 d (aY (some (D.aB [D.agg [bo,al,al],c]))) (af (bc 3 b bH) λd=>db (aR false 1 0 d) (aK 3 (D.agg [m,n,o])<|aY (some (D.aB [D.agg [m,n,o],al]))) (af (bc 3 b bH) λd=>af (aR false 1 1 d) λd=>af (bc 3 b (aa 2)) λe=>af (aR false 1 1 e) λe=>af (hZ false [d,e]) λd=>af (bc 3 b bH) λe=>af (aR false 1 2 e) λe=>af (bc 3 b (aa 2)) λp=>af (aR false 1 2 p) λp=>af (hZ true [e,p]) λe=>af (oo a [d,e]) λd=>bT d λe=>bU d λd=>aK 3 e<|aY (some (D.aB [D.agg [ad e 0,ad e 1,ad e 2],d]))))) (av [b,c,f,g,h,i,j,k,l,m,n,o]))))<|aH<|iR λb c d e f g h i j k l m=>af (bc 3 b al) λe=>af (aR false 1 0 e) λe=>cZ e (af (bc 3 b bH) λe=>aU (aR false 1 0 e)) λe=>a6 e (some (D.aB [D.agg [bo,al,al],c])) (aM .eql d (aa 14) (af (bc 3 b al) λc=>af (aR false 1 1 c) λc=>af (bc 3 b bH) λe=>af (aR false 1 1 e) λe=>aN .add c e λc=>af (bc 3 b al) λe=>af (aR false 1 2 e) λe=>af (bc 3 b bH) λf=>af (aR false 1 2 f) λf=>aN .add e f λe=>af (oo a [c,e]) λc=>bT c λe=>bU c λc=>aK 3 e<|some (D.aB [D.agg [ad e 0,ad e 1,ad e 2],c])) (aM .eql d (aa 15) (af (bc 3 b al) λc=>af (aR false 1 1 c) λc=>af (bc 3 b bH) λe=>af (aR false 1 2 e) λe=>aN .sub c e λc=>af (bc 3 b al) λe=>af (aR false 1 2 e) λe=>af (bc 3 b bH) λf=>af (aR false 1 1 f) λf=>aN .sub e f λe=>af (oo a [c,e]) λc=>bT c λe=>bU c λc=>aK 3 e<|some (D.aB [D.agg [ad e 0,ad e 1,ad e 2],c])) (aM .eql d (aa 16) (af (bc 3 b al) λc=>af (aR true 3 0 c) λc=>af (bc 3 b bH) λb=>af (aR true 3 0 b) λb=>af (D7 a [c,b]) λb=>bT b λc=>bU b λb=>af (oo a [c,b]) λb=>bT b λc=>bU b λb=>aK 3 c<|some (D.aB [D.agg [ad c 0,ad c 1,ad c 2],b])) (aM .eql d (aa 17) (af (bc 4 g bH) λb=>af (aR false 1 0 b) λb=>aN .neq b bH λb=>cZ b (af (bc 4 g bH) λb=>af (aR false 1 1 b) λb=>aU (aV false .lss b bH)) λb=>a6 b (some (D.aB [D.agg [bo,al,al],aa 2])) (af (bc 4 g bH) λb=>af (aR false 1 1 b) λb=>aN .sub b bH λb=>af (oo a [al,b]) λa=>bT a λb=>bU a λa=>aK 3 b<|some (D.aB [D.agg [ad b 0,ad b 1,ad b 2],a]))) (aK 3 (D.agg [k,l,m])<|some (D.aB [D.agg [k,l,m],al]))))))
def vy:=di (D8 a)
def vz(a:lZ->oX)(b:Nat)(c:lZ):b2:=ho (λb d e f g h i j k l m=>bh i λn=>aM .lss e n (af (bc 4 i e) λn=>af (aR true 4 0 n) λn=>af (a [b,n,d]) λa=>bT a λn=>bU a λa=>aK 3 n<|aM .neq a al (aY (aY (some (D.aB [D.agg [bo,al,al],a])))) (aK 3 (D.agg [ad n 0,ad n 1,ad n 2])<|bF (b1 ((aF m).length+([[ad n 0,ad n 1,ad n 2]]).length) 24)<|bu e λa=>av [b,d,a,f,g,h,i,j,k,l,D.aw 3 ((aF m)++[[ad n 0,ad n 1,ad n 2]])])) (bx [f,g,h,i,j,k,l,D.aw 3 (aF m)])) c
def pE(a:lZ->oX)(b:Nat)(c d e:D):oX:=aK 4 d<|aM .eql (ad d 0) bH (af (oo b [ad d 1,ad d 1]) λf=>bT f λg=>bU f λf=>aK 3 g<|some (D.aB [D.agg [ad g 0,ad g 1,ad g 2],f])) (aM .eql (ad d 0) (aa 2) (some (D.aB [D.agg [cf,al,al],al])) (aN .eql (ad d 0) (aa 3) λf=>af (a6 f (av [c,e,f,ad d 0,ad d 1,ad d 2,ad d 3,bo,al,al]) (aN .eql (ad d 0) (aa 4) λf=>av [c,e,f,ad d 0,ad d 1,ad d 2,ad d 3,bo,al,al]))<|aH<|e7 λc d e f g h i j k l=>a6 e (af (vx b [c,h]) λe=>aM .lss e al (some (D.aB [D.agg [bo,al,al],aa 12])) (aN .eql f (aa 4) λm=>b7 m (aU (cd .not d)) λm=>a6 m (some (D.aB [D.agg [bo,al,al],aa 24])) (af (bc 4 c e) λm=>db (aR false 1 1 m) (some (D.aB [D.agg [cf,al,al],al])) (af (bc 4 c e) λm=>af (aR false 1 2 m) λm=>af (bc 4 c e) λe=>af (aR false 1 3 e) λe=>af (oo b [m,e]) λe=>bT e λm=>bU e λe=>aK 3 m<|some (D.aB [D.agg [ad m 0,ad m 1,ad m 2],e]))))) (af (aS (vz a b) b [c,d,al,f,g,h,i,j,k,l,D.aw 3 ([]:mW)])<|aH<|u8 λa c d e f g h i=>af (vy b [D.agg [a,c,d,e],D.aw 3 (aF i)]) λa=>bF a.flat<|bT a λb=>bU a λa=>aK 3 b<|some (D.aB [D.agg [ad b 0,ad b 1,ad b 2],a]))))
def kb:Nat->lZ->oX|0,_=>none|n+1,a=>match a with|[a0,aG,a2]=>pE (kb n) n a0 aG a2|_=>none
def JY:oX:=aK 4 c<|af (vu a [cc c]) λe=>aM .neq e al (some (D.aB [D.agg [bo,al,al],e])) (af (kb a [b,cc c,d]) λa=>bT a λb=>bU a λa=>aK 3 b<|some (D.aB [D.agg [ad b 0,ad b 1,ad b 2],a]))
def vA:=gH (JY a)
def JZ:oX:=aK 8 b<|aK 4 c<|af (k0 a [cc c,ad b 1]) λc=>bT c λe=>bU c λc=>aK 4 e<|aM .neq c al (some (D.aB [D.agg [bo,al,al],c])) (af (vA a [ad b 0,cc e,d]) λa=>bT a λb=>bU a λa=>aK 3 b<|some (D.aB [D.agg [ad b 0,ad b 1,ad b 2],a]))
def sK:=gH (JZ a)
def sL:b2:=eL (λc d e f g h i j k=>bh e λl=>aM .lss c l (af (bc 5 e c) λl=>af (aR false 1 0 l) λl=>af (sG a [l]) λl=>db (cd .not l) (aY (aY (some (D.aB [c,aa 12])))) (af (bc 5 e c) λl=>af (aR false 1 0 l) λl=>af (y5 a [D.agg [d,e,f,g,h,i,j,k],l]) λl=>aN .geq l al λl=>cZ l (af (bc 5 e c) λl=>af (aR false 1 0 l) λl=>af (y7 a [D.agg [d,e,f,g,h,i,j,k],l]) λa=>aU (aV false .lss a c)) λa=>a6 a (aY (aY (some (D.aB [c,aa 6])))) (bu c λa=>av [a,d,e,f,g,h,i,j,k]))) (bx [d,e,f,g,h,i,j,k])) l
def zl:b2:=eL (λc d e f g h i j k=>bh e λl=>aM .lss c l (af (D1 a [D.agg [d,e,f,g,h,i,j,k],c]) λa=>bO a c λa=>a6 a (aY (aY (some (D.aB [c,aa 14])))) (bu c λa=>av [a,d,e,f,g,h,i,j,k])) (bx [d,e,f,g,h,i,j,k])) l
def zm:b2:=eL (λc d e f g h i j k=>bh e λl=>aM .lss c l (af (bc 5 e c) λl=>af (aR true 4 1 l) λl=>af (sK a [D.agg [d,e,f,g,h,i,j,k],l,bo]) λa=>bT a λl=>bU a λa=>aK 3 l<|aM .neq a al (aY (aY (some (D.aB [c,a])))) (bu c λa=>av [a,d,e,f,g,h,i,j,k])) (bx [])) l
def zn(n:Nat)(a0:D):oX:=aK 8 a0<|af (aS (sL n) n [al,ad a0 0,ad a0 1,ad a0 2,ad a0 3,ad a0 4,ad a0 5,ad a0 6,ad a0 7])<|aH<|u8 λa b c d e f g h=>af (aS (zl n) n [al,a,b,c,d,e,f,g,h])<|aH<|u8 λa b c d e f g h=>af (aS (zm n) n [al,a,b,c,d,e,f,g,h])<|aH λ_=>some (D.aB [al,al])
def sM:=cO (zn a)
def J0:oX:=aK 8 b<|aK 4 c<|af (sK a [eo b,cc c,d]) λa=>bT a λb=>bU a λa=>aK 3 b<|aN .eql a al λc=>b7 c (aU (cd .not (ad b 0))) λb=>a6 b (some (aa 13)) (some a)
def vB:=gH (J0 a)
def zo:b2:=ho (λc d e f g h i j k l m=>bh c λn=>aM .lss e n (af (bc 4 c e) λn=>af (aR true 4 0 n) λn=>af (vB a [D.agg [f,g,h,i,j,k,l,m],n,d]) λa=>aM .neq a al (aY (aY (some (D.aB [e,a])))) (bu e λa=>av [c,d,a,f,g,h,i,j,k,l,m])) (bx [])) l
def J1(n:Nat)(a0 aG a2:D):oX:=aK 8 a0<|af (aS (zo n) n [aG,a2,al,ad a0 0,ad a0 1,ad a0 2,ad a0 3,ad a0 4,ad a0 5,ad a0 6,ad a0 7])<|aH λ_=>some (D.aB [al,al])
def qX:=gH (J1 a)
def vC(a:Nat)(b:lZ):h1:=ho (λa c d e f g h i j k l=>aM .lss d a (af (bc 5 i d) λm=>af (aR false 1 0 m) λm=>af (bc 5 i a) λn=>af (aR false 1 0 n) λn=>aM .eql m n (aY (aY (aY (aY (aY (some (D.aB [a,aa 6]))))))) (bu d λd=>av [a,c,d,e,f,g,h,i,j,k,l])) (bx [a,c,e,f,g,h,i,j,k,l])) b
def qY:b2:=eL (λc d e f g h i j k=>bh h λl=>aM .lss c l (af (af (bc 5 h c) λl=>af (aR false 1 0 l) λl=>af (y5 a [D.agg [d,e,f,g,h,i,j,k],l]) λl=>aM .lss l al (aY (aY (aY (some (D.aB [c,aa 12]))))) (af (aS (vC a) a [c,l,al,d,e,f,g,h,i,j,k])<|aH<|e7 λc d e f g h i j k l=>af (bc 5 i c) λm=>af (aR true 4 1 m) λm=>af (sK a [D.agg [e,f,g,h,i,j,k,l],m,bo]) λa=>bT a λm=>bU a λa=>aK 3 m<|aN .eql a al λn=>b7 n (af (bc 4 e d) λd=>af (aR false 1 1 d) λd=>aU (aV true .neq (ad m 0) d)) λd=>af (a6 d (av [c,aa 13,e,f,g,h,i,j,k,l]) (av [c,a,e,f,g,h,i,j,k,l]))<|aH<|e7 λa c d e f g h i j k=>aM .neq c al (aY (aY (aY (some (D.aB [a,c]))))) (av [a,d,e,f,g,h,i,j,k])))<|aH<|eL λa c d e f g h i j=>bu a λa=>av [a,c,d,e,f,g,h,i,j]) (bx [])) l
def J2(n:Nat)(a0:D):oX:=aK 8 a0<|af (aS (qY n) n [al,ad a0 0,ad a0 1,ad a0 2,ad a0 3,ad a0 4,ad a0 5,ad a0 6,ad a0 7])<|aH λ_=>some (D.aB [al,al])
def zp:=cO (J2 a)
def QW(n:Nat)(a0:D):oX:=af (aM .eql a0 bH (aY (some al)) (aN .eql a0 (aa 2) λj=>af (a6 j (av [a0,j]) (aN .eql a0 (aa 6) λk=>af (a6 k (av [a0,k]) (aN .eql a0 (aa 7) λv9=>af (a6 v9 (av [a0,v9]) (aN .eql a0 (aa 8) λc=>af (a6 c (av [a0,c]) (aN .eql a0 (aa 10) λd=>af (a6 d (av [a0,d]) (aN .eql a0 (aa 11) λv12=>af (a6 v12 (av [a0,v12]) (aN .eql a0 (aa 12) λh=>av [a0,h]))<|aH<|cW λa b=>av [a,b]))<|aH<|cW λa b=>av [a,b]))<|aH<|cW λa b=>av [a,b]))<|aH<|cW λa b=>av [a,b]))<|aH<|cW λa b=>av [a,b]))<|aH<|cW λa b=>a6 b (aY (some bH)) (aN .eql a (aa 3) λe=>af (a6 e (av [e]) (aN .eql a (aa 4) λf=>af (a6 f (av [f]) (aN .eql a (aa 5) λv17=>af (a6 v17 (av [v17]) (aN .eql a (aa 9) λg=>af (a6 g (av [g]) (aN .eql a (aa 13) λi=>av [i]))<|aH<|cu λa=>av [a]))<|aH<|cu λa=>av [a]))<|aH<|cu λa=>av [a]))<|aH<|cu λa=>a6 a (aY (some (aa 2))) (av []))))<|aH λ_=>some (aa (-1))
def zq:=cO (QW a)
def QX(a:Nat)(b:D):oX:=aK 4 b<|aN .eql (ad b 0) al λa=>b7 a (aU (aV false .eql (ad b 1) al)) λa=>b7 a (aU (aV false .eql (ad b 2) (aD ⟨#[]⟩))) λa=>b7 a (bh (ad b 3) λa=>aU (aV false .eql a al)) λa=>some a
def D9:=cO (QX a)
def vD:oX:=aK 6 b<|af (zq a [ad b 0]) λc=>aM .lss c al (some (aa 11)) (aN .eql (ad b 0) bH λc=>af (a6 c (af (vu a [D.agg [ad b 1,ad b 2,ad b 3,ad b 4]]) λc=>aM .neq c al (aY (some c)) (af (vt a [D.agg [ad b 1,ad b 2,ad b 3,ad b 4]]) λc=>bT c λd=>bU c λc=>bh c λc=>aM .gtr c al (aY (some (aa 24))) (av [ad b 0,ad b 1,ad b 2,ad b 3,ad b 4,ad b 5]))) (av [ad b 0,ad b 1,ad b 2,ad b 3,ad b 4,ad b 5]))<|aH<|hn λb c d e f g=>bh g λg=>af (zq a [b]) λh=>aN .neq g h λg=>af (cE g false (aU (aV false .neq b bH))) λb=>af (cE b true (af (D9 a [D.agg [c,d,e,f]]) λa=>aU (cd .not a))) λa=>cZ g (aU (en b a bo)) λa=>a6 a (some (aa 3)) (some al))
def qZ:=cO (vD a)
def Ea(a:lZ->oX)(b:Nat)(c:lZ):b2:=eL (λb d e f g h i j k=>bh k λl=>aM .lss e l (af (bc 6 k e) λl=>af (aR true 6 0 l) λl=>bu b λm=>af (a [l,m,d]) λa=>bT a λl=>bU a λa=>aM .neq l al (aY (aY (some (D.aB [l,a])))) (bu e λe=>av [b,a,e,f,g,h,i,j,k])) (bx [d])) c
def J3(a:lZ->oX)(b:Nat)(c d e:D):oX:=aK 6 c<|aM .gtr d (aa 64) (some (D.aB [aa 17,e])) (af (qZ b [D.agg [ad c 0,ad c 1,ad c 2,ad c 3,ad c 4,ad c 5]]) λf=>aM .neq f al (some (D.aB [f,e])) (bu e λe=>aM .gtr e (aa 4096) (some (D.aB [aa 4,e])) (af (aS (Ea a b) b [d,e,al,ad c 0,ad c 1,ad c 2,ad c 3,ad c 4,ad c 5])<|aH<|cu λa=>some (D.aB [al,a]))))
def pF:Nat->lZ->oX|0,_=>none|n+1,a=>match a with|[a0,aG,a2]=>J3 (pF n) n a0 aG a2|_=>none
def QY:oX:=aK 6 b<|af (pF a [D.agg [ad b 0,ad b 1,ad b 2,ad b 3,ad b 4,ad b 5],bH,al]) λa=>bT a λb=>bU a λa=>some b
def zr:=cO (QY a)
def zs(a:lZ->oX)(b:Nat)(c:lZ):b2:=kZ (λb d e f g h i j k l m n o p q=>bh q λr=>aM .lss b r (af (bc 6 q b) λr=>af (aR true 6 0 r) λr=>af (a [D.agg [d,e,f,g,h,i,j,k],r]) λa=>aM .neq a al (aY (aY (some a))) (bu b λa=>av [a,d,e,f,g,h,i,j,k,l,m,n,o,p,q])) (bx [])) c
def zt(a:lZ->oX)(n:Nat)(a0 aG:D):oX:=aK 8 a0<|aK 6 aG<|aM .eql (ad aG 0) bH (aU (vB n [eo a0,D.agg [ad aG 1,ad aG 2,ad aG 3,ad aG 4],bo])) (af (aS (zs a n) n [al,ad a0 0,ad a0 1,ad a0 2,ad a0 3,ad a0 4,ad a0 5,ad a0 6,ad a0 7,ad aG 0,ad aG 1,ad aG 2,ad aG 3,ad aG 4,ad aG 5])<|aH λ_=>some al)
def pG:Nat->lZ->oX|0,_=>none|n+1,a=>match a with|[a0,aG]=>zt (pG n) n a0 aG|_=>none
def vE(a:Nat)(b:lZ):h1:=e7 (λa c d e f g h i j k=>aM .lss c a (af (bc 7 k c) λl=>af (aR false 1 0 l) λl=>af (bc 7 k a) λm=>af (aR false 1 0 m) λm=>aM .eql l m (aY (aY (aY (aY (aY (some (D.aB [a,aa 6]))))))) (bu c λc=>av [a,c,d,e,f,g,h,i,j,k])) (bx [a,d,e,f,g,h,i,j,k])) b
def q0:b2:=eL (λc d e f g h i j k=>bh k λl=>aM .lss c l (af (af (bc 7 k c) λl=>af (aR false 1 0 l) λl=>af (sG a [l]) λl=>db (cd .not l) (aY (aY (aY (some (D.aB [c,aa 12]))))) (af (aS (vE a) a [c,al,d,e,f,g,h,i,j,k])<|aH<|eL λc d e f g h i j k=>af (bc 7 k c) λl=>af (aR true 6 1 l) λl=>af (zr a [l]) λl=>aN .eql l al λm=>af (a6 m (af (bc 7 k c) λm=>af (aR true 6 1 m) λm=>af (pG a [D.agg [d,e,f,g,h,i,j,k],m]) λa=>av [c,a,d,e,f,g,h,i,j,k]) (av [c,l,d,e,f,g,h,i,j,k]))<|aH<|e7 λa c d e f g h i j k=>aM .neq c al (aY (aY (aY (some (D.aB [a,c]))))) (av [a,d,e,f,g,h,i,j,k])))<|aH<|eL λa c d e f g h i j=>bu a λa=>av [a,c,d,e,f,g,h,i,j]) (bx [])) l
def J4(n:Nat)(a0:D):oX:=aK 8 a0<|af (aS (q0 n) n [al,ad a0 0,ad a0 1,ad a0 2,ad a0 3,ad a0 4,ad a0 5,ad a0 6,ad a0 7])<|aH λ_=>some (D.aB [al,al])
def zu:=cO (J4 a)
def np(a:Nat)(b:lZ):b2:=iR (λa c d e f g h i j k l m=>aM .lss a (aa (aF m).length) (ct m a λn=>cr m n λn=>aM .gtr n (aa 64) (bu a λn=>bp n<|aK 2 (D.agg [n,aa 64])<|aY (aY (some (D.aB [D.agg [n,aa 64],aa 18])))) (bu a λa=>av [a,c,d,e,f,g,h,i,j,k,l,ax m])) (bx [c,d,e,f,g,h,i,j,k,l])) b
def gK:b2:=gJ (λc d e f g h i j k l m n o=>aM .leq e (aa 8) (af (af (aN .eql e (aa 2) λp=>af (a6 p (af (sM a [D.agg [f,g,h,i,j,k,l,m]]) λp=>bT p λq=>bU p λp=>av [q,p,e,f,g,h,i,j,k,l,m,n,o]) (aN .eql e (aa 3) λp=>af (a6 p (af (qX a [D.agg [f,g,h,i,j,k,l,m],h,bo]) λp=>bT p λq=>bU p λp=>av [q,p,e,f,g,h,i,j,k,l,m,n,o]) (aN .eql e (aa 4) λp=>af (a6 p (af (qX a [D.agg [f,g,h,i,j,k,l,m],i,bo]) λp=>bT p λq=>bU p λp=>av [q,p,e,f,g,h,i,j,k,l,m,n,o]) (aN .eql e (aa 5) λp=>af (a6 p (af (zp a [D.agg [f,g,h,i,j,k,l,m]]) λp=>bT p λq=>bU p λp=>av [q,p,e,f,g,h,i,j,k,l,m,n,o]) (aN .eql e (aa 6) λp=>af (a6 p (af (qX a [D.agg [f,g,h,i,j,k,l,m],k,cf]) λp=>bT p λq=>bU p λp=>av [q,p,e,f,g,h,i,j,k,l,m,n,o]) (aN .eql e (aa 7) λp=>af (a6 p (af (qX a [D.agg [f,g,h,i,j,k,l,m],l,bo]) λp=>bT p λq=>bU p λp=>av [q,p,e,f,g,h,i,j,k,l,m,n,o]) (aN .eql e (aa 8) λp=>af (a6 p (af (zu a [D.agg [f,g,h,i,j,k,l,m]]) λa=>bT a λp=>bU a λa=>av [p,a,e,f,g,h,i,j,k,l,m,n,o]) (av [c,d,e,f,g,h,i,j,k,l,m,n,o]))<|aH<|gJ λa c d e f g h i j k l m p=>av [a,c,d,e,f,g,h,i,j,k,l,m,p]))<|aH<|gJ λa c d e f g h i j k l m p=>av [a,c,d,e,f,g,h,i,j,k,l,m,p]))<|aH<|gJ λa c d e f g h i j k l m p=>av [a,c,d,e,f,g,h,i,j,k,l,m,p]))<|aH<|gJ λa c d e f g h i j k l m p=>av [a,c,d,e,f,g,h,i,j,k,l,m,p]))<|aH<|gJ λa c d e f g h i j k l m p=>av [a,c,d,e,f,g,h,i,j,k,l,m,p]))<|aH<|gJ λa c d e f g h i j k l m p=>av [a,c,d,e,f,g,h,i,j,k,l,m,p]))<|aH<|gJ λa c d e f g h i j k l m p=>av [a,c,d,e,f,g,h,i,j,k,l,m,p])<|aH<|gJ λa c d e f g h i j k l m p=>aM .neq c al (bp d<|bp a<|aK 2 (D.agg [d,a])<|aY (aY (aY (some (D.aB [D.agg [d,a],c]))))) (av [a,c,d,e,f,g,h,i,j,k,l,m,p]))<|aH<|gJ λa c d e f g h i j k l m p=>bu d λd=>av [a,c,d,e,f,g,h,i,j,k,l,m,p]) (bx [n,o])) l
def sN(n:Nat)(a0:D):oX:=aK 8 a0<|bh (ad a0 0) λb=>bh (ad a0 1) λc=>bh (ad a0 2) λv17=>bh (ad a0 3) λv20=>bh (ad a0 4) λd=>bh (ad a0 5) λv26=>bh (ad a0 6) λe=>bh (ad a0 7) λv32=>bp b<|bp c<|bp v17<|bp v20<|bp d<|bp v26<|bp e<|bp v32<|af (aS (np n) n [al,ad a0 0,ad a0 1,ad a0 2,ad a0 3,ad a0 4,ad a0 5,ad a0 6,ad a0 7,al,al,D.aw 1 [[b],[c],[v17],[v20],[d],[v26],[e],[v32]]])<|aH<|e7 λf g h i j k l m o p=>af (DS n [f]) λv51=>bT v51 λa=>bU v51 λv53=>aM .neq v53 al (bp a<|aK 2 (D.agg [bH,a])<|some (D.aB [D.agg [bH,a],v53])) (af (DW n [D.agg [f,g,h,i,j,k,l,m]]) λv60=>aM .gtr v60 (aa 30) (some (D.aB [D.agg [bH,al],aa 18])) (af (aS (gK n) n [a,v53,aa 2,f,g,h,i,j,k,l,m,o,p])<|aH λ_=>some (D.aB [D.agg [al,al],al])))
def ma:=cO (sN a)
def zv:b2:=dP (λc d e f=>bh c λg=>aM .lss f g (af (bc 4 c f) λg=>af (aR true 4 0 g) λg=>af (pC a [g]) λa=>aN .mul e a λa=>aM .gtr a d (aY (aY (some bo))) (bu f λe=>av [c,d,a,e])) (bx [])) l
def J5(n:Nat)(a0 aG:D):oX:=af (aS (zv n) n [a0,aG,bH,al])<|aH λ_=>some cf
def vF:=di (J5 a)
def vG:oX:=aK 8 b<|bh (ad b 0) λd=>aN .gtr d (aa 12) λd=>cZ d (bh (ad b 1) λd=>bh (ad b 2) λe=>aN .add d e λd=>bh (ad b 3) λe=>aN .add d e λd=>bh (ad b 4) λe=>aN .add d e λd=>bh (ad b 5) λe=>aN .add d e λd=>bh (ad b 6) λe=>aN .add d e λd=>bh (ad b 7) λe=>aN .add d e λd=>aU (aV false .gtr d (aa 40))) λd=>a6 d (some bo) (af (ma a [eo b]) λd=>bT d λe=>bU d λd=>aK 2 e<|aN .neq d al λf=>b7 f (aU (aV false .lss (ad e 1) (aa 64))) λe=>af (cE e false (aU (aV false .eql d al))) λd=>af (cE d true (aU (vF a [ad b 0,c]))) λa=>cZ e (aU (en d a bo)) λa=>some a)
def q1:=di (vG a)
def Eb:b2:=dP (λc d e f=>bh c λg=>aM .lss e g (af (bc 4 c e) λg=>af (aR true 4 0 g) λg=>af (k0 a [g,d]) λa=>bT a λg=>bU a λa=>aK 4 g<|aM .neq a al (aY (aY (some (D.aB [a7,e,a])))) (aK 4 (cc g)<|bF (b1 ((aF f).length+([[ad g 0,ad g 1,ad g 2,ad g 3]]).length) 56)<|bu e λa=>av [c,d,a,D.aw 4 ((aF f)++[[ad g 0,ad g 1,ad g 2,ad g 3]])])) (bx [D.aw 4 (aF f)])) l
def QZ:oX:=af (aS (Eb a) a [b,c,al,D.aw 4 ([]:mW)])<|aH<|cu λa=>some (D.aB [D.aw 4 (aF a),al,al])
def mb:=di (QZ a)
def vH(a:lZ->oX)(b:Nat)(c:lZ):b2:=kZ (λb d e f g h i j k l m n o p q=>bh j λr=>aM .lss d r (af (bc 6 j d) λr=>af (aR true 6 0 r) λr=>af (a [r,b]) λa=>bT a λr=>bU a λa=>aK 6 r<|aM .neq a al (aY (aY (some (D.aB [D.agg [al,al,al,aD ⟨#[]⟩,a7,a7],a])))) (aK 6 (D.agg [ad r 0,ad r 1,ad r 2,ad r 3,ad r 4,ad r 5])<|bF (b1 ((aF q).length+([[ad r 0,ad r 1,ad r 2,ad r 3,ad r 4,ad r 5]]).length) 88)<|bu d λa=>av [b,a,e,f,g,h,i,j,k,l,m,n,o,p,D.aw 6 ((aF q)++[[ad r 0,ad r 1,ad r 2,ad r 3,ad r 4,ad r 5]])])) (bx [e,f,g,h,i,j,k,l,m,n,o,p,D.aw 6 (aF q)])) c
def oq(a:lZ->oX)(b:Nat)(c d:D):oX:=aK 6 c<|aM .eql (ad c 0) bH (af (k0 b [D.agg [ad c 1,ad c 2,ad c 3,ad c 4],d]) λe=>bT e λf=>bU e λe=>aK 4 f<|aM .neq e al (some (D.aB [D.agg [al,al,al,aD ⟨#[]⟩,a7,a7],e])) (aK 4 (cc f)<|aK 6 (D.agg [ad c 0,ad f 0,ad f 1,ad f 2,ad f 3,ad c 5])<|some (D.aB [D.agg [ad c 0,ad f 0,ad f 1,ad f 2,ad f 3,ad c 5],al]))) (af (aS (vH a b) b [d,al,ad c 0,ad c 1,ad c 2,ad c 3,ad c 4,ad c 5,al,al,al,aD ⟨#[]⟩,a7,a7,D.aw 6 ([]:mW)])<|aH<|gJ λa b c d e f g h i j k l m=>bp a<|bp b<|bp c<|bp d<|bp e<|some (D.aB [D.agg [a,b,c,d,e,D.aw 6 (aF m)],al]))
def lA:Nat->lZ->oX|0,_=>none|n+1,a=>match a with|[a0,aG]=>oq (lA n) n a0 aG|_=>none
def J6:oX:=aK 6 b<|af (zr a [D.agg [ad b 0,ad b 1,ad b 2,ad b 3,ad b 4,ad b 5]]) λd=>aM .neq d al (some (D.aB [D.agg [al,al,al,aD ⟨#[]⟩,a7,a7],d])) (af (lA a [D.agg [ad b 0,ad b 1,ad b 2,ad b 3,ad b 4,ad b 5],c]) λa=>bT a λb=>bU a λa=>aK 6 b<|some (D.aB [D.agg [ad b 0,ad b 1,ad b 2,ad b 3,ad b 4,ad b 5],a]))
def vI:=di (J6 a)
def vJ:b2:=Ju (λc d e f g h i j k l m n o p q r s t u w x y z A B C E=>bh h λF=>aM .lss c F (af (bc 5 h c) λF=>af (aR true 4 1 F) λF=>af (k0 a [F,e]) λa=>bT a λF=>bU a λa=>aK 4 F<|aM .neq a al (bp c<|aK 2 (D.agg [aa 5,c])<|aY (aY (some (D.aB [D.agg [a7,a7,a7,a7,a7,a7,a7,a7],D.agg [aa 5,c],a])))) (af (bc 5 h c) λa=>af (aR false 1 0 a) λa=>bp a<|aK 4 (cc F)<|aK 5 (D.agg [a,ad F 0,ad F 1,ad F 2,ad F 3])<|bF (b1 ((aF E).length+([[a,ad F 0,ad F 1,ad F 2,ad F 3]]).length) 72)<|bu c λc=>av [c,d,e,f,g,h,i,j,k,l,m,n,o,p,q,r,s,t,u,w,x,y,z,A,B,C,D.aw 5 ((aF E)++[[a,ad F 0,ad F 1,ad F 2,ad F 3]])])) (bx [d,e,f,g,h,i,j,k,l,m,n,o,p,q,r,s,t,u,w,x,y,z,A,B,C,D.aw 5 (aF E)])) l
def vK:b2:=Ju (λc d e f g h i j k l m n o p q r s t u w x y z A B C E=>bh k λF=>aM .lss c F (af (bc 7 k c) λF=>af (aR true 6 1 F) λF=>af (vI a [F,e]) λa=>bT a λF=>bU a λa=>aK 6 F<|aM .neq a al (bp c<|aK 2 (D.agg [aa 8,c])<|aY (aY (some (D.aB [D.agg [a7,a7,a7,a7,a7,a7,a7,a7],D.agg [aa 8,c],a])))) (af (bc 7 k c) λa=>af (aR false 1 0 a) λa=>bp a<|aK 6 (D.agg [ad F 0,ad F 1,ad F 2,ad F 3,ad F 4,ad F 5])<|aK 7 (D.agg [a,ad F 0,ad F 1,ad F 2,ad F 3,ad F 4,ad F 5])<|bF (b1 ((aF E).length+([[a,ad F 0,ad F 1,ad F 2,ad F 3,ad F 4,ad F 5]]).length) 104)<|bu c λc=>av [c,d,e,f,g,h,i,j,k,l,m,n,o,p,q,r,s,t,u,w,x,y,z,A,B,D.aw 5 (aF C),D.aw 7 ((aF E)++[[a,ad F 0,ad F 1,ad F 2,ad F 3,ad F 4,ad F 5]])])) (bx [l,m,n,o,p,q,r,s,t,u,w,x,y,z,A,B,D.aw 5 (aF C),D.aw 7 (aF E)])) l
def J7:oX:=aK 8 b<|bF (c8 (ad b 0))<|aK 8 (D.agg [ad b 0,a7,a7,a7,a7,a7,a7,a7])<|af (mb a [ad b 2,ad b 1]) λc=>bT c λd=>bU c λe=>af (eJ 2 c) λc=>aM .neq c al (bp e<|aK 2 (D.agg [aa 3,e])<|some (D.aB [D.agg [a7,a7,a7,a7,a7,a7,a7,a7],D.agg [aa 3,e],c])) (bp d<|af (mb a [ad b 3,ad b 1]) λc=>bT c λe=>bU c λf=>af (eJ 2 c) λc=>aM .neq c al (bp f<|aK 2 (D.agg [aa 4,f])<|some (D.aB [D.agg [a7,a7,a7,a7,a7,a7,a7,a7],D.agg [aa 4,f],c])) (bp e<|af (aS (vJ a) a [al,ad b 0,ad b 1,ad b 2,ad b 3,ad b 4,ad b 5,ad b 6,ad b 7,a7,a7,a7,a7,a7,a7,a7,a7,al,al,ad b 0,a7,d,e,a7,a7,a7,D.aw 5 []])<|aH<|Jt λb c d e f g h i j k l m n o p q r s t u w x y z A B=>af (mb a [g,c]) λy=>bT y λz=>bU y λC=>af (eJ 2 y) λy=>aM .neq y al (bp C<|aK 2 (D.agg [aa 6,C])<|some (D.aB [D.agg [a7,a7,a7,a7,a7,a7,a7,a7],D.agg [aa 6,C],y])) (bp z<|af (mb a [h,c]) λy=>bT y λC=>bU y λE=>af (eJ 2 y) λy=>aM .neq y al (bp E<|aK 2 (D.agg [aa 7,E])<|some (D.aB [D.agg [a7,a7,a7,a7,a7,a7,a7,a7],D.agg [aa 7,E],y])) (bp C<|af (bF (jy A)<|aS (vK a) a [al,b,c,d,e,f,g,h,i,j,k,l,m,n,o,p,q,r,s,t,u,w,x,z,C,D.aw 5 (aF B),D.aw 7 []])<|aH<|Dj λa b c d e f g h i j k l m n o p q r=>aK 8 (D.agg [k,l,m,n,D.aw 5 (aF q),o,p,D.aw 7 (aF r)])<|some (D.aB [D.agg [k,l,m,n,D.aw 5 (aF q),o,p,D.aw 7 (aF r)],D.agg [al,al],al])))))
def zw:=cO (J7 a)
def Ec:oX:=aK 8 b<|bh (ad b 1) λc=>aM .eql c al (aK 8 (eo b)<|some (eo b)) (af (zw a [eo b]) λa=>bT a λb=>bU a λc=>af (eJ 2 a) λa=>aK 8 b<|aK 2 c<|aK 8 (eo b)<|some (eo b))
def pH:=cO (Ec a)
def zx:b2:=e7 (λc d e f g h i j k l=>bh e λm=>aM .lss d m (af (bc 4 e d) λm=>af (aR true 4 0 m) λm=>af (pC a [m]) λa=>aM .eql a al (aY (aY (some (D.aB [al,cf])))) (bu d λa=>av [c,a,e,f,g,h,i,j,k,l])) (bx [c,e,f,g,h,i,j,k,l])) l
def zy:b2:=e7 (λc d e f g h i j k l=>bh e λm=>aM .lss d m (af (bc 4 e d) λm=>af (aR true 4 0 m) λm=>af (pC a [m]) λa=>aN .mul c a λa=>aM .gtr a (aa 1073741824) (aY (aY (some (D.aB [al,bo])))) (bu d λd=>av [a,d,e,f,g,h,i,j,k,l])) (bx [c])) l
def Ed:oX:=aK 8 b<|af (aS (zx a) a [bH,al,ad b 0,ad b 1,ad b 2,ad b 3,ad b 4,ad b 5,ad b 6,ad b 7])<|aH<|eL λb c d e f g h i j=>af (aS (zy a) a [b,al,c,d,e,f,g,h,i,j])<|aH<|cu λa=>some (D.aB [a,cf])
def vL:=cO (Ed a)
def zz:Di:=ly (λc d e f g h i j k l m n o p=>af (bc 4 g c) λq=>af (aR true 4 0 q) λq=>af (pC a [q]) λa=>aM .lss f a (ct o e λa=>cr o a λa=>af (jz a) λa=>bF (decide (a.1=1\/a.2=[])&&decide (0<1))<|bF (b1 (([]:mW).length+(a.2).length) 8)<|aN .add d f λq=>bp q<|bF (b1 ((([]:mW)++a.2).length+([[q]]).length) 8)<|bF (c8 (D.aw 1 ((([]:mW)++a.2)++[[q]])))<|bF (b1 ((aF p).length+([[D.aw 1 ((([]:mW)++a.2)++[[q]])]]).length) 24)<|bu f λf=>av [c,d,e,f,g,h,i,j,k,l,m,n,ax o,D.aw 1 ((aF p)++[[D.aw 1 ((([]:mW)++a.2)++[[q]])]])]) (bx [c,d,e,g,h,i,j,k,l,m,n,ax o,ax p])) l
def zA:h1:=gJ (λc d e f g h i j k l m n o=>aM .lss e (aa (aF n).length) (af (af (aS (zz a) a [c,d,e,al,f,g,h,i,j,k,l,m,ax n,ax o])<|aH<|gJ λa d e n p q r s t u w x y=>av [a,d,e,n,p,q,r,s,t,u,w,ax x,ax y])<|aH<|gJ λa d e n p q r s t u w x y=>bu e λe=>av [a,d,e,n,p,q,r,s,t,u,w,ax x,ax y]) (bx [c,f,g,h,i,j,k,l,m,ax o])) l
def zB:b2:=e7 (λc d e f g h i j k l=>bh d λm=>aM .lss c m (af (af (bc 4 d c) λm=>af (aR false 1 2 m) λm=>af (bc 4 d c) λn=>af (aR false 1 1 n) λn=>af (a6 n (av [c,al,d,e,f,g,h,i,j,k,ax l]) (av [c,m,d,e,f,g,h,i,j,k,ax l]))<|aH<|ho λc d e f g h i j k m n=>af (aS (zA a) a [c,d,al,e,f,g,h,i,j,k,m,ax n,D.aw 1 ([]:mW)])<|aH<|e7 λa c d e f g h i j k=>av [a,c,d,e,f,g,h,i,j,ax k])<|aH<|e7 λa c d e f g h i j k=>bu a λa=>av [a,c,d,e,f,g,h,i,j,ax k]) (bx [ax l])) l
def Q0:oX:=aK 8 b<|af (vL a [eo b]) λd=>bT d λe=>bU d λd=>af (cd .not d) λd=>cZ d (aU (aV false .gtr e c)) λc=>a6 c (some a7) (bF (c8 (D.aw 1 ([]:mW)))<|af (aS (zB a) a [al,ad b 0,ad b 1,ad b 2,ad b 3,ad b 4,ad b 5,ad b 6,ad b 7,D.aw 1 [[D.aw 1 ([]:mW)]]])<|aH<|cu λa=>some (ax a))
def Ee:=di (Q0 a)
def nq(a:Nat)(b:lZ):b2:=e7 (λa c d e f g h i j k=>bh a λl=>aM .lss c l (af (bc 4 d c) λl=>af (aR true 4 0 l) λl=>aK 4 l<|b7 (ad l 1) (bO a c λm=>aU (aV false .neq m al)) λm=>b7 m (bO a c λm=>aU (aV false .neq m bH)) λm=>af (cE m false (aU (cd .not (ad l 1)))) λn=>af (cE n true (bO a c λo=>aU (aV false .lss o (ad l 2)))) λo=>af (cE o false (bO a c λp=>aU (aV false .gtr p (ad l 3)))) λl=>af (cE n true (aU (en o cf l))) λl=>cZ m (aU (en n l bo)) λl=>a6 l (aY (aY (some bo))) (bu c λc=>av [a,c,d,e,f,g,h,i,j,k])) (bx [])) b
def Q1(n:Nat)(a0 aG:D):oX:=aK 8 a0<|bh aG λb=>bh (ad a0 0) λa=>aM .neq b a (some bo) (af (aS (nq n) n [aG,al,ad a0 0,ad a0 1,ad a0 2,ad a0 3,ad a0 4,ad a0 5,ad a0 6,ad a0 7])<|aH λ_=>some cf)
def zC:=di (Q1 a)
def zD(a:lZ->oX)(b:Nat)(c:lZ):b2:=fD (λb d e f g=>bh g λh=>aM .lss b h (af (bc 4 g b) λh=>af (aR true 4 0 h) λh=>db (a [h]) (aY (aY (some cf))) (bu b λa=>av [a,d,e,f,g])) (bx [])) c
def Ef(a:lZ->oX)(n:Nat)(a0:D):oX:=aK 4 a0<|aM .eql (ad a0 0) (aa 4) (some cf) (af (aS (zD a n) n [al,ad a0 0,ad a0 1,ad a0 2,ad a0 3])<|aH λ_=>some bo)
def ot:Nat->lZ->oX|0,_=>none|n+1,a=>match a with|[a0]=>Ef (ot n) n a0|_=>none
def Q2(a:Nat)(b:D):oX:=a6 b (some bH) (some al)
def mc:=cO (Q2 a)
def Eg(a:Nat)(b:D):oX:=aN .lss b (aa (-9007199254740992)) λa=>cZ a (aU (aV false .gtr b (aa 9007199254740992))) λa=>some a
def sO:=cO (Eg a)
def Q3(a:Nat)(b:D):oX:=af (cd .neg b) λa=>aU (hZ true [b,a])
def zE:=cO (Q3 a)
def q2(a:lZ->oX)(b:Nat)(c:lZ):b2:=e7 (λb d e f g h i j k l=>bh k λm=>aM .lss g m (af (af (bc 4 k g) λm=>af (aR true 4 0 m) λm=>af (a [b,m,d,e]) λa=>bT a λm=>bU a λa=>db (cd .not a) (aY (aY (aY (some (D.aB [al,bo]))))) (bp m<|bF (b1 ((aF l).length+([[m]]).length) 8)<|aN .eql h (aa 6) λa=>cZ a (aU (aV false .eql h (aa 7))) λa=>af (a6 a (aN .add f m λa=>av [b,d,e,a,g,h,i,j,k,D.aw 1 ((aF l)++[[m]])]) (av [b,d,e,f,g,h,i,j,k,D.aw 1 ((aF l)++[[m]])]))<|aH<|e7 λa b d e g m n o p q=>av [a,b,d,e,g,m,n,o,p,ax q]))<|aH<|e7 λa b d e g m n o p q=>bu g λg=>av [a,b,d,e,g,m,n,o,p,ax q]) (bx [f,h,i,j,k,ax l])) c
def iS(a:lZ->oX)(b:Nat)(c d e f:D):oX:=aK 4 d<|aN .eql (ad d 0) bH λg=>af (a6 g (av [c,e,f,ad d 0,g,ad d 0,ad d 1,ad d 2,ad d 3]) (aN .eql (ad d 0) (aa 2) λg=>av [c,e,f,ad d 0,g,ad d 0,ad d 1,ad d 2,ad d 3]))<|aH<|eL λc d e f g h i j k=>a6 g (some (D.aB [i,cf])) (aN .eql f (aa 3) λg=>af (a6 g (av [c,d,e,g,h,i,j,k]) (aN .eql f (aa 4) λf=>av [c,d,e,f,h,i,j,k]))<|aH<|u8 λc d e f g h i j=>a6 f (af (vx b [c,i]) λf=>aN .eql g (aa 3) λk=>af (a6 k (bO d f λk=>av [c,f,k]) (bO e f λk=>av [c,f,k]))<|aH<|fz λf k l=>af (bc 4 f k) λf=>db (aR false 1 1 f) (aN .neq l al λf=>af (mc b [f]) λf=>some (D.aB [f,cf])) (af (sO b [l]) λf=>af (cd .not f) λf=>some (D.aB [l,f]))) (af (aS (q2 a b) b [c,d,e,al,al,g,h,i,j,D.aw 1 ([]:mW)])<|aH<|hn λa c d e f g=>af (aN .eql c (aa 5) λd=>af (a6 d (ct g al λd=>cr g d λd=>aN .sub bH d λd=>av [d]) (aN .eql c (aa 6) λd=>af (a6 d (aN .eql a (aa (aF g).length) λd=>af (mc b [d]) λd=>av [d]) (aN .eql c (aa 7) λd=>af (a6 d (aN .gtr a al λa=>af (mc b [a]) λa=>av [a]) (aN .eql c (aa 8) λa=>af (a6 a (ct g al λa=>cr g a λa=>aN .eql a al λa=>cZ a (ct g bH λa=>cr g a λa=>aU (aV false .eql a bH)) λa=>af (mc b [a]) λa=>av [a]) (aN .eql c (aa 9) λa=>af (a6 a (av [al,c,a,ax g]) (aN .eql c (aa 10) λa=>av [al,c,a,ax g]))<|aH<|dP λa c d e=>af (a6 d (ct e al λd=>cr e d λd=>ct e bH λf=>cr e f λf=>aN .eql d f λd=>af (mc b [d]) λd=>av [d]) (aN .eql c (aa 11) λd=>af (a6 d (ct e al λd=>cr e d λd=>ct e bH λf=>cr e f λf=>aN .neq d f λd=>af (mc b [d]) λd=>av [d]) (aN .eql c (aa 12) λd=>af (a6 d (ct e al λd=>cr e d λd=>ct e bH λf=>cr e f λf=>aN .lss d f λd=>af (mc b [d]) λd=>av [d]) (aN .eql c (aa 13) λd=>af (a6 d (ct e al λd=>cr e d λd=>ct e bH λf=>cr e f λf=>aN .leq d f λd=>af (mc b [d]) λd=>av [d]) (aN .eql c (aa 14) λd=>af (a6 d (ct e al λd=>cr e d λd=>ct e bH λf=>cr e f λf=>aN .add d f λd=>av [d]) (aN .eql c (aa 15) λd=>af (a6 d (ct e al λd=>cr e d λd=>ct e bH λf=>cr e f λf=>aN .sub d f λd=>av [d]) (aN .eql c (aa 16) λd=>af (a6 d (ct e al λd=>cr e d λd=>aN .neq d al λd=>b7 d (ct e bH λd=>cr e d λd=>af (zE b [d]) λd=>ct e al λf=>cr e f λf=>af (zE b [f]) λf=>aN .quo (aa 9007199254740992) f λf=>aU (aV false .gtr d f)) λd=>a6 d (aY (aY (aY (aY (aY (aY (aY (aY (aY (aY (aY (aY (some (D.aB [al,bo])))))))))))))) (ct e al λd=>cr e d λd=>ct e bH λf=>cr e f λf=>aN .mul d f λd=>av [d])) (aN .eql c (aa 17) λd=>af (a6 d (ct e al λd=>cr e d λd=>ct e bH λf=>cr e f λf=>aN .rem d f λd=>ct e bH λf=>cr e f λf=>aN .add d f λd=>ct e bH λf=>cr e f λf=>aN .rem d f λd=>av [d]) (aN .eql c (aa 18) λc=>af (a6 c (af (cI (aF e).length (aa 2)) λc=>cr e c λc=>ct e al λd=>cr e d λd=>aN .eql d bH λd=>af (a6 d (ct e bH λd=>cr e d λd=>av [d]) (av [c]))<|aH<|cu λc=>av [c]) (av [a]))<|aH<|cu λa=>av [a]))<|aH<|cu λa=>av [a]))<|aH<|cu λa=>av [a]))<|aH<|cu λa=>av [a]))<|aH<|cu λa=>av [a]))<|aH<|cu λa=>av [a]))<|aH<|cu λa=>av [a]))<|aH<|cu λa=>av [a]))<|aH<|cu λa=>av [a]))<|aH<|cu λa=>av [a]))<|aH<|cu λa=>av [a]))<|aH<|cu λa=>av [a]))<|aH<|cu λa=>av [a])<|aH<|cu λa=>af (sO b [a]) λb=>af (cd .not b) λb=>some (D.aB [a,b])))
def ou:Nat->lZ->oX|0,_=>none|n+1,a=>match a with|[a0,aG,a2,a3]=>iS (ou n) n a0 aG a2 a3|_=>none
def vM:oX:=aK 4 c<|af (vA a [b,cc c,cf]) λf=>bT f λg=>bU f λf=>aK 3 g<|aN .neq f al λf=>cZ f (bh d λf=>bh b λg=>aU (aV false .neq f g)) λf=>af (cE f false (aU (ot a [cc c]))) λg=>af (cE g true (bh e λh=>bh b λi=>aU (aV false .neq h i))) λh=>cZ f (aU (en g h bo)) λf=>a6 f (some (D.aB [al,bo])) (af (ou a [b,cc c,d,e]) λa=>bT a λb=>bU a λa=>db (cd .not a) (some (D.aB [al,bo])) (some (D.aB [b,cf])))
def me:=qJ (vM a)
def zF:b2:=fD (λc d e f g=>bh d λh=>aM .lss g h (af (bc 4 d g) λh=>af (aR true 4 0 h) λh=>af (me a [c,h,e,f]) λa=>bT a λh=>bU a λa=>af (cd .not a) λa=>cZ a (aU (aV false .neq h bH)) λa=>a6 a (aY (aY (some bo))) (bu g λa=>av [c,d,e,f,a])) (bx [])) l
def J8(n:Nat)(a0 aG a2 a3:D):oX:=af (aS (zF n) n [a0,aG,a2,a3,al])<|aH λ_=>some cf
def q3:=qJ (J8 a)
def J9:oX:=aK 8 b<|af (zC a [eo b,c]) λd=>b7 d (aU (q3 a [ad b 0,ad b 3,c,a7])) λa=>some a
def q4:=di (J9 a)
def zG:b2:=ho (λc d e f g h i j k l m=>bh c λn=>aM .lss d n (af (bO c d λn=>af (q4 a [D.agg [e,f,g,h,i,j,k,l],n]) λa=>af (a6 a (bO c d λa=>bp a<|bF (b1 ((aF m).length+([[a]]).length) 24)<|av [c,d,e,f,g,h,i,j,k,l,D.aw 1 ((aF m)++[[a]])]) (av [c,d,e,f,g,h,i,j,k,l,ax m]))<|aH<|ho λa c d e f g h i j k l=>av [a,c,d,e,f,g,h,i,j,k,ax l])<|aH<|ho λa c d e f g h i j k l=>bu c λc=>av [a,c,d,e,f,g,h,i,j,k,ax l]) (bx [ax m])) l
def Q4:oX:=aK 8 b<|af (pH a [eo b]) λb=>aK 8 b<|af (Ee a [eo b,aa 4096]) λc=>af (aS (zG a) a [c,al,ad b 0,ad b 1,ad b 2,ad b 3,ad b 4,ad b 5,ad b 6,ad b 7,D.aw 1 ([]:mW)])<|aH<|cu λa=>some (ax a)
def Eh:=cO (Q4 a)
def vN:b2:=ho (λc d e f g h i j k l m=>bh j λn=>aM .lss e n (af (bc 5 j e) λn=>af (aR true 4 1 n) λn=>af (me a [f,n,c,a7]) λn=>bT n λo=>bU n λn=>af (bc 5 j e) λp=>af (aR false 1 0 p) λp=>af (vx a [f,p]) λa=>af (cd .not n) λn=>cZ n (aU (aV false .lss a al)) λn=>cZ n (bO d a λa=>aU (aV false .neq a o)) λa=>a6 a (aY (aY (some bo))) (bu e λa=>av [c,d,a,f,g,h,i,j,k,l,m])) (bx [c,d,f,g,h,i,j,k,l,m])) l
def zH:oX:=aK 8 b<|af (pH a [eo b]) λb=>aK 8 b<|af (q4 a [eo b,c]) λe=>af (cd .not e) λe=>cZ e (af (q4 a [eo b,d]) λe=>aU (cd .not e)) λe=>a6 e (some bo) (af (aS (vN a) a [c,d,al,ad b 0,ad b 1,ad b 2,ad b 3,ad b 4,ad b 5,ad b 6,ad b 7])<|aH<|u8 λb c d e f g h i=>aU (q3 a [d,i,b,c]))
def sP:=gH (zH a)
def Ka:oX:=aK 8 b<|af (pH a [eo b]) λb=>aK 8 b<|af (q4 a [eo b,c]) λd=>b7 d (aU (q3 a [ad b 0,ad b 2,c,a7])) λa=>some a
def zI:=di (Ka a)
def Ei:b2:=ho (λc d e f g h i j k l m=>bh k λn=>aM .lss d n (bu d λn=>af (j5 4 k (some d) (some n)) λn=>af (q3 a [e,n,c,a7]) λa=>bp a<|bF (b1 ((aF m).length+([[a]]).length) 1)<|bu d λd=>av [c,d,e,f,g,h,i,j,k,l,D.aw 1 ((aF m)++[[a]])]) (bx [ax m])) l
def Q5:oX:=aK 8 b<|af (pH a [eo b]) λb=>aK 8 b<|af (aS (Ei a) a [c,al,ad b 0,ad b 1,ad b 2,ad b 3,ad b 4,ad b 5,ad b 6,ad b 7,D.aw 1 ([]:mW)])<|aH<|cu λa=>some (ax a)
def Ej:=di (Q5 a)
def vO:h1:=uS (λc d e f g h i j k l m n o p q r s t u=>bh q λw=>aM .lss d w (af (bO q c λw=>bO q d λx=>af (sP a [D.agg [e,f,g,h,i,j,k,l],w,x]) λa=>af (a6 a (bp d<|bF (b1 ((aF r).length+([[d]]).length) 8)<|av [c,d,e,f,g,h,i,j,k,l,m,n,o,p,q,D.aw 1 ((aF r)++[[d]]),ax s,ax t,ax u]) (av [c,d,e,f,g,h,i,j,k,l,m,n,o,p,q,ax r,ax s,ax t,ax u]))<|aH<|uS λa d w x y z A B C E F G H I J K L M N=>av [a,d,w,x,y,z,A,B,C,E,F,G,H,I,J,ax K,ax L,ax M,ax N])<|aH<|uS λa d w x y z A B C E F G H I J K L M N=>bu d λd=>av [a,d,w,x,y,z,A,B,C,E,F,G,H,I,J,ax K,ax L,ax M,ax N]) (bx [c,e,f,g,h,i,j,k,l,m,n,o,p,q,ax r,ax s,ax t,ax u])) l
def vP:b2:=uR (λc d e f g h i j k l m n o p q r s=>bh p λt=>aM .lss c t (af (af (aS (vO a) a [c,al,d,e,f,g,h,i,j,k,l,m,n,o,p,D.aw 1 [],ax q,ax r,ax s])<|aH<|Dj λc d e f g h i j k t u w x y z A B C=>bF (c8 (ax z))<|bF (b1 ((aF A).length+([[ax z]]).length) 24)<|bO y c λE=>af (zI a [D.agg [d,e,f,g,h,i,j,k],E]) λE=>af (a6 E (bp c<|bF (b1 ((aF B).length+([[c]]).length) 8)<|av [c,d,e,f,g,h,i,j,k,t,u,w,x,y,D.aw 1 ((aF A)++[[ax z]]),D.aw 1 ((aF B)++[[c]]),ax C]) (av [c,d,e,f,g,h,i,j,k,t,u,w,x,y,D.aw 1 ((aF A)++[[ax z]]),ax B,ax C]))<|aH<|uR λc d e f g h i j k t u w x y z A B=>bO y c λC=>af (Ej a [D.agg [d,e,f,g,h,i,j,k],C]) λa=>bp a<|bF (b1 ((aF B).length+([[a]]).length) 24)<|av [c,d,e,f,g,h,i,j,k,t,u,w,x,y,ax z,ax A,D.aw 1 ((aF B)++[[a]])])<|aH<|uR λa c d e f g h i j k t u w x y z A=>bu a λa=>av [a,c,d,e,f,g,h,i,j,k,t,u,w,x,ax y,ax z,ax A]) (bx [l,m,n,o,p,ax q,ax r,ax s])) l
def Kb:oX:=aK 8 b<|af (ma a [eo b]) λc=>bT c λd=>bU c λc=>aK 2 d<|aM .neq c al (some (D.aB [D.agg [a7,a7,a7,a7],c])) (af (vF a [ad b 0,aa 4096]) λc=>db (cd .not c) (some (D.aB [D.agg [a7,a7,a7,a7],aa 18])) (af (zw a [eo b]) λb=>bT b λc=>bU b λd=>af (eJ 2 b) λb=>aK 8 c<|af (Eh a [eo c]) λb=>bp b<|af (aS (vP a) a [al,ad c 0,ad c 1,ad c 2,ad c 3,ad c 4,ad c 5,ad c 6,ad c 7,a7,a7,a7,a7,b,D.aw 1 [],D.aw 1 [],D.aw 1 []])<|aH<|u8 λa b c d e f g h=>bp e<|some (D.aB [D.agg [e,ax f,ax g,ax h],al])))
def vQ:=cO (Kb a)
def Q6(a:Nat)(b:D):oX:=aN .geq b (D.val (.int .u8 97)) λa=>b7 a (aU (aV false .leq b (D.val (.int .u8 122)))) λa=>af (cE a false (aU (aV false .geq b (D.val (.int .u8 65))))) λc=>af (cE c true (aU (aV false .leq b (D.val (.int .u8 90))))) λb=>cZ a (aU (en c b bo)) λa=>some a
def zJ:=cO (Q6 a)
def Q7(a:Nat)(b:D):oX:=aN .geq b (D.val (.int .u8 48)) λa=>b7 a (aU (aV false .leq b (D.val (.int .u8 57)))) λa=>some a
def Ek:=cO (Q7 a)
def Q8:oX:=af (zJ a [b]) λc=>cZ c (aU (Ek a [b])) λa=>cZ a (aU (aV false .eql b (D.val (.int .u8 95)))) λa=>some a
def El:=cO (Q8 a)
def zK:b2:=cW (λc d=>af (lk c) λe=>aN .lss d e λe=>b7 e (af (mN c d) λe=>aU (El a [e])) λa=>a6 a (bu d λa=>av [c,a]) (bx [d])) l
def Kc:oX:=af (aS (zK a) a [b,al])<|aH<|cu λa=>some a
def zL(n:Nat):lZ->oX|[a0,aG]=>bF (sh yE aG) (Kc n a0)|_=>none
def vR(a:Nat)(b:lZ):b2:=dP (λa c d e=>aM .lss e d (bO a e λf=>aM .eql c f (aY (aY (some e))) (bu e λe=>av [a,c,d,e])) (bx [])) b
def Kd(n:Nat)(a0 aG:D):oX:=bh a0 λa=>af (aS (vR n) n [a0,aG,a,al])<|aH λ_=>some (aa (-1))
def zM:=di (Kd a)
def Q9:oX:=af (zM a [b,c]) λa=>aU (aV false .geq a al)
def Em:=di (Q9 a)
def Ke:oX:=aN .neq b (aD ⟨#[]⟩) λc=>b7 c (af (lk b) λc=>aU (aV false .leq c (aa 24))) λc=>b7 c (af (mN b al) λc=>aU (zJ a [c])) λc=>b7 c (af (zL a [b,(D.val (.func (.func yE) #[] #[]))]) λc=>af (lk b) λd=>aU (aV false .eql c d)) λc=>b7 c (af (Em a [(D.aw 1 ((yB).map λa=>
[a])),b]) λa=>aU (cd .not a)) λa=>some a
def sQ:=cO (Ke a)
def Kf(a:Nat)(b:D)(c:lZ):oX:=aK 4 b<|af (aR false 1 0 c) λa=>aU (aV false .eql (ad b 0) a)
def zN(n:Nat):lZ->oX|[a0,aG]=>(match aG with| .ref x1 0=>Kf n a0 x1|_=>none)|_=>none
def sR:b2:=dP (λc d e f=>aM .lss f e (af (bc 4 c f) λg=>af (aR true 4 0 g) λg=>db (zN a [g,d]) (aY (aY (some f))) (bu f λa=>av [c,d,e,a])) (bx [])) l
def Kg(n:Nat)(a0:D)(a:D):oX:=bh a0 λb=>af (aS (sR n) n [a0,a,b,al])<|aH λ_=>some (aa (-1))
def vS(n:Nat):lZ->oX|[a0,aG]=>(match fJ od aG with|some [a]=>Kg n a0 a|_=>none)|_=>none
def Kh:oX:=af (vS a [b,(D.fn (.func od) [] [c])]) λa=>aU (aV false .geq a al)
def zO(n:Nat):lZ->oX|[a0,aG]=>(match fJ od aG with|some [a]=>Kh n a0 a|_=>none)|_=>none
def sS:b2:=dP (λc d e f=>aM .lss f e (af (bc 4 d f) λg=>af (aR true 4 0 g) λg=>aK 4 g<|af (hZ true [ad g 2,ad g 3]) λh=>aN .gtr h (aa 255) λh=>cZ h (af (hZ false [ad g 2,ad g 3]) λh=>aU (aV false .lss h (aa (-255)))) λh=>af (sQ a [ad g 0]) λi=>db (cd .not i) (aY (aY (some (D.aB [f,aa 12])))) (af (j5 4 c none (some f)) λi=>af (zO a [i,(D.fn (.func od) [] [D.ref [ad g 0,ad g 1,ad g 2,ad g 3] 0])]) λa=>bF a.flat<|a6 a (aY (aY (some (D.aB [f,aa 6])))) (af (cE (ad g 1) true (aU (aV false .neq (ad g 2) al))) λa=>af (cE a false (aU (aV false .neq (ad g 3) al))) λi=>b7 (ad g 1) (aU (en a cf i)) λa=>a6 a (aY (aY (some (D.aB [f,aa 3])))) (af (cd .not (ad g 1)) λa=>af (cE a true (aU (aV false .gtr (ad g 2) (ad g 3)))) λi=>af (cE i false (some h)) λh=>af (cE a true (aU (en i cf h))) λh=>af (cE h false (aN .sub (ad g 3) (ad g 2) λg=>aU (aV false .geq g (aa 64)))) λg=>b7 a (aU (en h cf g)) λa=>a6 a (aY (aY (some (D.aB [f,aa 2])))) (bu f λa=>av [c,d,e,a]))))) (bx [])) l
def Ra(n:Nat)(a0:D):oX:=bh a0 λv9=>af (aS (sS n) n [a0,a0,v9,al])<|aH λ_=>some (D.aB [al,al])
def vT:=cO (Ra a)
def Rb(a:Nat)(b:D):oX:=aK 4 b<|a6 (ad b 1) (some (aa 2)) (aM .gtr (ad b 2) (ad b 3) (some al) (af (j4 .u64 (ad b 3)) λa=>af (j4 .u64 (ad b 2)) λb=>aN .sub a b λa=>aM .lss a (D.val (.int .u64 1073741824)) (af (j4 .i64 a) λa=>aU (aV false .add a bH)) (some (aa 1073741825))))
def vU:=cO (Rb a)
def En(a:Nat)(b:lZ):b2:=cW (λa c=>aM .lss c (aa 63) (aN .shl bH c λd=>aM .leq a d (aY (aY (some c))) (bu c λc=>av [a,c])) (bx [])) b
def Rc(n:Nat)(a0:D):oX:=af (aS (En n) n [a0,al])<|aH λ_=>some (aa 63)
def Eo:=cO (Rc a)
def Ep:b2:=dP (λc d e f=>aM .lss f e (af (bc 4 d f) λg=>af (aR true 4 0 g) λg=>aK 4 g<|af (vU a [cc g]) λg=>af (Eo a [g]) λa=>aN .add c a λa=>bu f λf=>av [a,d,e,f]) (bx [c])) l
def Re:oX:=aK 8 b<|bh (ad b 0) λc=>af (aS (Ep a) a [al,ad b 0,c,al])<|aH<|cu λa=>some a
def zP:=cO (Re a)
def Rf(a:Nat)(b:D):oX:=aU (dL b)
def zQ:=cO (Rf a)
def Rg(a:Nat)(b:D):oX:=aU (dL b)
def zR:=cO (Rg a)
def zS(a:Nat)(b:D):oX:=aK 3 b<|aU (dL (ad b 1))
def nr:=cO (zS a)
def Rh(a:Nat)(b:D):oX:=aU (dL b)
def zT:=cO (Rh a)
def Ri(a:Nat)(b:D):oX:=aU (dL b)
def zU:=cO (Ri a)
def Rj(a:Nat)(b:D):oX:=aU (dL b)
def zV:=cO (Rj a)
def Er(a:Nat)(b:D)(c:lZ):oX:=aK 7 b<|af (aR false 1 0 c) λa=>aU (aV false .eql (ad b 0) a)
def Es(n:Nat):lZ->oX|[a0,aG]=>(match aG with| .ref x1 0=>Er n a0 x1|_=>none)|_=>none
def zW:b2:=dP (λc d e f=>aM .lss f e (af (bc 7 c f) λg=>af (aR true 7 0 g) λg=>db (Es a [g,d]) (aY (aY (some f))) (bu f λa=>av [c,d,e,a])) (bx [])) l
def zX(n:Nat)(a0:D)(a:D):oX:=bh a0 λb=>af (aS (zW n) n [a0,a,b,al])<|aH λ_=>some (aa (-1))
def vV(n:Nat):lZ->oX|[a0,aG]=>(match fJ nj aG with|some [a]=>zX n a0 a|_=>none)|_=>none
def Et:oX:=af (vV a [b,(D.fn (.func nj) [] [c])]) λa=>aU (aV false .geq a al)
def vW(n:Nat):lZ->oX|[a0,aG]=>(match fJ nj aG with|some [a]=>Et n a0 a|_=>none)|_=>none
def zY(a:Nat)(b:lZ):nf:=fz (λa c d=>aN .gtr c al λe=>b7 e (aN .sub c bH λe=>ct d e λe=>cr d e λe=>aU (aV false .gtr e a)) λe=>a6 e (aN .sub c bH λe=>av [a,e,ax d]) (bx [a,c,ax d])) b
def q5:jM:=cW (λc d=>af (aS (zY a) a [c,aa (aF d).length,ax d])<|aH<|fz λa c d=>aN .gtr c al λe=>b7 e (aN .sub c bH λe=>ct d e λe=>cr d e λe=>aU (aV false .eql e a)) λe=>a6 e (some [ax d]) (bF (b1 ((aF d).length+([[aD ⟨#[]⟩]]).length) 16)<|bu c λe=>af (hG ((aF d)++[[aD ⟨#[]⟩]]).length (some e) none) λe=>af (hG ((aF d)++[[aD ⟨#[]⟩]]).length (some c) none) λf=>bF (decide (f.1+f.2<=((aF d)++[[aD ⟨#[]⟩]]).length))<|bF (decide (e.1+e.2<=((aF d)++[[aD ⟨#[]⟩]]).length))<|af (cI (((aF d)++[[aD ⟨#[]⟩]]).take e.1++((((aF d)++[[aD ⟨#[]⟩]]).drop f.1).take f.2).take (min ((((aF d)++[[aD ⟨#[]⟩]]).drop f.1).take f.2).length e.2)++((aF d)++[[aD ⟨#[]⟩]]).drop (e.1+(min ((((aF d)++[[aD ⟨#[]⟩]]).drop f.1).take f.2).length e.2))).length c) λc=>bp a<|af ((((aF d)++[[aD ⟨#[]⟩]]).take e.1++((((aF d)++[[aD ⟨#[]⟩]]).drop f.1).take f.2).take (min ((((aF d)++[[aD ⟨#[]⟩]]).drop f.1).take f.2).length e.2)++((aF d)++[[aD ⟨#[]⟩]]).drop (e.1+(min ((((aF d)++[[aD ⟨#[]⟩]]).drop f.1).take f.2).length e.2)))[c]?) λg=>some [D.aw 1 ((((aF d)++[[aD ⟨#[]⟩]]).take e.1++((((aF d)++[[aD ⟨#[]⟩]]).drop f.1).take f.2).take (min ((((aF d)++[[aD ⟨#[]⟩]]).drop f.1).take f.2).length e.2)++((aF d)++[[aD ⟨#[]⟩]]).drop (e.1+(min ((((aF d)++[[aD ⟨#[]⟩]]).drop f.1).take f.2).length e.2))).set c (dS g 0 [a]))])) l
def sT:jM:=dP (λc d e f=>aK 4 c<|af (aN .eql (ad c 0) (aa 3) λd=>af (a6 d (af (q5 a [ad c 2,ax e]) λd=>av [ax (bI d 0),ax f]) (aN .eql (ad c 0) (aa 4) λd=>af (a6 d (af (q5 a [ad c 2,ax f]) λa=>av [ax e,ax (bI a 0)]) (av [ax e,ax f]))<|aH<|cW λa c=>av [ax a,ax c]))<|aH<|cW λa c=>av [ax a,ax c])<|aH<|cW λa c=>some [cf,ax a,ax c]) l
def Eu(a:lZ->oY)(b:Nat)(c:lZ):nf:=hn (λb d e f g h=>aM .lss f e (af (bc 4 d f) λi=>af (aR true 4 0 i) λi=>aK 4 i<|bu b λj=>af (a [cc i,j,g,h]) λa=>db (cd .not (bI a 0)) (aY (aY (some [bo,bI a 1,bI a 2]))) (bu f λf=>av [b,d,e,f,bI a 1,bI a 2])) (bx [g,h])) c
def Ki(a:lZ->oY)(b:Nat)(c:lZ):jM:=dP (λd e f g=>aK 4 d<|af (yG b [cc d,e,f,g]) λf=>db (cd .not (bI f 0)) (some [bo,bI f 1,bI f 2]) (bh (ad d 3) λg=>af (aS (Eu a b) b [e,ad d 3,g,al,bI f 1,bI f 2])<|aH<|cW λa b=>some [cf,a,b])) c
def pI:Nat->lZ->oY|0,_=>none|n+1,l=>Ki (pI n) n l
def Rk:oX:=aK 4 b<|af (pI a [cc b,bH,al,al]) λa=>some (bI a 2)
def q6:=cO (Rk a)
def Ev(a:lZ->oY)(b:Nat)(c:lZ):nf:=hn (λb d e f g h=>aM .lss f e (af (bc 4 d f) λi=>af (aR true 4 0 i) λi=>aK 4 i<|bu b λj=>af (a [cc i,j,ax g,ax h]) λa=>db (cd .not (bI a 0)) (aY (aY (some [bo,ax (bI a 1),ax (bI a 2)]))) (bu f λf=>av [b,d,e,f,ax (bI a 1),ax (bI a 2)])) (bx [ax g,ax h])) c
def Kj(a:lZ->oY)(b:Nat)(c:lZ):jM:=dP (λd e f g=>aK 4 d<|af (sT b [cc d,e,ax f,ax g]) λf=>db (cd .not (bI f 0)) (some [bo,ax (bI f 1),ax (bI f 2)]) (bh (ad d 3) λg=>af (aS (Ev a b) b [e,ad d 3,g,al,ax (bI f 1),ax (bI f 2)])<|aH<|cW λa b=>some [cf,ax a,ax b])) c
def pJ:Nat->lZ->oY|0,_=>none|n+1,l=>Kj (pJ n) n l
def Rl:oX:=aK 4 b<|af (pJ a [cc b,bH,D.aw 1 [],D.aw 1 []]) λa=>some (D.aB [ax (bI a 1),ax (bI a 2)])
def q7:=cO (Rl a)
def Ew:oX:=aK 6 b<|aM .neq (ad b 0) bH (some al) (af (q6 a [D.agg [ad b 1,ad b 2,ad b 3,ad b 4]]) λc=>aM .neq c al (some c) (af (q7 a [D.agg [ad b 1,ad b 2,ad b 3,ad b 4]]) λa=>bT a λb=>bU a λa=>bh a λa=>aM .gtr a al (some (aa 24)) (some al)))
def vX:=cO (Ew a)
def Rm(n:Nat)(a0:D):oX:=af (aM .eql a0 bH (aY (some al)) (aN .eql a0 (aa 3) λk=>af (a6 k (av [a0,k]) (aN .eql a0 (aa 4) λl=>af (a6 l (av [a0,l]) (aN .eql a0 (aa 5) λv9=>af (a6 v9 (av [a0,v9]) (aN .eql a0 (aa 9) λc=>af (a6 c (av [a0,c]) (aN .eql a0 (aa 13) λi=>av [a0,i]))<|aH<|cW λa b=>av [a,b]))<|aH<|cW λa b=>av [a,b]))<|aH<|cW λa b=>av [a,b]))<|aH<|cW λa b=>a6 b (aY (some (aa 2))) (aN .eql a (aa 2) λd=>af (a6 d (av [d]) (aN .eql a (aa 6) λe=>af (a6 e (av [e]) (aN .eql a (aa 7) λf=>af (a6 f (av [f]) (aN .eql a (aa 8) λg=>af (a6 g (av [g]) (aN .eql a (aa 10) λv17=>af (a6 v17 (av [v17]) (aN .eql a (aa 11) λh=>af (a6 h (av [h]) (aN .eql a (aa 12) λj=>av [j]))<|aH<|cu λa=>av [a]))<|aH<|cu λa=>av [a]))<|aH<|cu λa=>av [a]))<|aH<|cu λa=>av [a]))<|aH<|cu λa=>av [a]))<|aH<|cu λa=>a6 a (aY (some bH)) (av []))))<|aH λ_=>some (aa (-1))
def Ex:=cO (Rm a)
def zZ:jM:=dP (λc d e f=>aK 6 c<|bu e λe=>bp e<|aN .eql (ad c 1) al λg=>b7 g (aU (aV false .eql (ad c 2) al)) λg=>b7 g (aU (aV false .eql (ad c 3) (aD ⟨#[]⟩))) λg=>b7 g (bh (ad c 4) λg=>aU (aV false .eql g al)) λg=>af (vX a [D.agg [ad c 0,ad c 1,ad c 2,ad c 3,ad c 4,ad c 5]]) λh=>af (Ex a [ad c 0]) λa=>af (aN .gtr d (aa 64) λd=>af (a6 d (av [aa 17,e]) (aN .lss a al λd=>af (a6 d (av [aa 11,e]) (aN .neq h al λd=>af (a6 d (bp h<|av [h,e]) (bh (ad c 5) λd=>aN .neq d a λa=>af (cE a false (aU (aV false .neq (ad c 0) bH))) λc=>af (cE c true (aU (cd .not g))) λd=>cZ a (aU (en c d bo)) λa=>af (a6 a (av [aa 3,e]) (aN .gtr e (aa 4096) λa=>af (a6 a (av [aa 4,e]) (av [f,e]))<|aH<|cW λa c=>av [a,c]))<|aH<|cW λa c=>av [a,c]))<|aH<|cW λa c=>av [a,c]))<|aH<|cW λa c=>av [a,c]))<|aH<|cW λa c=>av [a,c])<|aH<|cW λa c=>aN .eql a al λd=>some [d,c,a]) l
def Ey(a:lZ->oY)(b:Nat)(c:lZ):nf:=hn (λb d e f g h=>aM .lss f e (af (bc 6 d f) λi=>af (aR true 6 0 i) λi=>aK 6 i<|bu b λj=>af (a [D.agg [ad i 0,ad i 1,ad i 2,ad i 3,ad i 4,ad i 5],j,g,h]) λa=>db (cd .not (bI a 0)) (aY (aY (some [bo,bI a 1,bI a 2]))) (bu f λf=>av [b,d,e,f,bI a 1,bI a 2])) (bx [g,h])) c
def Kk(a:lZ->oY)(b:Nat)(c:lZ):jM:=dP (λd e f g=>aK 6 d<|af (zZ b [D.agg [ad d 0,ad d 1,ad d 2,ad d 3,ad d 4,ad d 5],e,f,g]) λf=>db (cd .not (bI f 0)) (some [bo,bI f 1,bI f 2]) (bh (ad d 5) λg=>af (aS (Ey a b) b [e,ad d 5,g,al,bI f 1,bI f 2])<|aH<|cW λa b=>some [cf,a,b])) c
def pK:Nat->lZ->oY|0,_=>none|n+1,l=>Kk (pK n) n l
def Rn:oX:=aK 6 b<|af (pK a [D.agg [ad b 0,ad b 1,ad b 2,ad b 3,ad b 4,ad b 5],bH,al,al]) λa=>some (bI a 2)
def pL:=cO (Rn a)
def z1(a:Nat)(b:lZ):b2:=dP (λa c d e=>aM .lss d c (af (af (bc 5 a d) λf=>af (aR true 5 0 f) λf=>aK 5 f<|af (gU (.string) (.int .i64 0) true (dT e) (ad f 0)) λg=>bT g λh=>bU g λg=>af (cd .not g) λg=>af (a6 g (af (lU (.string) (dT e) (ad f 0) d) λf=>av [a,c,d,D.mp f]) (av [a,c,d,D.mp (dT e)]))<|aH<|dP λa c d f=>av [a,c,d,D.mp (dT f)])<|aH<|dP λa c d f=>bu d λd=>av [a,c,d,D.mp (dT f)]) (bx [D.mp (dT e)])) b
def Ro:oX:=bh b λc=>af (aS (z1 a) a [b,c,al,D.mp []])<|aH<|cu λa=>some (D.mp (dT a))
def sU:=cO (Ro a)
def z6(a:Nat)(b:lZ):h1:=eL (λa c d e f g h i j=>aM .lss h g (af (bO f h λk=>af (jA a) λl=>af (gU (.string) (.int .i64 0) true l k) λk=>bT k λl=>bU k λk=>af (a6 k (bp l<|bF (b1 ((aF j).length+([[l]]).length) 8)<|av [a,c,d,e,f,g,h,ax i,D.aw 1 ((aF j)++[[l]])]) (av [a,c,d,e,f,g,h,ax i,ax j]))<|aH<|eL λf g h k l m n o p=>av [f,g,h,k,l,m,n,ax o,ax p])<|aH<|eL λf g h k l m n o p=>bu n λn=>av [f,g,h,k,l,m,n,ax o,ax p]) (bx [a,c,d,e,ax i,ax j])) b
def Ez:b2:=fD (λc d e f g=>aM .lss f e (af (af (bc 5 d f) λh=>af (aR true 5 0 h) λh=>aK 5 h<|af (q7 a [D.agg [ad h 1,ad h 2,ad h 3,ad h 4]]) λh=>bT h λi=>bU h λh=>bh i λh=>af (aS (z6 a) a [c,d,e,f,i,h,al,ax g,D.aw 1 []])<|aH<|hn λa c d e f h=>bF (c8 (ax h))<|bF (b1 ((aF f).length+([[ax h]]).length) 24)<|av [a,c,d,e,D.aw 1 ((aF f)++[[ax h]])])<|aH<|fD λa c d e f=>bu e λe=>av [a,c,d,e,ax f]) (bx [ax g])) l
def Rp:oX:=af (sU a [b]) λc=>bh b λd=>af (aS (Ez a) a [c,b,d,al,D.aw 1 []])<|aH<|cu λa=>some (ax a)
def z7:=cO (Rp a)
def z8(a:lZ->oY)(b:Nat)(c:lZ):nf:=fD (λb d e f g=>aM .lss e d (af (bO b e λh=>af (gU (.int .i64) (.bool false) false (dT g) h) λi=>af (cd .not i) λi=>af (a6 i (af (lU (.int .i64) (dT g) h cf) λi=>af (a [h,f,D.mp i]) λa=>av [b,d,e,bI a 1,D.mp (dT (bI a 2))]) (av [b,d,e,f,D.mp (dT g)]))<|aH<|fD λa b d e h=>av [a,b,d,e,D.mp (dT h)])<|aH<|fD λa b d e h=>bu d λd=>av [a,b,d,e,D.mp (dT h)]) (bx [f,D.mp (dT g)])) c
def EA(a:lZ->oY)(b:Nat)(c:lZ):jM:=fz (λd e f=>bO e d λd=>bh d λg=>af (aS (z8 a b) b [d,g,al,e,D.mp (dT f)])<|aH<|cW λa b=>some [D.aB [],a,D.mp (dT b)]) c
def ns:Nat->lZ->oY|0,_=>none|n+1,l=>EA (ns n) n l
def EB:nf:=fD (λc d e f g=>aM .lss e d (bO c e λh=>af (ns a [h,g,D.mp (dT f)]) λa=>bu e λe=>av [c,d,e,D.mp (dT (bI a 2)),bI a 1]) (bx [D.mp (dT f)])) l
def Aa:jM:=cW (λc d=>bp c<|bh d λe=>af (aS (EB a) a [d,e,al,D.mp [],c])<|aH<|cu λa=>some [D.mp (dT a)]) l
def EC:b2:=fD (λc d e f g=>aM .lss e d (bO c e λh=>af (ns a [h,g,D.mp (dT f)]) λa=>bu e λe=>av [c,d,e,D.mp (dT (bI a 2)),bI a 1]) (bx [D.mp (dT f)])) l
def Rq:oX:=bp b<|bh c λd=>af (aS (EC a) a [c,d,al,D.mp [],b])<|aH<|cu λa=>some (D.mp (dT a))
def vY:=di (Rq a)
def Ab(a:lZ->oY)(b:Nat)(c:lZ):nf:=iR (λa b d e f g h i j k l m=>aM .eql f (aa 3) (af (jA b) λn=>af (gU (.string) (.int .i64 0) true n h) λn=>bT n λo=>bU n λn=>db (cd .not n) (bx [a,e,f,g,h,i,j,k,l,m,b,d]) (af (bc 5 d o) λn=>af (aR true 4 1 n) λn=>aK 4 n<|av [a,b,d,e,ad n 0,ad n 1,ad n 2,ad n 3,j,k,l,m])) (bx [a,e,f,g,h,i,j,k,l,m,b,d])) c
def vZ(a:lZ->oY)(b:Nat)(c:lZ):nf:=u16 (λb d e f g h i j k l m n o p q r=>aM .lss f e (af (af (bc 4 d f) λs=>af (aR true 4 0 s) λs=>aK 4 s<|aN .leq b (aa 64) λt=>b7 t (aU (aV false .leq g (aa 4096))) λt=>af (a6 t (bu b λt=>af (a [cc s,t,q,r,g]) λa=>ct p f λs=>aK 4 (bI a 0)<|af (aF p)[s]? λt=>av [b,d,e,f,bI a 3,h,i,j,k,l,m,n,o,D.aw 4 ((aF p).set s (dS t 0 [ad (bI a 0) 0,ad (bI a 0) 1,ad (bI a 0) 2,ad (bI a 0) 3])),bI a 1,bI a 2]) (av [b,d,e,f,g,h,i,j,k,l,m,n,o,D.aw 4 (aF p),q,r]))<|aH<|u16 λa b d e f s t u w x y z A B C E=>av [a,b,d,e,f,s,t,u,w,x,y,z,A,D.aw 4 (aF B),C,E])<|aH<|u16 λa b d e f s t u w x y z A B C E=>bu e λe=>av [a,b,d,e,f,s,t,u,w,x,y,z,A,D.aw 4 (aF B),C,E]) (bx [h,i,j,k,l,m,n,o,D.aw 4 (aF p),q,r,g])) c
def Ac(a:lZ->oY)(b:Nat)(c:lZ):jM:=fD (λd e f g h=>aK 4 d<|af (aS (Ab a b) b [e,f,g,h,ad d 0,ad d 1,ad d 2,ad d 3,al,al,aD ⟨#[]⟩,a7])<|aH<|iR λd e f g h i j k l m n o=>bu e λe=>bp e<|bh i λp=>aM .eql p al (aK 4 (D.agg [f,g,h,i])<|some [D.agg [f,g,h,i],n,o,e]) (bh i λp=>af (e5 56 p p) λp=>bh i λq=>af (aS (vZ a b) b [d,i,q,al,e,f,g,h,i,j,k,l,m,D.aw 4 (List.replicate p [D.val (.int .i64 0),D.val (.int .i64 0),D.val (.string ⟨#[]⟩),a7]),n,o])<|aH<|iR λa b d e f g h i j k l m=>bF (c8 (D.aw 4 (aF j)))<|aK 4 (D.agg [a,b,d,D.aw 4 (aF j)])<|some [D.agg [a,b,d,D.aw 4 (aF j)],k,l,m])) c
def ov:Nat->lZ->oY|0,_=>none|n+1,l=>Ac (ov n) n l
def Rr:oX:=aK 4 b<|bp c<|af (sU a [c]) λd=>bp d<|af (ov a [cc b,bH,d,c,al]) λa=>aK 4 (bI a 0)<|some (cc (bI a 0))
def Ad:=di (Rr a)
def v7(a:Nat)(b:lZ):b2:=kZ (λa c d e f g h i j k l m n o p=>aM .lss g f (af (bO e g λq=>af (jA c) λr=>af (gU (.string) (.int .i64 0) true r q) λq=>bT q λr=>bU q λq=>af (a6 q (bp r<|bF (b1 ((aF p).length+([[r]]).length) 8)<|av [a,c,d,e,f,g,h,i,j,k,l,m,n,o,D.aw 1 ((aF p)++[[r]])]) (av [a,c,d,e,f,g,h,i,j,k,l,m,n,o,ax p]))<|aH<|kZ λc e f g q r s t u w x y z A B=>av [c,e,f,g,q,r,s,t,u,w,x,y,z,A,ax B])<|aH<|kZ λc e f g q r s t u w x y z A B=>bu r λr=>av [c,e,f,g,q,r,s,t,u,w,x,y,z,A,ax B]) (bx [a,d,h,i,j,k,l,m,n,o,ax p])) b
def ED(a:Nat)(b:lZ):b2:=ly (λa c d e f g h i j k l m n o=>aM .lss f e (bO d f λp=>af (lU (.int .i64) (dT o) p cf) λp=>bu f λf=>av [a,c,d,e,f,g,h,i,j,k,l,m,n,D.mp p]) (bx [a,c,g,h,i,j,k,l,m,n,D.mp (dT o)])) b
def sV:b2:=gJ (λc d e f g h i j k l m n o=>aM .lss f e (af (gU (.int .i64) (.bool false) false (dT o) f) λp=>b7 p (bp f<|af (vY a [d,D.aw 1 [[f]]]) λa=>af (jA a) λa=>aU (gU (.int .i64) (.bool false) false a f)) λa=>a6 a (aY (aY (some (D.aB [D.agg [al,al,aD ⟨#[]⟩,a7],aa 14])))) (bu f λa=>av [c,d,e,a,g,h,i,j,k,l,m,n,D.mp (dT o)])) (bx [c,g,h,i,j,k,l,m,n])) l
def Ae:oX:=aK 4 b<|af (q6 a [cc b]) λd=>aM .neq d al (some (D.aB [D.agg [al,al,aD ⟨#[]⟩,a7],d])) (af (sU a [c]) λd=>af (z7 a [c]) λe=>af (q7 a [cc b]) λf=>bT f λg=>bU f λf=>bh g λf=>af (aS (v7 a) a [c,d,e,g,f,al,ad b 0,ad b 1,ad b 2,ad b 3,al,al,aD ⟨#[]⟩,a7,D.aw 1 []])<|aH<|ho λb c d e f g h i j k l=>af (Aa a [c,ax l]) λm=>bh (ax l) λn=>af (aS (ED a) a [b,c,ax l,n,al,d,e,f,g,h,i,j,k,D.mp (dT (bI m 0))])<|aH<|ho λb c d e f g h i j k l=>bh b λm=>af (aS (sV a) a [b,c,m,al,d,e,f,g,h,i,j,k,D.mp (dT l)])<|aH<|fD λb c d e f=>af (Ad a [D.agg [c,d,e,f],b]) λb=>aK 4 b<|af (q6 a [cc b]) λa=>aM .neq a al (some (D.aB [D.agg [al,al,aD ⟨#[]⟩,a7],a])) (aK 4 (cc b)<|some (D.aB [cc b,al])))
def k1:=di (Ae a)
def Kl:oX:=aK 4 c<|af (q6 a [cc c]) λe=>aM .neq e al (some (D.aB [D.agg [bo,al,al],e])) (af (yI a [b]) λe=>af (og a [b,e,cc c,d]) λa=>bT a λb=>bU a λa=>aK 3 b<|some (D.aB [D.agg [ad b 0,ad b 1,ad b 2],a]))
def sW:=gH (Kl a)
def Km:oX:=aK 8 b<|aK 4 c<|af (k1 a [cc c,ad b 1]) λc=>bT c λe=>bU c λc=>aK 4 e<|aM .neq c al (some (D.aB [D.agg [bo,al,al],c])) (af (sW a [ad b 0,cc e,d]) λa=>bT a λb=>bU a λa=>aK 3 b<|some (D.aB [D.agg [ad b 0,ad b 1,ad b 2],a]))
def sX:=gH (Km a)
def Kn:oX:=aK 8 b<|aK 4 c<|af (sX a [eo b,cc c,d]) λa=>bT a λb=>bU a λa=>aK 3 b<|aN .eql a al λc=>b7 c (aU (cd .not (ad b 0))) λb=>a6 b (some (aa 13)) (some a)
def v8:=gH (Kn a)
def Af(a:lZ->oX)(b:Nat)(c:lZ):b2:=ho (λb d e f g h i j k l m=>aM .lss e d (af (bc 6 b e) λn=>af (aR true 6 0 n) λn=>aK 6 n<|af (a [D.agg [f,g,h,i,j,k,l,m],D.agg [ad n 0,ad n 1,ad n 2,ad n 3,ad n 4,ad n 5]]) λa=>aM .neq a al (aY (aY (some a))) (bu e λa=>av [b,d,a,f,g,h,i,j,k,l,m])) (bx [])) c
def Ag(a:lZ->oX)(n:Nat)(a0 aG:D):oX:=aK 8 a0<|aK 6 aG<|aM .eql (ad aG 0) bH (aU (v8 n [eo a0,D.agg [ad aG 1,ad aG 2,ad aG 3,ad aG 4],bo])) (bh (ad aG 5) λv17=>af (aS (Af a n) n [ad aG 5,v17,al,ad a0 0,ad a0 1,ad a0 2,ad a0 3,ad a0 4,ad a0 5,ad a0 6,ad a0 7])<|aH λ_=>some al)
def pM:Nat->lZ->oX|0,_=>none|n+1,a=>match a with|[a0,aG]=>Ag (pM n) n a0 aG|_=>none
def Ah:oX:=aK 8 c<|af (bc 7 b d) λe=>af (aR false 1 0 e) λe=>bp e<|af (sQ a [e]) λf=>db (cd .not f) (some (aa 12)) (af (j5 7 b none (some d)) λf=>af (vW a [f,(D.fn (.func nj) [] [D.ref [e] 0])]) λe=>bF e.flat<|a6 e (some (aa 6)) (af (bc 7 b d) λe=>af (aR true 6 1 e) λe=>af (pL a [e]) λe=>aM .neq e al (some e) (af (bc 7 b d) λb=>af (aR true 6 1 b) λb=>aU (pM a [eo c,b]))))
def pN:=gH (Ah a)
def EE(a:Nat)(b:D)(c:lZ):oX:=aK 4 b<|af (aR false 1 0 c) λa=>aU (aV false .eql (ad b 0) a)
def EF(n:Nat):lZ->oX|[a0,aG]=>(match aG with| .ref x1 0=>EE n a0 x1|_=>none)|_=>none
def Ai:b2:=dP (λc d e f=>aM .lss f e (af (bc 4 c f) λg=>af (aR true 4 0 g) λg=>db (EF a [g,d]) (aY (aY (some f))) (bu f λa=>av [c,d,e,a])) (bx [])) l
def Aj(n:Nat)(a0:D)(a:D):oX:=bh a0 λb=>af (aS (Ai n) n [a0,a,b,al])<|aH λ_=>some (aa (-1))
def wa(n:Nat):lZ->oX|[a0,aG]=>(match fJ u3 aG with|some [a]=>Aj n a0 a|_=>none)|_=>none
def EG(a:Nat)(b:D)(c:lZ):oX:=aK 5 b<|af (aR false 1 0 c) λa=>aU (aV false .eql (ad b 0) a)
def EH(n:Nat):lZ->oX|[a0,aG]=>(match aG with| .ref x1 0=>EG n a0 x1|_=>none)|_=>none
def Ak:b2:=dP (λc d e f=>aM .lss f e (af (bc 5 c f) λg=>af (aR true 5 0 g) λg=>db (EH a [g,d]) (aY (aY (some f))) (bu f λa=>av [c,d,e,a])) (bx [])) l
def Al(n:Nat)(a0:D)(a:D):oX:=bh a0 λb=>af (aS (Ak n) n [a0,a,b,al])<|aH λ_=>some (aa (-1))
def wb(n:Nat):lZ->oX|[a0,aG]=>(match fJ ni aG with|some [a]=>Al n a0 a|_=>none)|_=>none
def EI:oX:=af (wb a [b,(D.fn (.func ni) [] [c])]) λa=>aU (aV false .geq a al)
def wc(n:Nat):lZ->oX|[a0,aG]=>(match fJ ni aG with|some [a]=>EI n a0 a|_=>none)|_=>none
def EJ:oX:=aK 8 c<|af (bc 5 b d) λe=>af (aR false 1 0 e) λe=>bp e<|af (wa a [ad c 0,(D.fn (.func u3) [] [D.ref [e] 0])]) λf=>bF f.flat<|aM .lss f al (some (aa 12)) (af (j5 5 b none (some d)) λg=>af (wc a [g,(D.fn (.func ni) [] [D.ref [e] 0])]) λe=>bF e.flat<|a6 e (some (aa 6)) (af (bc 5 b d) λb=>af (aR true 4 1 b) λb=>af (sX a [eo c,b,bo]) λa=>bT a λb=>bU a λa=>aK 3 b<|aN .eql a al λd=>b7 d (af (bc 4 (ad c 0) f) λc=>af (aR false 1 1 c) λc=>aU (aV true .neq (ad b 0) c)) λb=>a6 b (some (aa 13)) (some a)))
def q8:=gH (EJ a)
def Rs:oX:=aK 3 b<|aK 8 c<|af (bc 4 (ad b 1) d) λd=>af (aR true 4 0 d) λd=>aU (v8 a [eo c,d,ad b 2])
def we:=gH (Rs a)
def Rt:oX:=aK 8 c<|af (bc 5 b d) λb=>af (aR true 4 1 b) λb=>af (sX a [eo c,b,bo]) λa=>bT a λb=>bU a λa=>aK 3 b<|some a
def wg:=gH (Rt a)
def EK(a:Nat)(b:D)(c:lZ):oX:=aK 5 b<|af (aR false 1 0 c) λa=>aU (aV false .eql (ad b 0) a)
def EL(n:Nat):lZ->oX|[a0,aG]=>(match aG with| .ref x1 0=>EK n a0 x1|_=>none)|_=>none
def An:b2:=dP (λc d e f=>aM .lss f e (af (bc 5 c f) λg=>af (aR true 5 0 g) λg=>db (EL a [g,d]) (aY (aY (some f))) (bu f λa=>av [c,d,e,a])) (bx [])) l
def Ao(n:Nat)(a0:D)(a:D):oX:=bh a0 λb=>af (aS (An n) n [a0,a,b,al])<|aH λ_=>some (aa (-1))
def wh(n:Nat):lZ->oX|[a0,aG]=>(match fJ u2 aG with|some [a]=>Ao n a0 a|_=>none)|_=>none
def sY:h1:=fR (λc d e f g h i=>aM .lss g f (af (bO e g λj=>bp j<|af (wh a [c,(D.fn (.func u2) [] [D.ref [j] 0])]) λa=>bF a.flat<|aN .geq a al λj=>b7 j (ct h a λj=>cr h j λj=>aU (cd .not j)) λj=>af (a6 j (ct h a λj=>af (aF h)[j]? λk=>bp a<|bF (b1 ((aF i).length+([[a]]).length) 8)<|av [c,d,e,f,g,D.aw 1 ((aF h).set j (dS k 0 [cf])),D.aw 1 ((aF i)++[[a]])]) (av [c,d,e,f,g,ax h,ax i]))<|aH<|fR λa e f g j k l=>av [a,e,f,g,j,ax k,ax l])<|aH<|fR λa e f g j k l=>bu j λj=>av [a,e,f,g,j,ax k,ax l]) (bx [c,d,ax h,ax i])) l
def EM:b2:=dP (λc d e f=>aM .gtr (aa (aF f).length) al (af (ct f al λg=>cr f g λg=>af (bc 5 c g) λg=>af (aR true 4 1 g) λg=>af (q7 a [g]) λg=>bT g λh=>bU g λg=>bh h λg=>af (aS (sY a) a [c,d,h,g,al,ax e,ax f])<|aH<|dP λa c f g=>av [a,c,ax f,ax g])<|aH<|dP λa c f g=>af (hG (aF g).length (some bH) none) λh=>bF (decide (h.1+h.2<=(aF g).length))<|av [a,c,ax f,D.aw 1 (((aF g).drop h.1).take h.2)]) (bx [d,ax e])) l
def Ru:oX:=aK 8 c<|bh b λc=>af (e5 1 c c) λc=>bp d<|af (aS (EM a) a [b,d,D.aw 1 (List.replicate c [bo]),D.aw 1 [[d]]])<|aH<|cW λa b=>ct b a λa=>cr b a λa=>a6 a (some (aa 14)) (some al)
def wi:=gH (Ru a)
def EN(a:Nat)(b:D)(c:lZ):oX:=aK 4 b<|af (aR false 1 0 c) λa=>aU (aV false .eql (ad b 0) a)
def EO(n:Nat):lZ->oX|[a0,aG]=>(match aG with| .ref x1 0=>EN n a0 x1|_=>none)|_=>none
def Ap:b2:=dP (λc d e f=>aM .lss f e (af (bc 4 c f) λg=>af (aR true 4 0 g) λg=>db (EO a [g,d]) (aY (aY (some f))) (bu f λa=>av [c,d,e,a])) (bx [])) l
def Aq(n:Nat)(a0:D)(a:D):oX:=bh a0 λb=>af (aS (Ap n) n [a0,a,b,al])<|aH λ_=>some (aa (-1))
def wj(n:Nat):lZ->oX|[a0,aG]=>(match fJ ng aG with|some [a]=>Aq n a0 a|_=>none)|_=>none
def EP:oX:=af (wj a [b,(D.fn (.func ng) [] [c])]) λa=>aU (aV false .geq a al)
def wk(n:Nat):lZ->oX|[a0,aG]=>(match fJ ng aG with|some [a]=>EP n a0 a|_=>none)|_=>none
def ER(a:Nat)(b:D)(c:lZ):oX:=aK 5 b<|af (aR false 1 0 c) λa=>aU (aV false .eql (ad b 0) a)
def ES(n:Nat):lZ->oX|[a0,aG]=>(match aG with| .ref x1 0=>ER n a0 x1|_=>none)|_=>none
def Ar:b2:=dP (λc d e f=>aM .lss f e (af (bc 5 c f) λg=>af (aR true 5 0 g) λg=>db (ES a [g,d]) (aY (aY (some f))) (bu f λa=>av [c,d,e,a])) (bx [])) l
def As(n:Nat)(a0:D)(a:D):oX:=bh a0 λb=>af (aS (Ar n) n [a0,a,b,al])<|aH λ_=>some (aa (-1))
def wm(n:Nat):lZ->oX|[a0,aG]=>(match fJ nh aG with|some [a]=>As n a0 a|_=>none)|_=>none
def ET:oX:=af (wm a [b,(D.fn (.func nh) [] [c])]) λa=>aU (aV false .geq a al)
def wo(n:Nat):lZ->oX|[a0,aG]=>(match fJ nh aG with|some [a]=>ET n a0 a|_=>none)|_=>none
def Au:oX:=aK 8 c<|af (bc 5 b d) λe=>af (aR false 1 0 e) λe=>bp e<|af (sQ a [e]) λf=>db (cd .not f) (some (aa 12)) (af (wk a [ad c 0,(D.fn (.func ng) [] [D.ref [e] 0])]) λc=>bF c.flat<|af (a6 c (av [c]) (af (j5 5 b none (some d)) λb=>af (wo a [b,(D.fn (.func nh) [] [D.ref [e] 0])]) λa=>bF a.flat<|av [a]))<|aH<|cu λa=>a6 a (some (aa 6)) (some al))
def pO:=gH (Au a)
def Rv(a:Nat)(b:D):oX:=some (aa 8)
def EU:=cO (Rv a)
def Rw(a:Nat)(b:D):oX:=some (aa 5)
def EV:=cO (Rw a)
def Rx(a:Nat)(b:D):oX:=aK 3 b<|some (ad b 0)
def EW:=cO (Rx a)
def Ry(a:Nat)(b:D):oX:=some (aa 2)
def EX:=cO (Ry a)
def Rz(a:Nat)(b:D):oX:=some (aa 2)
def EY:=cO (Rz a)
def RA(a:Nat)(b:D):oX:=some (aa 2)
def EZ:=cO (RA a)
def nt(a:Nat)(b:lZ):b2:=iR (λa c d e f g h i j k l m=>aM .lss c (aa 8) (af (cI 8 c) λn=>af (jk false 1 (n*1) a) λn=>aM .gtr n (aa 64) (aN .add bH c λn=>bp n<|aK 2 (D.agg [n,aa 64])<|aY (aY (some (D.aB [D.agg [n,aa 64],aa 18])))) (bu c λc=>av [a,c,d,e,f,g,h,i,j,k,l,m])) (bx [d,e,f,g,h,i,j,k,l,m])) b
def fK:h1:=kZ (λc d e f g h i j k l m n o p q=>aM .lss g f (af (uy c) λr=>af (ez r.1 166 (pO a [r.2,D.agg [h,i,j,k,l,m,n,o],g]) (ez r.1 167 (wi a [r.2,D.agg [h,i,j,k,l,m,n,o],g]) (ez r.1 168 (wg a [r.2,D.agg [h,i,j,k,l,m,n,o],g]) (ez r.1 170 (we a [r.2,D.agg [h,i,j,k,l,m,n,o],g]) (ez r.1 171 (q8 a [r.2,D.agg [h,i,j,k,l,m,n,o],g]) (ez r.1 172 (pN a [r.2,D.agg [h,i,j,k,l,m,n,o],g]) (none))))))) λr=>aM .neq r al (af (uy c) λs=>af (ez s.1 166 (EZ a [s.2]) (ez s.1 167 (EY a [s.2]) (ez s.1 168 (EX a [s.2]) (ez s.1 170 (EW a [s.2]) (ez s.1 171 (EV a [s.2]) (ez s.1 172 (EU a [s.2]) (none))))))) λa=>bp a<|bp g<|aK 2 (D.agg [a,g])<|aY (aY (aY (aY (aY (some (D.aB [D.agg [a,g],r]))))))) (bu g λa=>av [c,d,e,f,a,h,i,j,k,l,m,n,o,p,q])) (bx [d,e,h,i,j,k,l,m,n,o,p,q])) l
def fE:b2:=iR (λc d e f g h i j k l m n=>aM .lss d (aa 9) (af (af (cI 9 d) λo=>af (jk false 1 (o*1) c) λo=>af (uy o) λp=>af (ez p.1 166 (zV a [p.2]) (ez p.1 167 (zU a [p.2]) (ez p.1 168 (zT a [p.2]) (ez p.1 170 (nr a [p.2]) (ez p.1 171 (zR a [p.2]) (ez p.1 172 (zQ a [p.2]) (none))))))) λp=>af (aS (fK a) a [o,c,d,p,al,e,f,g,h,i,j,k,l,m,n])<|aH<|iR λa c d e f g h i j k l o=>av [a,c,d,e,f,g,h,i,j,k,l,o])<|aH<|iR λa c d e f g h i j k l o=>bu c λc=>av [a,c,d,e,f,g,h,i,j,k,l,o]) (bx [m,n])) l
def s3(n:Nat)(a0:D):oX:=aK 8 a0<|bh (ad a0 0) λb=>bh (ad a0 1) λv17=>bh (ad a0 2) λv20=>bh (ad a0 3) λc=>bh (ad a0 4) λv26=>bh (ad a0 5) λd=>bh (ad a0 6) λv32=>bh (ad a0 7) λv35=>bp b<|bp v17<|bp v20<|bp c<|bp v26<|bp d<|bp v32<|bp v35<|af (aS (nt n) n [D.agg [b,v17,v20,c,v26,d,v32,v35],al,ad a0 0,ad a0 1,ad a0 2,ad a0 3,ad a0 4,ad a0 5,ad a0 6,ad a0 7,al,al])<|aH<|e7 λl a f g j h i k m o=>af (vT n [l]) λv50=>bT v50 λv51=>bU v50 λe=>aM .neq e al (bp v51<|aK 2 (D.agg [bH,v51])<|some (D.aB [D.agg [bH,v51],e])) (af (zP n [D.agg [l,a,f,g,j,h,i,k]]) λv59=>aM .gtr v59 (aa 30) (some (D.aB [D.agg [bH,al],aa 18])) (bp f<|bp g<|bp h<|bp i<|bF (c8 (D.cT 166 a))<|bF (c8 (D.cT 167 a))<|bF (c8 (D.cT 168 a))<|bF (c8 (D.cT 170 (D.agg [aa 3,f,bo])))<|bF (c8 (D.cT 170 (D.agg [aa 4,g,bo])))<|bF (c8 (D.cT 171 j))<|bF (c8 (D.cT 170 (D.agg [aa 6,h,cf])))<|bF (c8 (D.cT 170 (D.agg [aa 7,i,bo])))<|bF (c8 (D.cT 172 k))<|af (aS (fE n) n [D.agg [D.cT 166 a,D.cT 167 a,D.cT 168 a,D.cT 170 (D.agg [aa 3,f,bo]),D.cT 170 (D.agg [aa 4,g,bo]),D.cT 171 j,D.cT 170 (D.agg [aa 6,h,cf]),D.cT 170 (D.agg [aa 7,i,bo]),D.cT 172 k],al,l,a,f,g,j,h,i,k,m,o])<|aH λ_=>some (D.aB [D.agg [al,al],al])))
def k2:=cO (s3 a)
def Av:b2:=fD (λc d e f g=>aM .lss g f (af (af (bc 4 e g) λh=>af (aR true 4 0 h) λh=>aK 4 h<|af (vU a [cc h]) λa=>cZ d (aU (aV false .eql a al)) λh=>aN .leq c (aa 1073741824) λi=>af (a6 i (af (hZ true [a,bH]) λa=>aN .mul c a λa=>av [a,h,e,f,g]) (av [c,h,e,f,g]))<|aH<|fD λa e f g h=>av [a,e,f,g,h])<|aH<|fD λa e f g h=>bu h λh=>av [a,e,f,g,h]) (bx [c,d])) l
def E0:oX:=aK 8 b<|bh (ad b 0) λc=>af (aS (Av a) a [bH,bo,ad b 0,c,al])<|aH<|cW λa b=>a6 b (some (D.aB [al,cf])) (aM .gtr a (aa 1073741824) (some (D.aB [al,bo])) (some (D.aB [a,cf])))
def wq:=cO (E0 a)
def E1:b2:=fD (λc d e f g=>aM .lss f e (af (bc 4 d f) λh=>af (aR true 4 0 h) λh=>aK 4 h<|af (k1 a [cc h,c]) λa=>bT a λh=>bU a λa=>aK 4 h<|aM .neq a al (aY (aY (some (D.aB [a7,f,a])))) (aK 4 (cc h)<|bF (b1 ((aF g).length+([[ad h 0,ad h 1,ad h 2,ad h 3]]).length) 56)<|bu f λa=>av [c,d,e,a,D.aw 4 ((aF g)++[[ad h 0,ad h 1,ad h 2,ad h 3]])])) (bx [D.aw 4 (aF g)])) l
def RB:oX:=bh b λd=>af (aS (E1 a) a [c,b,d,al,D.aw 4 []])<|aH<|cu λa=>some (D.aB [D.aw 4 (aF a),al,al])
def mf:=di (RB a)
def E2:b2:=fD (λc d e f g=>aM .lss f e (af (bc 5 d f) λh=>af (aR true 5 0 h) λh=>aK 5 h<|af (k1 a [D.agg [ad h 1,ad h 2,ad h 3,ad h 4],c]) λa=>bT a λi=>bU a λa=>aK 4 i<|aM .neq a al (aY (aY (some (D.aB [a7,f,a])))) (bF (c8 (ad h 0))<|aK 4 (cc i)<|aK 5 (D.agg [ad h 0,ad i 0,ad i 1,ad i 2,ad i 3])<|bF (b1 ((aF g).length+([[ad h 0,ad i 0,ad i 1,ad i 2,ad i 3]]).length) 72)<|bu f λa=>av [c,d,e,a,D.aw 5 ((aF g)++[[ad h 0,ad i 0,ad i 1,ad i 2,ad i 3]])])) (bx [D.aw 5 (aF g)])) l
def RC:oX:=bh b λd=>af (aS (E2 a) a [c,b,d,al,D.aw 5 []])<|aH<|cu λa=>some (D.aB [D.aw 5 (aF a),al,al])
def wu:=di (RC a)
def wv(a:lZ->oY)(b:Nat)(c:lZ):nf:=uR (λb d e f g h i j k l m n o p q r s=>aM .lss e d (af (bc 6 b e) λt=>af (aR true 6 0 t) λt=>aK 6 t<|af (a [D.agg [ad t 0,ad t 1,ad t 2,ad t 3,ad t 4,ad t 5],s]) λa=>af (eJ 0 (bI a 0)) λt=>af (eJ 1 (bI a 0)) λu=>aK 6 t<|aM .neq u al (aY (aY (some [D.aB [D.agg [al,al,al,aD ⟨#[]⟩,a7,a7],u],bI a 1]))) (aK 6 (D.agg [ad t 0,ad t 1,ad t 2,ad t 3,ad t 4,ad t 5])<|bF (b1 ((aF r).length+([[ad t 0,ad t 1,ad t 2,ad t 3,ad t 4,ad t 5]]).length) 88)<|bu e λe=>av [b,d,e,f,g,h,i,j,k,l,m,n,o,p,q,D.aw 6 ((aF r)++[[ad t 0,ad t 1,ad t 2,ad t 3,ad t 4,ad t 5]]),bI a 1])) (bx [f,g,h,i,j,k,l,m,n,o,p,q,D.aw 6 (aF r),s])) c
def ow(a:lZ->oY)(b:Nat)(c:lZ):jM:=cW (λd e=>aK 6 d<|aM .eql (ad d 0) bH (af (k1 b [D.agg [ad d 1,ad d 2,ad d 3,ad d 4],e]) λf=>bT f λg=>bU f λf=>aK 4 g<|aM .neq f al (some [D.aB [D.agg [al,al,al,aD ⟨#[]⟩,a7,a7],f],e]) (bF (c8 (ad d 0))<|aK 4 (cc g)<|aK 6 (D.agg [ad d 0,ad g 0,ad g 1,ad g 2,ad g 3,a7])<|some [D.aB [D.agg [ad d 0,ad g 0,ad g 1,ad g 2,ad g 3,a7],al],e])) (bh (ad d 5) λf=>af (aS (wv a b) b [ad d 5,f,al,ad d 0,ad d 1,ad d 2,ad d 3,ad d 4,ad d 5,al,al,al,aD ⟨#[]⟩,a7,a7,D.aw 6 [],e])<|aH<|ly λa b d e f g h i j k l m n o=>bp a<|aK 6 (D.agg [a,al,al,aD ⟨#[]⟩,a7,D.aw 6 (aF n)])<|some [D.aB [D.agg [a,al,al,aD ⟨#[]⟩,a7,D.aw 6 (aF n)],al],o])) c
def lB:Nat->lZ->oY|0,_=>none|n+1,l=>ow (lB n) n l
def Ko:oX:=aK 6 b<|bp c<|af (pL a [D.agg [ad b 0,ad b 1,ad b 2,ad b 3,ad b 4,ad b 5]]) λd=>aM .neq d al (some (D.aB [D.agg [al,al,al,aD ⟨#[]⟩,a7,a7],d])) (af (lB a [D.agg [ad b 0,ad b 1,ad b 2,ad b 3,ad b 4,ad b 5],c]) λa=>af (eJ 0 (bI a 0)) λb=>af (eJ 1 (bI a 0)) λa=>aK 6 b<|some (D.aB [D.agg [ad b 0,ad b 1,ad b 2,ad b 3,ad b 4,ad b 5],a]))
def wx:=di (Ko a)
def E3:b2:=fD (λc d e f g=>aM .lss f e (af (bc 7 d f) λh=>af (aR true 7 0 h) λh=>aK 7 h<|af (wx a [D.agg [ad h 1,ad h 2,ad h 3,ad h 4,ad h 5,ad h 6],c]) λa=>bT a λi=>bU a λa=>aK 6 i<|aM .neq a al (aY (aY (some (D.aB [a7,f,a])))) (bF (c8 (ad h 0))<|aK 6 (D.agg [ad i 0,ad i 1,ad i 2,ad i 3,ad i 4,ad i 5])<|aK 7 (D.agg [ad h 0,ad i 0,ad i 1,ad i 2,ad i 3,ad i 4,ad i 5])<|bF (b1 ((aF g).length+([[ad h 0,ad i 0,ad i 1,ad i 2,ad i 3,ad i 4,ad i 5]]).length) 104)<|bu f λa=>av [c,d,e,a,D.aw 7 ((aF g)++[[ad h 0,ad i 0,ad i 1,ad i 2,ad i 3,ad i 4,ad i 5]])])) (bx [D.aw 7 (aF g)])) l
def RD:oX:=bh b λd=>af (aS (E3 a) a [c,b,d,al,D.aw 7 []])<|aH<|cu λa=>some (D.aB [D.aw 7 (aF a),al,al])
def wy:=di (RD a)
def Kp:oX:=aK 8 b<|bF (c8 (ad b 0))<|af (mf a [ad b 2,ad b 1]) λc=>bT c λd=>bU c λe=>af (eJ 2 c) λc=>bp d<|bp e<|aM .neq c al (bp e<|aK 2 (D.agg [aa 3,e])<|some (D.aB [D.agg [a7,a7,a7,a7,a7,a7,a7,a7],D.agg [aa 3,e],c])) (af (mf a [ad b 3,ad b 1]) λc=>bT c λe=>bU c λf=>af (eJ 2 c) λc=>bp e<|bp f<|aM .neq c al (bp f<|aK 2 (D.agg [aa 4,f])<|some (D.aB [D.agg [a7,a7,a7,a7,a7,a7,a7,a7],D.agg [aa 4,f],c])) (af (wu a [ad b 4,ad b 1]) λc=>bT c λf=>bU c λg=>af (eJ 2 c) λc=>bp f<|bp g<|aM .neq c al (bp g<|aK 2 (D.agg [aa 5,g])<|some (D.aB [D.agg [a7,a7,a7,a7,a7,a7,a7,a7],D.agg [aa 5,g],c])) (af (mf a [ad b 5,ad b 1]) λc=>bT c λg=>bU c λh=>af (eJ 2 c) λc=>bp g<|bp h<|aM .neq c al (bp h<|aK 2 (D.agg [aa 6,h])<|some (D.aB [D.agg [a7,a7,a7,a7,a7,a7,a7,a7],D.agg [aa 6,h],c])) (af (mf a [ad b 6,ad b 1]) λc=>bT c λh=>bU c λi=>af (eJ 2 c) λc=>bp h<|bp i<|aM .neq c al (bp i<|aK 2 (D.agg [aa 7,i])<|some (D.aB [D.agg [a7,a7,a7,a7,a7,a7,a7,a7],D.agg [aa 7,i],c])) (af (wy a [ad b 7,ad b 1]) λa=>bT a λc=>bU a λi=>af (eJ 2 a) λa=>bp c<|bp i<|aM .neq a al (bp i<|aK 2 (D.agg [aa 8,i])<|some (D.aB [D.agg [a7,a7,a7,a7,a7,a7,a7,a7],D.agg [aa 8,i],a])) (aK 8 (D.agg [ad b 0,a7,d,e,f,g,h,c])<|some (D.aB [D.agg [ad b 0,a7,d,e,f,g,h,c],D.agg [al,al],al])))))))
def E4:=cO (Kp a)
def Aw(a:Nat)(b:lZ):jM:=cu (λa=>db (Cq .eql a a7) (some [D.aw 1 []]) (af (jz a) λa=>bF (decide (a.1=1\/a.2=[])&&decide (0<1))<|bF (b1 (([]:mW).length+(a.2).length) 8)<|some [D.aw 1 (([]:mW)++a.2)])) b
def Ax:Di:=kZ (λc d e f g h i j k l m n o p q=>aM .lss k j (af (Aw a [d]) λa=>aN .add c k λr=>bp r<|bF (b1 ((aF (bI a 0)).length+([[r]]).length) 8)<|bF (c8 (D.aw 1 ((aF (bI a 0))++[[r]])))<|bF (b1 ((aF p).length+([[D.aw 1 ((aF (bI a 0))++[[r]])]]).length) 24)<|bu k λk=>av [c,d,e,f,g,h,i,j,k,l,m,n,o,D.aw 1 ((aF p)++[[D.aw 1 ((aF (bI a 0))++[[r]])]]),ax q]) (bx [c,e,f,g,h,i,l,m,n,o,ax p,ax q])) l
def Ay:h1:=iR (λc d e f g h i j k l m n=>aM .lss h g (af (ct n h λo=>cr n o λo=>af (vU a [D.agg [i,j,k,l]]) λp=>af (aS (Ax a) a [c,o,d,e,f,g,h,p,al,i,j,k,l,ax m,ax n])<|aH<|iR λa c g h i j k l n o p q=>av [a,c,g,h,i,j,k,l,n,o,ax p,ax q])<|aH<|iR λa c g h i j k l n o p q=>bu j λj=>av [a,c,g,h,i,j,k,l,n,o,ax p,ax q]) (bx [d,e,f,ax m])) l
def Az:b2:=dP (λc d e f=>aM .lss e d (af (af (bc 4 c e) λg=>af (aR true 4 0 g) λg=>aK 4 g<|af (a6 (ad g 1) (av [al,c,d,e,ax f,ad g 0,ad g 1,ad g 2,ad g 3]) (av [ad g 2,c,d,e,ax f,ad g 0,ad g 1,ad g 2,ad g 3]))<|aH<|eL λc d e g h i j k l=>af (aS (Ay a) a [c,d,e,g,aa (aF h).length,al,i,j,k,l,D.aw 1 [],ax h])<|aH<|dP λa c d e=>av [a,c,d,ax e])<|aH<|dP λa c d e=>bu d λd=>av [a,c,d,ax e]) (bx [ax f])) l
def RE:oX:=bh b λc=>af (aS (Az a) a [b,c,al,D.aw 1 [[a7]]])<|aH<|cu λa=>some (ax a)
def E5(n:Nat):lZ->oX|[a0]=>RE n a0|_=>none
def wz(d:D):D:=match d with| .val (.slice none 0 0)=> .aw 1 []|d=>d
def AA:D->oX| .aw k es=>if es.all (λe=>(e.map wz).all D.one)=true then some (.aw k (es.map λe=>e.map wz))else none|_=>none
def AB(n:Nat)(a:lZ):oX:=match E5 n a with|some r=>AA r|none=>none
def E6:oX:=bp b<|aK 4 c<|bp d<|bp e<|af (sW a [b,cc c,cf]) λf=>bT f λg=>bU f λf=>aK 3 g<|aN .neq f al λf=>cZ f (bh d λf=>bh b λg=>aU (aV false .neq f g)) λf=>a6 f (some (D.aB [al,bo])) (af (yI a [b]) λf=>bp f<|af (pA a [cc c,d,f,e,b]) λa=>af (eJ 0 (bI a 0)) λb=>af (eJ 1 (bI a 0)) λa=>some (D.aB [b,a]))
def nu:=qJ (E6 a)
def RF:oX:=aK 8 b<|aK 4 c<|af (nu a [ad b 0,cc c,d,e]) λa=>bT a λb=>bU a λa=>b7 a (aU (aV false .neq b al)) λa=>some a
def AD:=qJ (RF a)
def AE:b2:=gJ (λc d e f g h i j k l m n o=>aM .lss g f (af (bc 4 e g) λp=>af (aR true 4 0 p) λp=>aK 4 p<|af (AD a [D.agg [h,i,j,k,l,m,n,o],cc p,c,d]) λa=>db (cd .not a) (aY (aY (some bo))) (bu g λa=>av [c,d,e,f,a,h,i,j,k,l,m,n,o])) (bx [])) l
def Kq(n:Nat)(a0 aG a2 a3:D):oX:=aK 8 a0<|bh aG λv12=>af (aS (AE n) n [a2,a3,aG,v12,al,ad a0 0,ad a0 1,ad a0 2,ad a0 3,ad a0 4,ad a0 5,ad a0 6,ad a0 7])<|aH λ_=>some cf
def s4:=qJ (Kq a)
def E7(a:Nat)(b:D)(c:lZ):oX:=aK 4 b<|af (aR false 1 0 c) λa=>aU (aV false .eql (ad b 0) a)
def E8(n:Nat):lZ->oX|[a0,aG]=>(match aG with| .ref x1 0=>E7 n a0 x1|_=>none)|_=>none
def AF:b2:=dP (λc d e f=>aM .lss f e (af (bc 4 c f) λg=>af (aR true 4 0 g) λg=>db (E8 a [g,d]) (aY (aY (some f))) (bu f λa=>av [c,d,e,a])) (bx [])) l
def AG(n:Nat)(a0:D)(a:D):oX:=bh a0 λb=>af (aS (AF n) n [a0,a,b,al])<|aH λ_=>some (aa (-1))
def wA(n:Nat):lZ->oX|[a0,aG]=>(match fJ u1 aG with|some [a]=>AG n a0 a|_=>none)|_=>none
def E9:b2:=gJ (λc d e f g h i j k l m n o=>aM .lss f e (af (bc 5 d f) λp=>af (aR true 5 0 p) λp=>aK 5 p<|af (nu a [g,D.agg [ad p 1,ad p 2,ad p 3,ad p 4],c,a7]) λq=>bT q λr=>bU q λq=>db (cd .not q) (aY (aY (some (D.aB [a7,bo])))) (af (wA a [g,(D.fn (.func u1) [] [D.ref [ad p 0,ad p 1,ad p 2,ad p 3,ad p 4] 0])]) λa=>bF a.flat<|bp a<|bp r<|aK 2 (D.agg [a,r])<|bF (b1 ((aF o).length+([[a,r]]).length) 16)<|bu f λf=>av [c,d,e,f,g,h,i,j,k,l,m,n,D.aw 2 ((aF o)++[[a,r]])])) (bx [D.aw 2 (aF o)])) l
def RG:oX:=aK 8 b<|bh (ad b 4) λd=>af (aS (E9 a) a [c,ad b 4,d,al,ad b 0,ad b 1,ad b 2,ad b 3,ad b 4,ad b 5,ad b 6,ad b 7,D.aw 2 []])<|aH<|cu λa=>some (D.aB [D.aw 2 (aF a),cf])
def Fa:=di (RG a)
def Fb(a:Nat)(b:D)(c:lZ):oX:=aK 2 b<|af (aR false 1 0 c) λa=>bO a (ad b 0) λa=>aU (aV false .neq a (ad b 1))
def Fc(n:Nat):lZ->oX|[a0,aG]=>(match aG with| .ref x1 0=>Fb n a0 x1|_=>none)|_=>none
def AH:b2:=dP (λc d e f=>aM .lss f e (af (bc 2 c f) λg=>af (aR true 2 0 g) λg=>db (Fc a [g,d]) (aY (aY (some f))) (bu f λa=>av [c,d,e,a])) (bx [])) l
def AI(n:Nat)(a0:D)(a:D):oX:=bh a0 λb=>af (aS (AH n) n [a0,a,b,al])<|aH λ_=>some (aa (-1))
def AJ(n:Nat):lZ->oX|[a0,aG]=>(match fJ oc aG with|some [a]=>AI n a0 a|_=>none)|_=>none
def AK:oX:=af (AJ a [b,(D.fn (.func oc) [] [c])]) λa=>aU (aV false .geq a al)
def wB(n:Nat):lZ->oX|[a0,aG]=>(match fJ oc aG with|some [a]=>AK n a0 a|_=>none)|_=>none
def wC:b2:=kZ (λc d e f g h i j k l m n o p q=>aM .lss e d (af (bO c e λr=>af (s4 a [D.agg [i,j,k,l,m,n,o,p],l,r,a7]) λa=>af (a6 a (bp r<|bF (b1 ((aF q).length+([[r]]).length) 24)<|av [c,d,e,f,g,h,i,j,k,l,m,n,o,p,D.aw 1 ((aF q)++[[r]])]) (av [c,d,e,f,g,h,i,j,k,l,m,n,o,p,ax q]))<|aH<|kZ λa c d e r s t u w x y z A B C=>av [a,c,d,e,r,s,t,u,w,x,y,z,A,B,ax C])<|aH<|kZ λa c d e r s t u w x y z A B C=>bu d λd=>av [a,c,d,e,r,s,t,u,w,x,y,z,A,B,ax C]) (bx [f,g,h,i,j,k,l,m,n,o,p,ax q])) l
def AL:h1:=uS (λc d e f g h i j k l m n o p q r s t u=>aM .lss h g (af (bc 4 f h) λw=>af (aR true 4 0 w) λw=>aK 4 w<|af (AD a [D.agg [i,j,k,l,m,n,o,p],cc w,c,a7]) λa=>bp a<|bF (b1 ((aF q).length+([[a]]).length) 1)<|bu h λh=>av [c,d,e,f,g,h,i,j,k,l,m,n,o,p,D.aw 1 ((aF q)++[[a]]),ax r,ax s,ax t,ax u]) (bx [c,d,e,i,j,k,l,m,n,o,p,ax q,ax r,ax s,ax t,ax u])) l
def wD:h1:=yA (λc d e f g h i j k l m n o p q r s t u w=>aM .lss i h (af (ct s i λx=>cr s x λx=>bp x<|b7 e (af (wB a [d,(D.fn (.func oc) [] [D.ref [x] 0])]) λy=>bF y.flat<|aU (cd .not y)) λy=>b7 y (aU (s4 a [D.agg [j,k,l,m,n,o,p,q],o,c,x])) λa=>af (a6 a (bp i<|bF (b1 ((aF r).length+([[i]]).length) 8)<|av [c,d,e,f,g,h,i,j,k,l,m,n,o,p,q,D.aw 1 ((aF r)++[[i]]),ax s,ax t,ax u,ax w]) (av [c,d,e,f,g,h,i,j,k,l,m,n,o,p,q,ax r,ax s,ax t,ax u,ax w]))<|aH<|yA λa c d e h i x y z A B C E F G H I J K L=>av [a,c,d,e,h,i,x,y,z,A,B,C,E,F,G,ax H,ax I,ax J,ax K,ax L])<|aH<|yA λa c d e h i x y z A B C E F G H I J K L=>bu x λx=>av [a,c,d,e,h,i,x,y,z,A,B,C,E,F,G,ax H,ax I,ax J,ax K,ax L]) (bx [f,g,j,k,l,m,n,o,p,q,ax r,ax s,ax t,ax u,ax w])) l
def wE:b2:=ly (λc d e f g h i j k l m n o p=>aM .lss d c (af (ct m d λq=>cr m q λq=>af (s4 a [D.agg [e,f,g,h,i,j,k,l],g,q,a7]) λr=>af (a6 r (bp d<|bF (b1 ((aF o).length+([[d]]).length) 8)<|av [q,c,d,e,f,g,h,i,j,k,l,ax m,ax n,D.aw 1 ((aF o)++[[d]]),ax p]) (av [q,c,d,e,f,g,h,i,j,k,l,ax m,ax n,ax o,ax p]))<|aH<|kZ λc d e f g h i j k l q r s t u=>bh l λw=>af (aS (AL a) a [c,d,e,l,w,al,f,g,h,i,j,k,l,q,D.aw 1 [],ax r,ax s,ax t,ax u])<|aH<|u16 λc d e f g h i j k l q r s t u w=>bF (c8 (ax r))<|bF (b1 ((aF w).length+([[ax r]]).length) 24)<|af (Fa a [D.agg [f,g,h,i,j,k,l,q],c]) λx=>bT x λy=>bU x λx=>af (aS (wD a) a [c,y,x,d,e,aa (aF s).length,al,f,g,h,i,j,k,l,q,D.aw 1 [],ax s,ax t,ax u,D.aw 1 ((aF w)++[[ax r]])])<|aH<|kZ λa c d e f g h i j k l q r s t=>bF (c8 (ax l))<|bF (b1 ((aF r).length+([[ax l]]).length) 24)<|av [a,c,d,e,f,g,h,i,j,k,ax q,D.aw 1 ((aF r)++[[ax l]]),ax s,ax t])<|aH<|ly λa c d e f g h i j k l q r s=>bu c λc=>av [a,c,d,e,f,g,h,i,j,k,ax l,ax q,ax r,ax s]) (bx [ax m,ax n,ax o,ax p])) l
def Kr:oX:=aK 8 b<|af (k2 a [eo b]) λc=>bT c λd=>bU c λc=>aK 2 d<|aM .neq c al (some (D.aB [D.agg [a7,a7,a7,a7],c])) (af (wq a [eo b]) λc=>bT c λd=>bU c λc=>af (cd .not c) λc=>cZ c (aU (aV false .gtr d (aa 4096))) λc=>a6 c (some (D.aB [D.agg [a7,a7,a7,a7],aa 18])) (af (E4 a [eo b]) λb=>bT b λc=>bU b λd=>af (eJ 2 b) λb=>aK 8 c<|aK 2 d<|aM .neq b al (some (D.aB [D.agg [a7,a7,a7,a7],b])) (aK 8 (eo c)<|aK 8 (eo c)<|af (AB a [ad c 0]) λb=>bh b λd=>af (aS (wC a) a [b,d,al,a7,a7,a7,ad c 0,ad c 1,ad c 2,ad c 3,ad c 4,ad c 5,ad c 6,ad c 7,D.aw 1 []])<|aH<|iR λb c d e f g h i j k l m=>af (bF (jy b)<|bF (jy c)<|bF (jy d)<|aS (wE a) a [aa (aF m).length,al,e,f,g,h,i,j,k,l,ax m,D.aw 1 [],D.aw 1 [],D.aw 1 []])<|aH<|dP λa b c d=>some (D.aB [D.agg [ax a,ax b,ax c,ax d],al]))))
def s5(n:Nat):lZ->oX|[a0]=>Kr n a0|_=>none
def ox(k:Nat)(d:D):D:=match d with| .val (.slice none 0 0)=> .aw k []|d=>d
def Ks:D->D| .agg [bK,c1,c2,b8,eZ,jl,jm,oy]=> .agg [ox 4 bK,ox 5 c1,ox 4 c2,ox 4 b8,ox 5 eZ,ox 4 jl,ox 4 jm,ox 7 oy]|d=>d
def pP(n:Nat)(b:lZ):oX:=match b with|[a]=>s5 n [Ks a]|_=>none
def Fe(a:Nat)(b:lZ):b2:=fz (λa c d=>bh a λe=>aM .lss d e (bO a d λe=>bO c d λf=>db (aV true .neq e f) (aY (aY (some bo))) (bu d λd=>av [a,c,d])) (bx [])) b
def RH(n:Nat)(a0 aG:D):oX:=bh a0 λa=>bh aG λv9=>aM .neq a v9 (some bo) (af (aS (Fe n) n [a0,aG,al])<|aH λ_=>some cf)
def mg:=di (RH a)
def AM(a:Nat)(b:lZ):b2:=fz (λa c d=>bh a λe=>aM .lss d e (bO a d λe=>bO c d λf=>aM .neq e f (aY (aY (some bo))) (bu d λd=>av [a,c,d])) (bx [])) b
def Ff(n:Nat)(a0 aG:D):oX:=bh a0 λa=>bh aG λv9=>aM .neq a v9 (some bo) (af (aS (AM n) n [a0,aG,al])<|aH λ_=>some cf)
def s6:=di (Ff a)
def Fg:b2:=fz (λc d e=>bh c λf=>aM .lss e f (bO c e λf=>bO d e λg=>af (s6 a [f,g]) λa=>db (cd .not a) (aY (aY (some bo))) (bu e λa=>av [c,d,a])) (bx [])) l
def RI(n:Nat)(a0 aG:D):oX:=bh a0 λa=>bh aG λv9=>aM .neq a v9 (some bo) (af (aS (Fg n) n [a0,aG,al])<|aH λ_=>some cf)
def AN:=di (RI a)
def Fh:b2:=eL (λc d e f g h i j k=>bh k λl=>aM .lss c l (bO g c λl=>bO k c λm=>af (mg a [l,m]) λa=>db (cd .not a) (aY (aY (some bo))) (bu c λa=>av [a,d,e,f,g,h,i,j,k])) (bx [d,e,f,g,h,i,j,k])) l
def RJ:oX:=aK 4 b<|aK 4 c<|bh (ad b 3) λd=>bh (ad c 3) λe=>aM .neq d e (some bo) (af (aS (Fh a) a [al,ad b 0,ad b 1,ad b 2,ad b 3,ad c 0,ad c 1,ad c 2,ad c 3])<|aH<|fR λb c d e f g h=>af (AN a [b,f]) λb=>b7 b (aU (AN a [c,g])) λb=>b7 b (aU (s6 a [d,h])) λa=>some a)
def wF:=di (RJ a)
def Fi:oX:=aK 8 b<|af (q1 a [eo b,aa 40]) λc=>db (cd .not c) (some (D.aB [D.agg [a7,a7,a7,a7],D.agg [a7,a7,a7,a7],bo,cf])) (af (vQ a [eo b]) λc=>bT c λd=>bU c λc=>aK 4 d<|af (pP a [eo b]) λb=>bT b λe=>bU b λb=>aK 4 e<|aN .eql c al λf=>aN .eql b c λb=>b7 b (aU (wF a [cc e,cc d])) λa=>aK 4 (cc e)<|aK 4 (cc d)<|some (D.aB [cc e,cc d,f,a]))
def q9:=cO (Fi a)
def wG(a:Nat)(b:lZ):b2:=fz (λa c d=>aM .gtr (aa (aF d).length) al (aN .sub (aa (aF d).length) bH λe=>ct d e λe=>af (aF d)[e]? λe=>af (aR true 6 0 e) λe=>aK 6 e<|aN .sub (aa (aF d).length) bH λf=>af (hG (aF d).length none (some f)) λf=>bF (decide (f.1+f.2<=(aF d).length))<|aN .gtr c a λg=>cZ g (bh (ad e 5) λg=>aU (aV false .gtr g a)) λg=>a6 g (aY (aY (some bo))) (af (jz (ad e 5)) λe=>bF (decide (e.1=6\/e.2=[])&&decide (0<6))<|bF (b1 ((((aF d).drop f.1).take f.2).length+(e.2).length) 88)<|bu c λc=>av [a,c,D.aw 6 ((((aF d).drop f.1).take f.2)++e.2)])) (bx [])) b
def Kt(n:Nat)(a0 aG:D):oX:=aK 6 a0<|aK 6 (D.agg [ad a0 0,ad a0 1,ad a0 2,ad a0 3,ad a0 4,ad a0 5])<|af (aS (wG n) n [aG,al,D.aw 6 [[ad a0 0,ad a0 1,ad a0 2,ad a0 3,ad a0 4,ad a0 5]]])<|aH λ_=>some cf
def wH:=di (Kt a)
def acB(a:Nat):oX:=aK 5 (D.agg [aD ⟨#[120]⟩,aa 5,al,aD ⟨#[]⟩,D.aw 4 [[aa 3,al,aD ⟨#[120]⟩,a7]]])<|some (D.agg [D.aw 4 [[aD ⟨#[120]⟩,cf,al,al]],a7,a7,a7,D.aw 5 [[aD ⟨#[120]⟩,aa 5,al,aD ⟨#[]⟩,D.aw 4 [[aa 3,al,aD ⟨#[120]⟩,a7]]]],a7,D.aw 4 [[aa 3,al,aD ⟨#[120]⟩,a7]],a7])
def RK(n:Nat):lZ->oX|[]=>acB n|_=>none
def s7(g m:lZ)(no:D):Nat->D|0=> .ref [] 0|k+1=> .ref [.fn (.func ka) [] [.ref g 0,.ref m 0,s7 g m no k,no]] 0
def nv(a:lZ):D:= .ref [.fn (.func j9) [] [.ref a 0]] 0
def AO(a:lZ->oX)(b:Nat)(c:lZ):b2:=dP (λb d e f=>aM .lss f e (af (bc 6 d f) λg=>af (aR true 6 0 g) λg=>aK 6 g<|af (a [b,D.agg [ad g 0,ad g 1,ad g 2,ad g 3,ad g 4,ad g 5]]) λa=>aM .neq a al (aY (aY (some a))) (bu f λa=>av [b,d,e,a])) (bx [])) c
def ra(a:lZ->oX)(n:Nat)(a0 aG:D):oX:=aK 6 aG<|aM .eql (ad aG 0) bH (af (sW n [a0,D.agg [ad aG 1,ad aG 2,ad aG 3,ad aG 4],bo]) λv17=>bT v17 λb=>bU v17 λc=>aK 3 b<|aN .eql c al λv21=>b7 v21 (aU (cd .not (ad b 0))) λv26=>af (a6 v26 (av [aa 13]) (av [c]))<|aH<|cu λe=>some e) (bh (ad aG 5) λd=>af (aS (AO a n) n [a0,ad aG 5,d,al])<|aH λ_=>some al)
def nw:Nat->lZ->oX|0,_=>none|n+1,a=>match a with|[a0,aG]=>ra (nw n) n a0 aG|_=>none
def Ku(c:lZ)(d:lZ)(e:lZ):oX:=af (aR false 1 0 c) λc=>af (aR true 4 1 d) λd=>af (aR false 1 0 e) λe=>bO e b λb=>af (nu a [c,d,b,a7]) λa=>bT a λb=>bU a λa=>b7 a (aU (aV false .eql b bH)) λa=>some a
def Fj(n:Nat):lZ->oX|[a0,aG,a2,a3]=>(match aG with| .ref x1 0=>(match a2 with| .ref c9 0=>(match a3 with| .ref a 0=>Ku n a0 x1 c9 a|_=>none)|_=>none)|_=>none)|_=>none
def Fk:b2:=hn (λc d e f g h=>aM .lss g f (af (Fj a [g,c,d,e]) λa=>ct h g λi=>bp a<|af (aF h)[i]? λj=>bu g λg=>av [c,d,e,f,g,D.aw 1 ((aF h).set i (dS j 0 [a]))]) (bx [ax h])) l
def Kv:oX:=aK 4 b<|bh (ad b 0) λb=>af (e5 1 b b) λb=>af (aS (Fk a) a [c,d,e,aa (List.replicate b [bo]).length,al,D.aw 1 (List.replicate b [bo])])<|aH<|cu λa=>some (ax a)
def wI(n:Nat):lZ->oX|[a0,aG]=>(match fJ uT aG with|some [a,b,c]=>Kv n a0 a b c|_=>none)|_=>none
def kc(a:lZ->oX)(b:Nat)(c:D)(d:lZ)(e:lZ)(f:lZ)(g:lZ):oX:=aK 6 c<|aM .eql (ad c 0) bH (af (aR true 4 0 d) λh=>aU (wI b [h,(D.fn (.func uT) [] [D.ref e 0,D.ref [ad c 0,ad c 1,ad c 2,ad c 3,ad c 4,ad c 5] 0,D.ref d 0])])) (af (aR false 1 0 f) λe=>af (bc 6 (ad c 5) al) λh=>af (aR true 6 0 h) λh=>af (kT [(ka,a),(j9,jN b)] e [h]) λe=>bp e<|bp e<|bh (ad c 5) λh=>aN .gtr h bH λh=>af (a6 h (af (aR false 1 0 f) λf=>af (bc 6 (ad c 5) bH) λh=>af (aR true 6 0 h) λh=>af (kT [(ka,a),(j9,jN b)] f [h]) λf=>bp f<|av [D.agg d,D.agg g,ad c 0,ad c 1,ad c 2,ad c 3,ad c 4,ad c 5,e,f]) (av [D.agg d,D.agg g,ad c 0,ad c 1,ad c 2,ad c 3,ad c 4,ad c 5,e,e]))<|aH<|e7 λc d e f g h i j k l=>aM .eql e (aa 2) (af (aR false 1 0 (dK d)) λf=>aU (kT [(ka,a),(j9,jN b)] f [k])) (aM .eql e (aa 3) (af (aR true 4 0 (dK c)) λf=>aU (u7 b [f,(D.fn (.func uU) [] [D.ref [k] 0,D.ref [l] 0])])) (aM .eql e (aa 4) (af (aR true 4 0 (dK c)) λf=>aU (u9 b [f,(D.fn (.func uV) [] [D.ref [k] 0,D.ref [l] 0])])) (aM .eql e (aa 5) (af (aR true 4 0 (dK c)) λf=>aU (vb b [f,(D.fn (.func uW) [] [D.ref [k] 0,D.ref [l] 0])])) (aM .eql e (aa 6) (af (aR true 4 0 (dK c)) λf=>aU (sF b [f,k])) (aM .eql e (aa 7) (af (aR true 4 0 (dK c)) λf=>af (aR true 4 0 (dK c)) λg=>af (qT b [g]) λg=>aU (pB b [f,g,k])) (aM .eql e (aa 8) (af (aR true 4 0 (dK c)) λf=>aU (qW b [f,k])) (aM .eql e (aa 9) (af (aR true 4 0 (dK c)) λf=>aU (pB b [f,k,l])) (aM .eql e (aa 10) (af (aR false 1 0 (dK d)) λf=>af (aR true 4 0 (dK c)) λg=>af (aR false 1 0 (dK d)) λh=>af (kT [(ka,a),(j9,jN b)] h [k]) λh=>af (sF b [g,h]) λg=>aU (kT [(ka,a),(j9,jN b)] f [g])) (aM .eql e (aa 11) (af (aR false 1 0 (dK d)) λf=>af (aR true 4 0 (dK c)) λg=>af (aR false 1 0 (dK d)) λh=>af (kT [(ka,a),(j9,jN b)] h [k]) λh=>af (qW b [g,h]) λg=>aU (kT [(ka,a),(j9,jN b)] f [g])) (aM .eql e (aa 12) (af (aR false 1 0 (dK d)) λe=>af (aR true 4 0 (dK c)) λf=>af (aR true 4 0 (dK c)) λg=>af (qT b [g]) λg=>af (aR false 1 0 (dK d)) λh=>af (kT [(ka,a),(j9,jN b)] h [k]) λh=>af (pB b [f,g,h]) λf=>aU (kT [(ka,a),(j9,jN b)] e [f])) (af (aR true 4 0 (dK c)) λe=>af (aR false 1 0 (dK d)) λf=>af (kT [(ka,a),(j9,jN b)] f [l]) λf=>af (qW b [e,f]) λe=>bp e<|af (aR true 4 0 (dK c)) λf=>af (aR false 1 0 (dK d)) λd=>af (kT [(ka,a),(j9,jN b)] d [l]) λa=>af (aR true 4 0 (dK c)) λd=>af (vn b [d,(D.fn (.func uX) [] [D.ref [k] 0,D.ref [l] 0])]) λd=>af (pB b [f,a,d]) λa=>bp a<|af (aR true 4 0 (dK c)) λc=>aU (vo b [c,(D.fn (.func uY) [] [D.ref [e] 0,D.ref [a] 0])])))))))))))))
def oz:Nat->lZ->oX|0,_=>none|n+1,a=>match a with|[a0,aG,a2,a3,a4]=>(match aG with| .ref x1 0=>(match a2 with| .ref c9 0=>(match a3 with| .ref b 0=>(match a4 with| .ref c 0=>kc (oz n) n a0 x1 c9 b c|_=>none)|_=>none)|_=>none)|_=>none)|_=>none
def AP:oX:=bF (cz 4 b)<|bF (cz 8 c)<|bF (cz 6 d)<|af (pL a [D.agg [ad d 0,ad d 1,ad d 2,ad d 3,ad d 4,ad d 5]]) λe=>db (aV false .neq e al) (some (D.aB [a7,e])) (af (nw a [ad c 0,D.agg [ad d 0,ad d 1,ad d 2,ad d 3,ad d 4,ad d 5]]) λe=>db (aV false .neq e al) (some (D.aB [a7,e])) (af (oz a [D.agg [ad d 0,ad d 1,ad d 2,ad d 3,ad d 4,ad d 5],.ref [ad b 0,ad b 1,ad b 2,ad b 3] 0,.ref [ad c 0,ad c 1,ad c 2,ad c 3,ad c 4,ad c 5,ad c 6,ad c 7] 0,s7 [ad b 0,ad b 1,ad b 2,ad b 3] [ad c 0,ad c 1,ad c 2,ad c 3,ad c 4,ad c 5,ad c 6,ad c 7] (nv [ad b 0,ad b 1,ad b 2,ad b 3]) a,nv [ad b 0,ad b 1,ad b 2,ad b 3]]) λa=>some (D.aB [a,al])))
def lC(n:Nat):lZ->oX|[a0,aG,a2]=>AP n a0 aG a2|_=>none
def acC:oX:=af (RK a []) λb=>aK 8 b<|af (pP a [eo b]) λc=>bT c λd=>bU c λc=>aK 4 d<|af (lC a [cc d,eo b,D.agg [aa 8,al,al,aD ⟨#[]⟩,a7,D.aw 6 [[bH,aa 2,bH,aD ⟨#[]⟩,a7,a7]]]]) λe=>bT e λf=>bU e λe=>af (lC a [cc d,eo b,D.agg [aa 8,al,al,aD ⟨#[]⟩,a7,D.aw 6 [[bH,aa 3,al,aD ⟨#[120]⟩,a7,a7]]]]) λg=>bT g λh=>bU g λg=>af (lC a [cc d,eo b,D.agg [aa 11,al,al,aD ⟨#[]⟩,a7,D.aw 6 [[bH,aa 3,al,aD ⟨#[120]⟩,a7,a7]]]]) λb=>bT b λd=>bU b λb=>aN .eql c al λc=>b7 c (aU (aV false .eql e al)) λc=>b7 c (aU (aV false .eql g al)) λc=>b7 c (aU (aV false .eql b al)) λb=>b7 b (af (mg a [f,D.aw 1 [[cf],[cf]]]) λb=>bF b.flat<|some b) λb=>b7 b (af (mg a [h,D.aw 1 [[bo],[bo]]]) λb=>bF b.flat<|some b) λb=>b7 b (af (mg a [d,D.aw 1 [[cf],[cf]]]) λa=>bF a.flat<|some a) λa=>some a
def s8:=yi (acC a)
def AQ(a:Nat)(b:lZ):b2:=fz (λa c d=>aM .lss c (aa (aF d).length) (bh a λe=>aN .lss c e λe=>b7 e (bO a c λe=>some e) λe=>ct d c λf=>bp e<|af (aF d)[f]? λg=>bu c λc=>av [a,c,D.aw 1 ((aF d).set f (dS g 0 [e]))]) (bx [ax d])) b
def RL:oX:=aK 4 b<|bh (ad b 0) λb=>af (e5 1 b b) λb=>af (aS (AQ a) a [c,al,D.aw 1 (List.replicate b [bo])])<|aH<|cu λa=>some (ax a)
def ku:=di (RL a)
def Fl(a:Nat)(b:lZ):b2:=cW (λa c=>aM .lss a (aa (aF c).length) (ct c a λd=>af (aF c)[d]? λe=>bu a λa=>av [a,D.aw 1 ((aF c).set d (dS e 0 [cf]))]) (bx [ax c])) b
def RM:oX:=aK 4 b<|bh (ad b 0) λb=>af (e5 1 b b) λb=>af (aS (Fl a) a [al,D.aw 1 (List.replicate b [bo])])<|aH<|cu λa=>some (ax a)
def s9:=cO (RM a)
def ta(a:Nat)(b:lZ):h1:=eL (λa c d e f g h i j=>bO f c λk=>bh k λk=>aM .lss d k (af (bO f c λk=>bO k d λk=>bO a k λl=>b7 l (ct i k λl=>cr i l λl=>aU (cd .not l)) λl=>af (a6 l (ct i k λl=>af (aF i)[l]? λm=>bp k<|bF (b1 ((aF j).length+([[k]]).length) 8)<|av [a,c,d,e,f,g,h,D.aw 1 ((aF i).set l (dS m 0 [cf])),D.aw 1 ((aF j)++[[k]])]) (av [a,c,d,e,f,g,h,ax i,ax j]))<|aH<|eL λc d k l m n o p q=>av [c,d,k,l,m,n,o,ax p,ax q])<|aH<|eL λc d k l m n o p q=>bu k λk=>av [c,d,k,l,m,n,o,ax p,ax q]) (bx [a,e,f,g,h,ax i,ax j])) b
def Fo:b2:=fR (λc d e f g h i=>aM .gtr (aa (aF i).length) al (af (ct i al λj=>cr i j λj=>af (hG (aF i).length (some bH) none) λk=>bF (decide (k.1+k.2<=(aF i).length))<|af (aS (ta a) a [c,j,al,d,e,f,g,ax h,D.aw 1 (((aF i).drop k.1).take k.2)])<|aH<|fR λa c d e f g i=>av [a,c,d,e,f,ax g,ax i])<|aH<|fR λa c d e f g i=>av [a,c,d,e,f,ax g,ax i]) (bx [ax h])) l
def RN:oX:=aK 4 b<|bh (ad b 0) λe=>af (e5 1 e e) λe=>bp c<|af (aS (Fo a) a [d,ad b 0,ad b 1,ad b 2,ad b 3,D.aw 1 (List.replicate e [bo]),D.aw 1 [[c]]])<|aH<|cu λa=>some (ax a)
def tb:=gH (RN a)
def wJ:Di:=iR (λc d e f g h i j k l m n=>aN .lss i (aa (aF n).length) λo=>b7 o (aU (cd .not h)) λo=>a6 o (bO f i λo=>b7 o (bO m i λo=>bO o g λo=>some o) λo=>b7 o (af (tb a [D.agg [j,k,l,m],i,c]) λa=>bO a e λa=>some a) λa=>bu i λi=>av [c,d,e,f,g,a,i,j,k,l,m,ax n]) (bx [c,d,e,f,g,h,j,k,l,m,ax n])) l
def wK:h1:=e7 (λc d e f g h i j k l=>aN .lss g d λm=>b7 m (ct l e λm=>cr l m λm=>some m) λm=>a6 m (af (af (aS (wJ a) a [c,d,e,f,g,bo,al,h,i,j,k,ax l])<|aH<|ho λa f g m n o p q r s t=>ct t g λu=>bp o<|af (aF t)[u]? λw=>av [a,f,g,m,n,p,q,r,s,D.aw 1 ((aF t).set u (dS w 0 [o]))])<|aH<|e7 λa f g m n o p q r s=>bu n λn=>av [a,f,g,m,n,o,p,q,r,ax s]) (bx [c,d,e,h,i,j,k,ax l])) l
def AR:b2:=u8 (λc d e f g h i j=>aM .lss e (aa (aF j).length) (af (bO c e λk=>db (cd .not k) (av [c,d,e,f,g,h,i,ax j]) (af (tb a [D.agg [f,g,h,i],e,c]) λk=>bO k e λl=>ct j e λm=>bp l<|af (aF j)[m]? λn=>af (aS (wK a) a [c,d,e,k,al,f,g,h,i,D.aw 1 ((aF j).set m (dS n 0 [l]))])<|aH<|u8 λa c d e f g h i=>av [a,c,d,e,f,g,h,ax i]))<|aH<|u8 λa c d e f g h i=>bu d λd=>av [a,c,d,e,f,g,h,ax i]) (bx [ax j])) l
def Kw:oX:=aK 4 b<|bh (ad b 3) λd=>aN .gtr d al λd=>af (a6 d (bO (ad b 3) al λd=>bh d λd=>av [c,d,ad b 0,ad b 1,ad b 2,ad b 3]) (av [c,al,ad b 0,ad b 1,ad b 2,ad b 3]))<|aH<|hn λb c d e f g=>bh d λh=>af (e5 1 h h) λh=>af (aS (AR a) a [b,c,al,d,e,f,g,D.aw 1 (List.replicate h [bo])])<|aH<|cu λa=>some (ax a)
def AS:=di (Kw a)
def AT(a:Nat)(b:lZ):h1:=e7 (λa c d e f g h i j k=>bh e λl=>aM .lss f l (ct k d λl=>cr k l λl=>af (cE l false (bO e f λm=>some m)) λm=>af (cE m true (bO c f λn=>some n)) λn=>cZ l (aU (en m n bo)) λl=>ct k d λm=>bp l<|af (aF k)[m]? λn=>bu f λf=>av [a,c,d,e,f,g,h,i,j,D.aw 1 ((aF k).set m (dS n 0 [l]))]) (bx [a,c,d,g,h,i,j,ax k])) b
def AU:b2:=u8 (λc d e f g h i j=>aM .lss e (aa (aF j).length) (af (bO c e λk=>db (cd .not k) (av [c,d,e,f,g,h,i,ax j]) (af (tb a [D.agg [f,g,h,i],e,c]) λk=>bO d e λl=>ct j e λm=>bp l<|af (aF j)[m]? λn=>af (aS (AT a) a [c,d,e,k,al,f,g,h,i,D.aw 1 ((aF j).set m (dS n 0 [l]))])<|aH<|u8 λa c d e f g h i=>av [a,c,d,e,f,g,h,ax i]))<|aH<|u8 λa c d e f g h i=>bu d λd=>av [a,c,d,e,f,g,h,ax i]) (bx [ax j])) l
def RO:oX:=aK 4 b<|af (ku a [cc b,c]) λc=>af (AS a [cc b,c]) λd=>bh c λe=>af (e5 1 e e) λe=>af (aS (AU a) a [c,d,al,ad b 0,ad b 1,ad b 2,ad b 3,D.aw 1 (List.replicate e [bo])])<|aH<|cu λa=>some (ax a)
def tc:=di (RO a)
def AV(a:Nat)(b:lZ):h1:=eL (λa c d e f g h i j=>bO g d λk=>bh k λk=>aM .lss e k (bO g d λk=>bO k e λk=>ct j d λl=>cr j l λl=>af (cE l false (bO a k λm=>some m)) λm=>af (cE m true (bO c k λk=>some k)) λk=>cZ l (aU (en m k bo)) λk=>ct j d λl=>bp k<|af (aF j)[l]? λm=>bu e λe=>av [a,c,d,e,f,g,h,i,D.aw 1 ((aF j).set l (dS m 0 [k]))]) (bx [a,c,d,f,g,h,i,ax j])) b
def Fp:b2:=u8 (λc d e f g h i j=>aM .lss e (aa (aF j).length) (af (af (aS (AV a) a [c,d,e,al,f,g,h,i,ax j])<|aH<|u8 λa c d e f g h i=>av [a,c,d,e,f,g,h,ax i])<|aH<|u8 λa c d e f g h i=>bu d λd=>av [a,c,d,e,f,g,h,ax i]) (bx [ax j])) l
def RP:oX:=aK 4 b<|af (ku a [cc b,c]) λc=>af (s9 a [cc b]) λd=>af (tc a [cc b,d]) λd=>bh c λe=>af (e5 1 e e) λe=>af (aS (Fp a) a [c,d,al,ad b 0,ad b 1,ad b 2,ad b 3,D.aw 1 (List.replicate e [bo])])<|aH<|cu λa=>some (ax a)
def Fq:=di (RP a)
def AW(a:Nat)(b:lZ):b2:=eL (λa c d e f g h i j=>aM .lss e (aa (aF j).length) (bO c e λk=>b7 k (bO d e λk=>some k) λk=>ct j e λl=>bp k<|af (aF j)[l]? λm=>bu e λe=>av [a,c,d,e,f,g,h,i,D.aw 1 ((aF j).set l (dS m 0 [k]))]) (bx [a,f,g,h,i,ax j])) b
def te(a:Nat)(b:lZ):Di:=eL (λa c d e f g h i j=>bO g d λk=>bh k λk=>aN .lss e k λk=>b7 k (bO a d λk=>some k) λk=>b7 k (ct j d λk=>cr j k λk=>aU (cd .not k)) λk=>a6 k (af (bO g d λk=>bO k e λk=>ct j k λk=>cr j k λk=>af (a6 k (ct j d λk=>af (aF j)[k]? λl=>av [a,cf,d,e,f,g,h,i,D.aw 1 ((aF j).set k (dS l 0 [cf]))]) (av [a,c,d,e,f,g,h,i,ax j]))<|aH<|eL λe k l m n o p q r=>av [e,k,l,m,n,o,p,q,ax r])<|aH<|eL λe k l m n o p q r=>bu m λm=>av [e,k,l,m,n,o,p,q,ax r]) (bx [a,c,d,f,g,h,i,ax j])) b
def AX:h1:=u8 (λc d e f g h i j=>aM .lss e (aa (aF j).length) (af (af (aS (te a) a [c,d,e,al,f,g,h,i,ax j])<|aH<|u8 λa e k l m n o p=>av [a,e,k,l,m,n,o,ax p])<|aH<|u8 λa e k l m n o p=>bu k λk=>av [a,e,k,l,m,n,o,ax p]) (bx [c,d,f,g,h,i,ax j])) l
def AY:b2:=fR (λc d e f g h i=>a6 d (af (af (aS (AX a) a [c,bo,al,e,f,g,h,ax i])<|aH<|fR λa c d e f g h=>av [a,c,d,e,f,g,ax h])<|aH<|fR λa c d e f g h=>av [a,c,d,e,f,g,ax h]) (bx [ax i])) l
def RQ:oX:=aK 4 b<|af (ku a [cc b,c]) λc=>af (ku a [cc b,d]) λd=>af (s9 a [cc b]) λe=>af (tc a [cc b,e]) λe=>bh c λf=>af (e5 1 f f) λf=>af (aS (AW a) a [c,d,e,al,ad b 0,ad b 1,ad b 2,ad b 3,D.aw 1 (List.replicate f [bo])])<|aH<|hn λb c d e f g=>af (aS (AY a) a [b,cf,c,d,e,f,ax g])<|aH<|cu λa=>some (ax a)
def Ft:=gH (RQ a)
def RR:oX:=aK 4 b<|aU (tc a [cc b,c])
def Fu:=di (RR a)
def Kx:oX:=aK 8 b<|af (q9 a [eo b]) λb=>bT b λe=>bU b λf=>af (eJ 2 b) λg=>af (eJ 3 b) λb=>aK 4 e<|aK 4 f<|db (cd .not b) (some bo) (db (cd .not g) (aU (s8 a [])) (af (sE a [cc e,c]) λb=>af (tc a [cc f,c]) λg=>af (mg a [b,g]) λb=>b7 b (af (sF a [cc e,c]) λb=>af (Fq a [cc f,c]) λg=>aU (mg a [b,g])) λb=>b7 b (af (pB a [cc e,c,d]) λb=>af (ku a [cc f,c]) λg=>af (ku a [cc f,d]) λd=>af (Ft a [cc f,g,d]) λd=>aU (mg a [b,d])) λb=>b7 b (af (qW a [cc e,c]) λb=>af (Fu a [cc f,c]) λc=>aU (mg a [b,c])) λb=>b7 b (aU (s8 a [])) λa=>some a))
def Fv:=gH (Kx a)
def RS(a:Nat)(b:D):oX:=aK 6 b<|aK 6 (D.agg [ad b 0,ad b 1,ad b 2,ad b 3,ad b 4,ad b 5])<|some (D.agg [aa 2,al,al,aD ⟨#[]⟩,a7,D.aw 6 [[ad b 0,ad b 1,ad b 2,ad b 3,ad b 4,ad b 5]]])
def kv:=cO (RS a)
def RT(a:Nat)(b c:D):oX:=aK 6 c<|aK 6 (D.agg [ad c 0,ad c 1,ad c 2,ad c 3,ad c 4,ad c 5])<|bp b<|bp b<|some (D.agg [b,al,al,aD ⟨#[]⟩,a7,D.aw 6 [[ad c 0,ad c 1,ad c 2,ad c 3,ad c 4,ad c 5]]])
def oA:=di (RT a)
def RU(a:Nat)(b c d:D):oX:=aK 6 c<|aK 6 d<|aK 6 (D.agg [ad c 0,ad c 1,ad c 2,ad c 3,ad c 4,ad c 5])<|aK 6 (D.agg [ad d 0,ad d 1,ad d 2,ad d 3,ad d 4,ad d 5])<|bp b<|bp b<|some (D.agg [b,al,al,aD ⟨#[]⟩,a7,D.aw 6 [[ad c 0,ad c 1,ad c 2,ad c 3,ad c 4,ad c 5],[ad d 0,ad d 1,ad d 2,ad d 3,ad d 4,ad d 5]]])
def pQ:=gH (RU a)
def Ky(d:lZ)(e:lZ):oX:=aK 6 b<|aK 6 c<|af (aR true 4 0 d) λf=>af (aR true 8 0 e) λg=>af (lC a [f,g,D.agg [ad b 0,ad b 1,ad b 2,ad b 3,ad b 4,ad b 5]]) λb=>bT b λf=>bU b λb=>af (aR true 4 0 d) λd=>af (aR true 8 0 e) λe=>af (lC a [d,e,D.agg [ad c 0,ad c 1,ad c 2,ad c 3,ad c 4,ad c 5]]) λc=>bT c λd=>bU c λc=>aN .eql b c λb=>b7 b (aU (mg a [f,d])) λa=>some a
def pR(n:Nat):lZ->oX|[a0,aG,a2,a3]=>(match a2 with| .ref c9 0=>(match a3 with| .ref a 0=>Ky n a0 aG c9 a|_=>none)|_=>none)|_=>none
def wL:oX:=aK 8 b<|aK 6 c<|aK 6 d<|af (q9 a [eo b]) λe=>bT e λf=>bU e λg=>af (eJ 2 e) λh=>af (eJ 3 e) λe=>aK 4 f<|aK 4 g<|db (cd .not e) (some bo) (af (cd .not h) λe=>cZ e (af (wH a [D.agg [ad c 0,ad c 1,ad c 2,ad c 3,ad c 4,ad c 5],aa 6]) λe=>aU (cd .not e)) λe=>cZ e (af (wH a [D.agg [ad d 0,ad d 1,ad d 2,ad d 3,ad d 4,ad d 5],aa 6]) λe=>aU (cd .not e)) λe=>a6 e (aU (s8 a [])) (aK 6 (D.agg [ad c 0,ad c 1,ad c 2,ad c 3,ad c 4,ad c 5])<|aK 6 (D.agg [ad d 0,ad d 1,ad d 2,ad d 3,ad d 4,ad d 5])<|af (lC a [cc f,eo b,D.agg [aa 3,al,al,aD ⟨#[]⟩,a7,D.aw 6 [[ad c 0,ad c 1,ad c 2,ad c 3,ad c 4,ad c 5],[ad d 0,ad d 1,ad d 2,ad d 3,ad d 4,ad d 5]]]]) λe=>bT e λg=>bU e λe=>aM .neq e al (aU (s8 a [])) (af (kv a [D.agg [ad d 0,ad d 1,ad d 2,ad d 3,ad d 4,ad d 5]]) λe=>af (oA a [aa 8,e]) λe=>af (kv a [D.agg [ad d 0,ad d 1,ad d 2,ad d 3,ad d 4,ad d 5]]) λg=>af (kv a [D.agg [ad c 0,ad c 1,ad c 2,ad c 3,ad c 4,ad c 5]]) λh=>af (kv a [D.agg [ad d 0,ad d 1,ad d 2,ad d 3,ad d 4,ad d 5]]) λi=>af (pQ a [aa 3,h,i]) λh=>af (pQ a [aa 9,g,h]) λg=>af (pQ a [aa 4,e,g]) λe=>aK 6 e<|af (oA a [aa 10,D.agg [ad c 0,ad c 1,ad c 2,ad c 3,ad c 4,ad c 5]]) λg=>af (kv a [D.agg [ad c 0,ad c 1,ad c 2,ad c 3,ad c 4,ad c 5]]) λh=>af (oA a [aa 6,h]) λh=>af (kv a [h]) λh=>af (pR a [g,h,D.ref [ad f 0,ad f 1,ad f 2,ad f 3] 0,D.ref [ad b 0,ad b 1,ad b 2,ad b 3,ad b 4,ad b 5,ad b 6,ad b 7] 0]) λg=>bF g.flat<|b7 g (af (oA a [aa 11,D.agg [ad c 0,ad c 1,ad c 2,ad c 3,ad c 4,ad c 5]]) λg=>af (kv a [D.agg [ad c 0,ad c 1,ad c 2,ad c 3,ad c 4,ad c 5]]) λh=>af (oA a [aa 8,h]) λh=>af (kv a [h]) λh=>af (pR a [g,h,D.ref [ad f 0,ad f 1,ad f 2,ad f 3] 0,D.ref [ad b 0,ad b 1,ad b 2,ad b 3,ad b 4,ad b 5,ad b 6,ad b 7] 0]) λg=>bF g.flat<|some g) λg=>b7 g (af (oA a [aa 12,D.agg [ad c 0,ad c 1,ad c 2,ad c 3,ad c 4,ad c 5]]) λg=>af (kv a [D.agg [ad c 0,ad c 1,ad c 2,ad c 3,ad c 4,ad c 5]]) λh=>af (oA a [aa 7,h]) λh=>af (kv a [h]) λh=>af (pR a [g,h,D.ref [ad f 0,ad f 1,ad f 2,ad f 3] 0,D.ref [ad b 0,ad b 1,ad b 2,ad b 3,ad b 4,ad b 5,ad b 6,ad b 7] 0]) λg=>bF g.flat<|some g) λg=>b7 g (af (pQ a [aa 13,D.agg [ad c 0,ad c 1,ad c 2,ad c 3,ad c 4,ad c 5],D.agg [ad d 0,ad d 1,ad d 2,ad d 3,ad d 4,ad d 5]]) λg=>af (kv a [D.agg [ad e 0,ad e 1,ad e 2,ad e 3,ad e 4,ad e 5]]) λe=>af (pR a [g,e,D.ref [ad f 0,ad f 1,ad f 2,ad f 3] 0,D.ref [ad b 0,ad b 1,ad b 2,ad b 3,ad b 4,ad b 5,ad b 6,ad b 7] 0]) λe=>bF e.flat<|some e) λe=>b7 e (af (pQ a [aa 5,D.agg [ad c 0,ad c 1,ad c 2,ad c 3,ad c 4,ad c 5],D.agg [ad d 0,ad d 1,ad d 2,ad d 3,ad d 4,ad d 5]]) λe=>af (kv a [D.agg [ad c 0,ad c 1,ad c 2,ad c 3,ad c 4,ad c 5]]) λc=>af (pQ a [aa 4,c,D.agg [ad d 0,ad d 1,ad d 2,ad d 3,ad d 4,ad d 5]]) λc=>af (pR a [e,c,D.ref [ad f 0,ad f 1,ad f 2,ad f 3] 0,D.ref [ad b 0,ad b 1,ad b 2,ad b 3,ad b 4,ad b 5,ad b 6,ad b 7] 0]) λb=>bF b.flat<|some b) λb=>b7 b (aU (s8 a [])) λa=>some a)))
def tg:=gH (wL a)
end Go.Am
