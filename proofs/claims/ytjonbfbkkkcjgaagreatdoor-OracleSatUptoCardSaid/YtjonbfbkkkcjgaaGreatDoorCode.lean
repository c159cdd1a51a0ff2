/- What each function of the seat computes, on data. No condition. -/
import Derived.Test.YtjonbfbkkkcjgaaGreatDoorEngC
import Derived.Test.YtjonbfbkkkcjgaaGreatDoorHd
set_option linter.all false
set_option linter.unnecessarySimpa false
namespace Go.Am
abbrev bZ:=Option (lZ⊕(lZ⊕D))
abbrev hW:=Option (lZ⊕(lZ⊕(lZ⊕(lZ⊕(lZ⊕D)))))
abbrev jJ:=oY
abbrev mU:=Option (lZ⊕(lZ⊕lZ))
abbrev De:=Option (lZ⊕(lZ⊕(lZ⊕(lZ⊕(lZ⊕(lZ⊕(lZ⊕(lZ⊕D))))))))
abbrev ef(a:Type):=D->D->D->D->D->a
section
variable{β:Type}
abbrev cr(F:D->β)(l:lZ):=F (bG l 0)
abbrev cV(F:D->D->β)(l:lZ):=F (bG l 0) (bG l 1)
abbrev fp(F:D->D->D->β)(l:lZ):=F (bG l 0) (bG l 1) (bG l 2)
abbrev dP(F:D->D->D->D->β)(l:lZ):=F (bG l 0) (bG l 1) (bG l 2) (bG l 3)
abbrev fG(F:ef β)(l:lZ):=F (bG l 0) (bG l 1) (bG l 2) (bG l 3) (bG l 4)
abbrev hn(F:ef (D->β))(l:lZ):=fG F l (bG l 5)
abbrev fN(F:ef (D->D->β))(l:lZ):=hn F l (bG l 6)
abbrev u8(F:ef (D->D->D->β))(l:lZ):=fN F l (bG l 7)
abbrev eO(F:ef (D->D->D->D->β))(l:lZ):=u8 F l (bG l 8)
abbrev e5(F:ef (ef β))(l:lZ):=eO F l (bG l 9)
abbrev gX(F:ef (ef (D->β)))(l:lZ):=e5 F l (bG l 10)
abbrev iO(F:ef (ef (D->D->β)))(l:lZ):=gX F l (bG l 11)
abbrev gL(F:ef (ef (D->D->D->β)))(l:lZ):=iO F l (bG l 12)
abbrev lu(F:ef (ef (D->D->D->D->β)))(l:lZ):=gL F l (bG l 13)
abbrev kT(F:ef (ef (ef β)))(l:lZ):=lu F l (bG l 14)
abbrev u16(F:ef (ef (ef (D->β))))(l:lZ):=kT F l (bG l 15)
abbrev uR(F:ef (ef (ef (D->D->β))))(l:lZ):=u16 F l (bG l 16)
abbrev Df(F:ef (ef (ef (D->D->D->β))))(l:lZ):=uR F l (bG l 17)
abbrev sy(F:ef (ef (ef (D->D->D->D->β))))(l:lZ):=Df F l (bG l 18)
abbrev yA(F:ef (ef (ef (ef β))))(l:lZ):=sy F l (bG l 19)
abbrev Jv(F:ef (ef (ef (ef (ef (D->β))))))(l:lZ):=yA F l (bG l 20) (bG l 21) (bG l 22) (bG l 23) (bG l 24) (bG l 25)
abbrev Jw(F:ef (ef (ef (ef (ef (D->D->β))))))(l:lZ):=Jv F l (bG l 26)
end
attribute [simp, go_sem] cr cV fp dP fG hn fN u8 eO e5 gX iO gL lu kT u16 uR Df sy yA Jv Jw
variable(a:Nat)(b c d e f g:D)(l:lZ)
def yB:lZ:=[aD ⟨#[65]⟩,aD ⟨#[65,70]⟩,aD ⟨#[65,71]⟩,aD ⟨#[65,88]⟩,aD ⟨#[69]⟩,aD ⟨#[69,70]⟩,aD ⟨#[69,71]⟩,aD ⟨#[69,88]⟩,aD ⟨#[85]⟩,aD ⟨#[98,111,111,108]⟩,aD ⟨#[100,101,102]⟩,aD ⟨#[101,108,115,101]⟩,aD ⟨#[102,97,105,114]⟩,aD ⟨#[102,97,108,115,101]⟩,aD ⟨#[105,102]⟩,aD ⟨#[105,110,105,116]⟩,aD ⟨#[105,110,118,97,114]⟩,aD ⟨#[109,111,100]⟩,aD ⟨#[110,101,120,116]⟩,aD ⟨#[115,112,101,99]⟩,aD ⟨#[116,104,101,110]⟩,aD ⟨#[116,114,97,110,115]⟩,aD ⟨#[116,114,117,101]⟩,aD ⟨#[118,97,114]⟩]
abbrev j7:=34
abbrev Dg:=36
abbrev j8:=37
abbrev uS:=38
abbrev uT:=40
abbrev uU:=41
abbrev uV:=42
abbrev uW:=44
abbrev uX:=45
abbrev yC:=55
abbrev yD:=56
abbrev n8:=72
abbrev Qe:=76
abbrev sz:=81
abbrev uY:=85
abbrev hG:=90
abbrev Qf:=95
abbrev Qg:=98
abbrev u0:=123
abbrev n9:=157
abbrev Qh:=164
abbrev Qi:=166
abbrev yE:=210
abbrev Dh:=216
abbrev qJ:=236
abbrev qK:=237
abbrev mV:=260
abbrev na:=262
abbrev u1:=268
abbrev u2:=280
abbrev nb:=282
abbrev nc:=288
def Qj(a:Nat)(b:D):oX:=aN .eql b bE λa=>af (a6 a (av [b,a]) (aN .eql b (aa 2) λa=>af (a6 a (av [b,a]) (aN .eql b (aa 3) λa=>af (a6 a (av [b,a]) (aN .eql b (aa 4) λa=>av [b,a]))<|aI<|cV λa b=>av [a,b]))<|aI<|cV λa b=>av [a,b]))<|aI<|cV λa b=>a6 b (some (D.aC [al,al])) (aL .eql a (aa 5) (some (D.aC [bE,bE])) (aN .eql a (aa 6) λb=>af (a6 b (av [a,b]) (aN .eql a (aa 7) λb=>av [a,b]))<|aI<|cV λa b=>a6 b (some (D.aC [bE,aa 64])) (aN .eql a (aa 8) λb=>af (a6 b (av [a,b]) (aN .eql a (aa 9) λb=>af (a6 b (av [a,b]) (aN .eql a (aa 10) λb=>af (a6 b (av [a,b]) (aN .eql a (aa 11) λb=>af (a6 b (av [a,b]) (aN .eql a (aa 12) λb=>af (a6 b (av [a,b]) (aN .eql a (aa 13) λb=>af (a6 b (av [a,b]) (aN .eql a (aa 14) λb=>af (a6 b (av [a,b]) (aN .eql a (aa 15) λb=>af (a6 b (av [a,b]) (aN .eql a (aa 16) λb=>af (a6 b (av [a,b]) (aN .eql a (aa 17) λb=>av [a,b]))<|aI<|cV λa b=>av [a,b]))<|aI<|cV λa b=>av [a,b]))<|aI<|cV λa b=>av [a,b]))<|aI<|cV λa b=>av [a,b]))<|aI<|cV λa b=>av [a,b]))<|aI<|cV λa b=>av [a,b]))<|aI<|cV λa b=>av [a,b]))<|aI<|cV λa b=>av [a,b]))<|aI<|cV λa b=>a6 b (some (D.aC [aa 2,aa 2])) (aL .eql a (aa 18) (some (D.aC [aa 3,aa 3])) (some (D.aC [aa (-1),aa (-1)]))))))
def Di:=cO (Qj a)
def Qk:oX:=aM 4 b<|af (Di a [ae b 0]) λa=>bT a λc=>bU a λa=>aL .lss c al (some (aa 11)) (af (aN .eql (ae b 0) bE λd=>af (a6 d (av [c,a,aa (-255),aa 255,ae b 0,ae b 1,ae b 2,ae b 3]) (aN .eql (ae b 0) (aa 2) λd=>af (a6 d (av [c,a,al,bE,ae b 0,ae b 1,ae b 2,ae b 3]) (av [c,a,al,al,ae b 0,ae b 1,ae b 2,ae b 3]))<|aI<|u8 λa b c d e f g h=>av [a,b,c,d,e,f,g,h]))<|aI<|u8 λa b c d e f g h=>av [a,b,c,d,e,f,g,h])<|aI<|u8 λa b c d e f g h=>aN .eql e (aa 3) λi=>c0 i (aT (aW false .eql e (aa 4))) λe=>aN .lss f c λc=>c0 c (aT (aW false .gtr f d)) λc=>a6 c (some (aa 2)) (af (cE e true (aT (aW false .eql g (aD ⟨#[]⟩)))) λc=>af (cE c false (af (lg g) λd=>aT (aW false .gtr d (aa 24)))) λd=>cb e (aT (en c cf d)) λc=>af (cE c false (aT (cd .not e))) λd=>af (cE d true (aT (aW false .neq g (aD ⟨#[]⟩)))) λe=>c0 c (aT (en d e bo)) λc=>a6 c (some (aa 12)) (bf h λc=>aN .lss c a λa=>c0 a (bf h λa=>aT (aW false .gtr a b)) λa=>a6 a (some (aa 3)) (some al))))
def Dj:=cO (Qk a)
def yG:jJ:=fp (λc d e=>aM 4 c<|bs e λe=>bu e<|aN .gtr d (aa 64) λd=>af (a6 d (av [aa 17,e]) (af (Dj a [b7 c]) λa=>bu a<|aN .eql a al λc=>cb c (aT (aW false .gtr e (aa 4096))) λc=>af (a6 c (av [aa 4,e]) (av [a,e]))<|aI<|cV λa c=>av [a,c]))<|aI<|cV λa c=>aN .eql a al λd=>some [d,c,a]) l
def yH(a:Nat)(b:lZ):bZ:=dP (λa c d e=>aL .lss d c (af (af (ba 4 a d) λf=>af (aQ true 4 0 f) λf=>aM 4 f<|af (gT (.string) (.int .i64 0) true (dU e) (ae f 0)) λg=>bT g λh=>bU g λg=>af (cd .not g) λg=>af (a6 g (af (l0 (.string) (dU e) (ae f 0) d) λf=>av [a,c,d,D.mp f]) (av [a,c,d,D.mp (dU e)]))<|aI<|dP λa c d f=>av [a,c,d,D.mp (dU f)])<|aI<|dP λa c d f=>bs d λd=>av [a,c,d,D.mp (dU f)]) (bw [D.mp (dU e)])) b
def Ql:oX:=bf b λc=>af (aR (yH a) a [b,c,al,D.mp []])<|aI<|cr λa=>some (D.mp (dU a))
def yI:=cO (Ql a)
def Qm(a:Nat)(b c:D):oX:=aN .lss b (aa (-1048576)) λa=>c0 a (aT (aW false .gtr c (aa 1048576))) λa=>c0 a (aT (aW false .gtr b c)) λa=>c0 a (aN .sub c b λa=>aT (aW false .gtr a (aa 4096))) λa=>a6 a (some (D.aC [D.agg [bo,al,al],aa 2])) (bu b<|bu c<|aM 3 (D.agg [bo,b,c])<|some (D.aC [D.agg [bo,b,c],al]))
def pw:=db (Qm a)
def yJ(a:Nat)(b:lZ):bZ:=hn (λa c d e f g=>aL .lss d c (af (ba 3 a d) λh=>af (aQ true 3 0 h) λh=>aM 3 h<|dd (cd .not (ae h 0)) (aY (aY (some (D.aC [D.agg [bo,al,al],aa 13])))) (bs d λd=>av [a,c,d,e,f,g])) (bw [e,f,g])) b
def Qn(n:Nat)(a0:D):oX:=bf a0 λa=>af (aR (yJ n) n [a0,a,al,bo,al,al])<|aI λ_=>some (D.aC [D.agg [cf,al,al],al])
def Dk:=cO (Qn a)
def Dl:oX:=aM 3 c<|aM 3 d<|aN .eql b (aa 15) λe=>af (a6 e (af (cd .neg (ae d 2)) λe=>af (cd .neg (ae d 1)) λf=>bu e<|bu f<|aM 3 (D.agg [bo,e,f])<|av [aa 14,ae c 0,ae c 1,ae c 2,bo,e,f,bo,al,al]) (av [b,ae c 0,ae c 1,ae c 2,ae d 0,ae d 1,ae d 2,bo,al,al]))<|aI<|fN λb c d e f g h=>aL .eql b (aa 14) (aN .add d g λb=>aN .add e h λc=>af (pw a [b,c]) λb=>bT b λc=>bU b λb=>aM 3 c<|some (D.aC [D.agg [ae c 0,ae c 1,ae c 2],b])) (aN .mul d g λb=>aN .mul d h λc=>aN .mul e g λd=>aN .mul e h λe=>af (hU false [b,c,d,e]) λf=>af (hU true [b,c,d,e]) λb=>af (pw a [f,b]) λa=>bT a λb=>bU a λa=>aM 3 b<|some (D.aC [D.agg [ae b 0,ae b 1,ae b 2],a]))
def u3:=gV (Dl a)
def oa:oX:=aM 4 d<|af (aL .eql (ae d 0) bE (af (pw a [ae d 1,ae d 1]) λg=>bT g λh=>bU g λg=>aM 3 h<|aY (some (D.aC [D.agg [ae h 0,ae h 1,ae h 2],g]))) (aL .eql (ae d 0) (aa 2) (aY (some (D.aC [D.agg [cf,al,al],al]))) (aN .eql (ae d 0) (aa 3) λg=>af (a6 g (av [b,c,e,f,ae d 0,g,ae d 0,ae d 1,ae d 2,ae d 3,bo,al,al]) (aN .eql (ae d 0) (aa 4) λg=>av [b,c,e,f,ae d 0,g,ae d 0,ae d 1,ae d 2,ae d 3,bo,al,al]))<|aI<|gL λb c d e f g h i j k l m n=>a6 g (af (jx c) λc=>af (gT (.string) (.int .i64 0) true c j) λc=>bT c λg=>bU c λc=>dd (cd .not c) (aY (some (D.aC [D.agg [bo,al,al],aa 12]))) (aN .eql h (aa 4) λc=>cb c (aT (cd .not d)) λc=>a6 c (aY (some (D.aC [D.agg [bo,al,al],aa 24]))) (af (ba 4 b g) λc=>dd (aQ false 1 1 c) (aY (some (D.aC [D.agg [cf,al,al],al]))) (af (ba 4 b g) λc=>af (aQ false 1 2 c) λc=>af (ba 4 b g) λb=>af (aQ false 1 3 b) λb=>af (pw a [c,b]) λb=>bT b λc=>bU b λb=>aM 3 c<|aY (some (D.aC [D.agg [ae c 0,ae c 1,ae c 2],b])))))) (aN .eql f (aa 5) λb=>af (a6 b (av [e,f,b,h,i,j,k,l,m,n]) (aN .eql f (aa 6) λb=>af (a6 b (av [e,f,b,h,i,j,k,l,m,n]) (aN .eql f (aa 7) λb=>af (a6 b (av [e,f,b,h,i,j,k,l,m,n]) (aN .eql f (aa 8) λb=>af (a6 b (av [e,f,b,h,i,j,k,l,m,n]) (aN .eql f (aa 9) λb=>av [e,f,b,h,i,j,k,l,m,n]))<|aI<|e5 λb c d e f g h i j k=>av [b,c,d,e,f,g,h,i,j,k]))<|aI<|e5 λb c d e f g h i j k=>av [b,c,d,e,f,g,h,i,j,k]))<|aI<|e5 λb c d e f g h i j k=>av [b,c,d,e,f,g,h,i,j,k]))<|aI<|e5 λb c d e f g h i j k=>a6 d (af (Dk a [b]) λd=>bT d λl=>bU d λd=>aM 3 l<|aY (some (D.aC [D.agg [ae l 0,ae l 1,ae l 2],d]))) (aL .eql c (aa 18) (af (ba 3 b al) λd=>af (aQ false 1 0 d) λd=>af (cd .not d) λd=>c0 d (af (ba 3 b bE) λd=>af (aQ false 1 0 d) λd=>af (ba 3 b (aa 2)) λl=>af (aQ false 1 0 l) λl=>aT (aW true .neq d l)) λd=>a6 d (aY (some (D.aC [D.agg [bo,al,al],aa 13]))) (af (ba 3 b bE) λd=>dd (aQ false 1 0 d) (af (ba 3 b bE) λd=>af (aQ true 3 0 d) λd=>aM 3 d<|aY (some (D.aC [D.agg [ae d 0,ae d 1,ae d 2],al]))) (af (ba 3 b bE) λd=>af (aQ false 1 1 d) λd=>af (ba 3 b (aa 2)) λl=>af (aQ false 1 1 l) λl=>af (hU false [d,l]) λd=>af (ba 3 b bE) λl=>af (aQ false 1 2 l) λl=>af (ba 3 b (aa 2)) λm=>af (aQ false 1 2 m) λm=>af (hU true [l,m]) λl=>af (pw a [d,l]) λd=>bT d λl=>bU d λd=>aM 3 l<|aY (some (D.aC [D.agg [ae l 0,ae l 1,ae l 2],d]))))) (aN .eql c (aa 10) λd=>af (a6 d (av [b,d,e,f,g,h,i,j,k]) (aN .eql c (aa 11) λc=>av [b,c,e,f,g,h,i,j,k]))<|aI<|eO λb c d e f g h i j=>a6 c (af (ba 3 b al) λc=>af (aQ false 1 0 c) λc=>af (ba 3 b bE) λk=>af (aQ false 1 0 k) λk=>dd (aW true .neq c k) (aY (some (D.aC [D.agg [bo,al,al],aa 13]))) (aY (some (D.aC [D.agg [cf,al,al],al])))) (av [b,d,e,f,g,h,i,j])))))))<|aI<|u8 λb c d e f g h i=>af (ba 3 b al) λj=>af (aQ false 1 0 j) λj=>c0 j (af (ba 3 b bE) λj=>aT (aQ false 1 0 j)) λj=>a6 j (some (D.aC [D.agg [bo,al,al],aa 13])) (aN .eql c (aa 12) λj=>af (a6 j (av [b,c,j,c,d,e,f,g,h,i]) (aN .eql c (aa 13) λj=>av [b,c,j,c,d,e,f,g,h,i]))<|aI<|fN λb c d e f g h=>a6 d (some (D.aC [D.agg [cf,al,al],al])) (aL .eql c (aa 17) (af (ba 4 h bE) λc=>af (aQ true 4 0 c) λc=>aM 4 c<|aN .neq (ae c 0) bE λd=>c0 d (aT (aW false .lss (ae c 1) bE)) λc=>a6 c (some (D.aC [D.agg [bo,al,al],aa 2])) (af (ba 4 h bE) λc=>af (aQ false 1 1 c) λc=>aN .sub c bE λc=>af (pw a [al,c]) λc=>bT c λd=>bU c λc=>aM 3 d<|some (D.aC [D.agg [ae d 0,ae d 1,ae d 2],c]))) (af (ba 3 b al) λc=>af (aQ true 3 0 c) λc=>af (ba 3 b bE) λb=>af (aQ true 3 0 b) λb=>af (u3 a [e,c,b]) λa=>bT a λb=>bU a λa=>aM 3 b<|some (D.aC [D.agg [ae b 0,ae b 1,ae b 2],a]))))
def lv:=CX (oa a)
def u4(a:lZ->oX)(b:Nat)(c:lZ):bZ:=lu (λb d e f g h i j k l m n o p=>aL .lss h g (af (ba 4 f h) λq=>af (aQ true 4 0 q) λq=>aM 4 q<|af (a [b,d,b7 q,e]) λa=>bT a λq=>bU a λa=>aM 3 q<|aL .neq a al (aY (aY (some (D.aC [D.agg [bo,al,al],a])))) (aM 3 (D.agg [ae q 0,ae q 1,ae q 2])<|bJ (b2 ((aE p).length+([[ae q 0,ae q 1,ae q 2]]).length) 24)<|bs h λa=>av [b,d,e,f,g,a,i,j,k,l,m,n,o,D.aw 3 ((aE p)++[[ae q 0,ae q 1,ae q 2]])])) (bw [b,d,e,i,j,k,l,m,n,o,D.aw 3 (aE p)])) c
def Jx(a:lZ->oX)(b:Nat)(c d e f:D):oX:=aM 4 e<|bf (ae e 3) λg=>af (aR (u4 a b) b [c,d,f,ae e 3,g,al,ae e 0,ae e 1,ae e 2,ae e 3,bo,al,al,D.aw 3 []])<|aI<|gX λa c d e f g h i j k l=>af (lv b [a,c,D.agg [e,f,g,h],d,D.aw 3 (aE l)]) λa=>bJ a.flat<|bT a λb=>bU a λa=>aM 3 b<|some (D.aC [D.agg [ae b 0,ae b 1,ae b 2],a])
def ob:Nat->lZ->oX|0,_=>none|n+1,a=>match a with|[a0,aG,a2,a3]=>Jx (ob n) n a0 aG a2 a3|_=>none
def Qo(a:Nat)(b:D):oX:=a6 b (some (D.aC [bE,cf])) (some (D.aC [al,cf]))
def nd:=cO (Qo a)
def Qp(a:Nat)(b c:D):oX:=af (cd .not c) λa=>c0 a (aT (aW false .lss b (aa (-9007199254740992)))) λa=>c0 a (aT (aW false .gtr b (aa 9007199254740992))) λa=>a6 a (some (D.aC [al,bo])) (some (D.aC [b,cf]))
def Dm:=db (Qp a)
def Dn:oX:=aN .add b c λd=>aN .lss b al λe=>aN .lss c al λc=>af (aW true .neq e c) λc=>c0 c (aN .lss b al λb=>aN .lss d al λc=>aT (aW true .eql b c)) λb=>af (Dm a [d,b]) λa=>bT a λb=>bU a λa=>some (D.aC [b,a])
def qL:=db (Dn a)
def Jy(a:Nat)(b:D):oX:=aL .lss b al (af (j2 .u64 b) λa=>aT (cd .neg a)) (aT (j2 .u64 b))
def u5:=cO (Jy a)
def Jz(a:Nat)(b c:D):oX:=aN .and b (D.val (.int .u64 4294967295)) λa=>aN .shr b (D.val (.int .u64 32)) λd=>aN .and c (D.val (.int .u64 4294967295)) λe=>aN .shr c (D.val (.int .u64 32)) λf=>aN .mul a e λg=>aN .mul d e λe=>aN .shr g (D.val (.int .u64 32)) λg=>aN .add e g λe=>aN .and e (D.val (.int .u64 4294967295)) λg=>aN .shr e (D.val (.int .u64 32)) λe=>aN .mul a f λa=>aN .add g a λa=>aN .mul d f λd=>aN .add d e λd=>aN .shr a (D.val (.int .u64 32)) λa=>aN .add d a λa=>aN .mul b c λb=>some (D.aC [a,b])
def JA:=db (Jz a)
def yK:oX:=af (u5 a [b]) λd=>af (u5 a [c]) λe=>af (JA a [d,e]) λa=>bT a λd=>bU a λa=>aN .neq d (D.val (.int .u64 0)) λd=>c0 d (aT (aW false .gtr a (D.val (.int .u64 9007199254740992)))) λd=>a6 d (some (D.aC [al,bo])) (aN .lss b al λb=>aN .lss c al λc=>dd (aW true .neq b c) (af (j2 .i64 a) λb=>af (cd .neg b) λb=>some (D.aC [b,cf])) (af (j2 .i64 a) λa=>some (D.aC [a,cf])))
def sA:=db (yK a)
def yL(a:Nat)(b:lZ):bZ:=eO (λa c d e f g h i j=>aL .lss f e (bM d f λk=>aN .add c k λk=>bs f λf=>av [a,k,d,e,f,g,h,i,j]) (bw [a,c,g,h,i,j])) b
def iw:oX:=aM 4 b<|aL .eql (ae b 0) (aa 5) (bM c al λd=>aN .eql d al λd=>af (nd a [d]) λd=>bT d λe=>bU d λd=>some (D.aC [e,d])) (aL .eql (ae b 0) (aa 8) (bM c al λd=>aN .eql d al λd=>c0 d (bM c bE λd=>aT (aW false .neq d al)) λd=>af (nd a [d]) λd=>bT d λe=>bU d λd=>some (D.aC [e,d])) (aN .eql (ae b 0) (aa 9) λd=>af (a6 d (av [c,ae b 0,d,ae b 0,ae b 1,ae b 2,ae b 3]) (aN .eql (ae b 0) (aa 10) λd=>av [c,ae b 0,d,ae b 0,ae b 1,ae b 2,ae b 3]))<|aI<|fN λb c d e f g h=>a6 d (bM b al λd=>bM b bE λi=>aN .eql d i λd=>af (nd a [d]) λd=>bT d λi=>bU d λd=>some (D.aC [i,d])) (aL .eql c (aa 11) (bM b al λd=>bM b bE λi=>aN .neq d i λd=>af (nd a [d]) λd=>bT d λi=>bU d λd=>some (D.aC [i,d])) (aL .eql c (aa 12) (bM b al λd=>bM b bE λi=>aN .lss d i λd=>af (nd a [d]) λd=>bT d λi=>bU d λd=>some (D.aC [i,d])) (aL .eql c (aa 13) (bM b al λd=>bM b bE λi=>aN .leq d i λd=>af (nd a [d]) λd=>bT d λi=>bU d λd=>some (D.aC [i,d])) (aL .eql c (aa 14) (bM b al λd=>bM b bE λi=>af (qL a [d,i]) λd=>bT d λi=>bU d λd=>some (D.aC [i,d])) (aL .eql c (aa 15) (bM b al λd=>bM b bE λi=>af (cd .neg i) λi=>af (qL a [d,i]) λd=>bT d λi=>bU d λd=>some (D.aC [i,d])) (aL .eql c (aa 16) (bM b al λd=>bM b bE λi=>af (sA a [d,i]) λd=>bT d λi=>bU d λd=>some (D.aC [i,d])) (aL .eql c (aa 17) (bM b al λd=>bM b bE λi=>aN .rem d i λd=>bM b bE λi=>aN .add d i λd=>bM b bE λi=>aN .rem d i λd=>some (D.aC [d,cf])) (aL .eql c (aa 18) (bM b al λc=>aL .neq c al (bM b bE λc=>some (D.aC [c,cf])) (bM b (aa 2) λc=>some (D.aC [c,cf]))) (bf b λc=>af (aR (yL a) a [b,al,b,c,al,e,f,g,h])<|aI<|fp λb c d=>bf b λb=>aN .eql c b λb=>af (cE b false (aT (aW false .eql d (aa 7)))) λd=>af (cE d true (aT (aW false .gtr c al))) λc=>c0 b (aT (en d c bo)) λb=>af (nd a [b]) λa=>bT a λb=>bU a λa=>some (D.aC [b,a]))))))))))))
def hX:=db (iw a)
def yM(a:lZ->oY)(b:Nat)(c:lZ):mU:=iO (λb d e f g h i j k l m n=>aL .lss e d (af (ba 4 b e) λo=>af (aQ true 4 0 o) λo=>aM 4 o<|af (a [b7 o,f,g,h,i]) λa=>af (e0 0 (bG a 0)) λo=>af (e0 1 (bG a 0)) λp=>dd (cd .not p) (aY (aY (some [D.aC [al,bo],bG a 1,bG a 2,bG a 3,bG a 4]))) (bu o<|bJ (b2 ((aE n).length+([[o]]).length) 8)<|bs e λe=>av [b,d,e,bG a 1,bG a 2,bG a 3,bG a 4,j,k,l,m,D.aw 1 ((aE n)++[[o]])])) (bw [f,g,h,i,j,k,l,m,ay n])) c
def px(a:lZ->oY)(b:Nat)(c:lZ):jJ:=fG (λd e f g h=>aM 4 d<|bf (ae d 3) λi=>af (aR (yM a b) b [ae d 3,i,al,e,f,g,h,ae d 0,ae d 1,ae d 2,ae d 3,D.aw 1 []])<|aI<|eO λa d e f g h i j k=>aN .eql g bE λl=>af (a6 l (av [g,l,a,d,e,f,g,h,i,j,ay k]) (aN .eql g (aa 2) λl=>av [g,l,a,d,e,f,g,h,i,j,ay k]))<|aI<|gX λa d e f g h i j k l m=>a6 d (some [D.aC [j,cf],e,f,g,h]) (aN .eql a (aa 3) λd=>af (a6 d (av [d,e,f,g,h,i,j,k,l,ay m]) (aN .eql a (aa 4) λa=>av [a,e,f,g,h,i,j,k,l,ay m]))<|aI<|e5 λa d e f g h i j k l=>a6 a (af (jx e) λa=>af (gT (.string) (.int .i64 0) false a j) λa=>aN .eql h (aa 4) λm=>af (a6 m (av [f,a,g,d,e,f]) (av [d,a,g,d,e,f]))<|aI<|hn λa m n o p q=>bf a λr=>bf n λs=>aL .neq r s (some [D.aC [al,bo],o,p,q,n]) (af (ba 4 n m) λr=>dd (aQ false 1 1 r) (bM a m λr=>aN .neq r al λr=>af (nd b [r]) λr=>bT r λs=>bU r λr=>some [D.aC [s,r],o,p,q,n]) (bM a m λa=>af (qL b [a,al]) λa=>bT a λm=>bU a λa=>some [D.aC [m,a],o,p,q,n]))) (af (hX b [D.agg [h,i,j,k],ay l]) λa=>bJ a.flat<|bT a λb=>bU a λa=>some [D.aC [b,a],d,e,f,g]))) c
def py:Nat->lZ->oY|0,_=>none|n+1,l=>px (py n) n l
def JB(a:Nat)(b:D)(c:lZ):oX:=af (aQ false 1 0 c) λa=>bM a b λa=>aT (cd .not a)
def Dp(n:Nat):lZ->oX|[a0,aG]=>(match aG with| .ref x1 0=>JB n a0 x1|_=>none)|_=>none
def Dq:bZ:=dP (λc d e f=>aL .lss e d (af (Dp a [e,c]) λa=>cm f e λg=>bu a<|af (aE f)[g]? λh=>bs e λe=>av [c,d,e,D.aw 1 ((aE f).set g (dH h 0 [a]))]) (bw [ay f])) l
def JC:oX:=aM 4 b<|bf (ae b 0) λb=>af (eM 1 b b) λb=>af (aR (Dq a) a [c,aa (List.replicate b [bo]).length,al,D.aw 1 (List.replicate b [bo])])<|aI<|cr λa=>some (ay a)
def Dr(n:Nat):lZ->oX|[a0,aG]=>(match fM Dg aG with|some [a]=>JC n a0 a|_=>none)|_=>none
def JD(c:lZ):oX:=bu b<|af (aQ true 4 0 c) λc=>aT (Dr a [c,(D.fn (.func Dg) [] [D.ref [b] 0])])
def jK(n:Nat):lZ->oX|[a0,aG]=>(match aG with| .ref x1 0=>JD n a0 x1|_=>none)|_=>none
def JE(a:Nat)(b:D)(c:lZ)(d:lZ):oX:=af (aQ false 1 0 c) λa=>bM a b λa=>cb a (af (aQ false 1 0 d) λa=>bM a b λa=>some a) λa=>some a
def Ds(n:Nat):lZ->oX|[a0,aG,a2]=>(match aG with| .ref x1 0=>(match a2 with| .ref ds 0=>JE n a0 x1 ds|_=>none)|_=>none)|_=>none
def Dt:bZ:=fG (λc d e f g=>aL .lss f e (af (Ds a [f,c,d]) λa=>cm g f λh=>bu a<|af (aE g)[h]? λi=>bs f λf=>av [c,d,e,f,D.aw 1 ((aE g).set h (dH i 0 [a]))]) (bw [ay g])) l
def JF:oX:=aM 4 b<|bf (ae b 0) λb=>af (eM 1 b b) λb=>af (aR (Dt a) a [c,d,aa (List.replicate b [bo]).length,al,D.aw 1 (List.replicate b [bo])])<|aI<|cr λa=>some (ay a)
def u6(n:Nat):lZ->oX|[a0,aG]=>(match fM uT aG with|some [a,b]=>JF n a0 a b|_=>none)|_=>none
def JG(a:Nat)(b:D)(c:lZ)(d:lZ):oX:=af (aQ false 1 0 c) λa=>bM a b λa=>c0 a (af (aQ false 1 0 d) λa=>bM a b λa=>some a) λa=>some a
def Du(n:Nat):lZ->oX|[a0,aG,a2]=>(match aG with| .ref x1 0=>(match a2 with| .ref ds 0=>JG n a0 x1 ds|_=>none)|_=>none)|_=>none
def Dv:bZ:=fG (λc d e f g=>aL .lss f e (af (Du a [f,c,d]) λa=>cm g f λh=>bu a<|af (aE g)[h]? λi=>bs f λf=>av [c,d,e,f,D.aw 1 ((aE g).set h (dH i 0 [a]))]) (bw [ay g])) l
def JH:oX:=aM 4 b<|bf (ae b 0) λb=>af (eM 1 b b) λb=>af (aR (Dv a) a [c,d,aa (List.replicate b [bo]).length,al,D.aw 1 (List.replicate b [bo])])<|aI<|cr λa=>some (ay a)
def u7(n:Nat):lZ->oX|[a0,aG]=>(match fM uU aG with|some [a,b]=>JH n a0 a b|_=>none)|_=>none
def JI(a:Nat)(b:D)(c:lZ)(d:lZ):oX:=af (aQ false 1 0 c) λa=>bM a b λa=>af (cd .not a) λa=>c0 a (af (aQ false 1 0 d) λa=>bM a b λa=>some a) λa=>some a
def Dw(n:Nat):lZ->oX|[a0,aG,a2]=>(match aG with| .ref x1 0=>(match a2 with| .ref ds 0=>JI n a0 x1 ds|_=>none)|_=>none)|_=>none
def Dx:bZ:=fG (λc d e f g=>aL .lss f e (af (Dw a [f,c,d]) λa=>cm g f λh=>bu a<|af (aE g)[h]? λi=>bs f λf=>av [c,d,e,f,D.aw 1 ((aE g).set h (dH i 0 [a]))]) (bw [ay g])) l
def JJ:oX:=aM 4 b<|bf (ae b 0) λb=>af (eM 1 b b) λb=>af (aR (Dx a) a [c,d,aa (List.replicate b [bo]).length,al,D.aw 1 (List.replicate b [bo])])<|aI<|cr λa=>some (ay a)
def u9(n:Nat):lZ->oX|[a0,aG]=>(match fM uV aG with|some [a,b]=>JJ n a0 a b|_=>none)|_=>none
def Qq(a:Nat)(b c:D):oX:=aM 4 b<|bf (ae b 0) λa=>af (eM 1 a a) λa=>af (jw c) λb=>bJ (decide (b.1=1\/b.2=[]))<|some (D.aw 1 ((b.2).take (min (b.2).length (List.replicate a [bo]).length)++(List.replicate a [bo]).drop (min (b.2).length (List.replicate a [bo]).length)))
def sB:=db (Qq a)
def Qr(a:Nat)(b:D):oX:=some cf
def JK:=cO (Qr a)
def Dy:bZ:=fp (λc d e=>aL .lss d c (af (JK a [d]) λa=>cm e d λf=>bu a<|af (aE e)[f]? λg=>bs d λd=>av [c,d,D.aw 1 ((aE e).set f (dH g 0 [a]))]) (bw [ay e])) l
def JL:oX:=aM 4 b<|bf (ae b 0) λb=>af (eM 1 b b) λb=>af (aR (Dy a) a [aa (List.replicate b [bo]).length,al,D.aw 1 (List.replicate b [bo])])<|aI<|cr λa=>some (ay a)
def Dz(n:Nat):lZ->oX|[a0,aG]=>bJ (sf uY aG) (JL n a0)|_=>none
def Qs:oX:=aM 4 b<|aT (Dz a [b7 b,(D.val (.func (.func uY) #[] #[]))])
def qM:=cO (Qs a)
def DA(a:Nat)(b:D)(c:lZ):oX:=af (aQ false 1 0 c) λa=>bf a λa=>aN .lss b a λa=>cb a (af (aQ false 1 0 c) λa=>bM a b λa=>some a) λa=>some a
def qN(n:Nat):lZ->oX|[a0,aG]=>(match aG with| .ref x1 0=>DA n a0 x1|_=>none)|_=>none
def qO:hW:=fN (λc d e f g h i=>aL .gtr (aa (aE i).length) al (af (aN .sub (aa (aE i).length) bE λj=>cm i j λj=>af (aE i)[j]? λk=>af (aQ false 1 1 k) λk=>cu i j λl=>bM c l λl=>bf l λl=>aL .eql k l (cu i j λk=>bu k<|bJ (b2 ((aE g).length+([[k]]).length) 8)<|aN .sub (aa (aE i).length) bE λl=>af (hC (aE i).length none (some l)) λl=>bJ (decide (l.1+l.2<=(aE i).length))<|av [c,d,e,f,D.aw 1 ((aE g)++[[k]]),ay h,D.aw 2 (((aE i).drop l.1).take l.2)]) (cu i j λk=>bM c k λk=>af (aE i)[j]? λl=>af (aQ false 1 1 l) λl=>bM k l λk=>af (aE i)[j]? λl=>af (aQ false 1 1 l) λl=>bs l λl=>bu l<|af (aE i)[j]? λm=>af (qN a [k,d]) λa=>cb a (cm h k λa=>cu h a λa=>aT (cd .not a)) λa=>af (a6 a (cm h k λa=>af (aE h)[a]? λn=>bu k<|aM 2 (D.agg [k,al])<|bJ (b2 (((aE i).set j (dH m 1 [l])).length+([[k,al]]).length) 16)<|av [c,d,e,f,ay g,D.aw 1 ((aE h).set a (dH n 0 [cf])),D.aw 2 (((aE i).set j (dH m 1 [l]))++[[k,al]])]) (av [c,d,e,f,ay g,ay h,D.aw 2 ((aE i).set j (dH m 1 [l]))]))<|aI<|fN λa i j k l m n=>av [a,i,j,k,ay l,ay m,D.aw 2 (aE n)]))<|aI<|fN λa i j k l m n=>av [a,i,j,k,ay l,ay m,D.aw 2 (aE n)]) (bw [c,d,e,f,ay g,ay h])) l
def vb:bZ:=hn (λc d e f g h=>aL .lss f e (af (af (qN a [f,d]) λi=>af (cd .not i) λi=>c0 i (cm h f λi=>cu h i λi=>some i) λi=>a6 i (av [c,d,e,f,ay g,ay h]) (cm h f λi=>af (aE h)[i]? λj=>bu f<|aM 2 (D.agg [f,al])<|af (aR (qO a) a [c,d,e,f,ay g,D.aw 1 ((aE h).set i (dH j 0 [cf])),D.aw 2 [[f,al]]])<|aI<|hn λa c d e f h=>av [a,c,d,e,ay f,ay h]))<|aI<|hn λa c d e f h=>bs e λe=>av [a,c,d,e,ay f,ay h]) (bw [ay g])) l
def JM:oX:=bf b λd=>af (eM 1 d d) λd=>bf b λe=>af (aR (vb a) a [b,c,e,al,D.aw 1 [],D.aw 1 (List.replicate d [bo])])<|aI<|cr λa=>some (ay a)
def yN(n:Nat):lZ->oX|[a0,aG]=>(match fM hG aG with|some [a]=>JM n a0 a|_=>none)|_=>none
def oc(a:Nat)(b:lZ):jJ:=fp (λa c d=>aN .geq a al λe=>cb e (aT (aW false .lss a (aa (aE c).length))) λe=>cb e (cm c a λe=>cu c e λe=>aT (cd .not e)) λe=>af (a6 e (cm c a λe=>af (aE c)[e]? λf=>bu a<|bJ (b2 ((aE d).length+([[a]]).length) 8)<|av [D.aw 1 ((aE c).set e (dH f 0 [cf])),D.aw 1 ((aE d)++[[a]])]) (av [ay c,ay d]))<|aI<|cV λa c=>some [D.aC [],ay a,ay c]) b
def vc:jJ:=dP (λc d e f=>af (qN a [c,D.ref (dM d) 0]) λg=>af (a6 g (af (oc a [c,ay e,ay f]) λa=>av [D.agg (dM d),ay (bG a 1),ay (bG a 2)]) (av [D.agg (dM d),ay e,ay f]))<|aI<|fp λa c d=>some [D.aC [],D.agg (dM a),ay c,ay d]) l
def DB:mU:=hn (λc d e f g h=>aL .lss e d (bM c e λi=>af (vc a [i,D.agg (dM f),ay g,ay h]) λa=>bs e λe=>av [c,d,e,D.agg (dM (bG a 1)),ay (bG a 2),ay (bG a 3)]) (bw [D.agg (dM f),ay g,ay h])) l
def yO:jJ:=dP (λc d e f=>bf c λg=>af (aR (DB a) a [c,g,al,D.agg (dM d),ay e,ay f])<|aI<|fp λa c d=>some [D.aC [],D.agg (dM a),ay c,ay d]) l
def yP:hW:=u8 (λc d e f g h i j=>aL .gtr (aa (aE j).length) al (cm j al λk=>cu j k λk=>af (hC (aE j).length (some bE) none) λl=>bJ (decide (l.1+l.2<=(aE j).length))<|bu k<|bJ (b2 ((aE h).length+([[k]]).length) 8)<|bM d k λm=>af (yO a [m,D.agg (dM f),ay i,D.aw 1 (((aE j).drop l.1).take l.2)]) λa=>av [c,d,e,D.agg (dM (bG a 1)),ay g,D.aw 1 ((aE h)++[[k]]),ay (bG a 2),ay (bG a 3)]) (bw [c,d,e,D.agg (dM f),ay g,ay h,ay i,ay j])) l
def vd:bZ:=fN (λc d e f g h i=>aL .geq e al (af (bM c e λj=>cm h j λj=>cu h j λj=>a6 j (av [c,d,e,D.agg (dM f),ay g,ay h,ay i]) (bM c e λj=>af (oc a [j,ay h,ay i]) λh=>af (aR (yP a) a [c,d,e,D.agg (dM f),ay g,D.aw 1 [],ay (bG h 1),ay (bG h 2)])<|aI<|u8 λc d e f h i j k=>af (yy a [ay i]) λa=>bJ (c7 (ay (bG a 1)))<|bJ (b2 ((aE h).length+([[ay (bG a 1)]]).length) 24)<|av [c,d,e,D.agg (dM f),D.aw 1 ((aE h)++[[ay (bG a 1)]]),ay j,ay k]))<|aI<|fN λa c d e f h i=>aN .sub d bE λd=>av [a,c,d,D.agg (dM e),ay f,ay h,ay i]) (bw [ay g])) l
def Qt:oX:=aM 4 b<|bu c<|af (yN a [ae b 1,(D.fn (.func hG) [] [D.ref [c] 0])]) λd=>af (yz a [b7 b]) λe=>bf (ae b 0) λb=>af (eM 1 b b) λb=>bf d λf=>aN .sub f bE λf=>af (aR (vd a) a [d,e,f,D.agg [c],D.aw 1 [],D.aw 1 (List.replicate b [bo]),D.aw 1 []])<|aI<|cr λb=>af (uQ a [ay b]) λa=>some (ay (bG a 1))
def DC:=db (Qt a)
def yQ(a:Nat)(b:lZ):bZ:=eO (λa c d e f g h i j=>aL .lss e d (bM c e λk=>af (l0 (.int .i64) (dU j) k cf) λk=>bs e λe=>av [a,c,d,e,f,g,h,i,D.mp k]) (bw [a,f,g,h,i,D.mp (dU j)])) b
def ve(a:Nat)(b:lZ):hW:=gL (λa c d e f g h i j k l m n=>aL .lss i h (bM g i λo=>dd (gT (.int .i64) (.bool false) false (dU n) o) (aY (aY (aY (bw [a,cf,j,k,l,m])))) (bs i λi=>av [a,c,d,e,f,g,h,i,j,k,l,m,D.mp (dU n)])) (bw [a,c,d,e,f,j,k,l,m,D.mp (dU n)])) b
def vf:bZ:=e5 (λc d e f g h i j k l=>aL .lss g f (af (bM e g λm=>bM i m λm=>bf m λn=>af (aR (ve a) a [c,d,e,f,g,m,n,al,h,i,j,k,D.mp (dU l)])<|aI<|e5 λa e f g l m n o p q=>av [a,e,f,g,l,m,n,o,p,D.mp (dU q)])<|aI<|e5 λa e f g l m n o p q=>bs l λl=>av [a,e,f,g,l,m,n,o,p,D.mp (dU q)]) (bw [c,d,h,i,j,k])) l
def vg(a:Nat)(b:lZ):hW:=gX (λa c d e f g h i j k l=>aL .lss h g (bM f h λm=>bM l m λm=>bM m c λm=>a6 m (aY (bw [a,d,e,i,j,k,l])) (bs h λh=>av [a,c,d,e,f,g,h,i,j,k,l])) (bw [])) b
def vh(n:Nat)(l:lZ):bZ:=fN (λa c b e f g h=>aL .lss b c (af (bf a λd=>af (aR (vg n) n [a,b,c,b,a,d,al,e,f,g,h])<|aI λ_=>aY (aY (aY (some bo))))<|aI<|fN λa c b e f g h=>bs b λv75=>av [a,c,v75,e,f,g,h]) (bw [])) l
def DD(n:Nat)(a0 aG:D):oX:=aM 4 a0<|bf aG λc=>af (aR (yQ n) n [aG,aG,c,al,ae a0 0,ae a0 1,ae a0 2,ae a0 3,D.mp []])<|aI<|hn λa f g h i b=>bf a λd=>af (aR (vf n) n [a,bo,a,d,al,f,g,h,i,D.mp (dU b)])<|aI<|hn λa f g h i b=>dd (cd .not f) (some bo) (bM a al λv53=>bM b v53 λv55=>bf v55 λe=>af (aR (vh n) n [a,e,al,g,h,i,b])<|aI λ_=>some cf)
def vi:=db (DD a)
def yR(a:Nat)(b:lZ):jJ:=cV (λa c=>aM 4 a<|bf (ae a 0) λa=>af (eM 1 a a) λa=>af (jw c) λc=>bJ (decide (c.1=1\/c.2=[]))<|some [D.aw 1 ((c.2).take (min (c.2).length (List.replicate a [bo]).length)++(List.replicate a [bo]).drop (min (c.2).length (List.replicate a [bo]).length))]) b
def vj(a:Nat)(b:lZ):bZ:=eO (λa c d e f g h i j=>aL .lss d c (af (cm i d λk=>cu i k λk=>af (a6 k (bu d<|bJ (b2 ((aE j).length+([[d]]).length) 8)<|av [a,c,d,e,f,g,h,ay i,D.aw 1 ((aE j)++[[d]])]) (av [a,c,d,e,f,g,h,ay i,ay j]))<|aI<|eO λc d k l m n o p q=>av [c,d,k,l,m,n,o,ay p,ay q])<|aI<|eO λc d k l m n o p q=>bs k λk=>av [c,d,k,l,m,n,o,ay p,ay q]) (bw [a,e,f,g,h,ay i,ay j])) b
def sC(a:Nat)(b:lZ):hW:=fN (λa c d e f g h=>aL .lss f e (af (bM d f λi=>bM a i λj=>cb j (cm g i λj=>cu g j λj=>aT (cd .not j)) λj=>af (a6 j (cm g i λj=>af (aE g)[j]? λk=>bu i<|bJ (b2 ((aE h).length+([[i]]).length) 8)<|av [a,c,d,e,f,D.aw 1 ((aE g).set j (dH k 0 [cf])),D.aw 1 ((aE h)++[[i]])]) (av [a,c,d,e,f,ay g,ay h]))<|aI<|fN λd e f i j k l=>av [d,e,f,i,j,ay k,ay l])<|aI<|fN λd e f i j k l=>bs j λj=>av [d,e,f,i,j,ay k,ay l]) (bw [a,c,ay g,ay h])) b
def DE:bZ:=dP (λc d e f=>aL .gtr (aa (aE f).length) al (af (cm f al λg=>cu f g λg=>bM d g λg=>bf g λh=>af (aR (sC a) a [c,d,g,h,al,ay e,ay f])<|aI<|dP λa c d f=>av [a,c,ay d,ay f])<|aI<|dP λa c d f=>af (hC (aE f).length (some bE) none) λg=>bJ (decide (g.1+g.2<=(aE f).length))<|av [a,c,ay d,D.aw 1 (((aE f).drop g.1).take g.2)]) (bw [ay e])) l
def Qu:oX:=aM 4 b<|af (yR a [b7 b,d]) λd=>af (aR (vj a) a [c,aa (aE (bG d 0)).length,al,ae b 0,ae b 1,ae b 2,ae b 3,ay (bG d 0),D.aw 1 []])<|aI<|fN λb c d e f g h=>af (yz a [D.agg [c,d,e,f]]) λc=>af (aR (DE a) a [b,c,ay g,ay h])<|aI<|cr λa=>some (ay a)
def yS:=gV (Qu a)
def yU(a:Nat)(b:lZ):Option (lZ⊕(lZ⊕(lZ⊕(lZ⊕(lZ⊕(lZ⊕D)))))):=iO (λa c d e f g h i j k l m=>aL .lss h g (bM f h λn=>cm m n λn=>af (aE m)[n]? λo=>bs h λh=>av [a,c,d,e,f,g,h,i,j,k,l,D.aw 1 ((aE m).set n (dH o 0 [cf]))]) (bw [a,c,d,e,i,j,k,l,ay m])) b
def vk:bZ:=eO (λc d e f g h i j k=>aL .lss f e (af (bM d f λl=>af (vi a [D.agg [g,h,i,j],l]) λm=>af (a6 m (bf l λm=>af (aR (yU a) a [c,d,e,f,l,m,al,g,h,i,j,ay k])<|aI<|eO λa l m n o p q r s=>av [a,l,m,n,o,p,q,r,ay s]) (av [c,d,e,f,g,h,i,j,ay k]))<|aI<|eO λa d e f l m n o p=>av [a,d,e,f,l,m,n,o,ay p])<|aI<|eO λa d e f l m n o p=>bs f λf=>av [a,d,e,f,l,m,n,o,ay p]) (bw [c,g,h,i,j,ay k])) l
def Qv:oX:=aM 4 b<|af (sB a [b7 b,c]) λc=>bf c λd=>af (eM 1 d d) λd=>af (DC a [b7 b,c]) λe=>bf e λf=>af (aR (vk a) a [c,e,f,al,ae b 0,ae b 1,ae b 2,ae b 3,D.aw 1 (List.replicate d [bo])])<|aI<|hn λb c d e f g=>aT (yS a [D.agg [c,d,e,f],b,ay g])
def vl:=db (Qv a)
def vm(a:Nat)(b:lZ):bZ:=fG (λa c d e f=>aL .lss f e (bM d f λg=>af (aQ false 1 0 (dM a)) λh=>bM h g λh=>cb h (af (aQ false 1 0 (dM c)) λh=>bM h g λg=>some g) λg=>a6 g (aY (aY (some cf))) (bs f λf=>av [D.agg (dM a),D.agg (dM c),d,e,f])) (bw [])) b
def DF(n:Nat)(a0:D)(x1:lZ)(ds:lZ)(b:lZ):oX:=af (aQ false 1 1 x1) λv9=>bM v9 a0 λv12=>bf v12 λa=>af (aR (vm n) n [D.agg ds,D.agg b,v12,a,al])<|aI λ_=>some bo
def yV(n:Nat):lZ->oX|[a0,aG,a2,a3]=>(match aG with| .ref x1 0=>(match a2 with| .ref ds 0=>(match a3 with| .ref a 0=>DF n a0 x1 ds a|_=>none)|_=>none)|_=>none)|_=>none
def yW:bZ:=hn (λc d e f g h=>aL .lss g f (af (yV a [g,c,d,e]) λa=>cm h g λi=>bu a<|af (aE h)[i]? λj=>bs g λg=>av [c,d,e,f,g,D.aw 1 ((aE h).set i (dH j 0 [a]))]) (bw [ay h])) l
def JN:oX:=aM 4 b<|bf (ae b 0) λb=>af (eM 1 b b) λb=>af (aR (yW a) a [c,d,e,aa (List.replicate b [bo]).length,al,D.aw 1 (List.replicate b [bo])])<|aI<|cr λa=>some (ay a)
def yX(n:Nat):lZ->oX|[a0,aG]=>(match fM yC aG with|some [a,b,c]=>JN n a0 a b c|_=>none)|_=>none
def Qw:oX:=aM 4 b<|bu c<|af (sB a [b7 b,c]) λc=>bu c<|af (qM a [b7 b]) λd=>af (vl a [b7 b,d]) λd=>bu d<|aT (yX a [b7 b,(D.fn (.func yC) [] [D.ref [ae b 0,ae b 1,ae b 2,ae b 3] 0,D.ref [c] 0,D.ref [d] 0])])
def vn:=db (Qw a)
def JO(a:Nat)(b:D)(c:lZ)(d:lZ):oX:=af (aQ false 1 0 c) λa=>bM a b λa=>cb a (af (aQ false 1 0 d) λa=>bM a b λa=>some a) λa=>some a
def DG(n:Nat):lZ->oX|[a0,aG,a2]=>(match aG with| .ref x1 0=>(match a2 with| .ref ds 0=>JO n a0 x1 ds|_=>none)|_=>none)|_=>none
def DH:bZ:=fG (λc d e f g=>aL .lss f e (af (DG a [f,c,d]) λa=>cm g f λh=>bu a<|af (aE g)[h]? λi=>bs f λf=>av [c,d,e,f,D.aw 1 ((aE g).set h (dH i 0 [a]))]) (bw [ay g])) l
def JP:oX:=aM 4 b<|bf (ae b 0) λb=>af (eM 1 b b) λb=>af (aR (DH a) a [c,d,aa (List.replicate b [bo]).length,al,D.aw 1 (List.replicate b [bo])])<|aI<|cr λa=>some (ay a)
def yY(n:Nat):lZ->oX|[a0,aG]=>(match fM yD aG with|some [a,b]=>JP n a0 a b|_=>none)|_=>none
def Qx:oX:=aM 4 b<|bu d<|af (sB a [b7 b,d]) λd=>bu d<|af (qM a [b7 b]) λe=>af (vl a [b7 b,e]) λe=>bu e<|af (sB a [b7 b,c]) λc=>af (yY a [b7 b,(D.fn (.func yD) [] [D.ref [d] 0,D.ref [e] 0])]) λd=>aT (yS a [b7 b,c,d])
def qP:=gV (Qx a)
def Qy:oX:=aM 4 b<|aT (vl a [b7 b,c])
def sD:=db (Qy a)
def JQ(a:Nat)(b:D)(c:lZ)(d:lZ):oX:=af (aQ false 1 0 c) λa=>bM a b λa=>af (cd .not a) λa=>cb a (af (aQ false 1 0 d) λa=>bM a b λa=>aT (cd .not a)) λa=>some a
def DI(n:Nat):lZ->oX|[a0,aG,a2]=>(match aG with| .ref x1 0=>(match a2 with| .ref ds 0=>JQ n a0 x1 ds|_=>none)|_=>none)|_=>none
def DJ:bZ:=fG (λc d e f g=>aL .lss f e (af (DI a [f,c,d]) λa=>cm g f λh=>bu a<|af (aE g)[h]? λi=>bs f λf=>av [c,d,e,f,D.aw 1 ((aE g).set h (dH i 0 [a]))]) (bw [ay g])) l
def JR:oX:=aM 4 b<|bf (ae b 0) λb=>af (eM 1 b b) λb=>af (aR (DJ a) a [c,d,aa (List.replicate b [bo]).length,al,D.aw 1 (List.replicate b [bo])])<|aI<|cr λa=>some (ay a)
def vo(n:Nat):lZ->oX|[a0,aG]=>(match fM uW aG with|some [a,b]=>JR n a0 a b|_=>none)|_=>none
def JS(a:Nat)(b:D)(c:lZ)(d:lZ):oX:=af (aQ false 1 0 c) λa=>bM a b λa=>af (cd .not a) λa=>cb a (af (aQ false 1 0 d) λa=>bM a b λa=>aT (cd .not a)) λa=>some a
def DK(n:Nat):lZ->oX|[a0,aG,a2]=>(match aG with| .ref x1 0=>(match a2 with| .ref ds 0=>JS n a0 x1 ds|_=>none)|_=>none)|_=>none
def DL:bZ:=fG (λc d e f g=>aL .lss f e (af (DK a [f,c,d]) λa=>cm g f λh=>bu a<|af (aE g)[h]? λi=>bs f λf=>av [c,d,e,f,D.aw 1 ((aE g).set h (dH i 0 [a]))]) (bw [ay g])) l
def JT:oX:=aM 4 b<|bf (ae b 0) λb=>af (eM 1 b b) λb=>af (aR (DL a) a [c,d,aa (List.replicate b [bo]).length,al,D.aw 1 (List.replicate b [bo])])<|aI<|cr λa=>some (ay a)
def vp(n:Nat):lZ->oX|[a0,aG]=>(match fM uX aG with|some [a,b]=>JT n a0 a b|_=>none)|_=>none
def Qz(a:Nat)(b:D):oX:=aN .geq b (D.val (.int .u8 97)) λa=>cb a (aT (aW false .leq b (D.val (.int .u8 122)))) λa=>af (cE a false (aT (aW false .geq b (D.val (.int .u8 65))))) λc=>af (cE c true (aT (aW false .leq b (D.val (.int .u8 90))))) λb=>c0 a (aT (en c b bo)) λa=>some a
def yZ:=cO (Qz a)
def QA(a:Nat)(b:D):oX:=aN .geq b (D.val (.int .u8 48)) λa=>cb a (aT (aW false .leq b (D.val (.int .u8 57)))) λa=>some a
def DM:=cO (QA a)
def y0:bZ:=fp (λc d e=>af (lg c) λf=>aN .lss d f λf=>af (cE f true (af (mG c d) λg=>aT (DM a [g]))) λg=>af (cE g false (aT (cd .not e))) λh=>af (cE h true (af (mG c d) λi=>aT (yZ a [i]))) λa=>af (cE a false (af (mG c d) λi=>aT (aW false .eql i (D.val (.int .u8 95))))) λi=>af (cE h true (aT (en a cf i))) λa=>af (cE g false (aT (en h a bo))) λa=>cb f (aT (en g cf a)) λa=>a6 a (bs d λa=>av [c,a,e]) (bw [d])) l
def QB:oX:=af (aR (y0 a) a [b,c,d])<|aI<|cr λa=>some a
def DN:=gV (QB a)
def ace(a:Nat):oX:=some (D.aw 1 [[aD ⟨#[65]⟩],[aD ⟨#[65,70]⟩],[aD ⟨#[65,71]⟩],[aD ⟨#[65,88]⟩],[aD ⟨#[69]⟩],[aD ⟨#[69,70]⟩],[aD ⟨#[69,71]⟩],[aD ⟨#[69,88]⟩],[aD ⟨#[85]⟩],[aD ⟨#[98,111,111,108]⟩],[aD ⟨#[100,101,102]⟩],[aD ⟨#[101,108,115,101]⟩],[aD ⟨#[102,97,105,114]⟩],[aD ⟨#[102,97,108,115,101]⟩],[aD ⟨#[105,102]⟩],[aD ⟨#[105,110,105,116]⟩],[aD ⟨#[105,110,118,97,114]⟩],[aD ⟨#[109,111,100]⟩],[aD ⟨#[110,101,120,116]⟩],[aD ⟨#[115,112,101,99]⟩],[aD ⟨#[116,104,101,110]⟩],[aD ⟨#[116,114,97,110,115]⟩],[aD ⟨#[116,114,117,101]⟩],[aD ⟨#[118,97,114]⟩]])
def JU:=yj (ace a)
def vq(a:Nat)(b:lZ):bZ:=fp (λa c d=>bf a λe=>aL .lss d e (bM a d λe=>aL .eql e c (aY (aY (some cf))) (bs d λd=>av [a,c,d])) (bw [])) b
def JV(n:Nat)(a0 aG:D):oX:=af (aR (vq n) n [a0,aG,al])<|aI λ_=>some bo
def y1:=db (JV a)
def JW:oX:=af (lg b) λc=>aN .geq c bE λc=>cb c (af (lg b) λc=>aT (aW false .leq c (aa 24))) λc=>cb c (af (mG b al) λc=>aT (yZ a [c])) λc=>cb c (af (DN a [b,al,bo]) λc=>af (lg b) λd=>aT (aW false .eql c d)) λc=>cb c (af (JU a []) λc=>af (y1 a [c,b]) λa=>aT (cd .not a)) λa=>some a
def sE:=cO (JW a)
def QC(a:Nat)(b:D):oX:=aN .geq b (aa (-255)) λa=>cb a (aT (aW false .leq b (aa 255))) λa=>some a
def y2:=cO (QC a)
def QD(a:Nat)(b:D):oX:=aM 4 b<|a6 (ae b 1) (some (aa 2)) (aL .gtr (ae b 2) (ae b 3) (some al) (af (j2 .u64 (ae b 3)) λa=>af (j2 .u64 (ae b 2)) λb=>aN .sub a b λa=>aN .gtr a (D.val (.int .u64 1073741824)) λb=>af (a6 b (av [D.val (.int .u64 1073741824)]) (av [a]))<|aI<|cr λa=>af (j2 .i64 a) λa=>aT (aW false .add a bE)))
def pz:=cO (QD a)
def y3(a:Nat)(b:lZ):hW:=fp (λa c d=>aL .lss d c (af (ba 4 a d) λe=>af (aQ false 1 0 e) λe=>af (ba 4 a c) λf=>af (aQ false 1 0 f) λf=>aL .eql e f (aY (aY (aY (aY (aY (some (D.aC [c,aa 6]))))))) (bs d λd=>av [a,c,d])) (bw [a,c])) b
def sF:bZ:=cV (λc d=>bf c λe=>aL .lss d e (af (af (ba 4 c d) λe=>af (aQ false 1 0 e) λe=>af (sE a [e]) λe=>dd (cd .not e) (aY (aY (aY (some (D.aC [d,aa 12]))))) (af (aR (y3 a) a [c,d,al])<|aI<|cV λc d=>af (ba 4 c d) λe=>af (aQ false 1 1 e) λe=>af (cE e true (af (ba 4 c d) λf=>af (aQ false 1 2 f) λf=>aT (aW false .neq f al))) λf=>af (cE f false (af (ba 4 c d) λg=>af (aQ false 1 3 g) λg=>aT (aW false .neq g al))) λg=>cb e (aT (en f cf g)) λe=>a6 e (aY (aY (aY (some (D.aC [d,aa 3]))))) (af (ba 4 c d) λe=>af (aQ false 1 1 e) λe=>af (cd .not e) λe=>af (cE e true (af (ba 4 c d) λf=>af (aQ false 1 2 f) λf=>af (ba 4 c d) λg=>af (aQ false 1 3 g) λg=>aT (aW false .gtr f g))) λf=>af (cE f false (af (ba 4 c d) λg=>af (aQ false 1 2 g) λg=>af (y2 a [g]) λg=>aT (cd .not g))) λg=>af (cE e true (aT (en f cf g))) λf=>af (cE f false (af (ba 4 c d) λg=>af (aQ false 1 3 g) λg=>af (y2 a [g]) λg=>aT (cd .not g))) λg=>af (cE e true (aT (en f cf g))) λf=>af (cE f false (af (ba 4 c d) λg=>af (aQ true 4 0 g) λg=>af (pz a [g]) λa=>aT (aW false .gtr a (aa 64)))) λa=>cb e (aT (en f cf a)) λa=>a6 a (aY (aY (aY (some (D.aC [d,aa 2]))))) (av [c,d]))))<|aI<|cV λa c=>bs c λc=>av [a,c]) (bw [])) l
def acf(n:Nat)(a0:D):oX:=af (aR (sF n) n [a0,al])<|aI λ_=>some (D.aC [al,al])
def DO:=cO (acf a)
def DP(a:Nat)(b:lZ):bZ:=cV (λa c=>aL .gtr a bE (aN .quo a (aa 2) λd=>aN .rem a (aa 2) λa=>aN .add d a λa=>bs c λd=>av [a,d]) (bw [c])) b
def QE:oX:=af (aR (DP a) a [b,al])<|aI<|cr λa=>some a
def DQ:=cO (QE a)
def DR:bZ:=e5 (λc d e f g h i j k l=>bf e λm=>aL .lss d m (af (ba 4 e d) λm=>af (aQ true 4 0 m) λm=>af (pz a [m]) λm=>af (DQ a [m]) λa=>aN .add c a λa=>bs d λd=>av [a,d,e,f,g,h,i,j,k,l]) (bw [c])) l
def QF:oX:=aM 8 b<|af (aR (DR a) a [al,al,ae b 0,ae b 1,ae b 2,ae b 3,ae b 4,ae b 5,ae b 6,ae b 7])<|aI<|cr λa=>some a
def DS:=cO (QF a)
def y4(a:Nat)(b:lZ):bZ:=e5 (λa c d e f g h i j k=>bf d λl=>aL .lss c l (af (ba 4 d c) λl=>af (aQ false 1 0 l) λl=>aL .eql l a (aY (aY (some c))) (bs c λc=>av [a,c,d,e,f,g,h,i,j,k])) (bw [])) b
def QG(n:Nat)(a0 aG:D):oX:=aM 8 a0<|af (aR (y4 n) n [aG,al,ae a0 0,ae a0 1,ae a0 2,ae a0 3,ae a0 4,ae a0 5,ae a0 6,ae a0 7])<|aI λ_=>some (aa (-1))
def y5:=db (QG a)
def y6(a:Nat)(b:lZ):bZ:=e5 (λa c d e f g h i j k=>bf e λl=>aL .lss c l (af (ba 5 e c) λl=>af (aQ false 1 0 l) λl=>aL .eql l a (aY (aY (some c))) (bs c λc=>av [a,c,d,e,f,g,h,i,j,k])) (bw [])) b
def QH(n:Nat)(a0 aG:D):oX:=aM 8 a0<|af (aR (y6 n) n [aG,al,ae a0 0,ae a0 1,ae a0 2,ae a0 3,ae a0 4,ae a0 5,ae a0 6,ae a0 7])<|aI λ_=>some (aa (-1))
def y7:=db (QH a)
def y8(a:Nat)(b:lZ):bZ:=fp (λa c d=>bf a λe=>aL .lss d e (bM a d λe=>aL .eql e c (aY (aY (some cf))) (bs d λd=>av [a,c,d])) (bw [])) b
def QI(n:Nat)(a0 aG:D):oX:=af (aR (y8 n) n [a0,aG,al])<|aI λ_=>some bo
def DT:=db (QI a)
def vr(a:Nat)(b:lZ):bZ:=fG (λa c d e f=>bf a λg=>aL .lss e g (af (cd .not d) λg=>cb g (bM a e λg=>aT (aW false .gtr g c)) λg=>af (a6 g (bu c<|bJ (b2 ((aE f).length+([[c]]).length) 16)<|av [a,c,cf,e,D.aw 1 ((aE f)++[[c]])]) (av [a,c,d,e,ay f]))<|aI<|fG λa e g h i=>bM a h λj=>bu j<|bJ (b2 ((aE i).length+([[j]]).length) 16)<|bs h λh=>av [a,e,g,h,D.aw 1 ((aE i)++[[j]])]) (bw [c,d,ay f])) b
def DU:oX:=dd (DT a [b,c]) (some b) (af (aR (vr a) a [b,c,bo,al,D.aw 1 ([]:mW)])<|aI<|fp λa b c=>af (cd .not b) λb=>af (a6 b (bu a<|bJ (b2 ((aE c).length+([[a]]).length) 16)<|av [D.aw 1 ((aE c)++[[a]])]) (av [ay c]))<|aI<|cr λa=>some (ay a))
def vt:=db (DU a)
def DV(a:lZ->oX)(b:Nat)(c:lZ):bZ:=fN (λb d e f g h i=>bf i λj=>aL .lss e j (af (ba 4 i e) λj=>af (aQ true 4 0 j) λj=>af (a [j,b,d]) λa=>bs e λe=>av [b,a,e,f,g,h,i]) (bw [d])) c
def y9(a:lZ->oX)(b:Nat)(c d e:D):oX:=aM 4 c<|aN .eql (ae c 0) d λf=>af (a6 f (af (vt b [e,ae c 2]) λf=>av [d,f,ae c 0,ae c 1,ae c 2,ae c 3]) (av [d,e,ae c 0,ae c 1,ae c 2,ae c 3]))<|aI<|hn λc d e f g h=>af (aR (DV a b) b [c,d,al,e,f,g,h])<|aI<|cr λa=>some a
def od:Nat->lZ->oX|0,_=>none|n+1,a=>match a with|[a0,aG,a2]=>y9 (od n) n a0 aG a2|_=>none
def QJ:oX:=aM 4 b<|af (od a [b7 b,aa 3,a7]) λc=>af (od a [b7 b,aa 4,a7]) λa=>some (D.aC [c,a])
def vu:=cO (QJ a)
def sG:hW:=gL (λc d e f g h i j k l m n o=>bf d λp=>aL .lss e p (af (bM d e λp=>af (y7 a [D.agg [f,g,h,i,j,k,l,m],p]) λa=>aN .geq a al λp=>cb p (cm n a λp=>cu n p λp=>aT (cd .not p)) λp=>af (a6 p (cm n a λp=>af (aE n)[p]? λq=>bu a<|bJ (b2 ((aE o).length+([[a]]).length) 8)<|av [c,d,e,f,g,h,i,j,k,l,m,D.aw 1 ((aE n).set p (dH q 0 [cf])),D.aw 1 ((aE o)++[[a]])]) (av [c,d,e,f,g,h,i,j,k,l,m,ay n,ay o]))<|aI<|gL λa d e p q r s t u w x y z=>av [a,d,e,p,q,r,s,t,u,w,x,ay y,ay z])<|aI<|gL λa d e p q r s t u w x y z=>bs e λe=>av [a,d,e,p,q,r,s,t,u,w,x,ay y,ay z]) (bw [c,f,g,h,i,j,k,l,m,ay n,ay o])) l
def DW:bZ:=gX (λc d e f g h i j k l m=>aL .lss c (aa (aE m).length) (af (cm m c λn=>cu m n λn=>af (ba 5 e n) λn=>af (aQ true 4 1 n) λn=>af (vu a [n]) λn=>bT n λo=>bU n λn=>af (aR (sG a) a [c,o,al,d,e,f,g,h,i,j,k,ay l,ay m])<|aI<|gX λa c d e f g h i j k m=>av [a,c,d,e,f,g,h,i,j,ay k,ay m])<|aI<|gX λa c d e f g h i j k m=>bs a λa=>av [a,c,d,e,f,g,h,i,j,ay k,ay m]) (bw [ay l])) l
def QK:oX:=aM 8 b<|bf (ae b 1) λd=>af (eM 1 d d) λd=>bu c<|af (aR (DW a) a [al,ae b 0,ae b 1,ae b 2,ae b 3,ae b 4,ae b 5,ae b 6,ae b 7,D.aw 1 (List.replicate d [bo]),D.aw 1 [[c]]])<|aI<|cr λa=>some (ay a)
def DX:=db (QK a)
def JX(a:Nat)(b:D):oX:=af (aN .eql b bE λa=>af (a6 a (av [b,b,a]) (aN .eql b (aa 2) λa=>af (a6 a (av [b,b,a]) (aN .eql b (aa 3) λa=>af (a6 a (av [b,b,a]) (aN .eql b (aa 4) λa=>av [b,b,a]))<|aI<|fp λa b c=>av [a,b,c]))<|aI<|fp λa b c=>av [a,b,c]))<|aI<|fp λa b c=>a6 c (aY (some (D.aC [al,al]))) (aL .eql b (aa 5) (aY (some (D.aC [bE,bE]))) (aN .eql b (aa 6) λc=>af (a6 c (av [a,b,c]) (aN .eql b (aa 7) λc=>av [a,b,c]))<|aI<|fp λa b c=>a6 c (aY (some (D.aC [bE,aa 64]))) (aL .eql b (aa 18) (aY (some (D.aC [aa 3,aa 3]))) (av [a])))))<|aI<|cr λa=>aN .lss a bE λb=>c0 b (aT (aW false .gtr a (aa 18))) λa=>a6 a (some (D.aC [aa (-1),aa (-1)])) (some (D.aC [aa 2,aa 2]))
def za:=cO (JX a)
def QL:oX:=aM 4 b<|aL .gtr c (aa 64) (some (aa 17)) (af (za a [ae b 0]) λa=>bT a λc=>bU a λa=>aL .lss c al (some (aa 11)) (aN .eql (ae b 0) bE λd=>af (a6 d (av [c,a,aa (-255),aa 255,ae b 0,ae b 1,ae b 2,ae b 3]) (av [c,a,al,al,ae b 0,ae b 1,ae b 2,ae b 3]))<|aI<|u8 λa b c d e f g h=>aN .eql e (aa 2) λi=>af (a6 i (av [a,b,c,bE,e,f,g,h]) (av [a,b,c,d,e,f,g,h]))<|aI<|u8 λa b c d e f g h=>aN .lss f c λc=>c0 c (aT (aW false .gtr f d)) λc=>a6 c (some (aa 2)) (aN .eql e (aa 3) λc=>c0 c (aT (aW false .eql e (aa 4))) λc=>af (cE c true (af (lg g) λd=>aT (aW false .lss d bE))) λd=>af (cE d false (af (lg g) λe=>aT (aW false .gtr e (aa 24)))) λe=>cb c (aT (en d cf e)) λd=>af (cE d false (aT (cd .not c))) λc=>af (cE c true (aT (aW false .neq g (aD ⟨#[]⟩)))) λe=>c0 d (aT (en c e bo)) λc=>a6 c (some (aa 12)) (bf h λc=>aN .lss c a λa=>c0 a (bf h λa=>aT (aW false .gtr a b)) λa=>a6 a (some (aa 3)) (some al)))))
def zb:=db (QL a)
def DY(a:lZ->oX)(b:Nat)(c:lZ):bZ:=fN (λb d e f g h i=>bf i λj=>aL .lss e j (af (ba 4 i e) λj=>af (aQ true 4 0 j) λj=>bs b λk=>af (a [j,k,d]) λa=>bT a λj=>bU a λa=>aL .neq j al (aY (aY (some (D.aC [j,a])))) (bs e λe=>av [b,a,e,f,g,h,i])) (bw [d])) c
def JY(a:lZ->oX)(b:Nat)(c d e:D):oX:=aM 4 c<|bs e λe=>af (zb b [b7 c,d]) λf=>aL .neq f al (some (D.aC [f,e])) (aL .gtr e (aa 4096) (some (D.aC [aa 4,e])) (af (aR (DY a b) b [d,e,al,ae c 0,ae c 1,ae c 2,ae c 3])<|aI<|cr λa=>some (D.aC [al,a])))
def pA:Nat->lZ->oX|0,_=>none|n+1,a=>match a with|[a0,aG,a2]=>JY (pA n) n a0 aG a2|_=>none
def QM:oX:=aM 4 b<|af (pA a [b7 b,bE,al]) λa=>bT a λb=>bU a λa=>some b
def vv:=cO (QM a)
def zc(a:Nat)(b:lZ):bZ:=fp (λa c d=>bf a λe=>aL .lss d e (af (ba 5 a d) λe=>af (aQ false 1 0 e) λe=>aL .eql e c (aY (aY (some d))) (bs d λd=>av [a,c,d])) (bw [])) b
def QN(n:Nat)(a0 aG:D):oX:=af (aR (zc n) n [a0,aG,al])<|aI λ_=>some (aa (-1))
def vw:=db (QN a)
def zd:bZ:=dP (λc d e f=>bf d λg=>aL .lss e g (af (bM d e λg=>af (vw a [c,g]) λa=>aN .geq a al λg=>af (a6 g (bu a<|bJ (b2 ((aE f).length+([[a]]).length) 8)<|av [c,d,e,D.aw 1 ((aE f)++[[a]])]) (av [c,d,e,ay f]))<|aI<|dP λa c d e=>av [a,c,d,ay e])<|aI<|dP λa c d e=>bs d λd=>av [a,c,d,ay e]) (bw [ay f])) l
def QO:oX:=aM 4 b<|af (vu a [b7 b]) λb=>bT b λd=>bU b λb=>af (aR (zd a) a [c,d,al,D.aw 1 ([]:mW)])<|aI<|cr λa=>some (ay a)
def ze:=db (QO a)
def vx(a:Nat)(b:lZ):bZ:=fp (λa c d=>bf a λe=>aL .lss d e (bM a d λe=>aL .eql e c (aY (aY (some cf))) (bs d λd=>av [a,c,d])) (bw [])) b
def JZ(n:Nat)(a0 aG:D):oX:=af (aR (vx n) n [a0,aG,al])<|aI λ_=>some bo
def sH:=db (JZ a)
def zf(a:lZ->oX)(b:Nat)(c:lZ):bZ:=dP (λd e f g=>bf f λh=>aL .lss g h (af (bM f g λh=>af (sH b [e,h]) λb=>af (cd .not b) λb=>af (a6 b (bM f g λb=>af (ba 5 d b) λb=>af (aQ true 4 1 b) λb=>bM f g λh=>af (jw e) λi=>bJ (decide (i.1=1\/i.2=[])&&decide (0<1))<|bJ (b2 (([]:mW).length+(i.2).length) 8)<|bu h<|bJ (b2 ((([]:mW)++i.2).length+([[h]]).length) 8)<|af (a [b,d,D.aw 1 ((([]:mW)++i.2)++[[h]])]) λa=>av [d,a,f,g]) (av [d,e,f,g]))<|aI<|dP λa b d f=>av [a,b,d,f])<|aI<|dP λa b d f=>bs f λf=>av [a,b,d,f]) (bw [e])) c
def DZ(a:lZ->oX)(b:Nat)(c d e:D):oX:=aM 4 c<|af (ze b [b7 c,d]) λc=>af (aR (zf a b) b [d,e,c,al])<|aI<|cr λa=>some a
def oe:Nat->lZ->oX|0,_=>none|n+1,a=>match a with|[a0,aG,a2]=>DZ (oe n) n a0 aG a2|_=>none
def QP:oX:=af (ba 5 b c) λd=>af (aQ true 4 1 d) λd=>af (oe a [d,b,a7]) λb=>aT (sH a [b,c])
def D0:=db (QP a)
def zg(a:lZ->oX)(b:Nat)(c:lZ):bZ:=gL (λb d e f g h i j k l m n o=>bf j λp=>aL .lss f p (af (ba 4 j f) λp=>af (aQ true 4 0 p) λp=>bs d λq=>af (a [p,b,q,e]) λa=>bT a λp=>bU a λq=>af (e0 2 a) λa=>aM 4 p<|aL .neq a al (aY (aY (some (D.aC [D.agg [al,al,aD ⟨#[]⟩,a7],q,a])))) (aM 4 (b7 p)<|bJ (b2 ((aE o).length+([[ae p 0,ae p 1,ae p 2,ae p 3]]).length) 56)<|bs f λa=>av [b,d,q,a,g,h,i,j,k,l,m,n,D.aw 4 ((aE o)++[[ae p 0,ae p 1,ae p 2,ae p 3]])])) (bw [e,g,h,i,j,k,l,m,n,D.aw 4 (aE o)])) c
def nf(a:lZ->oX)(b:Nat)(c d e f:D):oX:=aM 4 c<|aN .eql (ae c 0) (aa 3) λg=>af (a6 g (af (vw b [d,ae c 2]) λg=>aL .geq g al (af (ba 5 d g) λg=>af (aQ true 4 1 g) λg=>af (a [g,d,e,f]) λg=>bT g λh=>bU g λi=>af (e0 2 g) λg=>aM 4 h<|aY (some (D.aC [b7 h,i,g]))) (av [d,e,f,ae c 0,ae c 1,ae c 2,ae c 3,al,al,aD ⟨#[]⟩,a7])) (av [d,e,f,ae c 0,ae c 1,ae c 2,ae c 3,al,al,aD ⟨#[]⟩,a7]))<|aI<|gX λc d e f g h i j k l m=>bs e λe=>af (zb b [D.agg [f,g,h,i],d]) λn=>aL .neq n al (some (D.aC [D.agg [al,al,aD ⟨#[]⟩,a7],e,n])) (aL .gtr e (aa 4096) (some (D.aC [D.agg [al,al,aD ⟨#[]⟩,a7],e,aa 4])) (af (aR (zg a b) b [c,d,e,al,f,g,h,i,j,k,l,m,D.aw 4 ([]:mW)])<|aI<|e5 λa b c d e f g h i j=>bu b<|bu c<|bu d<|some (D.aC [D.agg [b,c,d,D.aw 4 (aE j)],a,al])))
def og:Nat->lZ->oX|0,_=>none|n+1,a=>match a with|[a0,aG,a2,a3]=>nf (og n) n a0 aG a2 a3|_=>none
def zh:bZ:=gX (λc d e f g h i j k l m=>bf d λn=>aL .lss e n (bM d e λn=>dd (D0 a [c,n]) (aY (aY (some (D.aC [D.agg [al,al,aD ⟨#[]⟩,a7],aa 14])))) (bs e λa=>av [c,d,a,f,g,h,i,j,k,l,m])) (bw [c,f,g,h,i,j,k,l,m])) l
def zi:oX:=aM 4 b<|af (vv a [b7 b]) λd=>aL .neq d al (some (D.aC [D.agg [al,al,aD ⟨#[]⟩,a7],d])) (af (oe a [b7 b,c,a7]) λd=>af (aR (zh a) a [c,d,al,ae b 0,ae b 1,ae b 2,ae b 3,al,al,aD ⟨#[]⟩,a7])<|aI<|fG λb c d e f=>af (og a [D.agg [c,d,e,f],b,bE,al]) λa=>bT a λb=>bU a λc=>af (e0 2 a) λa=>aM 4 b<|aM 4 (b7 b)<|some (D.aC [b7 b,a]))
def kU:=db (zi a)
def QQ(a:Nat)(b c:D):oX:=af (cd .neg (aa 1048576)) λa=>aN .lss b a λa=>c0 a (aT (aW false .gtr b (aa 1048576))) λa=>c0 a (af (cd .neg (aa 1048576)) λa=>aT (aW false .lss c a)) λa=>c0 a (aT (aW false .gtr c (aa 1048576))) λa=>c0 a (aT (aW false .lss c b)) λa=>c0 a (aN .sub c b λa=>aT (aW false .gtr a (aa 4096))) λa=>a6 a (some (D.aC [D.agg [bo,al,al],aa 2])) (bu b<|bu c<|aM 3 (D.agg [bo,b,c])<|some (D.aC [D.agg [bo,b,c],al]))
def oh:=db (QQ a)
def zj(a:Nat)(b:lZ):bZ:=fp (λa c d=>bf a λe=>aL .lss d e (af (ba 4 a d) λe=>af (aQ false 1 0 e) λe=>aL .eql e c (aY (aY (some d))) (bs d λd=>av [a,c,d])) (bw [])) b
def QR(n:Nat)(a0 aG:D):oX:=af (aR (zj n) n [a0,aG,al])<|aI λ_=>some (aa (-1))
def vy:=db (QR a)
def zk(a:Nat)(b:lZ):bZ:=cV (λa c=>bf a λd=>aL .lss c d (af (ba 3 a c) λd=>af (aQ false 1 0 d) λd=>dd (cd .not d) (aY (aY (some bo))) (bs c λc=>av [a,c])) (bw [])) b
def QS(n:Nat)(a0:D):oX:=af (aR (zk n) n [a0,al])<|aI λ_=>some cf
def D1:=cO (QS a)
def D2(a:Nat)(b:lZ):bZ:=dP (λa c d e=>aL .lss d (aa 4) (cm e d λf=>cu e f λf=>af (hU false [a,f]) λf=>cm e d λg=>cu e g λg=>af (hU true [c,g]) λg=>bs d λd=>av [f,g,d,ay e]) (bw [a,c])) b
def QT:oX:=aM 3 b<|aM 3 c<|aN .mul (ae b 1) (ae c 1) λd=>aN .mul (ae b 1) (ae c 2) λe=>aN .mul (ae b 2) (ae c 1) λf=>aN .mul (ae b 2) (ae c 2) λb=>bu d<|bu e<|bu f<|bu b<|af (cI ([[d],[e],[f],[b]]).length al) λc=>af (([[d],[e],[f],[b]])[c]?) λc=>af (aQ false 1 0 c) λc=>af (cI ([[d],[e],[f],[b]]).length al) λg=>af (([[d],[e],[f],[b]])[g]?) λg=>af (aQ false 1 0 g) λg=>af (aR (D2 a) a [c,g,bE,D.aw 1 [[d],[e],[f],[b]]])<|aI<|cV λa b=>some (D.aC [a,b])
def D3:=db (QT a)
def D4:oX:=aM 4 b<|af (aN .eql (ae b 0) (aa 5) λd=>af (a6 d (av [c,aa 13,ae b 0,d,ae b 0,ae b 1,ae b 2,ae b 3,bo,al,al,cf,al,al]) (aN .eql (ae b 0) (aa 6) λd=>af (a6 d (av [c,aa 13,ae b 0,d,ae b 0,ae b 1,ae b 2,ae b 3,bo,al,al,cf,al,al]) (aN .eql (ae b 0) (aa 7) λd=>af (a6 d (av [c,aa 13,ae b 0,d,ae b 0,ae b 1,ae b 2,ae b 3,bo,al,al,cf,al,al]) (aN .eql (ae b 0) (aa 8) λd=>af (a6 d (av [c,aa 13,ae b 0,d,ae b 0,ae b 1,ae b 2,ae b 3,bo,al,al,cf,al,al]) (aN .eql (ae b 0) (aa 9) λd=>av [c,aa 13,ae b 0,d,ae b 0,ae b 1,ae b 2,ae b 3,bo,al,al,cf,al,al]))<|aI<|lu λb c d e f g h i j k l m n o=>av [b,c,d,e,f,g,h,i,j,k,l,m,n,o]))<|aI<|lu λb c d e f g h i j k l m n o=>av [b,c,d,e,f,g,h,i,j,k,l,m,n,o]))<|aI<|lu λb c d e f g h i j k l m n o=>av [b,c,d,e,f,g,h,i,j,k,l,m,n,o]))<|aI<|lu λb c d e f g h i j k l m n o=>a6 e (af (D1 a [b]) λe=>dd (cd .not e) (aY (some (D.aC [D.agg [bo,al,al],c]))) (aM 3 (D.agg [m,n,o])<|aY (some (D.aC [D.agg [m,n,o],al])))) (aN .eql d (aa 10) λe=>af (a6 e (av [b,c,d,e,f,g,h,i,j,k,l,m,n,o]) (aN .eql d (aa 11) λe=>av [b,c,d,e,f,g,h,i,j,k,l,m,n,o]))<|aI<|lu λb c d e f g h i j k l m n o=>a6 e (af (ba 3 b al) λe=>af (aQ false 1 0 e) λe=>af (ba 3 b bE) λp=>af (aQ false 1 0 p) λp=>dd (aW true .neq e p) (aY (some (D.aC [D.agg [bo,al,al],c]))) (aM 3 (D.agg [m,n,o])<|aY (some (D.aC [D.agg [m,n,o],al])))) (aL .eql d (aa 18) (af (ba 3 b al) λd=>af (aQ false 1 0 d) λd=>af (cd .not d) λd=>c0 d (af (ba 3 b bE) λd=>af (aQ false 1 0 d) λd=>af (ba 3 b (aa 2)) λe=>af (aQ false 1 0 e) λe=>aT (aW true .neq d e)) λd=>a6 d (aY (some (D.aC [D.agg [bo,al,al],c]))) (af (ba 3 b bE) λd=>dd (aQ false 1 0 d) (aM 3 (D.agg [m,n,o])<|aY (some (D.aC [D.agg [m,n,o],al]))) (af (ba 3 b bE) λd=>af (aQ false 1 1 d) λd=>af (ba 3 b (aa 2)) λe=>af (aQ false 1 1 e) λe=>af (hU false [d,e]) λd=>af (ba 3 b bE) λe=>af (aQ false 1 2 e) λe=>af (ba 3 b (aa 2)) λp=>af (aQ false 1 2 p) λp=>af (hU true [e,p]) λe=>af (oh a [d,e]) λd=>bT d λe=>bU d λd=>aM 3 e<|aY (some (D.aC [D.agg [ae e 0,ae e 1,ae e 2],d]))))) (av [b,c,f,g,h,i,j,k,l,m,n,o]))))<|aI<|iO λb c d e f g h i j k l m=>af (ba 3 b al) λe=>af (aQ false 1 0 e) λe=>c0 e (af (ba 3 b bE) λe=>aT (aQ false 1 0 e)) λe=>a6 e (some (D.aC [D.agg [bo,al,al],c])) (aL .eql d (aa 14) (af (ba 3 b al) λc=>af (aQ false 1 1 c) λc=>af (ba 3 b bE) λe=>af (aQ false 1 1 e) λe=>aN .add c e λc=>af (ba 3 b al) λe=>af (aQ false 1 2 e) λe=>af (ba 3 b bE) λf=>af (aQ false 1 2 f) λf=>aN .add e f λe=>af (oh a [c,e]) λc=>bT c λe=>bU c λc=>aM 3 e<|some (D.aC [D.agg [ae e 0,ae e 1,ae e 2],c])) (aL .eql d (aa 15) (af (ba 3 b al) λc=>af (aQ false 1 1 c) λc=>af (ba 3 b bE) λe=>af (aQ false 1 2 e) λe=>aN .sub c e λc=>af (ba 3 b al) λe=>af (aQ false 1 2 e) λe=>af (ba 3 b bE) λf=>af (aQ false 1 1 f) λf=>aN .sub e f λe=>af (oh a [c,e]) λc=>bT c λe=>bU c λc=>aM 3 e<|some (D.aC [D.agg [ae e 0,ae e 1,ae e 2],c])) (aL .eql d (aa 16) (af (ba 3 b al) λc=>af (aQ true 3 0 c) λc=>af (ba 3 b bE) λb=>af (aQ true 3 0 b) λb=>af (D3 a [c,b]) λb=>bT b λc=>bU b λb=>af (oh a [c,b]) λb=>bT b λc=>bU b λb=>aM 3 c<|some (D.aC [D.agg [ae c 0,ae c 1,ae c 2],b])) (aL .eql d (aa 17) (af (ba 4 g bE) λb=>af (aQ false 1 0 b) λb=>aN .neq b bE λb=>c0 b (af (ba 4 g bE) λb=>af (aQ false 1 1 b) λb=>aT (aW false .lss b bE)) λb=>a6 b (some (D.aC [D.agg [bo,al,al],aa 2])) (af (ba 4 g bE) λb=>af (aQ false 1 1 b) λb=>aN .sub b bE λb=>af (oh a [al,b]) λa=>bT a λb=>bU a λa=>aM 3 b<|some (D.aC [D.agg [ae b 0,ae b 1,ae b 2],a]))) (aM 3 (D.agg [k,l,m])<|some (D.aC [D.agg [k,l,m],al]))))))
def vz:=db (D4 a)
def vA(a:lZ->oX)(b:Nat)(c:lZ):bZ:=gX (λb d e f g h i j k l m=>bf i λn=>aL .lss e n (af (ba 4 i e) λn=>af (aQ true 4 0 n) λn=>af (a [b,n,d]) λa=>bT a λn=>bU a λa=>aM 3 n<|aL .neq a al (aY (aY (some (D.aC [D.agg [bo,al,al],a])))) (aM 3 (D.agg [ae n 0,ae n 1,ae n 2])<|bJ (b2 ((aE m).length+([[ae n 0,ae n 1,ae n 2]]).length) 24)<|bs e λa=>av [b,d,a,f,g,h,i,j,k,l,D.aw 3 ((aE m)++[[ae n 0,ae n 1,ae n 2]])])) (bw [f,g,h,i,j,k,l,D.aw 3 (aE m)])) c
def pB(a:lZ->oX)(b:Nat)(c d e:D):oX:=aM 4 d<|aL .eql (ae d 0) bE (af (oh b [ae d 1,ae d 1]) λf=>bT f λg=>bU f λf=>aM 3 g<|some (D.aC [D.agg [ae g 0,ae g 1,ae g 2],f])) (aL .eql (ae d 0) (aa 2) (some (D.aC [D.agg [cf,al,al],al])) (aN .eql (ae d 0) (aa 3) λf=>af (a6 f (av [c,e,f,ae d 0,ae d 1,ae d 2,ae d 3,bo,al,al]) (aN .eql (ae d 0) (aa 4) λf=>av [c,e,f,ae d 0,ae d 1,ae d 2,ae d 3,bo,al,al]))<|aI<|e5 λc d e f g h i j k l=>a6 e (af (vy b [c,h]) λe=>aL .lss e al (some (D.aC [D.agg [bo,al,al],aa 12])) (aN .eql f (aa 4) λm=>cb m (aT (cd .not d)) λm=>a6 m (some (D.aC [D.agg [bo,al,al],aa 24])) (af (ba 4 c e) λm=>dd (aQ false 1 1 m) (some (D.aC [D.agg [cf,al,al],al])) (af (ba 4 c e) λm=>af (aQ false 1 2 m) λm=>af (ba 4 c e) λe=>af (aQ false 1 3 e) λe=>af (oh b [m,e]) λe=>bT e λm=>bU e λe=>aM 3 m<|some (D.aC [D.agg [ae m 0,ae m 1,ae m 2],e]))))) (af (aR (vA a b) b [c,d,al,f,g,h,i,j,k,l,D.aw 3 ([]:mW)])<|aI<|u8 λa c d e f g h i=>af (vz b [D.agg [a,c,d,e],D.aw 3 (aE i)]) λa=>bJ a.flat<|bT a λb=>bU a λa=>aM 3 b<|some (D.aC [D.agg [ae b 0,ae b 1,ae b 2],a]))))
def j9:Nat->lZ->oX|0,_=>none|n+1,a=>match a with|[a0,aG,a2]=>pB (j9 n) n a0 aG a2|_=>none
def J0:oX:=aM 4 c<|af (vv a [b7 c]) λe=>aL .neq e al (some (D.aC [D.agg [bo,al,al],e])) (af (j9 a [b,b7 c,d]) λa=>bT a λb=>bU a λa=>aM 3 b<|some (D.aC [D.agg [ae b 0,ae b 1,ae b 2],a]))
def sI:=gV (J0 a)
def J1:oX:=aM 8 b<|aM 4 c<|af (kU a [b7 c,ae b 1]) λc=>bT c λe=>bU c λc=>aM 4 e<|aL .neq c al (some (D.aC [D.agg [bo,al,al],c])) (af (sI a [ae b 0,b7 e,d]) λa=>bT a λb=>bU a λa=>aM 3 b<|some (D.aC [D.agg [ae b 0,ae b 1,ae b 2],a]))
def sJ:=gV (J1 a)
def sK:bZ:=eO (λc d e f g h i j k=>bf e λl=>aL .lss c l (af (ba 5 e c) λl=>af (aQ false 1 0 l) λl=>af (sE a [l]) λl=>dd (cd .not l) (aY (aY (some (D.aC [c,aa 12])))) (af (ba 5 e c) λl=>af (aQ false 1 0 l) λl=>af (y5 a [D.agg [d,e,f,g,h,i,j,k],l]) λl=>aN .geq l al λl=>c0 l (af (ba 5 e c) λl=>af (aQ false 1 0 l) λl=>af (y7 a [D.agg [d,e,f,g,h,i,j,k],l]) λa=>aT (aW false .lss a c)) λa=>a6 a (aY (aY (some (D.aC [c,aa 6])))) (bs c λa=>av [a,d,e,f,g,h,i,j,k]))) (bw [d,e,f,g,h,i,j,k])) l
def zl:bZ:=eO (λc d e f g h i j k=>bf e λl=>aL .lss c l (af (DX a [D.agg [d,e,f,g,h,i,j,k],c]) λa=>bM a c λa=>a6 a (aY (aY (some (D.aC [c,aa 14])))) (bs c λa=>av [a,d,e,f,g,h,i,j,k])) (bw [d,e,f,g,h,i,j,k])) l
def zm:bZ:=eO (λc d e f g h i j k=>bf e λl=>aL .lss c l (af (ba 5 e c) λl=>af (aQ true 4 1 l) λl=>af (sJ a [D.agg [d,e,f,g,h,i,j,k],l,bo]) λa=>bT a λl=>bU a λa=>aM 3 l<|aL .neq a al (aY (aY (some (D.aC [c,a])))) (bs c λa=>av [a,d,e,f,g,h,i,j,k])) (bw [])) l
def zn(n:Nat)(a0:D):oX:=aM 8 a0<|af (aR (sK n) n [al,ae a0 0,ae a0 1,ae a0 2,ae a0 3,ae a0 4,ae a0 5,ae a0 6,ae a0 7])<|aI<|u8 λa b c d e f g h=>af (aR (zl n) n [al,a,b,c,d,e,f,g,h])<|aI<|u8 λa b c d e f g h=>af (aR (zm n) n [al,a,b,c,d,e,f,g,h])<|aI λ_=>some (D.aC [al,al])
def sL:=cO (zn a)
def J2:oX:=aM 8 b<|aM 4 c<|af (sJ a [eo b,b7 c,d]) λa=>bT a λb=>bU a λa=>aM 3 b<|aN .eql a al λc=>cb c (aT (cd .not (ae b 0))) λb=>a6 b (some (aa 13)) (some a)
def vB:=gV (J2 a)
def zo:bZ:=gX (λc d e f g h i j k l m=>bf c λn=>aL .lss e n (af (ba 4 c e) λn=>af (aQ true 4 0 n) λn=>af (vB a [D.agg [f,g,h,i,j,k,l,m],n,d]) λa=>aL .neq a al (aY (aY (some (D.aC [e,a])))) (bs e λa=>av [c,d,a,f,g,h,i,j,k,l,m])) (bw [])) l
def J3(n:Nat)(a0 aG a2:D):oX:=aM 8 a0<|af (aR (zo n) n [aG,a2,al,ae a0 0,ae a0 1,ae a0 2,ae a0 3,ae a0 4,ae a0 5,ae a0 6,ae a0 7])<|aI λ_=>some (D.aC [al,al])
def qQ:=gV (J3 a)
def vC(a:Nat)(b:lZ):hW:=gX (λa c d e f g h i j k l=>aL .lss d a (af (ba 5 i d) λm=>af (aQ false 1 0 m) λm=>af (ba 5 i a) λn=>af (aQ false 1 0 n) λn=>aL .eql m n (aY (aY (aY (aY (aY (some (D.aC [a,aa 6]))))))) (bs d λd=>av [a,c,d,e,f,g,h,i,j,k,l])) (bw [a,c,e,f,g,h,i,j,k,l])) b
def qR:bZ:=eO (λc d e f g h i j k=>bf h λl=>aL .lss c l (af (af (ba 5 h c) λl=>af (aQ false 1 0 l) λl=>af (y5 a [D.agg [d,e,f,g,h,i,j,k],l]) λl=>aL .lss l al (aY (aY (aY (some (D.aC [c,aa 12]))))) (af (aR (vC a) a [c,l,al,d,e,f,g,h,i,j,k])<|aI<|e5 λc d e f g h i j k l=>af (ba 5 i c) λm=>af (aQ true 4 1 m) λm=>af (sJ a [D.agg [e,f,g,h,i,j,k,l],m,bo]) λa=>bT a λm=>bU a λa=>aM 3 m<|aN .eql a al λn=>cb n (af (ba 4 e d) λd=>af (aQ false 1 1 d) λd=>aT (aW true .neq (ae m 0) d)) λd=>af (a6 d (av [c,aa 13,e,f,g,h,i,j,k,l]) (av [c,a,e,f,g,h,i,j,k,l]))<|aI<|e5 λa c d e f g h i j k=>aL .neq c al (aY (aY (aY (some (D.aC [a,c]))))) (av [a,d,e,f,g,h,i,j,k])))<|aI<|eO λa c d e f g h i j=>bs a λa=>av [a,c,d,e,f,g,h,i,j]) (bw [])) l
def J4(n:Nat)(a0:D):oX:=aM 8 a0<|af (aR (qR n) n [al,ae a0 0,ae a0 1,ae a0 2,ae a0 3,ae a0 4,ae a0 5,ae a0 6,ae a0 7])<|aI λ_=>some (D.aC [al,al])
def zp:=cO (J4 a)
def QU(n:Nat)(a0:D):oX:=af (aL .eql a0 bE (aY (some al)) (aN .eql a0 (aa 2) λj=>af (a6 j (av [a0,j]) (aN .eql a0 (aa 6) λk=>af (a6 k (av [a0,k]) (aN .eql a0 (aa 7) λv9=>af (a6 v9 (av [a0,v9]) (aN .eql a0 (aa 8) λc=>af (a6 c (av [a0,c]) (aN .eql a0 (aa 10) λd=>af (a6 d (av [a0,d]) (aN .eql a0 (aa 11) λv12=>af (a6 v12 (av [a0,v12]) (aN .eql a0 (aa 12) λh=>av [a0,h]))<|aI<|cV λa b=>av [a,b]))<|aI<|cV λa b=>av [a,b]))<|aI<|cV λa b=>av [a,b]))<|aI<|cV λa b=>av [a,b]))<|aI<|cV λa b=>av [a,b]))<|aI<|cV λa b=>a6 b (aY (some bE)) (aN .eql a (aa 3) λe=>af (a6 e (av [e]) (aN .eql a (aa 4) λf=>af (a6 f (av [f]) (aN .eql a (aa 5) λv17=>af (a6 v17 (av [v17]) (aN .eql a (aa 9) λg=>af (a6 g (av [g]) (aN .eql a (aa 13) λi=>av [i]))<|aI<|cr λa=>av [a]))<|aI<|cr λa=>av [a]))<|aI<|cr λa=>av [a]))<|aI<|cr λa=>a6 a (aY (some (aa 2))) (av []))))<|aI λ_=>some (aa (-1))
def zq:=cO (QU a)
def QV(a:Nat)(b:D):oX:=aM 4 b<|aN .eql (ae b 0) al λa=>cb a (aT (aW false .eql (ae b 1) al)) λa=>cb a (aT (aW false .eql (ae b 2) (aD ⟨#[]⟩))) λa=>cb a (bf (ae b 3) λa=>aT (aW false .eql a al)) λa=>some a
def D5:=cO (QV a)
def vD:oX:=aM 6 b<|af (zq a [ae b 0]) λc=>aL .lss c al (some (aa 11)) (aN .eql (ae b 0) bE λc=>af (a6 c (af (vv a [D.agg [ae b 1,ae b 2,ae b 3,ae b 4]]) λc=>aL .neq c al (aY (some c)) (af (vu a [D.agg [ae b 1,ae b 2,ae b 3,ae b 4]]) λc=>bT c λd=>bU c λc=>bf c λc=>aL .gtr c al (aY (some (aa 24))) (av [ae b 0,ae b 1,ae b 2,ae b 3,ae b 4,ae b 5]))) (av [ae b 0,ae b 1,ae b 2,ae b 3,ae b 4,ae b 5]))<|aI<|hn λb c d e f g=>bf g λg=>af (zq a [b]) λh=>aN .neq g h λg=>af (cE g false (aT (aW false .neq b bE))) λb=>af (cE b true (af (D5 a [D.agg [c,d,e,f]]) λa=>aT (cd .not a))) λa=>c0 g (aT (en b a bo)) λa=>a6 a (some (aa 3)) (some al))
def qS:=cO (vD a)
def D6(a:lZ->oX)(b:Nat)(c:lZ):bZ:=eO (λb d e f g h i j k=>bf k λl=>aL .lss e l (af (ba 6 k e) λl=>af (aQ true 6 0 l) λl=>bs b λm=>af (a [l,m,d]) λa=>bT a λl=>bU a λa=>aL .neq l al (aY (aY (some (D.aC [l,a])))) (bs e λe=>av [b,a,e,f,g,h,i,j,k])) (bw [d])) c
def J5(a:lZ->oX)(b:Nat)(c d e:D):oX:=aM 6 c<|aL .gtr d (aa 64) (some (D.aC [aa 17,e])) (af (qS b [D.agg [ae c 0,ae c 1,ae c 2,ae c 3,ae c 4,ae c 5]]) λf=>aL .neq f al (some (D.aC [f,e])) (bs e λe=>aL .gtr e (aa 4096) (some (D.aC [aa 4,e])) (af (aR (D6 a b) b [d,e,al,ae c 0,ae c 1,ae c 2,ae c 3,ae c 4,ae c 5])<|aI<|cr λa=>some (D.aC [al,a]))))
def pC:Nat->lZ->oX|0,_=>none|n+1,a=>match a with|[a0,aG,a2]=>J5 (pC n) n a0 aG a2|_=>none
def QW:oX:=aM 6 b<|af (pC a [D.agg [ae b 0,ae b 1,ae b 2,ae b 3,ae b 4,ae b 5],bE,al]) λa=>bT a λb=>bU a λa=>some b
def vE:=cO (QW a)
def zr(a:lZ->oX)(b:Nat)(c:lZ):bZ:=kT (λb d e f g h i j k l m n o p q=>bf q λr=>aL .lss b r (af (ba 6 q b) λr=>af (aQ true 6 0 r) λr=>af (a [D.agg [d,e,f,g,h,i,j,k],r]) λa=>aL .neq a al (aY (aY (some a))) (bs b λa=>av [a,d,e,f,g,h,i,j,k,l,m,n,o,p,q])) (bw [])) c
def zs(a:lZ->oX)(n:Nat)(a0 aG:D):oX:=aM 8 a0<|aM 6 aG<|aL .eql (ae aG 0) bE (aT (vB n [eo a0,D.agg [ae aG 1,ae aG 2,ae aG 3,ae aG 4],bo])) (af (aR (zr a n) n [al,ae a0 0,ae a0 1,ae a0 2,ae a0 3,ae a0 4,ae a0 5,ae a0 6,ae a0 7,ae aG 0,ae aG 1,ae aG 2,ae aG 3,ae aG 4,ae aG 5])<|aI λ_=>some al)
def pD:Nat->lZ->oX|0,_=>none|n+1,a=>match a with|[a0,aG]=>zs (pD n) n a0 aG|_=>none
def vF(a:Nat)(b:lZ):hW:=e5 (λa c d e f g h i j k=>aL .lss c a (af (ba 7 k c) λl=>af (aQ false 1 0 l) λl=>af (ba 7 k a) λm=>af (aQ false 1 0 m) λm=>aL .eql l m (aY (aY (aY (aY (aY (some (D.aC [a,aa 6]))))))) (bs c λc=>av [a,c,d,e,f,g,h,i,j,k])) (bw [a,d,e,f,g,h,i,j,k])) b
def qT:bZ:=eO (λc d e f g h i j k=>bf k λl=>aL .lss c l (af (af (ba 7 k c) λl=>af (aQ false 1 0 l) λl=>af (sE a [l]) λl=>dd (cd .not l) (aY (aY (aY (some (D.aC [c,aa 12]))))) (af (aR (vF a) a [c,al,d,e,f,g,h,i,j,k])<|aI<|eO λc d e f g h i j k=>af (ba 7 k c) λl=>af (aQ true 6 1 l) λl=>af (vE a [l]) λl=>aN .eql l al λm=>af (a6 m (af (ba 7 k c) λm=>af (aQ true 6 1 m) λm=>af (pD a [D.agg [d,e,f,g,h,i,j,k],m]) λa=>av [c,a,d,e,f,g,h,i,j,k]) (av [c,l,d,e,f,g,h,i,j,k]))<|aI<|e5 λa c d e f g h i j k=>aL .neq c al (aY (aY (aY (some (D.aC [a,c]))))) (av [a,d,e,f,g,h,i,j,k])))<|aI<|eO λa c d e f g h i j=>bs a λa=>av [a,c,d,e,f,g,h,i,j]) (bw [])) l
def J6(n:Nat)(a0:D):oX:=aM 8 a0<|af (aR (qT n) n [al,ae a0 0,ae a0 1,ae a0 2,ae a0 3,ae a0 4,ae a0 5,ae a0 6,ae a0 7])<|aI λ_=>some (D.aC [al,al])
def zt:=cO (J6 a)
def ng(a:Nat)(b:lZ):bZ:=iO (λa c d e f g h i j k l m=>aL .lss a (aa (aE m).length) (cm m a λn=>cu m n λn=>aL .gtr n (aa 64) (bs a λn=>bu n<|aM 2 (D.agg [n,aa 64])<|aY (aY (some (D.aC [D.agg [n,aa 64],aa 18])))) (bs a λa=>av [a,c,d,e,f,g,h,i,j,k,l,ay m])) (bw [c,d,e,f,g,h,i,j,k,l])) b
def gM:bZ:=gL (λc d e f g h i j k l m n o=>aL .leq e (aa 8) (af (af (aN .eql e (aa 2) λp=>af (a6 p (af (sL a [D.agg [f,g,h,i,j,k,l,m]]) λp=>bT p λq=>bU p λp=>av [q,p,e,f,g,h,i,j,k,l,m,n,o]) (aN .eql e (aa 3) λp=>af (a6 p (af (qQ a [D.agg [f,g,h,i,j,k,l,m],h,bo]) λp=>bT p λq=>bU p λp=>av [q,p,e,f,g,h,i,j,k,l,m,n,o]) (aN .eql e (aa 4) λp=>af (a6 p (af (qQ a [D.agg [f,g,h,i,j,k,l,m],i,bo]) λp=>bT p λq=>bU p λp=>av [q,p,e,f,g,h,i,j,k,l,m,n,o]) (aN .eql e (aa 5) λp=>af (a6 p (af (zp a [D.agg [f,g,h,i,j,k,l,m]]) λp=>bT p λq=>bU p λp=>av [q,p,e,f,g,h,i,j,k,l,m,n,o]) (aN .eql e (aa 6) λp=>af (a6 p (af (qQ a [D.agg [f,g,h,i,j,k,l,m],k,cf]) λp=>bT p λq=>bU p λp=>av [q,p,e,f,g,h,i,j,k,l,m,n,o]) (aN .eql e (aa 7) λp=>af (a6 p (af (qQ a [D.agg [f,g,h,i,j,k,l,m],l,bo]) λp=>bT p λq=>bU p λp=>av [q,p,e,f,g,h,i,j,k,l,m,n,o]) (aN .eql e (aa 8) λp=>af (a6 p (af (zt a [D.agg [f,g,h,i,j,k,l,m]]) λa=>bT a λp=>bU a λa=>av [p,a,e,f,g,h,i,j,k,l,m,n,o]) (av [c,d,e,f,g,h,i,j,k,l,m,n,o]))<|aI<|gL λa c d e f g h i j k l m p=>av [a,c,d,e,f,g,h,i,j,k,l,m,p]))<|aI<|gL λa c d e f g h i j k l m p=>av [a,c,d,e,f,g,h,i,j,k,l,m,p]))<|aI<|gL λa c d e f g h i j k l m p=>av [a,c,d,e,f,g,h,i,j,k,l,m,p]))<|aI<|gL λa c d e f g h i j k l m p=>av [a,c,d,e,f,g,h,i,j,k,l,m,p]))<|aI<|gL λa c d e f g h i j k l m p=>av [a,c,d,e,f,g,h,i,j,k,l,m,p]))<|aI<|gL λa c d e f g h i j k l m p=>av [a,c,d,e,f,g,h,i,j,k,l,m,p]))<|aI<|gL λa c d e f g h i j k l m p=>av [a,c,d,e,f,g,h,i,j,k,l,m,p])<|aI<|gL λa c d e f g h i j k l m p=>aL .neq c al (bu d<|bu a<|aM 2 (D.agg [d,a])<|aY (aY (aY (some (D.aC [D.agg [d,a],c]))))) (av [a,c,d,e,f,g,h,i,j,k,l,m,p]))<|aI<|gL λa c d e f g h i j k l m p=>bs d λd=>av [a,c,d,e,f,g,h,i,j,k,l,m,p]) (bw [n,o])) l
def sM(n:Nat)(a0:D):oX:=aM 8 a0<|bf (ae a0 0) λb=>bf (ae a0 1) λc=>bf (ae a0 2) λv17=>bf (ae a0 3) λv20=>bf (ae a0 4) λd=>bf (ae a0 5) λv26=>bf (ae a0 6) λe=>bf (ae a0 7) λv32=>bu b<|bu c<|bu v17<|bu v20<|bu d<|bu v26<|bu e<|bu v32<|af (aR (ng n) n [al,ae a0 0,ae a0 1,ae a0 2,ae a0 3,ae a0 4,ae a0 5,ae a0 6,ae a0 7,al,al,D.aw 1 [[b],[c],[v17],[v20],[d],[v26],[e],[v32]]])<|aI<|e5 λf g h i j k l m o p=>af (DO n [f]) λv51=>bT v51 λa=>bU v51 λv53=>aL .neq v53 al (bu a<|aM 2 (D.agg [bE,a])<|some (D.aC [D.agg [bE,a],v53])) (af (DS n [D.agg [f,g,h,i,j,k,l,m]]) λv60=>aL .gtr v60 (aa 30) (some (D.aC [D.agg [bE,al],aa 18])) (af (aR (gM n) n [a,v53,aa 2,f,g,h,i,j,k,l,m,o,p])<|aI λ_=>some (D.aC [D.agg [al,al],al])))
def l9:=cO (sM a)
def zu:bZ:=dP (λc d e f=>bf c λg=>aL .lss f g (af (ba 4 c f) λg=>af (aQ true 4 0 g) λg=>af (pz a [g]) λa=>aN .mul e a λa=>aL .gtr a d (aY (aY (some bo))) (bs f λe=>av [c,d,a,e])) (bw [])) l
def J7(n:Nat)(a0 aG:D):oX:=af (aR (zu n) n [a0,aG,bE,al])<|aI λ_=>some cf
def vG:=db (J7 a)
def vH:oX:=aM 8 b<|bf (ae b 0) λd=>aN .gtr d (aa 12) λd=>c0 d (bf (ae b 1) λd=>bf (ae b 2) λe=>aN .add d e λd=>bf (ae b 3) λe=>aN .add d e λd=>bf (ae b 4) λe=>aN .add d e λd=>bf (ae b 5) λe=>aN .add d e λd=>bf (ae b 6) λe=>aN .add d e λd=>bf (ae b 7) λe=>aN .add d e λd=>aT (aW false .gtr d (aa 40))) λd=>a6 d (some bo) (af (l9 a [eo b]) λd=>bT d λe=>bU d λd=>aM 2 e<|aN .neq d al λf=>cb f (aT (aW false .lss (ae e 1) (aa 64))) λe=>af (cE e false (aT (aW false .eql d al))) λd=>af (cE d true (aT (vG a [ae b 0,c]))) λa=>c0 e (aT (en d a bo)) λa=>some a)
def qU:=db (vH a)
def D7:bZ:=dP (λc d e f=>bf c λg=>aL .lss e g (af (ba 4 c e) λg=>af (aQ true 4 0 g) λg=>af (kU a [g,d]) λa=>bT a λg=>bU a λa=>aM 4 g<|aL .neq a al (aY (aY (some (D.aC [a7,e,a])))) (aM 4 (b7 g)<|bJ (b2 ((aE f).length+([[ae g 0,ae g 1,ae g 2,ae g 3]]).length) 56)<|bs e λa=>av [c,d,a,D.aw 4 ((aE f)++[[ae g 0,ae g 1,ae g 2,ae g 3]])])) (bw [D.aw 4 (aE f)])) l
def QX:oX:=af (aR (D7 a) a [b,c,al,D.aw 4 ([]:mW)])<|aI<|cr λa=>some (D.aC [D.aw 4 (aE a),al,al])
def ma:=db (QX a)
def vI(a:lZ->oX)(b:Nat)(c:lZ):bZ:=kT (λb d e f g h i j k l m n o p q=>bf j λr=>aL .lss d r (af (ba 6 j d) λr=>af (aQ true 6 0 r) λr=>af (a [r,b]) λa=>bT a λr=>bU a λa=>aM 6 r<|aL .neq a al (aY (aY (some (D.aC [D.agg [al,al,al,aD ⟨#[]⟩,a7,a7],a])))) (aM 6 (D.agg [ae r 0,ae r 1,ae r 2,ae r 3,ae r 4,ae r 5])<|bJ (b2 ((aE q).length+([[ae r 0,ae r 1,ae r 2,ae r 3,ae r 4,ae r 5]]).length) 88)<|bs d λa=>av [b,a,e,f,g,h,i,j,k,l,m,n,o,p,D.aw 6 ((aE q)++[[ae r 0,ae r 1,ae r 2,ae r 3,ae r 4,ae r 5]])])) (bw [e,f,g,h,i,j,k,l,m,n,o,p,D.aw 6 (aE q)])) c
def oi(a:lZ->oX)(b:Nat)(c d:D):oX:=aM 6 c<|aL .eql (ae c 0) bE (af (kU b [D.agg [ae c 1,ae c 2,ae c 3,ae c 4],d]) λe=>bT e λf=>bU e λe=>aM 4 f<|aL .neq e al (some (D.aC [D.agg [al,al,al,aD ⟨#[]⟩,a7,a7],e])) (aM 4 (b7 f)<|aM 6 (D.agg [ae c 0,ae f 0,ae f 1,ae f 2,ae f 3,ae c 5])<|some (D.aC [D.agg [ae c 0,ae f 0,ae f 1,ae f 2,ae f 3,ae c 5],al]))) (af (aR (vI a b) b [d,al,ae c 0,ae c 1,ae c 2,ae c 3,ae c 4,ae c 5,al,al,al,aD ⟨#[]⟩,a7,a7,D.aw 6 ([]:mW)])<|aI<|gL λa b c d e f g h i j k l m=>bu a<|bu b<|bu c<|bu d<|bu e<|some (D.aC [D.agg [a,b,c,d,e,D.aw 6 (aE m)],al]))
def lx:Nat->lZ->oX|0,_=>none|n+1,a=>match a with|[a0,aG]=>oi (lx n) n a0 aG|_=>none
def J8:oX:=aM 6 b<|af (vE a [D.agg [ae b 0,ae b 1,ae b 2,ae b 3,ae b 4,ae b 5]]) λd=>aL .neq d al (some (D.aC [D.agg [al,al,al,aD ⟨#[]⟩,a7,a7],d])) (af (lx a [D.agg [ae b 0,ae b 1,ae b 2,ae b 3,ae b 4,ae b 5],c]) λa=>bT a λb=>bU a λa=>aM 6 b<|some (D.aC [D.agg [ae b 0,ae b 1,ae b 2,ae b 3,ae b 4,ae b 5],a]))
def vJ:=db (J8 a)
def vK:bZ:=Jw (λc d e f g h i j k l m n o p q r s t u w x y z A B C E=>bf h λF=>aL .lss c F (af (ba 5 h c) λF=>af (aQ true 4 1 F) λF=>af (kU a [F,e]) λa=>bT a λF=>bU a λa=>aM 4 F<|aL .neq a al (bu c<|aM 2 (D.agg [aa 5,c])<|aY (aY (some (D.aC [D.agg [a7,a7,a7,a7,a7,a7,a7,a7],D.agg [aa 5,c],a])))) (af (ba 5 h c) λa=>af (aQ false 1 0 a) λa=>bu a<|aM 4 (b7 F)<|aM 5 (D.agg [a,ae F 0,ae F 1,ae F 2,ae F 3])<|bJ (b2 ((aE E).length+([[a,ae F 0,ae F 1,ae F 2,ae F 3]]).length) 72)<|bs c λc=>av [c,d,e,f,g,h,i,j,k,l,m,n,o,p,q,r,s,t,u,w,x,y,z,A,B,C,D.aw 5 ((aE E)++[[a,ae F 0,ae F 1,ae F 2,ae F 3]])])) (bw [d,e,f,g,h,i,j,k,l,m,n,o,p,q,r,s,t,u,w,x,y,z,A,B,C,D.aw 5 (aE E)])) l
def vL:bZ:=Jw (λc d e f g h i j k l m n o p q r s t u w x y z A B C E=>bf k λF=>aL .lss c F (af (ba 7 k c) λF=>af (aQ true 6 1 F) λF=>af (vJ a [F,e]) λa=>bT a λF=>bU a λa=>aM 6 F<|aL .neq a al (bu c<|aM 2 (D.agg [aa 8,c])<|aY (aY (some (D.aC [D.agg [a7,a7,a7,a7,a7,a7,a7,a7],D.agg [aa 8,c],a])))) (af (ba 7 k c) λa=>af (aQ false 1 0 a) λa=>bu a<|aM 6 (D.agg [ae F 0,ae F 1,ae F 2,ae F 3,ae F 4,ae F 5])<|aM 7 (D.agg [a,ae F 0,ae F 1,ae F 2,ae F 3,ae F 4,ae F 5])<|bJ (b2 ((aE E).length+([[a,ae F 0,ae F 1,ae F 2,ae F 3,ae F 4,ae F 5]]).length) 104)<|bs c λc=>av [c,d,e,f,g,h,i,j,k,l,m,n,o,p,q,r,s,t,u,w,x,y,z,A,B,D.aw 5 (aE C),D.aw 7 ((aE E)++[[a,ae F 0,ae F 1,ae F 2,ae F 3,ae F 4,ae F 5]])])) (bw [l,m,n,o,p,q,r,s,t,u,w,x,y,z,A,B,D.aw 5 (aE C),D.aw 7 (aE E)])) l
def J9:oX:=aM 8 b<|bJ (c7 (ae b 0))<|aM 8 (D.agg [ae b 0,a7,a7,a7,a7,a7,a7,a7])<|af (ma a [ae b 2,ae b 1]) λc=>bT c λd=>bU c λe=>af (e0 2 c) λc=>aL .neq c al (bu e<|aM 2 (D.agg [aa 3,e])<|some (D.aC [D.agg [a7,a7,a7,a7,a7,a7,a7,a7],D.agg [aa 3,e],c])) (bu d<|af (ma a [ae b 3,ae b 1]) λc=>bT c λe=>bU c λf=>af (e0 2 c) λc=>aL .neq c al (bu f<|aM 2 (D.agg [aa 4,f])<|some (D.aC [D.agg [a7,a7,a7,a7,a7,a7,a7,a7],D.agg [aa 4,f],c])) (bu e<|af (aR (vK a) a [al,ae b 0,ae b 1,ae b 2,ae b 3,ae b 4,ae b 5,ae b 6,ae b 7,a7,a7,a7,a7,a7,a7,a7,a7,al,al,ae b 0,a7,d,e,a7,a7,a7,D.aw 5 []])<|aI<|Jv λb c d e f g h i j k l m n o p q r s t u w x y z A B=>af (ma a [g,c]) λy=>bT y λz=>bU y λC=>af (e0 2 y) λy=>aL .neq y al (bu C<|aM 2 (D.agg [aa 6,C])<|some (D.aC [D.agg [a7,a7,a7,a7,a7,a7,a7,a7],D.agg [aa 6,C],y])) (bu z<|af (ma a [h,c]) λy=>bT y λC=>bU y λE=>af (e0 2 y) λy=>aL .neq y al (bu E<|aM 2 (D.agg [aa 7,E])<|some (D.aC [D.agg [a7,a7,a7,a7,a7,a7,a7,a7],D.agg [aa 7,E],y])) (bu C<|af (bJ (jv A)<|aR (vL a) a [al,b,c,d,e,f,g,h,i,j,k,l,m,n,o,p,q,r,s,t,u,w,x,z,C,D.aw 5 (aE B),D.aw 7 []])<|aI<|Df λa b c d e f g h i j k l m n o p q r=>aM 8 (D.agg [k,l,m,n,D.aw 5 (aE q),o,p,D.aw 7 (aE r)])<|some (D.aC [D.agg [k,l,m,n,D.aw 5 (aE q),o,p,D.aw 7 (aE r)],D.agg [al,al],al])))))
def zv:=cO (J9 a)
def D8:oX:=aM 8 b<|bf (ae b 1) λc=>aL .eql c al (aM 8 (eo b)<|some (eo b)) (af (zv a [eo b]) λa=>bT a λb=>bU a λc=>af (e0 2 a) λa=>aM 8 b<|aM 2 c<|aM 8 (eo b)<|some (eo b))
def pE:=cO (D8 a)
def zw:bZ:=e5 (λc d e f g h i j k l=>bf e λm=>aL .lss d m (af (ba 4 e d) λm=>af (aQ true 4 0 m) λm=>af (pz a [m]) λa=>aL .eql a al (aY (aY (some (D.aC [al,cf])))) (bs d λa=>av [c,a,e,f,g,h,i,j,k,l])) (bw [c,e,f,g,h,i,j,k,l])) l
def zx:bZ:=e5 (λc d e f g h i j k l=>bf e λm=>aL .lss d m (af (ba 4 e d) λm=>af (aQ true 4 0 m) λm=>af (pz a [m]) λa=>aN .mul c a λa=>aL .gtr a (aa 1073741824) (aY (aY (some (D.aC [al,bo])))) (bs d λd=>av [a,d,e,f,g,h,i,j,k,l])) (bw [c])) l
def D9:oX:=aM 8 b<|af (aR (zw a) a [bE,al,ae b 0,ae b 1,ae b 2,ae b 3,ae b 4,ae b 5,ae b 6,ae b 7])<|aI<|eO λb c d e f g h i j=>af (aR (zx a) a [b,al,c,d,e,f,g,h,i,j])<|aI<|cr λa=>some (D.aC [a,cf])
def vM:=cO (D9 a)
def zy:De:=lu (λc d e f g h i j k l m n o p=>af (ba 4 g c) λq=>af (aQ true 4 0 q) λq=>af (pz a [q]) λa=>aL .lss f a (cm o e λa=>cu o a λa=>af (jw a) λa=>bJ (decide (a.1=1\/a.2=[])&&decide (0<1))<|bJ (b2 (([]:mW).length+(a.2).length) 8)<|aN .add d f λq=>bu q<|bJ (b2 ((([]:mW)++a.2).length+([[q]]).length) 8)<|bJ (c7 (D.aw 1 ((([]:mW)++a.2)++[[q]])))<|bJ (b2 ((aE p).length+([[D.aw 1 ((([]:mW)++a.2)++[[q]])]]).length) 24)<|bs f λf=>av [c,d,e,f,g,h,i,j,k,l,m,n,ay o,D.aw 1 ((aE p)++[[D.aw 1 ((([]:mW)++a.2)++[[q]])]])]) (bw [c,d,e,g,h,i,j,k,l,m,n,ay o,ay p])) l
def zz:hW:=gL (λc d e f g h i j k l m n o=>aL .lss e (aa (aE n).length) (af (af (aR (zy a) a [c,d,e,al,f,g,h,i,j,k,l,m,ay n,ay o])<|aI<|gL λa d e n p q r s t u w x y=>av [a,d,e,n,p,q,r,s,t,u,w,ay x,ay y])<|aI<|gL λa d e n p q r s t u w x y=>bs e λe=>av [a,d,e,n,p,q,r,s,t,u,w,ay x,ay y]) (bw [c,f,g,h,i,j,k,l,m,ay o])) l
def zA:bZ:=e5 (λc d e f g h i j k l=>bf d λm=>aL .lss c m (af (af (ba 4 d c) λm=>af (aQ false 1 2 m) λm=>af (ba 4 d c) λn=>af (aQ false 1 1 n) λn=>af (a6 n (av [c,al,d,e,f,g,h,i,j,k,ay l]) (av [c,m,d,e,f,g,h,i,j,k,ay l]))<|aI<|gX λc d e f g h i j k m n=>af (aR (zz a) a [c,d,al,e,f,g,h,i,j,k,m,ay n,D.aw 1 ([]:mW)])<|aI<|e5 λa c d e f g h i j k=>av [a,c,d,e,f,g,h,i,j,ay k])<|aI<|e5 λa c d e f g h i j k=>bs a λa=>av [a,c,d,e,f,g,h,i,j,ay k]) (bw [ay l])) l
def QY:oX:=aM 8 b<|af (vM a [eo b]) λd=>bT d λe=>bU d λd=>af (cd .not d) λd=>c0 d (aT (aW false .gtr e c)) λc=>a6 c (some a7) (bJ (c7 (D.aw 1 ([]:mW)))<|af (aR (zA a) a [al,ae b 0,ae b 1,ae b 2,ae b 3,ae b 4,ae b 5,ae b 6,ae b 7,D.aw 1 [[D.aw 1 ([]:mW)]]])<|aI<|cr λa=>some (ay a))
def Ea:=db (QY a)
def nh(a:Nat)(b:lZ):bZ:=e5 (λa c d e f g h i j k=>bf a λl=>aL .lss c l (af (ba 4 d c) λl=>af (aQ true 4 0 l) λl=>aM 4 l<|cb (ae l 1) (bM a c λm=>aT (aW false .neq m al)) λm=>cb m (bM a c λm=>aT (aW false .neq m bE)) λm=>af (cE m false (aT (cd .not (ae l 1)))) λn=>af (cE n true (bM a c λo=>aT (aW false .lss o (ae l 2)))) λo=>af (cE o false (bM a c λp=>aT (aW false .gtr p (ae l 3)))) λl=>af (cE n true (aT (en o cf l))) λl=>c0 m (aT (en n l bo)) λl=>a6 l (aY (aY (some bo))) (bs c λc=>av [a,c,d,e,f,g,h,i,j,k])) (bw [])) b
def QZ(n:Nat)(a0 aG:D):oX:=aM 8 a0<|bf aG λb=>bf (ae a0 0) λa=>aL .neq b a (some bo) (af (aR (nh n) n [aG,al,ae a0 0,ae a0 1,ae a0 2,ae a0 3,ae a0 4,ae a0 5,ae a0 6,ae a0 7])<|aI λ_=>some cf)
def zB:=db (QZ a)
def zC(a:lZ->oX)(b:Nat)(c:lZ):bZ:=fG (λb d e f g=>bf g λh=>aL .lss b h (af (ba 4 g b) λh=>af (aQ true 4 0 h) λh=>dd (a [h]) (aY (aY (some cf))) (bs b λa=>av [a,d,e,f,g])) (bw [])) c
def Eb(a:lZ->oX)(n:Nat)(a0:D):oX:=aM 4 a0<|aL .eql (ae a0 0) (aa 4) (some cf) (af (aR (zC a n) n [al,ae a0 0,ae a0 1,ae a0 2,ae a0 3])<|aI λ_=>some bo)
def oj:Nat->lZ->oX|0,_=>none|n+1,a=>match a with|[a0]=>Eb (oj n) n a0|_=>none
def Q0(a:Nat)(b:D):oX:=a6 b (some bE) (some al)
def mb:=cO (Q0 a)
def Ec(a:Nat)(b:D):oX:=aN .lss b (aa (-9007199254740992)) λa=>c0 a (aT (aW false .gtr b (aa 9007199254740992))) λa=>some a
def sN:=cO (Ec a)
def Q1(a:Nat)(b:D):oX:=af (cd .neg b) λa=>aT (hU true [b,a])
def zD:=cO (Q1 a)
def qV(a:lZ->oX)(b:Nat)(c:lZ):bZ:=e5 (λb d e f g h i j k l=>bf k λm=>aL .lss g m (af (af (ba 4 k g) λm=>af (aQ true 4 0 m) λm=>af (a [b,m,d,e]) λa=>bT a λm=>bU a λa=>dd (cd .not a) (aY (aY (aY (some (D.aC [al,bo]))))) (bu m<|bJ (b2 ((aE l).length+([[m]]).length) 8)<|aN .eql h (aa 6) λa=>c0 a (aT (aW false .eql h (aa 7))) λa=>af (a6 a (aN .add f m λa=>av [b,d,e,a,g,h,i,j,k,D.aw 1 ((aE l)++[[m]])]) (av [b,d,e,f,g,h,i,j,k,D.aw 1 ((aE l)++[[m]])]))<|aI<|e5 λa b d e g m n o p q=>av [a,b,d,e,g,m,n,o,p,ay q]))<|aI<|e5 λa b d e g m n o p q=>bs g λg=>av [a,b,d,e,g,m,n,o,p,ay q]) (bw [f,h,i,j,k,ay l])) c
def iP(a:lZ->oX)(b:Nat)(c d e f:D):oX:=aM 4 d<|aN .eql (ae d 0) bE λg=>af (a6 g (av [c,e,f,ae d 0,g,ae d 0,ae d 1,ae d 2,ae d 3]) (aN .eql (ae d 0) (aa 2) λg=>av [c,e,f,ae d 0,g,ae d 0,ae d 1,ae d 2,ae d 3]))<|aI<|eO λc d e f g h i j k=>a6 g (some (D.aC [i,cf])) (aN .eql f (aa 3) λg=>af (a6 g (av [c,d,e,g,h,i,j,k]) (aN .eql f (aa 4) λf=>av [c,d,e,f,h,i,j,k]))<|aI<|u8 λc d e f g h i j=>a6 f (af (vy b [c,i]) λf=>aN .eql g (aa 3) λk=>af (a6 k (bM d f λk=>av [c,f,k]) (bM e f λk=>av [c,f,k]))<|aI<|fp λf k l=>af (ba 4 f k) λf=>dd (aQ false 1 1 f) (aN .neq l al λf=>af (mb b [f]) λf=>some (D.aC [f,cf])) (af (sN b [l]) λf=>af (cd .not f) λf=>some (D.aC [l,f]))) (af (aR (qV a b) b [c,d,e,al,al,g,h,i,j,D.aw 1 ([]:mW)])<|aI<|hn λa c d e f g=>af (aN .eql c (aa 5) λd=>af (a6 d (cm g al λd=>cu g d λd=>aN .sub bE d λd=>av [d]) (aN .eql c (aa 6) λd=>af (a6 d (aN .eql a (aa (aE g).length) λd=>af (mb b [d]) λd=>av [d]) (aN .eql c (aa 7) λd=>af (a6 d (aN .gtr a al λa=>af (mb b [a]) λa=>av [a]) (aN .eql c (aa 8) λa=>af (a6 a (cm g al λa=>cu g a λa=>aN .eql a al λa=>c0 a (cm g bE λa=>cu g a λa=>aT (aW false .eql a bE)) λa=>af (mb b [a]) λa=>av [a]) (aN .eql c (aa 9) λa=>af (a6 a (av [al,c,a,ay g]) (aN .eql c (aa 10) λa=>av [al,c,a,ay g]))<|aI<|dP λa c d e=>af (a6 d (cm e al λd=>cu e d λd=>cm e bE λf=>cu e f λf=>aN .eql d f λd=>af (mb b [d]) λd=>av [d]) (aN .eql c (aa 11) λd=>af (a6 d (cm e al λd=>cu e d λd=>cm e bE λf=>cu e f λf=>aN .neq d f λd=>af (mb b [d]) λd=>av [d]) (aN .eql c (aa 12) λd=>af (a6 d (cm e al λd=>cu e d λd=>cm e bE λf=>cu e f λf=>aN .lss d f λd=>af (mb b [d]) λd=>av [d]) (aN .eql c (aa 13) λd=>af (a6 d (cm e al λd=>cu e d λd=>cm e bE λf=>cu e f λf=>aN .leq d f λd=>af (mb b [d]) λd=>av [d]) (aN .eql c (aa 14) λd=>af (a6 d (cm e al λd=>cu e d λd=>cm e bE λf=>cu e f λf=>aN .add d f λd=>av [d]) (aN .eql c (aa 15) λd=>af (a6 d (cm e al λd=>cu e d λd=>cm e bE λf=>cu e f λf=>aN .sub d f λd=>av [d]) (aN .eql c (aa 16) λd=>af (a6 d (cm e al λd=>cu e d λd=>aN .neq d al λd=>cb d (cm e bE λd=>cu e d λd=>af (zD b [d]) λd=>cm e al λf=>cu e f λf=>af (zD b [f]) λf=>aN .quo (aa 9007199254740992) f λf=>aT (aW false .gtr d f)) λd=>a6 d (aY (aY (aY (aY (aY (aY (aY (aY (aY (aY (aY (aY (some (D.aC [al,bo])))))))))))))) (cm e al λd=>cu e d λd=>cm e bE λf=>cu e f λf=>aN .mul d f λd=>av [d])) (aN .eql c (aa 17) λd=>af (a6 d (cm e al λd=>cu e d λd=>cm e bE λf=>cu e f λf=>aN .rem d f λd=>cm e bE λf=>cu e f λf=>aN .add d f λd=>cm e bE λf=>cu e f λf=>aN .rem d f λd=>av [d]) (aN .eql c (aa 18) λc=>af (a6 c (af (cI (aE e).length (aa 2)) λc=>cu e c λc=>cm e al λd=>cu e d λd=>aN .eql d bE λd=>af (a6 d (cm e bE λd=>cu e d λd=>av [d]) (av [c]))<|aI<|cr λc=>av [c]) (av [a]))<|aI<|cr λa=>av [a]))<|aI<|cr λa=>av [a]))<|aI<|cr λa=>av [a]))<|aI<|cr λa=>av [a]))<|aI<|cr λa=>av [a]))<|aI<|cr λa=>av [a]))<|aI<|cr λa=>av [a]))<|aI<|cr λa=>av [a]))<|aI<|cr λa=>av [a]))<|aI<|cr λa=>av [a]))<|aI<|cr λa=>av [a]))<|aI<|cr λa=>av [a]))<|aI<|cr λa=>av [a])<|aI<|cr λa=>af (sN b [a]) λb=>af (cd .not b) λb=>some (D.aC [a,b])))
def om:Nat->lZ->oX|0,_=>none|n+1,a=>match a with|[a0,aG,a2,a3]=>iP (om n) n a0 aG a2 a3|_=>none
def vN:oX:=aM 4 c<|af (sI a [b,b7 c,cf]) λf=>bT f λg=>bU f λf=>aM 3 g<|aN .neq f al λf=>c0 f (bf d λf=>bf b λg=>aT (aW false .neq f g)) λf=>af (cE f false (aT (oj a [b7 c]))) λg=>af (cE g true (bf e λh=>bf b λi=>aT (aW false .neq h i))) λh=>c0 f (aT (en g h bo)) λf=>a6 f (some (D.aC [al,bo])) (af (om a [b,b7 c,d,e]) λa=>bT a λb=>bU a λa=>dd (cd .not a) (some (D.aC [al,bo])) (some (D.aC [b,cf])))
def ly:=ph (vN a)
def zE:bZ:=fG (λc d e f g=>bf d λh=>aL .lss g h (af (ba 4 d g) λh=>af (aQ true 4 0 h) λh=>af (ly a [c,h,e,f]) λa=>bT a λh=>bU a λa=>af (cd .not a) λa=>c0 a (aT (aW false .neq h bE)) λa=>a6 a (aY (aY (some bo))) (bs g λa=>av [c,d,e,f,a])) (bw [])) l
def Ka(n:Nat)(a0 aG a2 a3:D):oX:=af (aR (zE n) n [a0,aG,a2,a3,al])<|aI λ_=>some cf
def qW:=ph (Ka a)
def Kb:oX:=aM 8 b<|af (zB a [eo b,c]) λd=>cb d (aT (qW a [ae b 0,ae b 3,c,a7])) λa=>some a
def qX:=db (Kb a)
def zF:bZ:=gX (λc d e f g h i j k l m=>bf c λn=>aL .lss d n (af (bM c d λn=>af (qX a [D.agg [e,f,g,h,i,j,k,l],n]) λa=>af (a6 a (bM c d λa=>bu a<|bJ (b2 ((aE m).length+([[a]]).length) 24)<|av [c,d,e,f,g,h,i,j,k,l,D.aw 1 ((aE m)++[[a]])]) (av [c,d,e,f,g,h,i,j,k,l,ay m]))<|aI<|gX λa c d e f g h i j k l=>av [a,c,d,e,f,g,h,i,j,k,ay l])<|aI<|gX λa c d e f g h i j k l=>bs c λc=>av [a,c,d,e,f,g,h,i,j,k,ay l]) (bw [ay m])) l
def Q2:oX:=aM 8 b<|af (pE a [eo b]) λb=>aM 8 b<|af (Ea a [eo b,aa 4096]) λc=>af (aR (zF a) a [c,al,ae b 0,ae b 1,ae b 2,ae b 3,ae b 4,ae b 5,ae b 6,ae b 7,D.aw 1 ([]:mW)])<|aI<|cr λa=>some (ay a)
def Ed:=cO (Q2 a)
def vO:bZ:=gX (λc d e f g h i j k l m=>bf j λn=>aL .lss e n (af (ba 5 j e) λn=>af (aQ true 4 1 n) λn=>af (ly a [f,n,c,a7]) λn=>bT n λo=>bU n λn=>af (ba 5 j e) λp=>af (aQ false 1 0 p) λp=>af (vy a [f,p]) λa=>af (cd .not n) λn=>c0 n (aT (aW false .lss a al)) λn=>c0 n (bM d a λa=>aT (aW false .neq a o)) λa=>a6 a (aY (aY (some bo))) (bs e λa=>av [c,d,a,f,g,h,i,j,k,l,m])) (bw [c,d,f,g,h,i,j,k,l,m])) l
def zG:oX:=aM 8 b<|af (pE a [eo b]) λb=>aM 8 b<|af (qX a [eo b,c]) λe=>af (cd .not e) λe=>c0 e (af (qX a [eo b,d]) λe=>aT (cd .not e)) λe=>a6 e (some bo) (af (aR (vO a) a [c,d,al,ae b 0,ae b 1,ae b 2,ae b 3,ae b 4,ae b 5,ae b 6,ae b 7])<|aI<|u8 λb c d e f g h i=>aT (qW a [d,i,b,c]))
def sO:=gV (zG a)
def Kc:oX:=aM 8 b<|af (pE a [eo b]) λb=>aM 8 b<|af (qX a [eo b,c]) λd=>cb d (aT (qW a [ae b 0,ae b 2,c,a7])) λa=>some a
def zH:=db (Kc a)
def Ee:bZ:=gX (λc d e f g h i j k l m=>bf k λn=>aL .lss d n (bs d λn=>af (j3 4 k (some d) (some n)) λn=>af (qW a [e,n,c,a7]) λa=>bu a<|bJ (b2 ((aE m).length+([[a]]).length) 1)<|bs d λd=>av [c,d,e,f,g,h,i,j,k,l,D.aw 1 ((aE m)++[[a]])]) (bw [ay m])) l
def Q3:oX:=aM 8 b<|af (pE a [eo b]) λb=>aM 8 b<|af (aR (Ee a) a [c,al,ae b 0,ae b 1,ae b 2,ae b 3,ae b 4,ae b 5,ae b 6,ae b 7,D.aw 1 ([]:mW)])<|aI<|cr λa=>some (ay a)
def Ef:=db (Q3 a)
def vP:hW:=sy (λc d e f g h i j k l m n o p q r s t u=>bf q λw=>aL .lss d w (af (bM q c λw=>bM q d λx=>af (sO a [D.agg [e,f,g,h,i,j,k,l],w,x]) λa=>af (a6 a (bu d<|bJ (b2 ((aE r).length+([[d]]).length) 8)<|av [c,d,e,f,g,h,i,j,k,l,m,n,o,p,q,D.aw 1 ((aE r)++[[d]]),ay s,ay t,ay u]) (av [c,d,e,f,g,h,i,j,k,l,m,n,o,p,q,ay r,ay s,ay t,ay u]))<|aI<|sy λa d w x y z A B C E F G H I J K L M N=>av [a,d,w,x,y,z,A,B,C,E,F,G,H,I,J,ay K,ay L,ay M,ay N])<|aI<|sy λa d w x y z A B C E F G H I J K L M N=>bs d λd=>av [a,d,w,x,y,z,A,B,C,E,F,G,H,I,J,ay K,ay L,ay M,ay N]) (bw [c,e,f,g,h,i,j,k,l,m,n,o,p,q,ay r,ay s,ay t,ay u])) l
def vQ:bZ:=uR (λc d e f g h i j k l m n o p q r s=>bf p λt=>aL .lss c t (af (af (aR (vP a) a [c,al,d,e,f,g,h,i,j,k,l,m,n,o,p,D.aw 1 [],ay q,ay r,ay s])<|aI<|Df λc d e f g h i j k t u w x y z A B C=>bJ (c7 (ay z))<|bJ (b2 ((aE A).length+([[ay z]]).length) 24)<|bM y c λE=>af (zH a [D.agg [d,e,f,g,h,i,j,k],E]) λE=>af (a6 E (bu c<|bJ (b2 ((aE B).length+([[c]]).length) 8)<|av [c,d,e,f,g,h,i,j,k,t,u,w,x,y,D.aw 1 ((aE A)++[[ay z]]),D.aw 1 ((aE B)++[[c]]),ay C]) (av [c,d,e,f,g,h,i,j,k,t,u,w,x,y,D.aw 1 ((aE A)++[[ay z]]),ay B,ay C]))<|aI<|uR λc d e f g h i j k t u w x y z A B=>bM y c λC=>af (Ef a [D.agg [d,e,f,g,h,i,j,k],C]) λa=>bu a<|bJ (b2 ((aE B).length+([[a]]).length) 24)<|av [c,d,e,f,g,h,i,j,k,t,u,w,x,y,ay z,ay A,D.aw 1 ((aE B)++[[a]])])<|aI<|uR λa c d e f g h i j k t u w x y z A=>bs a λa=>av [a,c,d,e,f,g,h,i,j,k,t,u,w,x,ay y,ay z,ay A]) (bw [l,m,n,o,p,ay q,ay r,ay s])) l
def Kd:oX:=aM 8 b<|af (l9 a [eo b]) λc=>bT c λd=>bU c λc=>aM 2 d<|aL .neq c al (some (D.aC [D.agg [a7,a7,a7,a7],c])) (af (vG a [ae b 0,aa 4096]) λc=>dd (cd .not c) (some (D.aC [D.agg [a7,a7,a7,a7],aa 18])) (af (zv a [eo b]) λb=>bT b λc=>bU b λd=>af (e0 2 b) λb=>aM 8 c<|af (Ed a [eo c]) λb=>bu b<|af (aR (vQ a) a [al,ae c 0,ae c 1,ae c 2,ae c 3,ae c 4,ae c 5,ae c 6,ae c 7,a7,a7,a7,a7,b,D.aw 1 [],D.aw 1 [],D.aw 1 []])<|aI<|u8 λa b c d e f g h=>bu e<|some (D.aC [D.agg [e,ay f,ay g,ay h],al])))
def vR:=cO (Kd a)
def Q4(a:Nat)(b:D):oX:=aN .geq b (D.val (.int .u8 97)) λa=>cb a (aT (aW false .leq b (D.val (.int .u8 122)))) λa=>af (cE a false (aT (aW false .geq b (D.val (.int .u8 65))))) λc=>af (cE c true (aT (aW false .leq b (D.val (.int .u8 90))))) λb=>c0 a (aT (en c b bo)) λa=>some a
def zI:=cO (Q4 a)
def Q5(a:Nat)(b:D):oX:=aN .geq b (D.val (.int .u8 48)) λa=>cb a (aT (aW false .leq b (D.val (.int .u8 57)))) λa=>some a
def Eg:=cO (Q5 a)
def Q6:oX:=af (zI a [b]) λc=>c0 c (aT (Eg a [b])) λa=>c0 a (aT (aW false .eql b (D.val (.int .u8 95)))) λa=>some a
def Eh:=cO (Q6 a)
def zJ:bZ:=cV (λc d=>af (lg c) λe=>aN .lss d e λe=>cb e (af (mG c d) λe=>aT (Eh a [e])) λa=>a6 a (bs d λa=>av [c,a]) (bw [d])) l
def Ke:oX:=af (aR (zJ a) a [b,al])<|aI<|cr λa=>some a
def zK(n:Nat):lZ->oX|[a0,aG]=>bJ (sf yE aG) (Ke n a0)|_=>none
def vS(a:Nat)(b:lZ):bZ:=dP (λa c d e=>aL .lss e d (bM a e λf=>aL .eql c f (aY (aY (some e))) (bs e λe=>av [a,c,d,e])) (bw [])) b
def Kf(n:Nat)(a0 aG:D):oX:=bf a0 λa=>af (aR (vS n) n [a0,aG,a,al])<|aI λ_=>some (aa (-1))
def zL:=db (Kf a)
def Q7:oX:=af (zL a [b,c]) λa=>aT (aW false .geq a al)
def Ei:=db (Q7 a)
def Kg:oX:=aN .neq b (aD ⟨#[]⟩) λc=>cb c (af (lg b) λc=>aT (aW false .leq c (aa 24))) λc=>cb c (af (mG b al) λc=>aT (zI a [c])) λc=>cb c (af (zK a [b,(D.val (.func (.func yE) #[] #[]))]) λc=>af (lg b) λd=>aT (aW false .eql c d)) λc=>cb c (af (Ei a [(D.aw 1 ((yB).map λa=>
[a])),b]) λa=>aT (cd .not a)) λa=>some a
def sP:=cO (Kg a)
def Kh(a:Nat)(b:D)(c:lZ):oX:=aM 4 b<|af (aQ false 1 0 c) λa=>aT (aW false .eql (ae b 0) a)
def zM(n:Nat):lZ->oX|[a0,aG]=>(match aG with| .ref x1 0=>Kh n a0 x1|_=>none)|_=>none
def sQ:bZ:=dP (λc d e f=>aL .lss f e (af (ba 4 c f) λg=>af (aQ true 4 0 g) λg=>dd (zM a [g,d]) (aY (aY (some f))) (bs f λa=>av [c,d,e,a])) (bw [])) l
def Ki(n:Nat)(a0:D)(a:D):oX:=bf a0 λb=>af (aR (sQ n) n [a0,a,b,al])<|aI λ_=>some (aa (-1))
def vT(n:Nat):lZ->oX|[a0,aG]=>(match fM n9 aG with|some [a]=>Ki n a0 a|_=>none)|_=>none
def Kj:oX:=af (vT a [b,(D.fn (.func n9) [] [c])]) λa=>aT (aW false .geq a al)
def zN(n:Nat):lZ->oX|[a0,aG]=>(match fM n9 aG with|some [a]=>Kj n a0 a|_=>none)|_=>none
def sR:bZ:=dP (λc d e f=>aL .lss f e (af (ba 4 d f) λg=>af (aQ true 4 0 g) λg=>aM 4 g<|af (hU true [ae g 2,ae g 3]) λh=>aN .gtr h (aa 255) λh=>c0 h (af (hU false [ae g 2,ae g 3]) λh=>aT (aW false .lss h (aa (-255)))) λh=>af (sP a [ae g 0]) λi=>dd (cd .not i) (aY (aY (some (D.aC [f,aa 12])))) (af (j3 4 c none (some f)) λi=>af (zN a [i,(D.fn (.func n9) [] [D.ref [ae g 0,ae g 1,ae g 2,ae g 3] 0])]) λa=>bJ a.flat<|a6 a (aY (aY (some (D.aC [f,aa 6])))) (af (cE (ae g 1) true (aT (aW false .neq (ae g 2) al))) λa=>af (cE a false (aT (aW false .neq (ae g 3) al))) λi=>cb (ae g 1) (aT (en a cf i)) λa=>a6 a (aY (aY (some (D.aC [f,aa 3])))) (af (cd .not (ae g 1)) λa=>af (cE a true (aT (aW false .gtr (ae g 2) (ae g 3)))) λi=>af (cE i false (some h)) λh=>af (cE a true (aT (en i cf h))) λh=>af (cE h false (aN .sub (ae g 3) (ae g 2) λg=>aT (aW false .geq g (aa 64)))) λg=>cb a (aT (en h cf g)) λa=>a6 a (aY (aY (some (D.aC [f,aa 2])))) (bs f λa=>av [c,d,e,a]))))) (bw [])) l
def Q8(n:Nat)(a0:D):oX:=bf a0 λv9=>af (aR (sR n) n [a0,a0,v9,al])<|aI λ_=>some (D.aC [al,al])
def vU:=cO (Q8 a)
def Q9(a:Nat)(b:D):oX:=aM 4 b<|a6 (ae b 1) (some (aa 2)) (aL .gtr (ae b 2) (ae b 3) (some al) (af (j2 .u64 (ae b 3)) λa=>af (j2 .u64 (ae b 2)) λb=>aN .sub a b λa=>aL .lss a (D.val (.int .u64 1073741824)) (af (j2 .i64 a) λa=>aT (aW false .add a bE)) (some (aa 1073741825))))
def vV:=cO (Q9 a)
def Ej(a:Nat)(b:lZ):bZ:=cV (λa c=>aL .lss c (aa 63) (aN .shl bE c λd=>aL .leq a d (aY (aY (some c))) (bs c λc=>av [a,c])) (bw [])) b
def Ra(n:Nat)(a0:D):oX:=af (aR (Ej n) n [a0,al])<|aI λ_=>some (aa 63)
def Ek:=cO (Ra a)
def El:bZ:=dP (λc d e f=>aL .lss f e (af (ba 4 d f) λg=>af (aQ true 4 0 g) λg=>aM 4 g<|af (vV a [b7 g]) λg=>af (Ek a [g]) λa=>aN .add c a λa=>bs f λf=>av [a,d,e,f]) (bw [c])) l
def Rb:oX:=aM 8 b<|bf (ae b 0) λc=>af (aR (El a) a [al,ae b 0,c,al])<|aI<|cr λa=>some a
def zO:=cO (Rb a)
def Rc(a:Nat)(b:D):oX:=aT (dN b)
def zP:=cO (Rc a)
def Re(a:Nat)(b:D):oX:=aT (dN b)
def zQ:=cO (Re a)
def zR(a:Nat)(b:D):oX:=aM 3 b<|aT (dN (ae b 1))
def ni:=cO (zR a)
def Rf(a:Nat)(b:D):oX:=aT (dN b)
def zS:=cO (Rf a)
def Rg(a:Nat)(b:D):oX:=aT (dN b)
def zT:=cO (Rg a)
def Rh(a:Nat)(b:D):oX:=aT (dN b)
def zU:=cO (Rh a)
def Em(a:Nat)(b:D)(c:lZ):oX:=aM 7 b<|af (aQ false 1 0 c) λa=>aT (aW false .eql (ae b 0) a)
def En(n:Nat):lZ->oX|[a0,aG]=>(match aG with| .ref x1 0=>Em n a0 x1|_=>none)|_=>none
def zV:bZ:=dP (λc d e f=>aL .lss f e (af (ba 7 c f) λg=>af (aQ true 7 0 g) λg=>dd (En a [g,d]) (aY (aY (some f))) (bs f λa=>av [c,d,e,a])) (bw [])) l
def zW(n:Nat)(a0:D)(a:D):oX:=bf a0 λb=>af (aR (zV n) n [a0,a,b,al])<|aI λ_=>some (aa (-1))
def vW(n:Nat):lZ->oX|[a0,aG]=>(match fM nc aG with|some [a]=>zW n a0 a|_=>none)|_=>none
def Eo:oX:=af (vW a [b,(D.fn (.func nc) [] [c])]) λa=>aT (aW false .geq a al)
def vX(n:Nat):lZ->oX|[a0,aG]=>(match fM nc aG with|some [a]=>Eo n a0 a|_=>none)|_=>none
def zX(a:Nat)(b:lZ):mU:=fp (λa c d=>aN .gtr c al λe=>cb e (aN .sub c bE λe=>cm d e λe=>cu d e λe=>aT (aW false .gtr e a)) λe=>a6 e (aN .sub c bE λe=>av [a,e,ay d]) (bw [a,c,ay d])) b
def qY:jJ:=cV (λc d=>af (aR (zX a) a [c,aa (aE d).length,ay d])<|aI<|fp λa c d=>aN .gtr c al λe=>cb e (aN .sub c bE λe=>cm d e λe=>cu d e λe=>aT (aW false .eql e a)) λe=>a6 e (some [ay d]) (bJ (b2 ((aE d).length+([[aD ⟨#[]⟩]]).length) 16)<|bs c λe=>af (hC ((aE d)++[[aD ⟨#[]⟩]]).length (some e) none) λe=>af (hC ((aE d)++[[aD ⟨#[]⟩]]).length (some c) none) λf=>bJ (decide (f.1+f.2<=((aE d)++[[aD ⟨#[]⟩]]).length))<|bJ (decide (e.1+e.2<=((aE d)++[[aD ⟨#[]⟩]]).length))<|af (cI (((aE d)++[[aD ⟨#[]⟩]]).take e.1++((((aE d)++[[aD ⟨#[]⟩]]).drop f.1).take f.2).take (min ((((aE d)++[[aD ⟨#[]⟩]]).drop f.1).take f.2).length e.2)++((aE d)++[[aD ⟨#[]⟩]]).drop (e.1+(min ((((aE d)++[[aD ⟨#[]⟩]]).drop f.1).take f.2).length e.2))).length c) λc=>bu a<|af ((((aE d)++[[aD ⟨#[]⟩]]).take e.1++((((aE d)++[[aD ⟨#[]⟩]]).drop f.1).take f.2).take (min ((((aE d)++[[aD ⟨#[]⟩]]).drop f.1).take f.2).length e.2)++((aE d)++[[aD ⟨#[]⟩]]).drop (e.1+(min ((((aE d)++[[aD ⟨#[]⟩]]).drop f.1).take f.2).length e.2)))[c]?) λg=>some [D.aw 1 ((((aE d)++[[aD ⟨#[]⟩]]).take e.1++((((aE d)++[[aD ⟨#[]⟩]]).drop f.1).take f.2).take (min ((((aE d)++[[aD ⟨#[]⟩]]).drop f.1).take f.2).length e.2)++((aE d)++[[aD ⟨#[]⟩]]).drop (e.1+(min ((((aE d)++[[aD ⟨#[]⟩]]).drop f.1).take f.2).length e.2))).set c (dH g 0 [a]))])) l
def sS:jJ:=dP (λc d e f=>aM 4 c<|af (aN .eql (ae c 0) (aa 3) λd=>af (a6 d (af (qY a [ae c 2,ay e]) λd=>av [ay (bG d 0),ay f]) (aN .eql (ae c 0) (aa 4) λd=>af (a6 d (af (qY a [ae c 2,ay f]) λa=>av [ay e,ay (bG a 0)]) (av [ay e,ay f]))<|aI<|cV λa c=>av [ay a,ay c]))<|aI<|cV λa c=>av [ay a,ay c])<|aI<|cV λa c=>some [cf,ay a,ay c]) l
def Ep(a:lZ->oY)(b:Nat)(c:lZ):mU:=hn (λb d e f g h=>aL .lss f e (af (ba 4 d f) λi=>af (aQ true 4 0 i) λi=>aM 4 i<|bs b λj=>af (a [b7 i,j,g,h]) λa=>dd (cd .not (bG a 0)) (aY (aY (some [bo,bG a 1,bG a 2]))) (bs f λf=>av [b,d,e,f,bG a 1,bG a 2])) (bw [g,h])) c
def Kk(a:lZ->oY)(b:Nat)(c:lZ):jJ:=dP (λd e f g=>aM 4 d<|af (yG b [b7 d,e,f,g]) λf=>dd (cd .not (bG f 0)) (some [bo,bG f 1,bG f 2]) (bf (ae d 3) λg=>af (aR (Ep a b) b [e,ae d 3,g,al,bG f 1,bG f 2])<|aI<|cV λa b=>some [cf,a,b])) c
def pF:Nat->lZ->oY|0,_=>none|n+1,l=>Kk (pF n) n l
def Ri:oX:=aM 4 b<|af (pF a [b7 b,bE,al,al]) λa=>some (bG a 2)
def qZ:=cO (Ri a)
def Er(a:lZ->oY)(b:Nat)(c:lZ):mU:=hn (λb d e f g h=>aL .lss f e (af (ba 4 d f) λi=>af (aQ true 4 0 i) λi=>aM 4 i<|bs b λj=>af (a [b7 i,j,ay g,ay h]) λa=>dd (cd .not (bG a 0)) (aY (aY (some [bo,ay (bG a 1),ay (bG a 2)]))) (bs f λf=>av [b,d,e,f,ay (bG a 1),ay (bG a 2)])) (bw [ay g,ay h])) c
def Kl(a:lZ->oY)(b:Nat)(c:lZ):jJ:=dP (λd e f g=>aM 4 d<|af (sS b [b7 d,e,ay f,ay g]) λf=>dd (cd .not (bG f 0)) (some [bo,ay (bG f 1),ay (bG f 2)]) (bf (ae d 3) λg=>af (aR (Er a b) b [e,ae d 3,g,al,ay (bG f 1),ay (bG f 2)])<|aI<|cV λa b=>some [cf,ay a,ay b])) c
def pG:Nat->lZ->oY|0,_=>none|n+1,l=>Kl (pG n) n l
def Rj:oX:=aM 4 b<|af (pG a [b7 b,bE,D.aw 1 [],D.aw 1 []]) λa=>some (D.aC [ay (bG a 1),ay (bG a 2)])
def q0:=cO (Rj a)
def Es:oX:=aM 6 b<|aL .neq (ae b 0) bE (some al) (af (qZ a [D.agg [ae b 1,ae b 2,ae b 3,ae b 4]]) λc=>aL .neq c al (some c) (af (q0 a [D.agg [ae b 1,ae b 2,ae b 3,ae b 4]]) λa=>bT a λb=>bU a λa=>bf a λa=>aL .gtr a al (some (aa 24)) (some al)))
def vY:=cO (Es a)
def Rk(n:Nat)(a0:D):oX:=af (aL .eql a0 bE (aY (some al)) (aN .eql a0 (aa 3) λk=>af (a6 k (av [a0,k]) (aN .eql a0 (aa 4) λl=>af (a6 l (av [a0,l]) (aN .eql a0 (aa 5) λv9=>af (a6 v9 (av [a0,v9]) (aN .eql a0 (aa 9) λc=>af (a6 c (av [a0,c]) (aN .eql a0 (aa 13) λi=>av [a0,i]))<|aI<|cV λa b=>av [a,b]))<|aI<|cV λa b=>av [a,b]))<|aI<|cV λa b=>av [a,b]))<|aI<|cV λa b=>a6 b (aY (some (aa 2))) (aN .eql a (aa 2) λd=>af (a6 d (av [d]) (aN .eql a (aa 6) λe=>af (a6 e (av [e]) (aN .eql a (aa 7) λf=>af (a6 f (av [f]) (aN .eql a (aa 8) λg=>af (a6 g (av [g]) (aN .eql a (aa 10) λv17=>af (a6 v17 (av [v17]) (aN .eql a (aa 11) λh=>af (a6 h (av [h]) (aN .eql a (aa 12) λj=>av [j]))<|aI<|cr λa=>av [a]))<|aI<|cr λa=>av [a]))<|aI<|cr λa=>av [a]))<|aI<|cr λa=>av [a]))<|aI<|cr λa=>av [a]))<|aI<|cr λa=>a6 a (aY (some bE)) (av []))))<|aI λ_=>some (aa (-1))
def Et:=cO (Rk a)
def zY:jJ:=dP (λc d e f=>aM 6 c<|bs e λe=>bu e<|aN .eql (ae c 1) al λg=>cb g (aT (aW false .eql (ae c 2) al)) λg=>cb g (aT (aW false .eql (ae c 3) (aD ⟨#[]⟩))) λg=>cb g (bf (ae c 4) λg=>aT (aW false .eql g al)) λg=>af (vY a [D.agg [ae c 0,ae c 1,ae c 2,ae c 3,ae c 4,ae c 5]]) λh=>af (Et a [ae c 0]) λa=>af (aN .gtr d (aa 64) λd=>af (a6 d (av [aa 17,e]) (aN .lss a al λd=>af (a6 d (av [aa 11,e]) (aN .neq h al λd=>af (a6 d (bu h<|av [h,e]) (bf (ae c 5) λd=>aN .neq d a λa=>af (cE a false (aT (aW false .neq (ae c 0) bE))) λc=>af (cE c true (aT (cd .not g))) λd=>c0 a (aT (en c d bo)) λa=>af (a6 a (av [aa 3,e]) (aN .gtr e (aa 4096) λa=>af (a6 a (av [aa 4,e]) (av [f,e]))<|aI<|cV λa c=>av [a,c]))<|aI<|cV λa c=>av [a,c]))<|aI<|cV λa c=>av [a,c]))<|aI<|cV λa c=>av [a,c]))<|aI<|cV λa c=>av [a,c])<|aI<|cV λa c=>aN .eql a al λd=>some [d,c,a]) l
def Eu(a:lZ->oY)(b:Nat)(c:lZ):mU:=hn (λb d e f g h=>aL .lss f e (af (ba 6 d f) λi=>af (aQ true 6 0 i) λi=>aM 6 i<|bs b λj=>af (a [D.agg [ae i 0,ae i 1,ae i 2,ae i 3,ae i 4,ae i 5],j,g,h]) λa=>dd (cd .not (bG a 0)) (aY (aY (some [bo,bG a 1,bG a 2]))) (bs f λf=>av [b,d,e,f,bG a 1,bG a 2])) (bw [g,h])) c
def Km(a:lZ->oY)(b:Nat)(c:lZ):jJ:=dP (λd e f g=>aM 6 d<|af (zY b [D.agg [ae d 0,ae d 1,ae d 2,ae d 3,ae d 4,ae d 5],e,f,g]) λf=>dd (cd .not (bG f 0)) (some [bo,bG f 1,bG f 2]) (bf (ae d 5) λg=>af (aR (Eu a b) b [e,ae d 5,g,al,bG f 1,bG f 2])<|aI<|cV λa b=>some [cf,a,b])) c
def pH:Nat->lZ->oY|0,_=>none|n+1,l=>Km (pH n) n l
def Rl:oX:=aM 6 b<|af (pH a [D.agg [ae b 0,ae b 1,ae b 2,ae b 3,ae b 4,ae b 5],bE,al,al]) λa=>some (bG a 2)
def pI:=cO (Rl a)
def zZ(a:Nat)(b:lZ):bZ:=dP (λa c d e=>aL .lss d c (af (af (ba 5 a d) λf=>af (aQ true 5 0 f) λf=>aM 5 f<|af (gT (.string) (.int .i64 0) true (dU e) (ae f 0)) λg=>bT g λh=>bU g λg=>af (cd .not g) λg=>af (a6 g (af (l0 (.string) (dU e) (ae f 0) d) λf=>av [a,c,d,D.mp f]) (av [a,c,d,D.mp (dU e)]))<|aI<|dP λa c d f=>av [a,c,d,D.mp (dU f)])<|aI<|dP λa c d f=>bs d λd=>av [a,c,d,D.mp (dU f)]) (bw [D.mp (dU e)])) b
def Rm:oX:=bf b λc=>af (aR (zZ a) a [b,c,al,D.mp []])<|aI<|cr λa=>some (D.mp (dU a))
def sT:=cO (Rm a)
def z1(a:Nat)(b:lZ):hW:=eO (λa c d e f g h i j=>aL .lss h g (af (bM f h λk=>af (jx a) λl=>af (gT (.string) (.int .i64 0) true l k) λk=>bT k λl=>bU k λk=>af (a6 k (bu l<|bJ (b2 ((aE j).length+([[l]]).length) 8)<|av [a,c,d,e,f,g,h,ay i,D.aw 1 ((aE j)++[[l]])]) (av [a,c,d,e,f,g,h,ay i,ay j]))<|aI<|eO λf g h k l m n o p=>av [f,g,h,k,l,m,n,ay o,ay p])<|aI<|eO λf g h k l m n o p=>bs n λn=>av [f,g,h,k,l,m,n,ay o,ay p]) (bw [a,c,d,e,ay i,ay j])) b
def Ev:bZ:=fG (λc d e f g=>aL .lss f e (af (af (ba 5 d f) λh=>af (aQ true 5 0 h) λh=>aM 5 h<|af (q0 a [D.agg [ae h 1,ae h 2,ae h 3,ae h 4]]) λh=>bT h λi=>bU h λh=>bf i λh=>af (aR (z1 a) a [c,d,e,f,i,h,al,ay g,D.aw 1 []])<|aI<|hn λa c d e f h=>bJ (c7 (ay h))<|bJ (b2 ((aE f).length+([[ay h]]).length) 24)<|av [a,c,d,e,D.aw 1 ((aE f)++[[ay h]])])<|aI<|fG λa c d e f=>bs e λe=>av [a,c,d,e,ay f]) (bw [ay g])) l
def Rn:oX:=af (sT a [b]) λc=>bf b λd=>af (aR (Ev a) a [c,b,d,al,D.aw 1 []])<|aI<|cr λa=>some (ay a)
def z6:=cO (Rn a)
def z7(a:lZ->oY)(b:Nat)(c:lZ):mU:=fG (λb d e f g=>aL .lss e d (af (bM b e λh=>af (gT (.int .i64) (.bool false) false (dU g) h) λi=>af (cd .not i) λi=>af (a6 i (af (l0 (.int .i64) (dU g) h cf) λi=>af (a [h,f,D.mp i]) λa=>av [b,d,e,bG a 1,D.mp (dU (bG a 2))]) (av [b,d,e,f,D.mp (dU g)]))<|aI<|fG λa b d e h=>av [a,b,d,e,D.mp (dU h)])<|aI<|fG λa b d e h=>bs d λd=>av [a,b,d,e,D.mp (dU h)]) (bw [f,D.mp (dU g)])) c
def Ew(a:lZ->oY)(b:Nat)(c:lZ):jJ:=fp (λd e f=>bM e d λd=>bf d λg=>af (aR (z7 a b) b [d,g,al,e,D.mp (dU f)])<|aI<|cV λa b=>some [D.aC [],a,D.mp (dU b)]) c
def nj:Nat->lZ->oY|0,_=>none|n+1,l=>Ew (nj n) n l
def Ex:mU:=fG (λc d e f g=>aL .lss e d (bM c e λh=>af (nj a [h,g,D.mp (dU f)]) λa=>bs e λe=>av [c,d,e,D.mp (dU (bG a 2)),bG a 1]) (bw [D.mp (dU f)])) l
def z8:jJ:=cV (λc d=>bu c<|bf d λe=>af (aR (Ex a) a [d,e,al,D.mp [],c])<|aI<|cr λa=>some [D.mp (dU a)]) l
def Ey:bZ:=fG (λc d e f g=>aL .lss e d (bM c e λh=>af (nj a [h,g,D.mp (dU f)]) λa=>bs e λe=>av [c,d,e,D.mp (dU (bG a 2)),bG a 1]) (bw [D.mp (dU f)])) l
def Ro:oX:=bu b<|bf c λd=>af (aR (Ey a) a [c,d,al,D.mp [],b])<|aI<|cr λa=>some (D.mp (dU a))
def vZ:=db (Ro a)
def Aa(a:lZ->oY)(b:Nat)(c:lZ):mU:=iO (λa b d e f g h i j k l m=>aL .eql f (aa 3) (af (jx b) λn=>af (gT (.string) (.int .i64 0) true n h) λn=>bT n λo=>bU n λn=>dd (cd .not n) (bw [a,e,f,g,h,i,j,k,l,m,b,d]) (af (ba 5 d o) λn=>af (aQ true 4 1 n) λn=>aM 4 n<|av [a,b,d,e,ae n 0,ae n 1,ae n 2,ae n 3,j,k,l,m])) (bw [a,e,f,g,h,i,j,k,l,m,b,d])) c
def v7(a:lZ->oY)(b:Nat)(c:lZ):mU:=u16 (λb d e f g h i j k l m n o p q r=>aL .lss f e (af (af (ba 4 d f) λs=>af (aQ true 4 0 s) λs=>aM 4 s<|aN .leq b (aa 64) λt=>cb t (aT (aW false .leq g (aa 4096))) λt=>af (a6 t (bs b λt=>af (a [b7 s,t,q,r,g]) λa=>cm p f λs=>aM 4 (bG a 0)<|af (aE p)[s]? λt=>av [b,d,e,f,bG a 3,h,i,j,k,l,m,n,o,D.aw 4 ((aE p).set s (dH t 0 [ae (bG a 0) 0,ae (bG a 0) 1,ae (bG a 0) 2,ae (bG a 0) 3])),bG a 1,bG a 2]) (av [b,d,e,f,g,h,i,j,k,l,m,n,o,D.aw 4 (aE p),q,r]))<|aI<|u16 λa b d e f s t u w x y z A B C E=>av [a,b,d,e,f,s,t,u,w,x,y,z,A,D.aw 4 (aE B),C,E])<|aI<|u16 λa b d e f s t u w x y z A B C E=>bs e λe=>av [a,b,d,e,f,s,t,u,w,x,y,z,A,D.aw 4 (aE B),C,E]) (bw [h,i,j,k,l,m,n,o,D.aw 4 (aE p),q,r,g])) c
def Ab(a:lZ->oY)(b:Nat)(c:lZ):jJ:=fG (λd e f g h=>aM 4 d<|af (aR (Aa a b) b [e,f,g,h,ae d 0,ae d 1,ae d 2,ae d 3,al,al,aD ⟨#[]⟩,a7])<|aI<|iO λd e f g h i j k l m n o=>bs e λe=>bu e<|bf i λp=>aL .eql p al (aM 4 (D.agg [f,g,h,i])<|some [D.agg [f,g,h,i],n,o,e]) (bf i λp=>af (eM 56 p p) λp=>bf i λq=>af (aR (v7 a b) b [d,i,q,al,e,f,g,h,i,j,k,l,m,D.aw 4 (List.replicate p [D.val (.int .i64 0),D.val (.int .i64 0),D.val (.string ⟨#[]⟩),a7]),n,o])<|aI<|iO λa b d e f g h i j k l m=>bJ (c7 (D.aw 4 (aE j)))<|aM 4 (D.agg [a,b,d,D.aw 4 (aE j)])<|some [D.agg [a,b,d,D.aw 4 (aE j)],k,l,m])) c
def oo:Nat->lZ->oY|0,_=>none|n+1,l=>Ab (oo n) n l
def Rp:oX:=aM 4 b<|bu c<|af (sT a [c]) λd=>bu d<|af (oo a [b7 b,bE,d,c,al]) λa=>aM 4 (bG a 0)<|some (b7 (bG a 0))
def Ac:=db (Rp a)
def v8(a:Nat)(b:lZ):bZ:=kT (λa c d e f g h i j k l m n o p=>aL .lss g f (af (bM e g λq=>af (jx c) λr=>af (gT (.string) (.int .i64 0) true r q) λq=>bT q λr=>bU q λq=>af (a6 q (bu r<|bJ (b2 ((aE p).length+([[r]]).length) 8)<|av [a,c,d,e,f,g,h,i,j,k,l,m,n,o,D.aw 1 ((aE p)++[[r]])]) (av [a,c,d,e,f,g,h,i,j,k,l,m,n,o,ay p]))<|aI<|kT λc e f g q r s t u w x y z A B=>av [c,e,f,g,q,r,s,t,u,w,x,y,z,A,ay B])<|aI<|kT λc e f g q r s t u w x y z A B=>bs r λr=>av [c,e,f,g,q,r,s,t,u,w,x,y,z,A,ay B]) (bw [a,d,h,i,j,k,l,m,n,o,ay p])) b
def Ez(a:Nat)(b:lZ):bZ:=lu (λa c d e f g h i j k l m n o=>aL .lss f e (bM d f λp=>af (l0 (.int .i64) (dU o) p cf) λp=>bs f λf=>av [a,c,d,e,f,g,h,i,j,k,l,m,n,D.mp p]) (bw [a,c,g,h,i,j,k,l,m,n,D.mp (dU o)])) b
def sU:bZ:=gL (λc d e f g h i j k l m n o=>aL .lss f e (af (gT (.int .i64) (.bool false) false (dU o) f) λp=>cb p (bu f<|af (vZ a [d,D.aw 1 [[f]]]) λa=>af (jx a) λa=>aT (gT (.int .i64) (.bool false) false a f)) λa=>a6 a (aY (aY (some (D.aC [D.agg [al,al,aD ⟨#[]⟩,a7],aa 14])))) (bs f λa=>av [c,d,e,a,g,h,i,j,k,l,m,n,D.mp (dU o)])) (bw [c,g,h,i,j,k,l,m,n])) l
def Ad:oX:=aM 4 b<|af (qZ a [b7 b]) λd=>aL .neq d al (some (D.aC [D.agg [al,al,aD ⟨#[]⟩,a7],d])) (af (sT a [c]) λd=>af (z6 a [c]) λe=>af (q0 a [b7 b]) λf=>bT f λg=>bU f λf=>bf g λf=>af (aR (v8 a) a [c,d,e,g,f,al,ae b 0,ae b 1,ae b 2,ae b 3,al,al,aD ⟨#[]⟩,a7,D.aw 1 []])<|aI<|gX λb c d e f g h i j k l=>af (z8 a [c,ay l]) λm=>bf (ay l) λn=>af (aR (Ez a) a [b,c,ay l,n,al,d,e,f,g,h,i,j,k,D.mp (dU (bG m 0))])<|aI<|gX λb c d e f g h i j k l=>bf b λm=>af (aR (sU a) a [b,c,m,al,d,e,f,g,h,i,j,k,D.mp (dU l)])<|aI<|fG λb c d e f=>af (Ac a [D.agg [c,d,e,f],b]) λb=>aM 4 b<|af (qZ a [b7 b]) λa=>aL .neq a al (some (D.aC [D.agg [al,al,aD ⟨#[]⟩,a7],a])) (aM 4 (b7 b)<|some (D.aC [b7 b,al])))
def kV:=db (Ad a)
def Kn:oX:=aM 4 c<|af (qZ a [b7 c]) λe=>aL .neq e al (some (D.aC [D.agg [bo,al,al],e])) (af (yI a [b]) λe=>af (ob a [b,e,b7 c,d]) λa=>bT a λb=>bU a λa=>aM 3 b<|some (D.aC [D.agg [ae b 0,ae b 1,ae b 2],a]))
def sV:=gV (Kn a)
def Ko:oX:=aM 8 b<|aM 4 c<|af (kV a [b7 c,ae b 1]) λc=>bT c λe=>bU c λc=>aM 4 e<|aL .neq c al (some (D.aC [D.agg [bo,al,al],c])) (af (sV a [ae b 0,b7 e,d]) λa=>bT a λb=>bU a λa=>aM 3 b<|some (D.aC [D.agg [ae b 0,ae b 1,ae b 2],a]))
def sW:=gV (Ko a)
def Kp:oX:=aM 8 b<|aM 4 c<|af (sW a [eo b,b7 c,d]) λa=>bT a λb=>bU a λa=>aM 3 b<|aN .eql a al λc=>cb c (aT (cd .not (ae b 0))) λb=>a6 b (some (aa 13)) (some a)
def wa:=gV (Kp a)
def Ae(a:lZ->oX)(b:Nat)(c:lZ):bZ:=gX (λb d e f g h i j k l m=>aL .lss e d (af (ba 6 b e) λn=>af (aQ true 6 0 n) λn=>aM 6 n<|af (a [D.agg [f,g,h,i,j,k,l,m],D.agg [ae n 0,ae n 1,ae n 2,ae n 3,ae n 4,ae n 5]]) λa=>aL .neq a al (aY (aY (some a))) (bs e λa=>av [b,d,a,f,g,h,i,j,k,l,m])) (bw [])) c
def Af(a:lZ->oX)(n:Nat)(a0 aG:D):oX:=aM 8 a0<|aM 6 aG<|aL .eql (ae aG 0) bE (aT (wa n [eo a0,D.agg [ae aG 1,ae aG 2,ae aG 3,ae aG 4],bo])) (bf (ae aG 5) λv17=>af (aR (Ae a n) n [ae aG 5,v17,al,ae a0 0,ae a0 1,ae a0 2,ae a0 3,ae a0 4,ae a0 5,ae a0 6,ae a0 7])<|aI λ_=>some al)
def pJ:Nat->lZ->oX|0,_=>none|n+1,a=>match a with|[a0,aG]=>Af (pJ n) n a0 aG|_=>none
def Ag:oX:=aM 8 c<|af (ba 7 b d) λe=>af (aQ false 1 0 e) λe=>bu e<|af (sP a [e]) λf=>dd (cd .not f) (some (aa 12)) (af (j3 7 b none (some d)) λf=>af (vX a [f,(D.fn (.func nc) [] [D.ref [e] 0])]) λe=>bJ e.flat<|a6 e (some (aa 6)) (af (ba 7 b d) λe=>af (aQ true 6 1 e) λe=>af (pI a [e]) λe=>aL .neq e al (some e) (af (ba 7 b d) λb=>af (aQ true 6 1 b) λb=>aT (pJ a [eo c,b]))))
def pK:=gV (Ag a)
def EA(a:Nat)(b:D)(c:lZ):oX:=aM 4 b<|af (aQ false 1 0 c) λa=>aT (aW false .eql (ae b 0) a)
def EB(n:Nat):lZ->oX|[a0,aG]=>(match aG with| .ref x1 0=>EA n a0 x1|_=>none)|_=>none
def Ah:bZ:=dP (λc d e f=>aL .lss f e (af (ba 4 c f) λg=>af (aQ true 4 0 g) λg=>dd (EB a [g,d]) (aY (aY (some f))) (bs f λa=>av [c,d,e,a])) (bw [])) l
def Ai(n:Nat)(a0:D)(a:D):oX:=bf a0 λb=>af (aR (Ah n) n [a0,a,b,al])<|aI λ_=>some (aa (-1))
def wb(n:Nat):lZ->oX|[a0,aG]=>(match fM u2 aG with|some [a]=>Ai n a0 a|_=>none)|_=>none
def EC(a:Nat)(b:D)(c:lZ):oX:=aM 5 b<|af (aQ false 1 0 c) λa=>aT (aW false .eql (ae b 0) a)
def ED(n:Nat):lZ->oX|[a0,aG]=>(match aG with| .ref x1 0=>EC n a0 x1|_=>none)|_=>none
def Aj:bZ:=dP (λc d e f=>aL .lss f e (af (ba 5 c f) λg=>af (aQ true 5 0 g) λg=>dd (ED a [g,d]) (aY (aY (some f))) (bs f λa=>av [c,d,e,a])) (bw [])) l
def Ak(n:Nat)(a0:D)(a:D):oX:=bf a0 λb=>af (aR (Aj n) n [a0,a,b,al])<|aI λ_=>some (aa (-1))
def wc(n:Nat):lZ->oX|[a0,aG]=>(match fM nb aG with|some [a]=>Ak n a0 a|_=>none)|_=>none
def EE:oX:=af (wc a [b,(D.fn (.func nb) [] [c])]) λa=>aT (aW false .geq a al)
def we(n:Nat):lZ->oX|[a0,aG]=>(match fM nb aG with|some [a]=>EE n a0 a|_=>none)|_=>none
def EF:oX:=aM 8 c<|af (ba 5 b d) λe=>af (aQ false 1 0 e) λe=>bu e<|af (wb a [ae c 0,(D.fn (.func u2) [] [D.ref [e] 0])]) λf=>bJ f.flat<|aL .lss f al (some (aa 12)) (af (j3 5 b none (some d)) λg=>af (we a [g,(D.fn (.func nb) [] [D.ref [e] 0])]) λe=>bJ e.flat<|a6 e (some (aa 6)) (af (ba 5 b d) λb=>af (aQ true 4 1 b) λb=>af (sW a [eo c,b,bo]) λa=>bT a λb=>bU a λa=>aM 3 b<|aN .eql a al λd=>cb d (af (ba 4 (ae c 0) f) λc=>af (aQ false 1 1 c) λc=>aT (aW true .neq (ae b 0) c)) λb=>a6 b (some (aa 13)) (some a)))
def q1:=gV (EF a)
def Rq:oX:=aM 3 b<|aM 8 c<|af (ba 4 (ae b 1) d) λd=>af (aQ true 4 0 d) λd=>aT (wa a [eo c,d,ae b 2])
def wg:=gV (Rq a)
def Rr:oX:=aM 8 c<|af (ba 5 b d) λb=>af (aQ true 4 1 b) λb=>af (sW a [eo c,b,bo]) λa=>bT a λb=>bU a λa=>aM 3 b<|some a
def wh:=gV (Rr a)
def EG(a:Nat)(b:D)(c:lZ):oX:=aM 5 b<|af (aQ false 1 0 c) λa=>aT (aW false .eql (ae b 0) a)
def EH(n:Nat):lZ->oX|[a0,aG]=>(match aG with| .ref x1 0=>EG n a0 x1|_=>none)|_=>none
def Al:bZ:=dP (λc d e f=>aL .lss f e (af (ba 5 c f) λg=>af (aQ true 5 0 g) λg=>dd (EH a [g,d]) (aY (aY (some f))) (bs f λa=>av [c,d,e,a])) (bw [])) l
def An(n:Nat)(a0:D)(a:D):oX:=bf a0 λb=>af (aR (Al n) n [a0,a,b,al])<|aI λ_=>some (aa (-1))
def wi(n:Nat):lZ->oX|[a0,aG]=>(match fM u1 aG with|some [a]=>An n a0 a|_=>none)|_=>none
def sX:hW:=fN (λc d e f g h i=>aL .lss g f (af (bM e g λj=>bu j<|af (wi a [c,(D.fn (.func u1) [] [D.ref [j] 0])]) λa=>bJ a.flat<|aN .geq a al λj=>cb j (cm h a λj=>cu h j λj=>aT (cd .not j)) λj=>af (a6 j (cm h a λj=>af (aE h)[j]? λk=>bu a<|bJ (b2 ((aE i).length+([[a]]).length) 8)<|av [c,d,e,f,g,D.aw 1 ((aE h).set j (dH k 0 [cf])),D.aw 1 ((aE i)++[[a]])]) (av [c,d,e,f,g,ay h,ay i]))<|aI<|fN λa e f g j k l=>av [a,e,f,g,j,ay k,ay l])<|aI<|fN λa e f g j k l=>bs j λj=>av [a,e,f,g,j,ay k,ay l]) (bw [c,d,ay h,ay i])) l
def EI:bZ:=dP (λc d e f=>aL .gtr (aa (aE f).length) al (af (cm f al λg=>cu f g λg=>af (ba 5 c g) λg=>af (aQ true 4 1 g) λg=>af (q0 a [g]) λg=>bT g λh=>bU g λg=>bf h λg=>af (aR (sX a) a [c,d,h,g,al,ay e,ay f])<|aI<|dP λa c f g=>av [a,c,ay f,ay g])<|aI<|dP λa c f g=>af (hC (aE g).length (some bE) none) λh=>bJ (decide (h.1+h.2<=(aE g).length))<|av [a,c,ay f,D.aw 1 (((aE g).drop h.1).take h.2)]) (bw [d,ay e])) l
def Rs:oX:=aM 8 c<|bf b λc=>af (eM 1 c c) λc=>bu d<|af (aR (EI a) a [b,d,D.aw 1 (List.replicate c [bo]),D.aw 1 [[d]]])<|aI<|cV λa b=>cm b a λa=>cu b a λa=>a6 a (some (aa 14)) (some al)
def wj:=gV (Rs a)
def EJ(a:Nat)(b:D)(c:lZ):oX:=aM 4 b<|af (aQ false 1 0 c) λa=>aT (aW false .eql (ae b 0) a)
def EK(n:Nat):lZ->oX|[a0,aG]=>(match aG with| .ref x1 0=>EJ n a0 x1|_=>none)|_=>none
def Ao:bZ:=dP (λc d e f=>aL .lss f e (af (ba 4 c f) λg=>af (aQ true 4 0 g) λg=>dd (EK a [g,d]) (aY (aY (some f))) (bs f λa=>av [c,d,e,a])) (bw [])) l
def Ap(n:Nat)(a0:D)(a:D):oX:=bf a0 λb=>af (aR (Ao n) n [a0,a,b,al])<|aI λ_=>some (aa (-1))
def wk(n:Nat):lZ->oX|[a0,aG]=>(match fM mV aG with|some [a]=>Ap n a0 a|_=>none)|_=>none
def EL:oX:=af (wk a [b,(D.fn (.func mV) [] [c])]) λa=>aT (aW false .geq a al)
def wm(n:Nat):lZ->oX|[a0,aG]=>(match fM mV aG with|some [a]=>EL n a0 a|_=>none)|_=>none
def EM(a:Nat)(b:D)(c:lZ):oX:=aM 5 b<|af (aQ false 1 0 c) λa=>aT (aW false .eql (ae b 0) a)
def EN(n:Nat):lZ->oX|[a0,aG]=>(match aG with| .ref x1 0=>EM n a0 x1|_=>none)|_=>none
def Aq:bZ:=dP (λc d e f=>aL .lss f e (af (ba 5 c f) λg=>af (aQ true 5 0 g) λg=>dd (EN a [g,d]) (aY (aY (some f))) (bs f λa=>av [c,d,e,a])) (bw [])) l
def Ar(n:Nat)(a0:D)(a:D):oX:=bf a0 λb=>af (aR (Aq n) n [a0,a,b,al])<|aI λ_=>some (aa (-1))
def wo(n:Nat):lZ->oX|[a0,aG]=>(match fM na aG with|some [a]=>Ar n a0 a|_=>none)|_=>none
def EO:oX:=af (wo a [b,(D.fn (.func na) [] [c])]) λa=>aT (aW false .geq a al)
def wq(n:Nat):lZ->oX|[a0,aG]=>(match fM na aG with|some [a]=>EO n a0 a|_=>none)|_=>none
def As:oX:=aM 8 c<|af (ba 5 b d) λe=>af (aQ false 1 0 e) λe=>bu e<|af (sP a [e]) λf=>dd (cd .not f) (some (aa 12)) (af (wm a [ae c 0,(D.fn (.func mV) [] [D.ref [e] 0])]) λc=>bJ c.flat<|af (a6 c (av [c]) (af (j3 5 b none (some d)) λb=>af (wq a [b,(D.fn (.func na) [] [D.ref [e] 0])]) λa=>bJ a.flat<|av [a]))<|aI<|cr λa=>a6 a (some (aa 6)) (some al))
def pL:=gV (As a)
def Rt(a:Nat)(b:D):oX:=some (aa 8)
def EP:=cO (Rt a)
def Ru(a:Nat)(b:D):oX:=some (aa 5)
def ER:=cO (Ru a)
def Rv(a:Nat)(b:D):oX:=aM 3 b<|some (ae b 0)
def ES:=cO (Rv a)
def Rw(a:Nat)(b:D):oX:=some (aa 2)
def ET:=cO (Rw a)
def Rx(a:Nat)(b:D):oX:=some (aa 2)
def EU:=cO (Rx a)
def Ry(a:Nat)(b:D):oX:=some (aa 2)
def EV:=cO (Ry a)
def nk(a:Nat)(b:lZ):bZ:=iO (λa c d e f g h i j k l m=>aL .lss c (aa 8) (af (cI 8 c) λn=>af (jg false 1 (n*1) a) λn=>aL .gtr n (aa 64) (aN .add bE c λn=>bu n<|aM 2 (D.agg [n,aa 64])<|aY (aY (some (D.aC [D.agg [n,aa 64],aa 18])))) (bs c λc=>av [a,c,d,e,f,g,h,i,j,k,l,m])) (bw [d,e,f,g,h,i,j,k,l,m])) b
def fO:hW:=kT (λc d e f g h i j k l m n o p q=>aL .lss g f (af (uz c) λr=>af (eC r.1 166 (pL a [r.2,D.agg [h,i,j,k,l,m,n,o],g]) (eC r.1 167 (wj a [r.2,D.agg [h,i,j,k,l,m,n,o],g]) (eC r.1 168 (wh a [r.2,D.agg [h,i,j,k,l,m,n,o],g]) (eC r.1 170 (wg a [r.2,D.agg [h,i,j,k,l,m,n,o],g]) (eC r.1 171 (q1 a [r.2,D.agg [h,i,j,k,l,m,n,o],g]) (eC r.1 172 (pK a [r.2,D.agg [h,i,j,k,l,m,n,o],g]) (none))))))) λr=>aL .neq r al (af (uz c) λs=>af (eC s.1 166 (EV a [s.2]) (eC s.1 167 (EU a [s.2]) (eC s.1 168 (ET a [s.2]) (eC s.1 170 (ES a [s.2]) (eC s.1 171 (ER a [s.2]) (eC s.1 172 (EP a [s.2]) (none))))))) λa=>bu a<|bu g<|aM 2 (D.agg [a,g])<|aY (aY (aY (aY (aY (some (D.aC [D.agg [a,g],r]))))))) (bs g λa=>av [c,d,e,f,a,h,i,j,k,l,m,n,o,p,q])) (bw [d,e,h,i,j,k,l,m,n,o,p,q])) l
def fH:bZ:=iO (λc d e f g h i j k l m n=>aL .lss d (aa 9) (af (af (cI 9 d) λo=>af (jg false 1 (o*1) c) λo=>af (uz o) λp=>af (eC p.1 166 (zU a [p.2]) (eC p.1 167 (zT a [p.2]) (eC p.1 168 (zS a [p.2]) (eC p.1 170 (ni a [p.2]) (eC p.1 171 (zQ a [p.2]) (eC p.1 172 (zP a [p.2]) (none))))))) λp=>af (aR (fO a) a [o,c,d,p,al,e,f,g,h,i,j,k,l,m,n])<|aI<|iO λa c d e f g h i j k l o=>av [a,c,d,e,f,g,h,i,j,k,l,o])<|aI<|iO λa c d e f g h i j k l o=>bs c λc=>av [a,c,d,e,f,g,h,i,j,k,l,o]) (bw [m,n])) l
def sY(n:Nat)(a0:D):oX:=aM 8 a0<|bf (ae a0 0) λb=>bf (ae a0 1) λv17=>bf (ae a0 2) λv20=>bf (ae a0 3) λc=>bf (ae a0 4) λv26=>bf (ae a0 5) λd=>bf (ae a0 6) λv32=>bf (ae a0 7) λv35=>bu b<|bu v17<|bu v20<|bu c<|bu v26<|bu d<|bu v32<|bu v35<|af (aR (nk n) n [D.agg [b,v17,v20,c,v26,d,v32,v35],al,ae a0 0,ae a0 1,ae a0 2,ae a0 3,ae a0 4,ae a0 5,ae a0 6,ae a0 7,al,al])<|aI<|e5 λl a f g j h i k m o=>af (vU n [l]) λv50=>bT v50 λv51=>bU v50 λe=>aL .neq e al (bu v51<|aM 2 (D.agg [bE,v51])<|some (D.aC [D.agg [bE,v51],e])) (af (zO n [D.agg [l,a,f,g,j,h,i,k]]) λv59=>aL .gtr v59 (aa 30) (some (D.aC [D.agg [bE,al],aa 18])) (bu f<|bu g<|bu h<|bu i<|bJ (c7 (D.cS 166 a))<|bJ (c7 (D.cS 167 a))<|bJ (c7 (D.cS 168 a))<|bJ (c7 (D.cS 170 (D.agg [aa 3,f,bo])))<|bJ (c7 (D.cS 170 (D.agg [aa 4,g,bo])))<|bJ (c7 (D.cS 171 j))<|bJ (c7 (D.cS 170 (D.agg [aa 6,h,cf])))<|bJ (c7 (D.cS 170 (D.agg [aa 7,i,bo])))<|bJ (c7 (D.cS 172 k))<|af (aR (fH n) n [D.agg [D.cS 166 a,D.cS 167 a,D.cS 168 a,D.cS 170 (D.agg [aa 3,f,bo]),D.cS 170 (D.agg [aa 4,g,bo]),D.cS 171 j,D.cS 170 (D.agg [aa 6,h,cf]),D.cS 170 (D.agg [aa 7,i,bo]),D.cS 172 k],al,l,a,f,g,j,h,i,k,m,o])<|aI λ_=>some (D.aC [D.agg [al,al],al])))
def kW:=cO (sY a)
def Au:bZ:=fG (λc d e f g=>aL .lss g f (af (af (ba 4 e g) λh=>af (aQ true 4 0 h) λh=>aM 4 h<|af (vV a [b7 h]) λa=>c0 d (aT (aW false .eql a al)) λh=>aN .leq c (aa 1073741824) λi=>af (a6 i (af (hU true [a,bE]) λa=>aN .mul c a λa=>av [a,h,e,f,g]) (av [c,h,e,f,g]))<|aI<|fG λa e f g h=>av [a,e,f,g,h])<|aI<|fG λa e f g h=>bs h λh=>av [a,e,f,g,h]) (bw [c,d])) l
def EW:oX:=aM 8 b<|bf (ae b 0) λc=>af (aR (Au a) a [bE,bo,ae b 0,c,al])<|aI<|cV λa b=>a6 b (some (D.aC [al,cf])) (aL .gtr a (aa 1073741824) (some (D.aC [al,bo])) (some (D.aC [a,cf])))
def wu:=cO (EW a)
def EX:bZ:=fG (λc d e f g=>aL .lss f e (af (ba 4 d f) λh=>af (aQ true 4 0 h) λh=>aM 4 h<|af (kV a [b7 h,c]) λa=>bT a λh=>bU a λa=>aM 4 h<|aL .neq a al (aY (aY (some (D.aC [a7,f,a])))) (aM 4 (b7 h)<|bJ (b2 ((aE g).length+([[ae h 0,ae h 1,ae h 2,ae h 3]]).length) 56)<|bs f λa=>av [c,d,e,a,D.aw 4 ((aE g)++[[ae h 0,ae h 1,ae h 2,ae h 3]])])) (bw [D.aw 4 (aE g)])) l
def Rz:oX:=bf b λd=>af (aR (EX a) a [c,b,d,al,D.aw 4 []])<|aI<|cr λa=>some (D.aC [D.aw 4 (aE a),al,al])
def mc:=db (Rz a)
def EY:bZ:=fG (λc d e f g=>aL .lss f e (af (ba 5 d f) λh=>af (aQ true 5 0 h) λh=>aM 5 h<|af (kV a [D.agg [ae h 1,ae h 2,ae h 3,ae h 4],c]) λa=>bT a λi=>bU a λa=>aM 4 i<|aL .neq a al (aY (aY (some (D.aC [a7,f,a])))) (bJ (c7 (ae h 0))<|aM 4 (b7 i)<|aM 5 (D.agg [ae h 0,ae i 0,ae i 1,ae i 2,ae i 3])<|bJ (b2 ((aE g).length+([[ae h 0,ae i 0,ae i 1,ae i 2,ae i 3]]).length) 72)<|bs f λa=>av [c,d,e,a,D.aw 5 ((aE g)++[[ae h 0,ae i 0,ae i 1,ae i 2,ae i 3]])])) (bw [D.aw 5 (aE g)])) l
def RA:oX:=bf b λd=>af (aR (EY a) a [c,b,d,al,D.aw 5 []])<|aI<|cr λa=>some (D.aC [D.aw 5 (aE a),al,al])
def wv:=db (RA a)
def wx(a:lZ->oY)(b:Nat)(c:lZ):mU:=uR (λb d e f g h i j k l m n o p q r s=>aL .lss e d (af (ba 6 b e) λt=>af (aQ true 6 0 t) λt=>aM 6 t<|af (a [D.agg [ae t 0,ae t 1,ae t 2,ae t 3,ae t 4,ae t 5],s]) λa=>af (e0 0 (bG a 0)) λt=>af (e0 1 (bG a 0)) λu=>aM 6 t<|aL .neq u al (aY (aY (some [D.aC [D.agg [al,al,al,aD ⟨#[]⟩,a7,a7],u],bG a 1]))) (aM 6 (D.agg [ae t 0,ae t 1,ae t 2,ae t 3,ae t 4,ae t 5])<|bJ (b2 ((aE r).length+([[ae t 0,ae t 1,ae t 2,ae t 3,ae t 4,ae t 5]]).length) 88)<|bs e λe=>av [b,d,e,f,g,h,i,j,k,l,m,n,o,p,q,D.aw 6 ((aE r)++[[ae t 0,ae t 1,ae t 2,ae t 3,ae t 4,ae t 5]]),bG a 1])) (bw [f,g,h,i,j,k,l,m,n,o,p,q,D.aw 6 (aE r),s])) c
def oq(a:lZ->oY)(b:Nat)(c:lZ):jJ:=cV (λd e=>aM 6 d<|aL .eql (ae d 0) bE (af (kV b [D.agg [ae d 1,ae d 2,ae d 3,ae d 4],e]) λf=>bT f λg=>bU f λf=>aM 4 g<|aL .neq f al (some [D.aC [D.agg [al,al,al,aD ⟨#[]⟩,a7,a7],f],e]) (bJ (c7 (ae d 0))<|aM 4 (b7 g)<|aM 6 (D.agg [ae d 0,ae g 0,ae g 1,ae g 2,ae g 3,a7])<|some [D.aC [D.agg [ae d 0,ae g 0,ae g 1,ae g 2,ae g 3,a7],al],e])) (bf (ae d 5) λf=>af (aR (wx a b) b [ae d 5,f,al,ae d 0,ae d 1,ae d 2,ae d 3,ae d 4,ae d 5,al,al,al,aD ⟨#[]⟩,a7,a7,D.aw 6 [],e])<|aI<|lu λa b d e f g h i j k l m n o=>bu a<|aM 6 (D.agg [a,al,al,aD ⟨#[]⟩,a7,D.aw 6 (aE n)])<|some [D.aC [D.agg [a,al,al,aD ⟨#[]⟩,a7,D.aw 6 (aE n)],al],o])) c
def lz:Nat->lZ->oY|0,_=>none|n+1,l=>oq (lz n) n l
def Kq:oX:=aM 6 b<|bu c<|af (pI a [D.agg [ae b 0,ae b 1,ae b 2,ae b 3,ae b 4,ae b 5]]) λd=>aL .neq d al (some (D.aC [D.agg [al,al,al,aD ⟨#[]⟩,a7,a7],d])) (af (lz a [D.agg [ae b 0,ae b 1,ae b 2,ae b 3,ae b 4,ae b 5],c]) λa=>af (e0 0 (bG a 0)) λb=>af (e0 1 (bG a 0)) λa=>aM 6 b<|some (D.aC [D.agg [ae b 0,ae b 1,ae b 2,ae b 3,ae b 4,ae b 5],a]))
def wy:=db (Kq a)
def EZ:bZ:=fG (λc d e f g=>aL .lss f e (af (ba 7 d f) λh=>af (aQ true 7 0 h) λh=>aM 7 h<|af (wy a [D.agg [ae h 1,ae h 2,ae h 3,ae h 4,ae h 5,ae h 6],c]) λa=>bT a λi=>bU a λa=>aM 6 i<|aL .neq a al (aY (aY (some (D.aC [a7,f,a])))) (bJ (c7 (ae h 0))<|aM 6 (D.agg [ae i 0,ae i 1,ae i 2,ae i 3,ae i 4,ae i 5])<|aM 7 (D.agg [ae h 0,ae i 0,ae i 1,ae i 2,ae i 3,ae i 4,ae i 5])<|bJ (b2 ((aE g).length+([[ae h 0,ae i 0,ae i 1,ae i 2,ae i 3,ae i 4,ae i 5]]).length) 104)<|bs f λa=>av [c,d,e,a,D.aw 7 ((aE g)++[[ae h 0,ae i 0,ae i 1,ae i 2,ae i 3,ae i 4,ae i 5]])])) (bw [D.aw 7 (aE g)])) l
def RB:oX:=bf b λd=>af (aR (EZ a) a [c,b,d,al,D.aw 7 []])<|aI<|cr λa=>some (D.aC [D.aw 7 (aE a),al,al])
def wz:=db (RB a)
def Kr:oX:=aM 8 b<|bJ (c7 (ae b 0))<|af (mc a [ae b 2,ae b 1]) λc=>bT c λd=>bU c λe=>af (e0 2 c) λc=>bu d<|bu e<|aL .neq c al (bu e<|aM 2 (D.agg [aa 3,e])<|some (D.aC [D.agg [a7,a7,a7,a7,a7,a7,a7,a7],D.agg [aa 3,e],c])) (af (mc a [ae b 3,ae b 1]) λc=>bT c λe=>bU c λf=>af (e0 2 c) λc=>bu e<|bu f<|aL .neq c al (bu f<|aM 2 (D.agg [aa 4,f])<|some (D.aC [D.agg [a7,a7,a7,a7,a7,a7,a7,a7],D.agg [aa 4,f],c])) (af (wv a [ae b 4,ae b 1]) λc=>bT c λf=>bU c λg=>af (e0 2 c) λc=>bu f<|bu g<|aL .neq c al (bu g<|aM 2 (D.agg [aa 5,g])<|some (D.aC [D.agg [a7,a7,a7,a7,a7,a7,a7,a7],D.agg [aa 5,g],c])) (af (mc a [ae b 5,ae b 1]) λc=>bT c λg=>bU c λh=>af (e0 2 c) λc=>bu g<|bu h<|aL .neq c al (bu h<|aM 2 (D.agg [aa 6,h])<|some (D.aC [D.agg [a7,a7,a7,a7,a7,a7,a7,a7],D.agg [aa 6,h],c])) (af (mc a [ae b 6,ae b 1]) λc=>bT c λh=>bU c λi=>af (e0 2 c) λc=>bu h<|bu i<|aL .neq c al (bu i<|aM 2 (D.agg [aa 7,i])<|some (D.aC [D.agg [a7,a7,a7,a7,a7,a7,a7,a7],D.agg [aa 7,i],c])) (af (wz a [ae b 7,ae b 1]) λa=>bT a λc=>bU a λi=>af (e0 2 a) λa=>bu c<|bu i<|aL .neq a al (bu i<|aM 2 (D.agg [aa 8,i])<|some (D.aC [D.agg [a7,a7,a7,a7,a7,a7,a7,a7],D.agg [aa 8,i],a])) (aM 8 (D.agg [ae b 0,a7,d,e,f,g,h,c])<|some (D.aC [D.agg [ae b 0,a7,d,e,f,g,h,c],D.agg [al,al],al])))))))
def E0:=cO (Kr a)
def Av(a:Nat)(b:lZ):jJ:=cr (λa=>dd (Co .eql a a7) (some [D.aw 1 []]) (af (jw a) λa=>bJ (decide (a.1=1\/a.2=[])&&decide (0<1))<|bJ (b2 (([]:mW).length+(a.2).length) 8)<|some [D.aw 1 (([]:mW)++a.2)])) b
def Aw:De:=kT (λc d e f g h i j k l m n o p q=>aL .lss k j (af (Av a [d]) λa=>aN .add c k λr=>bu r<|bJ (b2 ((aE (bG a 0)).length+([[r]]).length) 8)<|bJ (c7 (D.aw 1 ((aE (bG a 0))++[[r]])))<|bJ (b2 ((aE p).length+([[D.aw 1 ((aE (bG a 0))++[[r]])]]).length) 24)<|bs k λk=>av [c,d,e,f,g,h,i,j,k,l,m,n,o,D.aw 1 ((aE p)++[[D.aw 1 ((aE (bG a 0))++[[r]])]]),ay q]) (bw [c,e,f,g,h,i,l,m,n,o,ay p,ay q])) l
def Ax:hW:=iO (λc d e f g h i j k l m n=>aL .lss h g (af (cm n h λo=>cu n o λo=>af (vV a [D.agg [i,j,k,l]]) λp=>af (aR (Aw a) a [c,o,d,e,f,g,h,p,al,i,j,k,l,ay m,ay n])<|aI<|iO λa c g h i j k l n o p q=>av [a,c,g,h,i,j,k,l,n,o,ay p,ay q])<|aI<|iO λa c g h i j k l n o p q=>bs j λj=>av [a,c,g,h,i,j,k,l,n,o,ay p,ay q]) (bw [d,e,f,ay m])) l
def Ay:bZ:=dP (λc d e f=>aL .lss e d (af (af (ba 4 c e) λg=>af (aQ true 4 0 g) λg=>aM 4 g<|af (a6 (ae g 1) (av [al,c,d,e,ay f,ae g 0,ae g 1,ae g 2,ae g 3]) (av [ae g 2,c,d,e,ay f,ae g 0,ae g 1,ae g 2,ae g 3]))<|aI<|eO λc d e g h i j k l=>af (aR (Ax a) a [c,d,e,g,aa (aE h).length,al,i,j,k,l,D.aw 1 [],ay h])<|aI<|dP λa c d e=>av [a,c,d,ay e])<|aI<|dP λa c d e=>bs d λd=>av [a,c,d,ay e]) (bw [ay f])) l
def RC:oX:=bf b λc=>af (aR (Ay a) a [b,c,al,D.aw 1 [[a7]]])<|aI<|cr λa=>some (ay a)
def E1(n:Nat):lZ->oX|[a0]=>RC n a0|_=>none
def wA(d:D):D:=match d with| .val (.slice none 0 0)=> .aw 1 []|d=>d
def Az:D->oX| .aw k es=>if es.all (λe=>(e.map wA).all D.one)=true then some (.aw k (es.map λe=>e.map wA))else none|_=>none
def AA(n:Nat)(a:lZ):oX:=match E1 n a with|some r=>Az r|none=>none
def E2:oX:=bu b<|aM 4 c<|bu d<|bu e<|af (sV a [b,b7 c,cf]) λf=>bT f λg=>bU f λf=>aM 3 g<|aN .neq f al λf=>c0 f (bf d λf=>bf b λg=>aT (aW false .neq f g)) λf=>a6 f (some (D.aC [al,bo])) (af (yI a [b]) λf=>bu f<|af (py a [b7 c,d,f,e,b]) λa=>af (e0 0 (bG a 0)) λb=>af (e0 1 (bG a 0)) λa=>some (D.aC [b,a]))
def nm:=ph (E2 a)
def RD:oX:=aM 8 b<|aM 4 c<|af (nm a [ae b 0,b7 c,d,e]) λa=>bT a λb=>bU a λa=>cb a (aT (aW false .neq b al)) λa=>some a
def AB:=ph (RD a)
def AD:bZ:=gL (λc d e f g h i j k l m n o=>aL .lss g f (af (ba 4 e g) λp=>af (aQ true 4 0 p) λp=>aM 4 p<|af (AB a [D.agg [h,i,j,k,l,m,n,o],b7 p,c,d]) λa=>dd (cd .not a) (aY (aY (some bo))) (bs g λa=>av [c,d,e,f,a,h,i,j,k,l,m,n,o])) (bw [])) l
def Ks(n:Nat)(a0 aG a2 a3:D):oX:=aM 8 a0<|bf aG λv12=>af (aR (AD n) n [a2,a3,aG,v12,al,ae a0 0,ae a0 1,ae a0 2,ae a0 3,ae a0 4,ae a0 5,ae a0 6,ae a0 7])<|aI λ_=>some cf
def s3:=ph (Ks a)
def E3(a:Nat)(b:D)(c:lZ):oX:=aM 4 b<|af (aQ false 1 0 c) λa=>aT (aW false .eql (ae b 0) a)
def E4(n:Nat):lZ->oX|[a0,aG]=>(match aG with| .ref x1 0=>E3 n a0 x1|_=>none)|_=>none
def AE:bZ:=dP (λc d e f=>aL .lss f e (af (ba 4 c f) λg=>af (aQ true 4 0 g) λg=>dd (E4 a [g,d]) (aY (aY (some f))) (bs f λa=>av [c,d,e,a])) (bw [])) l
def AF(n:Nat)(a0:D)(a:D):oX:=bf a0 λb=>af (aR (AE n) n [a0,a,b,al])<|aI λ_=>some (aa (-1))
def wB(n:Nat):lZ->oX|[a0,aG]=>(match fM u0 aG with|some [a]=>AF n a0 a|_=>none)|_=>none
def E5:bZ:=gL (λc d e f g h i j k l m n o=>aL .lss f e (af (ba 5 d f) λp=>af (aQ true 5 0 p) λp=>aM 5 p<|af (nm a [g,D.agg [ae p 1,ae p 2,ae p 3,ae p 4],c,a7]) λq=>bT q λr=>bU q λq=>dd (cd .not q) (aY (aY (some (D.aC [a7,bo])))) (af (wB a [g,(D.fn (.func u0) [] [D.ref [ae p 0,ae p 1,ae p 2,ae p 3,ae p 4] 0])]) λa=>bJ a.flat<|bu a<|bu r<|aM 2 (D.agg [a,r])<|bJ (b2 ((aE o).length+([[a,r]]).length) 16)<|bs f λf=>av [c,d,e,f,g,h,i,j,k,l,m,n,D.aw 2 ((aE o)++[[a,r]])])) (bw [D.aw 2 (aE o)])) l
def RE:oX:=aM 8 b<|bf (ae b 4) λd=>af (aR (E5 a) a [c,ae b 4,d,al,ae b 0,ae b 1,ae b 2,ae b 3,ae b 4,ae b 5,ae b 6,ae b 7,D.aw 2 []])<|aI<|cr λa=>some (D.aC [D.aw 2 (aE a),cf])
def E6:=db (RE a)
def E7(a:Nat)(b:D)(c:lZ):oX:=aM 2 b<|af (aQ false 1 0 c) λa=>bM a (ae b 0) λa=>aT (aW false .neq a (ae b 1))
def E8(n:Nat):lZ->oX|[a0,aG]=>(match aG with| .ref x1 0=>E7 n a0 x1|_=>none)|_=>none
def AG:bZ:=dP (λc d e f=>aL .lss f e (af (ba 2 c f) λg=>af (aQ true 2 0 g) λg=>dd (E8 a [g,d]) (aY (aY (some f))) (bs f λa=>av [c,d,e,a])) (bw [])) l
def AH(n:Nat)(a0:D)(a:D):oX:=bf a0 λb=>af (aR (AG n) n [a0,a,b,al])<|aI λ_=>some (aa (-1))
def AI(n:Nat):lZ->oX|[a0,aG]=>(match fM n8 aG with|some [a]=>AH n a0 a|_=>none)|_=>none
def AJ:oX:=af (AI a [b,(D.fn (.func n8) [] [c])]) λa=>aT (aW false .geq a al)
def wC(n:Nat):lZ->oX|[a0,aG]=>(match fM n8 aG with|some [a]=>AJ n a0 a|_=>none)|_=>none
def wD:bZ:=kT (λc d e f g h i j k l m n o p q=>aL .lss e d (af (bM c e λr=>af (s3 a [D.agg [i,j,k,l,m,n,o,p],l,r,a7]) λa=>af (a6 a (bu r<|bJ (b2 ((aE q).length+([[r]]).length) 24)<|av [c,d,e,f,g,h,i,j,k,l,m,n,o,p,D.aw 1 ((aE q)++[[r]])]) (av [c,d,e,f,g,h,i,j,k,l,m,n,o,p,ay q]))<|aI<|kT λa c d e r s t u w x y z A B C=>av [a,c,d,e,r,s,t,u,w,x,y,z,A,B,ay C])<|aI<|kT λa c d e r s t u w x y z A B C=>bs d λd=>av [a,c,d,e,r,s,t,u,w,x,y,z,A,B,ay C]) (bw [f,g,h,i,j,k,l,m,n,o,p,ay q])) l
def AK:hW:=sy (λc d e f g h i j k l m n o p q r s t u=>aL .lss h g (af (ba 4 f h) λw=>af (aQ true 4 0 w) λw=>aM 4 w<|af (AB a [D.agg [i,j,k,l,m,n,o,p],b7 w,c,a7]) λa=>bu a<|bJ (b2 ((aE q).length+([[a]]).length) 1)<|bs h λh=>av [c,d,e,f,g,h,i,j,k,l,m,n,o,p,D.aw 1 ((aE q)++[[a]]),ay r,ay s,ay t,ay u]) (bw [c,d,e,i,j,k,l,m,n,o,p,ay q,ay r,ay s,ay t,ay u])) l
def wE:hW:=yA (λc d e f g h i j k l m n o p q r s t u w=>aL .lss i h (af (cm s i λx=>cu s x λx=>bu x<|cb e (af (wC a [d,(D.fn (.func n8) [] [D.ref [x] 0])]) λy=>bJ y.flat<|aT (cd .not y)) λy=>cb y (aT (s3 a [D.agg [j,k,l,m,n,o,p,q],o,c,x])) λa=>af (a6 a (bu i<|bJ (b2 ((aE r).length+([[i]]).length) 8)<|av [c,d,e,f,g,h,i,j,k,l,m,n,o,p,q,D.aw 1 ((aE r)++[[i]]),ay s,ay t,ay u,ay w]) (av [c,d,e,f,g,h,i,j,k,l,m,n,o,p,q,ay r,ay s,ay t,ay u,ay w]))<|aI<|yA λa c d e h i x y z A B C E F G H I J K L=>av [a,c,d,e,h,i,x,y,z,A,B,C,E,F,G,ay H,ay I,ay J,ay K,ay L])<|aI<|yA λa c d e h i x y z A B C E F G H I J K L=>bs x λx=>av [a,c,d,e,h,i,x,y,z,A,B,C,E,F,G,ay H,ay I,ay J,ay K,ay L]) (bw [f,g,j,k,l,m,n,o,p,q,ay r,ay s,ay t,ay u,ay w])) l
def wF:bZ:=lu (λc d e f g h i j k l m n o p=>aL .lss d c (af (cm m d λq=>cu m q λq=>af (s3 a [D.agg [e,f,g,h,i,j,k,l],g,q,a7]) λr=>af (a6 r (bu d<|bJ (b2 ((aE o).length+([[d]]).length) 8)<|av [q,c,d,e,f,g,h,i,j,k,l,ay m,ay n,D.aw 1 ((aE o)++[[d]]),ay p]) (av [q,c,d,e,f,g,h,i,j,k,l,ay m,ay n,ay o,ay p]))<|aI<|kT λc d e f g h i j k l q r s t u=>bf l λw=>af (aR (AK a) a [c,d,e,l,w,al,f,g,h,i,j,k,l,q,D.aw 1 [],ay r,ay s,ay t,ay u])<|aI<|u16 λc d e f g h i j k l q r s t u w=>bJ (c7 (ay r))<|bJ (b2 ((aE w).length+([[ay r]]).length) 24)<|af (E6 a [D.agg [f,g,h,i,j,k,l,q],c]) λx=>bT x λy=>bU x λx=>af (aR (wE a) a [c,y,x,d,e,aa (aE s).length,al,f,g,h,i,j,k,l,q,D.aw 1 [],ay s,ay t,ay u,D.aw 1 ((aE w)++[[ay r]])])<|aI<|kT λa c d e f g h i j k l q r s t=>bJ (c7 (ay l))<|bJ (b2 ((aE r).length+([[ay l]]).length) 24)<|av [a,c,d,e,f,g,h,i,j,k,ay q,D.aw 1 ((aE r)++[[ay l]]),ay s,ay t])<|aI<|lu λa c d e f g h i j k l q r s=>bs c λc=>av [a,c,d,e,f,g,h,i,j,k,ay l,ay q,ay r,ay s]) (bw [ay m,ay n,ay o,ay p])) l
def Kt:oX:=aM 8 b<|af (kW a [eo b]) λc=>bT c λd=>bU c λc=>aM 2 d<|aL .neq c al (some (D.aC [D.agg [a7,a7,a7,a7],c])) (af (wu a [eo b]) λc=>bT c λd=>bU c λc=>af (cd .not c) λc=>c0 c (aT (aW false .gtr d (aa 4096))) λc=>a6 c (some (D.aC [D.agg [a7,a7,a7,a7],aa 18])) (af (E0 a [eo b]) λb=>bT b λc=>bU b λd=>af (e0 2 b) λb=>aM 8 c<|aM 2 d<|aL .neq b al (some (D.aC [D.agg [a7,a7,a7,a7],b])) (aM 8 (eo c)<|aM 8 (eo c)<|af (AA a [ae c 0]) λb=>bf b λd=>af (aR (wD a) a [b,d,al,a7,a7,a7,ae c 0,ae c 1,ae c 2,ae c 3,ae c 4,ae c 5,ae c 6,ae c 7,D.aw 1 []])<|aI<|iO λb c d e f g h i j k l m=>af (bJ (jv b)<|bJ (jv c)<|bJ (jv d)<|aR (wF a) a [aa (aE m).length,al,e,f,g,h,i,j,k,l,ay m,D.aw 1 [],D.aw 1 [],D.aw 1 []])<|aI<|dP λa b c d=>some (D.aC [D.agg [ay a,ay b,ay c,ay d],al]))))
def s4(n:Nat):lZ->oX|[a0]=>Kt n a0|_=>none
def ot(k:Nat)(d:D):D:=match d with| .val (.slice none 0 0)=> .aw k []|d=>d
def Ku:D->D| .agg [bK,c1,c2,b6,e2,jh,ji,ou]=> .agg [ot 4 bK,ot 5 c1,ot 4 c2,ot 4 b6,ot 5 e2,ot 4 jh,ot 4 ji,ot 7 ou]|d=>d
def pM(n:Nat)(b:lZ):oX:=match b with|[a]=>s4 n [Ku a]|_=>none
def E9(a:Nat)(b:lZ):bZ:=fp (λa c d=>bf a λe=>aL .lss d e (bM a d λe=>bM c d λf=>dd (aW true .neq e f) (aY (aY (some bo))) (bs d λd=>av [a,c,d])) (bw [])) b
def RF(n:Nat)(a0 aG:D):oX:=bf a0 λa=>bf aG λv9=>aL .neq a v9 (some bo) (af (aR (E9 n) n [a0,aG,al])<|aI λ_=>some cf)
def pN:=db (RF a)
def AL(a:Nat)(b:lZ):bZ:=fp (λa c d=>bf a λe=>aL .lss d e (bM a d λe=>bM c d λf=>aL .neq e f (aY (aY (some bo))) (bs d λd=>av [a,c,d])) (bw [])) b
def Fa(n:Nat)(a0 aG:D):oX:=bf a0 λa=>bf aG λv9=>aL .neq a v9 (some bo) (af (aR (AL n) n [a0,aG,al])<|aI λ_=>some cf)
def s5:=db (Fa a)
def Fb:bZ:=fp (λc d e=>bf c λf=>aL .lss e f (bM c e λf=>bM d e λg=>af (s5 a [f,g]) λa=>dd (cd .not a) (aY (aY (some bo))) (bs e λa=>av [c,d,a])) (bw [])) l
def RG(n:Nat)(a0 aG:D):oX:=bf a0 λa=>bf aG λv9=>aL .neq a v9 (some bo) (af (aR (Fb n) n [a0,aG,al])<|aI λ_=>some cf)
def AM:=db (RG a)
def Fc:bZ:=eO (λc d e f g h i j k=>bf k λl=>aL .lss c l (bM g c λl=>bM k c λm=>af (pN a [l,m]) λa=>dd (cd .not a) (aY (aY (some bo))) (bs c λa=>av [a,d,e,f,g,h,i,j,k])) (bw [d,e,f,g,h,i,j,k])) l
def RH:oX:=aM 4 b<|aM 4 c<|bf (ae b 3) λd=>bf (ae c 3) λe=>aL .neq d e (some bo) (af (aR (Fc a) a [al,ae b 0,ae b 1,ae b 2,ae b 3,ae c 0,ae c 1,ae c 2,ae c 3])<|aI<|fN λb c d e f g h=>af (AM a [b,f]) λb=>cb b (aT (AM a [c,g])) λb=>cb b (aT (s5 a [d,h])) λa=>some a)
def wG:=db (RH a)
def Fe:oX:=aM 8 b<|af (qU a [eo b,aa 40]) λc=>dd (cd .not c) (some (D.aC [D.agg [a7,a7,a7,a7],D.agg [a7,a7,a7,a7],bo,cf])) (af (vR a [eo b]) λc=>bT c λd=>bU c λc=>aM 4 d<|af (pM a [eo b]) λb=>bT b λe=>bU b λb=>aM 4 e<|aN .eql c al λf=>aN .eql b c λb=>cb b (aT (wG a [b7 e,b7 d])) λa=>aM 4 (b7 e)<|aM 4 (b7 d)<|some (D.aC [b7 e,b7 d,f,a]))
def s6:=cO (Fe a)
def wH(a:Nat)(b:lZ):bZ:=fp (λa c d=>aL .gtr (aa (aE d).length) al (aN .sub (aa (aE d).length) bE λe=>cm d e λe=>af (aE d)[e]? λe=>af (aQ true 6 0 e) λe=>aM 6 e<|aN .sub (aa (aE d).length) bE λf=>af (hC (aE d).length none (some f)) λf=>bJ (decide (f.1+f.2<=(aE d).length))<|aN .gtr c a λg=>c0 g (bf (ae e 5) λg=>aT (aW false .gtr g a)) λg=>a6 g (aY (aY (some bo))) (af (jw (ae e 5)) λe=>bJ (decide (e.1=6\/e.2=[])&&decide (0<6))<|bJ (b2 ((((aE d).drop f.1).take f.2).length+(e.2).length) 88)<|bs c λc=>av [a,c,D.aw 6 ((((aE d).drop f.1).take f.2)++e.2)])) (bw [])) b
def Kv(n:Nat)(a0 aG:D):oX:=aM 6 a0<|aM 6 (D.agg [ae a0 0,ae a0 1,ae a0 2,ae a0 3,ae a0 4,ae a0 5])<|af (aR (wH n) n [aG,al,D.aw 6 [[ae a0 0,ae a0 1,ae a0 2,ae a0 3,ae a0 4,ae a0 5]]])<|aI λ_=>some cf
def AN:=db (Kv a)
def acg(a:Nat):oX:=aM 5 (D.agg [aD ⟨#[120]⟩,aa 5,al,aD ⟨#[]⟩,D.aw 4 [[aa 3,al,aD ⟨#[120]⟩,a7]]])<|some (D.agg [D.aw 4 [[aD ⟨#[120]⟩,cf,al,al]],a7,a7,a7,D.aw 5 [[aD ⟨#[120]⟩,aa 5,al,aD ⟨#[]⟩,D.aw 4 [[aa 3,al,aD ⟨#[120]⟩,a7]]]],a7,D.aw 4 [[aa 3,al,aD ⟨#[120]⟩,a7]],a7])
def RI(n:Nat):lZ->oX|[]=>acg n|_=>none
def s7(g m:lZ)(no:D):Nat->D|0=> .ref [] 0|k+1=> .ref [.fn (.func j8) [] [.ref g 0,.ref m 0,s7 g m no k,no]] 0
def np(a:lZ):D:= .ref [.fn (.func j7) [] [.ref a 0]] 0
def AO(a:lZ->oX)(b:Nat)(c:lZ):bZ:=dP (λb d e f=>aL .lss f e (af (ba 6 d f) λg=>af (aQ true 6 0 g) λg=>aM 6 g<|af (a [b,D.agg [ae g 0,ae g 1,ae g 2,ae g 3,ae g 4,ae g 5]]) λa=>aL .neq a al (aY (aY (some a))) (bs f λa=>av [b,d,e,a])) (bw [])) c
def q2(a:lZ->oX)(n:Nat)(a0 aG:D):oX:=aM 6 aG<|aL .eql (ae aG 0) bE (af (sV n [a0,D.agg [ae aG 1,ae aG 2,ae aG 3,ae aG 4],bo]) λv17=>bT v17 λb=>bU v17 λc=>aM 3 b<|aN .eql c al λv21=>cb v21 (aT (cd .not (ae b 0))) λv26=>af (a6 v26 (av [aa 13]) (av [c]))<|aI<|cr λe=>some e) (bf (ae aG 5) λd=>af (aR (AO a n) n [a0,ae aG 5,d,al])<|aI λ_=>some al)
def nq:Nat->lZ->oX|0,_=>none|n+1,a=>match a with|[a0,aG]=>q2 (nq n) n a0 aG|_=>none
def Kw(c:lZ)(d:lZ)(e:lZ):oX:=af (aQ false 1 0 c) λc=>af (aQ true 4 1 d) λd=>af (aQ false 1 0 e) λe=>bM e b λb=>af (nm a [c,d,b,a7]) λa=>bT a λb=>bU a λa=>cb a (aT (aW false .eql b bE)) λa=>some a
def Ff(n:Nat):lZ->oX|[a0,aG,a2,a3]=>(match aG with| .ref x1 0=>(match a2 with| .ref ds 0=>(match a3 with| .ref a 0=>Kw n a0 x1 ds a|_=>none)|_=>none)|_=>none)|_=>none
def Fg:bZ:=hn (λc d e f g h=>aL .lss g f (af (Ff a [g,c,d,e]) λa=>cm h g λi=>bu a<|af (aE h)[i]? λj=>bs g λg=>av [c,d,e,f,g,D.aw 1 ((aE h).set i (dH j 0 [a]))]) (bw [ay h])) l
def Kx:oX:=aM 4 b<|bf (ae b 0) λb=>af (eM 1 b b) λb=>af (aR (Fg a) a [c,d,e,aa (List.replicate b [bo]).length,al,D.aw 1 (List.replicate b [bo])])<|aI<|cr λa=>some (ay a)
def wI(n:Nat):lZ->oX|[a0,aG]=>(match fM uS aG with|some [a,b,c]=>Kx n a0 a b c|_=>none)|_=>none
def ka(a:lZ->oX)(b:Nat)(c:D)(d:lZ)(e:lZ)(f:lZ)(g:lZ):oX:=aM 6 c<|aL .eql (ae c 0) bE (af (aQ true 4 0 d) λh=>aT (wI b [h,(D.fn (.func uS) [] [D.ref e 0,D.ref [ae c 0,ae c 1,ae c 2,ae c 3,ae c 4,ae c 5] 0,D.ref d 0])])) (af (aQ false 1 0 f) λe=>af (ba 6 (ae c 5) al) λh=>af (aQ true 6 0 h) λh=>af (kN [(j8,a),(j7,jK b)] e [h]) λe=>bu e<|bu e<|bf (ae c 5) λh=>aN .gtr h bE λh=>af (a6 h (af (aQ false 1 0 f) λf=>af (ba 6 (ae c 5) bE) λh=>af (aQ true 6 0 h) λh=>af (kN [(j8,a),(j7,jK b)] f [h]) λf=>bu f<|av [D.agg d,D.agg g,ae c 0,ae c 1,ae c 2,ae c 3,ae c 4,ae c 5,e,f]) (av [D.agg d,D.agg g,ae c 0,ae c 1,ae c 2,ae c 3,ae c 4,ae c 5,e,e]))<|aI<|e5 λc d e f g h i j k l=>aL .eql e (aa 2) (af (aQ false 1 0 (dM d)) λf=>aT (kN [(j8,a),(j7,jK b)] f [k])) (aL .eql e (aa 3) (af (aQ true 4 0 (dM c)) λf=>aT (u6 b [f,(D.fn (.func uT) [] [D.ref [k] 0,D.ref [l] 0])])) (aL .eql e (aa 4) (af (aQ true 4 0 (dM c)) λf=>aT (u7 b [f,(D.fn (.func uU) [] [D.ref [k] 0,D.ref [l] 0])])) (aL .eql e (aa 5) (af (aQ true 4 0 (dM c)) λf=>aT (u9 b [f,(D.fn (.func uV) [] [D.ref [k] 0,D.ref [l] 0])])) (aL .eql e (aa 6) (af (aQ true 4 0 (dM c)) λf=>aT (vn b [f,k])) (aL .eql e (aa 7) (af (aQ true 4 0 (dM c)) λf=>af (aQ true 4 0 (dM c)) λg=>af (qM b [g]) λg=>aT (qP b [f,g,k])) (aL .eql e (aa 8) (af (aQ true 4 0 (dM c)) λf=>aT (sD b [f,k])) (aL .eql e (aa 9) (af (aQ true 4 0 (dM c)) λf=>aT (qP b [f,k,l])) (aL .eql e (aa 10) (af (aQ false 1 0 (dM d)) λf=>af (aQ true 4 0 (dM c)) λg=>af (aQ false 1 0 (dM d)) λh=>af (kN [(j8,a),(j7,jK b)] h [k]) λh=>af (vn b [g,h]) λg=>aT (kN [(j8,a),(j7,jK b)] f [g])) (aL .eql e (aa 11) (af (aQ false 1 0 (dM d)) λf=>af (aQ true 4 0 (dM c)) λg=>af (aQ false 1 0 (dM d)) λh=>af (kN [(j8,a),(j7,jK b)] h [k]) λh=>af (sD b [g,h]) λg=>aT (kN [(j8,a),(j7,jK b)] f [g])) (aL .eql e (aa 12) (af (aQ false 1 0 (dM d)) λe=>af (aQ true 4 0 (dM c)) λf=>af (aQ true 4 0 (dM c)) λg=>af (qM b [g]) λg=>af (aQ false 1 0 (dM d)) λh=>af (kN [(j8,a),(j7,jK b)] h [k]) λh=>af (qP b [f,g,h]) λf=>aT (kN [(j8,a),(j7,jK b)] e [f])) (af (aQ true 4 0 (dM c)) λe=>af (aQ false 1 0 (dM d)) λf=>af (kN [(j8,a),(j7,jK b)] f [l]) λf=>af (sD b [e,f]) λe=>bu e<|af (aQ true 4 0 (dM c)) λf=>af (aQ false 1 0 (dM d)) λd=>af (kN [(j8,a),(j7,jK b)] d [l]) λa=>af (aQ true 4 0 (dM c)) λd=>af (vo b [d,(D.fn (.func uW) [] [D.ref [k] 0,D.ref [l] 0])]) λd=>af (qP b [f,a,d]) λa=>bu a<|af (aQ true 4 0 (dM c)) λc=>aT (vp b [c,(D.fn (.func uX) [] [D.ref [e] 0,D.ref [a] 0])])))))))))))))
def ov:Nat->lZ->oX|0,_=>none|n+1,a=>match a with|[a0,aG,a2,a3,a4]=>(match aG with| .ref x1 0=>(match a2 with| .ref ds 0=>(match a3 with| .ref b 0=>(match a4 with| .ref c 0=>ka (ov n) n a0 x1 ds b c|_=>none)|_=>none)|_=>none)|_=>none)|_=>none
def AP:oX:=bJ (cz 4 b)<|bJ (cz 8 c)<|bJ (cz 6 d)<|af (pI a [D.agg [ae d 0,ae d 1,ae d 2,ae d 3,ae d 4,ae d 5]]) λe=>dd (aW false .neq e al) (some (D.aC [a7,e])) (af (nq a [ae c 0,D.agg [ae d 0,ae d 1,ae d 2,ae d 3,ae d 4,ae d 5]]) λe=>dd (aW false .neq e al) (some (D.aC [a7,e])) (af (ov a [D.agg [ae d 0,ae d 1,ae d 2,ae d 3,ae d 4,ae d 5],.ref [ae b 0,ae b 1,ae b 2,ae b 3] 0,.ref [ae c 0,ae c 1,ae c 2,ae c 3,ae c 4,ae c 5,ae c 6,ae c 7] 0,s7 [ae b 0,ae b 1,ae b 2,ae b 3] [ae c 0,ae c 1,ae c 2,ae c 3,ae c 4,ae c 5,ae c 6,ae c 7] (np [ae b 0,ae b 1,ae b 2,ae b 3]) a,np [ae b 0,ae b 1,ae b 2,ae b 3]]) λa=>some (D.aC [a,al])))
def ow(n:Nat):lZ->oX|[a0,aG,a2]=>AP n a0 aG a2|_=>none
def ach:oX:=af (RI a []) λb=>aM 8 b<|af (pM a [eo b]) λc=>bT c λd=>bU c λc=>aM 4 d<|af (ow a [b7 d,eo b,D.agg [aa 8,al,al,aD ⟨#[]⟩,a7,D.aw 6 [[bE,aa 2,bE,aD ⟨#[]⟩,a7,a7]]]]) λe=>bT e λf=>bU e λe=>af (ow a [b7 d,eo b,D.agg [aa 8,al,al,aD ⟨#[]⟩,a7,D.aw 6 [[bE,aa 3,al,aD ⟨#[120]⟩,a7,a7]]]]) λg=>bT g λh=>bU g λg=>af (ow a [b7 d,eo b,D.agg [aa 11,al,al,aD ⟨#[]⟩,a7,D.aw 6 [[bE,aa 3,al,aD ⟨#[120]⟩,a7,a7]]]]) λb=>bT b λd=>bU b λb=>aN .eql c al λc=>cb c (aT (aW false .eql e al)) λc=>cb c (aT (aW false .eql g al)) λc=>cb c (aT (aW false .eql b al)) λb=>cb b (af (pN a [f,D.aw 1 [[cf],[cf]]]) λb=>bJ b.flat<|some b) λb=>cb b (af (pN a [h,D.aw 1 [[bo],[bo]]]) λb=>bJ b.flat<|some b) λb=>cb b (af (pN a [d,D.aw 1 [[cf],[cf]]]) λa=>bJ a.flat<|some a) λa=>some a
def Fh:=yj (ach a)
def AQ(a:lZ->oX)(b:Nat)(c:lZ):bZ:=u8 (λb d e f g h i j=>bf j λk=>aL .lss d k (af (ba 6 j d) λk=>af (aQ true 6 0 k) λk=>af (a [b,k]) λa=>aL .neq a al (aY (aY (some a))) (bs d λa=>av [b,a,e,f,g,h,i,j])) (bw [])) c
def q3(a:lZ->oX)(n:Nat)(a0 aG:D):oX:=aM 6 aG<|aL .eql (ae aG 0) bE (af (sI n [a0,D.agg [ae aG 1,ae aG 2,ae aG 3,ae aG 4],bo]) λb=>bT b λv17=>bU b λc=>aM 3 v17<|aL .neq c al (some c) (dd (cd .not (ae v17 0)) (some (aa 13)) (some al))) (af (aR (AQ a n) n [a0,al,ae aG 0,ae aG 1,ae aG 2,ae aG 3,ae aG 4,ae aG 5])<|aI λ_=>some al)
def pO:Nat->lZ->oX|0,_=>none|n+1,a=>match a with|[a0,aG]=>q3 (pO n) n a0 aG|_=>none
def Fi:bZ:=gX (λc d e f g h i j k l m=>aL .lss d (aa (aE m).length) (bM e d λn=>af (ly a [c,D.agg [i,j,k,l],n,a7]) λa=>bT a λn=>bU a λa=>cb a (aT (aW false .eql n bE)) λa=>cm m d λn=>bu a<|af (aE m)[n]? λo=>bs d λd=>av [c,d,e,f,g,h,i,j,k,l,D.aw 1 ((aE m).set n (dH o 0 [a]))]) (bw [ay m])) l
def RJ:oX:=aM 4 b<|aM 4 d<|bf (ae b 0) λe=>af (eM 1 e e) λe=>af (aR (Fi a) a [c,al,ae b 0,ae b 1,ae b 2,ae b 3,ae d 0,ae d 1,ae d 2,ae d 3,D.aw 1 (List.replicate e [bo])])<|aI<|cr λa=>some (ay a)
def Fj:=gV (RJ a)
def Fk(a:Nat)(b:lZ):bZ:=fp (λa c d=>aL .lss c (aa (aE d).length) (bM a c λe=>af (cd .not e) λe=>cm d c λf=>bu e<|af (aE d)[f]? λg=>bs c λc=>av [a,c,D.aw 1 ((aE d).set f (dH g 0 [e]))]) (bw [ay d])) b
def RK:oX:=bf b λc=>af (eM 1 c c) λc=>af (aR (Fk a) a [b,al,D.aw 1 (List.replicate c [bo])])<|aI<|cr λa=>some (ay a)
def iQ:=cO (RK a)
def Fl(a:Nat)(b:lZ):bZ:=dP (λa c d e=>aL .lss d (aa (aE e).length) (bM a d λf=>cb f (bM c d λf=>some f) λf=>cm e d λg=>bu f<|af (aE e)[g]? λh=>bs d λd=>av [a,c,d,D.aw 1 ((aE e).set g (dH h 0 [f]))]) (bw [ay e])) b
def RL:oX:=bf b λd=>af (eM 1 d d) λd=>af (aR (Fl a) a [b,c,al,D.aw 1 (List.replicate d [bo])])<|aI<|cr λa=>some (ay a)
def wJ:=db (RL a)
def RM:oX:=af (iQ a [b]) λb=>af (iQ a [c]) λc=>af (wJ a [b,c]) λb=>aT (iQ a [b])
def wK:=db (RM a)
def AR(a:Nat)(b:lZ):bZ:=fp (λa c d=>aL .lss c (aa (aE d).length) (bf a λe=>aN .lss c e λe=>cb e (bM a c λe=>some e) λe=>cm d c λf=>bu e<|af (aE d)[f]? λg=>bs c λc=>av [a,c,D.aw 1 ((aE d).set f (dH g 0 [e]))]) (bw [ay d])) b
def RN:oX:=aM 4 b<|bf (ae b 0) λb=>af (eM 1 b b) λb=>af (aR (AR a) a [c,al,D.aw 1 (List.replicate b [bo])])<|aI<|cr λa=>some (ay a)
def nr:=db (RN a)
def Fo(a:Nat)(b:lZ):bZ:=cV (λa c=>aL .lss a (aa (aE c).length) (cm c a λd=>af (aE c)[d]? λe=>bs a λa=>av [a,D.aw 1 ((aE c).set d (dH e 0 [cf]))]) (bw [ay c])) b
def RO:oX:=aM 4 b<|bf (ae b 0) λb=>af (eM 1 b b) λb=>af (aR (Fo a) a [al,D.aw 1 (List.replicate b [bo])])<|aI<|cr λa=>some (ay a)
def ox:=cO (RO a)
def s8(a:Nat)(b:lZ):hW:=eO (λa c d e f g h i j=>bM f c λk=>bf k λk=>aL .lss d k (af (bM f c λk=>bM k d λk=>bM a k λl=>cb l (cm i k λl=>cu i l λl=>aT (cd .not l)) λl=>af (a6 l (cm i k λl=>af (aE i)[l]? λm=>bu k<|bJ (b2 ((aE j).length+([[k]]).length) 8)<|av [a,c,d,e,f,g,h,D.aw 1 ((aE i).set l (dH m 0 [cf])),D.aw 1 ((aE j)++[[k]])]) (av [a,c,d,e,f,g,h,ay i,ay j]))<|aI<|eO λc d k l m n o p q=>av [c,d,k,l,m,n,o,ay p,ay q])<|aI<|eO λc d k l m n o p q=>bs k λk=>av [c,d,k,l,m,n,o,ay p,ay q]) (bw [a,e,f,g,h,ay i,ay j])) b
def Fp:bZ:=fN (λc d e f g h i=>aL .gtr (aa (aE i).length) al (af (cm i al λj=>cu i j λj=>af (hC (aE i).length (some bE) none) λk=>bJ (decide (k.1+k.2<=(aE i).length))<|af (aR (s8 a) a [c,j,al,d,e,f,g,ay h,D.aw 1 (((aE i).drop k.1).take k.2)])<|aI<|fN λa c d e f g i=>av [a,c,d,e,f,ay g,ay i])<|aI<|fN λa c d e f g i=>av [a,c,d,e,f,ay g,ay i]) (bw [ay h])) l
def RP:oX:=aM 4 b<|bf (ae b 0) λe=>af (eM 1 e e) λe=>bu c<|af (aR (Fp a) a [d,ae b 0,ae b 1,ae b 2,ae b 3,D.aw 1 (List.replicate e [bo]),D.aw 1 [[c]]])<|aI<|cr λa=>some (ay a)
def s9:=gV (RP a)
def wL:De:=iO (λc d e f g h i j k l m n=>aN .lss i (aa (aE n).length) λo=>cb o (aT (cd .not h)) λo=>a6 o (bM f i λo=>cb o (bM m i λo=>bM o g λo=>some o) λo=>cb o (af (s9 a [D.agg [j,k,l,m],i,c]) λa=>bM a e λa=>some a) λa=>bs i λi=>av [c,d,e,f,g,a,i,j,k,l,m,ay n]) (bw [c,d,e,f,g,h,j,k,l,m,ay n])) l
def wM:hW:=e5 (λc d e f g h i j k l=>aN .lss g d λm=>cb m (cm l e λm=>cu l m λm=>some m) λm=>a6 m (af (af (aR (wL a) a [c,d,e,f,g,bo,al,h,i,j,k,ay l])<|aI<|gX λa f g m n o p q r s t=>cm t g λu=>bu o<|af (aE t)[u]? λw=>av [a,f,g,m,n,p,q,r,s,D.aw 1 ((aE t).set u (dH w 0 [o]))])<|aI<|e5 λa f g m n o p q r s=>bs n λn=>av [a,f,g,m,n,o,p,q,r,ay s]) (bw [c,d,e,h,i,j,k,ay l])) l
def AS:bZ:=u8 (λc d e f g h i j=>aL .lss e (aa (aE j).length) (af (bM c e λk=>dd (cd .not k) (av [c,d,e,f,g,h,i,ay j]) (af (s9 a [D.agg [f,g,h,i],e,c]) λk=>bM k e λl=>cm j e λm=>bu l<|af (aE j)[m]? λn=>af (aR (wM a) a [c,d,e,k,al,f,g,h,i,D.aw 1 ((aE j).set m (dH n 0 [l]))])<|aI<|u8 λa c d e f g h i=>av [a,c,d,e,f,g,h,ay i]))<|aI<|u8 λa c d e f g h i=>bs d λd=>av [a,c,d,e,f,g,h,ay i]) (bw [ay j])) l
def Ky:oX:=aM 4 b<|bf (ae b 3) λd=>aN .gtr d al λd=>af (a6 d (bM (ae b 3) al λd=>bf d λd=>av [c,d,ae b 0,ae b 1,ae b 2,ae b 3]) (av [c,al,ae b 0,ae b 1,ae b 2,ae b 3]))<|aI<|hn λb c d e f g=>bf d λh=>af (eM 1 h h) λh=>af (aR (AS a) a [b,c,al,d,e,f,g,D.aw 1 (List.replicate h [bo])])<|aI<|cr λa=>some (ay a)
def AT:=db (Ky a)
def AU(a:Nat)(b:lZ):hW:=e5 (λa c d e f g h i j k=>bf e λl=>aL .lss f l (cm k d λl=>cu k l λl=>af (cE l false (bM e f λm=>some m)) λm=>af (cE m true (bM c f λn=>some n)) λn=>c0 l (aT (en m n bo)) λl=>cm k d λm=>bu l<|af (aE k)[m]? λn=>bs f λf=>av [a,c,d,e,f,g,h,i,j,D.aw 1 ((aE k).set m (dH n 0 [l]))]) (bw [a,c,d,g,h,i,j,ay k])) b
def AV:bZ:=u8 (λc d e f g h i j=>aL .lss e (aa (aE j).length) (af (bM c e λk=>dd (cd .not k) (av [c,d,e,f,g,h,i,ay j]) (af (s9 a [D.agg [f,g,h,i],e,c]) λk=>bM d e λl=>cm j e λm=>bu l<|af (aE j)[m]? λn=>af (aR (AU a) a [c,d,e,k,al,f,g,h,i,D.aw 1 ((aE j).set m (dH n 0 [l]))])<|aI<|u8 λa c d e f g h i=>av [a,c,d,e,f,g,h,ay i]))<|aI<|u8 λa c d e f g h i=>bs d λd=>av [a,c,d,e,f,g,h,ay i]) (bw [ay j])) l
def RQ:oX:=aM 4 b<|af (nr a [b7 b,c]) λc=>af (AT a [b7 b,c]) λd=>bf c λe=>af (eM 1 e e) λe=>af (aR (AV a) a [c,d,al,ae b 0,ae b 1,ae b 2,ae b 3,D.aw 1 (List.replicate e [bo])])<|aI<|cr λa=>some (ay a)
def wN:=db (RQ a)
def AW(a:Nat)(b:lZ):hW:=eO (λa c d e f g h i j=>bM g d λk=>bf k λk=>aL .lss e k (bM g d λk=>bM k e λk=>cm j d λl=>cu j l λl=>af (cE l false (bM a k λm=>some m)) λm=>af (cE m true (bM c k λk=>some k)) λk=>c0 l (aT (en m k bo)) λk=>cm j d λl=>bu k<|af (aE j)[l]? λm=>bs e λe=>av [a,c,d,e,f,g,h,i,D.aw 1 ((aE j).set l (dH m 0 [k]))]) (bw [a,c,d,f,g,h,i,ay j])) b
def Fq:bZ:=u8 (λc d e f g h i j=>aL .lss e (aa (aE j).length) (af (af (aR (AW a) a [c,d,e,al,f,g,h,i,ay j])<|aI<|u8 λa c d e f g h i=>av [a,c,d,e,f,g,h,ay i])<|aI<|u8 λa c d e f g h i=>bs d λd=>av [a,c,d,e,f,g,h,ay i]) (bw [ay j])) l
def RR:oX:=aM 4 b<|af (nr a [b7 b,c]) λc=>af (ox a [b7 b]) λd=>af (wN a [b7 b,d]) λd=>bf c λe=>af (eM 1 e e) λe=>af (aR (Fq a) a [c,d,al,ae b 0,ae b 1,ae b 2,ae b 3,D.aw 1 (List.replicate e [bo])])<|aI<|cr λa=>some (ay a)
def AX:=db (RR a)
def AY(a:Nat)(b:lZ):bZ:=eO (λa c d e f g h i j=>aL .lss e (aa (aE j).length) (bM c e λk=>cb k (bM d e λk=>some k) λk=>cm j e λl=>bu k<|af (aE j)[l]? λm=>bs e λe=>av [a,c,d,e,f,g,h,i,D.aw 1 ((aE j).set l (dH m 0 [k]))]) (bw [a,f,g,h,i,ay j])) b
def ta(a:Nat)(b:lZ):De:=eO (λa c d e f g h i j=>bM g d λk=>bf k λk=>aN .lss e k λk=>cb k (bM a d λk=>some k) λk=>cb k (cm j d λk=>cu j k λk=>aT (cd .not k)) λk=>a6 k (af (bM g d λk=>bM k e λk=>cm j k λk=>cu j k λk=>af (a6 k (cm j d λk=>af (aE j)[k]? λl=>av [a,cf,d,e,f,g,h,i,D.aw 1 ((aE j).set k (dH l 0 [cf]))]) (av [a,c,d,e,f,g,h,i,ay j]))<|aI<|eO λe k l m n o p q r=>av [e,k,l,m,n,o,p,q,ay r])<|aI<|eO λe k l m n o p q r=>bs m λm=>av [e,k,l,m,n,o,p,q,ay r]) (bw [a,c,d,f,g,h,i,ay j])) b
def AZ:hW:=u8 (λc d e f g h i j=>aL .lss e (aa (aE j).length) (af (af (aR (ta a) a [c,d,e,al,f,g,h,i,ay j])<|aI<|u8 λa e k l m n o p=>av [a,e,k,l,m,n,o,ay p])<|aI<|u8 λa e k l m n o p=>bs k λk=>av [a,e,k,l,m,n,o,ay p]) (bw [c,d,f,g,h,i,ay j])) l
def A0:bZ:=fN (λc d e f g h i=>a6 d (af (af (aR (AZ a) a [c,bo,al,e,f,g,h,ay i])<|aI<|fN λa c d e f g h=>av [a,c,d,e,f,g,ay h])<|aI<|fN λa c d e f g h=>av [a,c,d,e,f,g,ay h]) (bw [ay i])) l
def RS:oX:=aM 4 b<|af (nr a [b7 b,c]) λc=>af (nr a [b7 b,d]) λd=>af (ox a [b7 b]) λe=>af (wN a [b7 b,e]) λe=>bf c λf=>af (eM 1 f f) λf=>af (aR (AY a) a [c,d,e,al,ae b 0,ae b 1,ae b 2,ae b 3,D.aw 1 (List.replicate f [bo])])<|aI<|hn λb c d e f g=>af (aR (A0 a) a [b,cf,c,d,e,f,ay g])<|aI<|cr λa=>some (ay a)
def tb:=gV (RS a)
def RT:oX:=aM 4 b<|aT (wN a [b7 b,c])
def wO:=db (RT a)
def lA:oX:=aM 4 b<|aL .eql c (aa 2) (aT (iQ a [d])) (aL .eql c (aa 3) (aT (wJ a [d,e])) (aL .eql c (aa 4) (aT (wK a [d,e])) (aL .eql c (aa 5) (af (iQ a [d]) λf=>aT (wK a [f,e])) (aL .eql c (aa 6) (aT (AX a [b7 b,d])) (aL .eql c (aa 7) (af (ox a [b7 b]) λf=>aT (tb a [b7 b,f,d])) (aL .eql c (aa 8) (aT (wO a [b7 b,d])) (aL .eql c (aa 9) (aT (tb a [b7 b,d,e])) (aL .eql c (aa 10) (af (iQ a [d]) λf=>af (AX a [b7 b,f]) λf=>aT (iQ a [f])) (aL .eql c (aa 11) (af (iQ a [d]) λf=>af (wO a [b7 b,f]) λf=>aT (iQ a [f])) (aL .eql c (aa 12) (af (ox a [b7 b]) λc=>af (iQ a [d]) λf=>af (tb a [b7 b,c,f]) λc=>aT (iQ a [c])) (af (iQ a [e]) λc=>af (wO a [b7 b,c]) λc=>af (iQ a [e]) λf=>af (iQ a [d]) λd=>af (iQ a [e]) λe=>af (wJ a [d,e]) λd=>af (tb a [b7 b,f,d]) λb=>af (wK a [c,b]) λb=>aT (iQ a [b]))))))))))))
def ko:=ph (lA a)
def wP(a:lZ->oX)(b:Nat)(c d e:D):oX:=aM 4 c<|aM 6 e<|aL .eql (ae e 0) bE (aT (Fj b [b7 c,d,D.agg [ae e 1,ae e 2,ae e 3,ae e 4]])) (af (ba 6 (ae e 5) al) λf=>af (aQ true 6 0 f) λf=>af (a [b7 c,d,f]) λf=>bf (ae e 5) λg=>aN .gtr g bE λg=>af (a6 g (af (ba 6 (ae e 5) bE) λg=>af (aQ true 6 0 g) λg=>af (a [b7 c,d,g]) λa=>av [f,a,ae c 0,ae c 1,ae c 2,ae c 3,ae e 0,ae e 1,ae e 2,ae e 3,ae e 4,ae e 5]) (av [f,a7,ae c 0,ae c 1,ae c 2,ae c 3,ae e 0,ae e 1,ae e 2,ae e 3,ae e 4,ae e 5]))<|aI<|fN λa c d e f g h=>aT (ko b [D.agg [d,e,f,g],h,a,c]))
def q4:Nat->lZ->oX|0,_=>none|n+1,a=>match a with|[a0,aG,a2]=>wP (q4 n) n a0 aG a2|_=>none
def Ft:oX:=aM 4 b<|aM 8 c<|aM 6 d<|af (vE a [D.agg [ae d 0,ae d 1,ae d 2,ae d 3,ae d 4,ae d 5]]) λe=>aN .eql e al λf=>af (a6 f (af (pO a [ae c 0,D.agg [ae d 0,ae d 1,ae d 2,ae d 3,ae d 4,ae d 5]]) λf=>av [f,ae b 0,ae b 1,ae b 2,ae b 3,ae c 0,ae c 1,ae c 2,ae c 3,ae c 4,ae c 5,ae c 6,ae c 7,ae d 0,ae d 1,ae d 2,ae d 3,ae d 4,ae d 5]) (av [e,ae b 0,ae b 1,ae b 2,ae b 3,ae c 0,ae c 1,ae c 2,ae c 3,ae c 4,ae c 5,ae c 6,ae c 7,ae d 0,ae d 1,ae d 2,ae d 3,ae d 4,ae d 5]))<|aI<|sy λb c d e f g h i j k l m n o p q r s t=>aL .neq b al (some (D.aC [a7,b])) (af (q4 a [D.agg [c,d,e,f],g,D.agg [o,p,q,r,s,t]]) λa=>some (D.aC [a,al]))
def wQ:=gV (Ft a)
def A1:oX:=aM 8 b<|aM 6 c<|af (s6 a [eo b]) λd=>bT d λe=>bU d λf=>af (e0 2 d) λg=>af (e0 3 d) λd=>aM 4 e<|aM 4 f<|dd (cd .not d) (some bo) (af (cd .not g) λd=>c0 d (af (AN a [D.agg [ae c 0,ae c 1,ae c 2,ae c 3,ae c 4,ae c 5],aa 12]) λd=>aT (cd .not d)) λd=>a6 d (aT (Fh a [])) (af (ow a [b7 e,eo b,D.agg [ae c 0,ae c 1,ae c 2,ae c 3,ae c 4,ae c 5]]) λd=>bT d λe=>bU d λd=>af (wQ a [b7 f,eo b,D.agg [ae c 0,ae c 1,ae c 2,ae c 3,ae c 4,ae c 5]]) λb=>bT b λc=>bU b λb=>aN .eql d b λb=>cb b (aT (pN a [e,c])) λb=>cb b (aT (Fh a [])) λa=>some a))
def wR:=db (A1 a)
end Go.Am
