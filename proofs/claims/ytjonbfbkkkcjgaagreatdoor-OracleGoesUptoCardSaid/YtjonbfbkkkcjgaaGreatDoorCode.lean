/- What each function of the seat computes, on data. No condition. -/
import Derived.Test.YtjonbfbkkkcjgaaGreatDoorEngC
import Derived.Test.YtjonbfbkkkcjgaaGreatDoorHd
set_option linter.all false
set_option linter.unnecessarySimpa false
namespace Go.Am
abbrev b0:=Option (lZ⊕(lZ⊕D))
abbrev iM:=Option (lZ⊕(lZ⊕(lZ⊕(lZ⊕(lZ⊕D)))))
abbrev ji:=oY
abbrev mh:=Option (lZ⊕(lZ⊕lZ))
abbrev N5:=Option (lZ⊕(lZ⊕(lZ⊕(lZ⊕(lZ⊕(lZ⊕(lZ⊕(lZ⊕D))))))))
abbrev dW(a:Type):=D->D->D->D->D->a
section
variable{β:Type}
abbrev cr(F:D->β)(l:lZ):=F (bz l 0)
abbrev cR(F:D->D->β)(l:lZ):=F (bz l 0) (bz l 1)
abbrev ff(F:D->D->D->β)(l:lZ):=F (bz l 0) (bz l 1) (bz l 2)
abbrev dH(F:D->D->D->D->β)(l:lZ):=F (bz l 0) (bz l 1) (bz l 2) (bz l 3)
abbrev fg(F:dW β)(l:lZ):=F (bz l 0) (bz l 1) (bz l 2) (bz l 3) (bz l 4)
abbrev hy(F:dW (D->β))(l:lZ):=fg F l (bz l 5)
abbrev gP(F:dW (D->D->β))(l:lZ):=hy F l (bz l 6)
abbrev u8(F:dW (D->D->D->β))(l:lZ):=gP F l (bz l 7)
abbrev fq(F:dW (D->D->D->D->β))(l:lZ):=u8 F l (bz l 8)
abbrev fb(F:dW (dW β))(l:lZ):=fq F l (bz l 9)
abbrev gQ(F:dW (dW (D->β)))(l:lZ):=fb F l (bz l 10)
abbrev iN(F:dW (dW (D->D->β)))(l:lZ):=gQ F l (bz l 11)
abbrev gq(F:dW (dW (D->D->D->β)))(l:lZ):=iN F l (bz l 12)
abbrev ku(F:dW (dW (D->D->D->D->β)))(l:lZ):=gq F l (bz l 13)
abbrev kv(F:dW (dW (dW β)))(l:lZ):=ku F l (bz l 14)
abbrev u16(F:dW (dW (dW (D->β))))(l:lZ):=kv F l (bz l 15)
abbrev tM(F:dW (dW (dW (D->D->β))))(l:lZ):=u16 F l (bz l 16)
abbrev B0(F:dW (dW (dW (D->D->D->β))))(l:lZ):=tM F l (bz l 17)
abbrev tN(F:dW (dW (dW (D->D->D->D->β))))(l:lZ):=B0 F l (bz l 18)
abbrev xk(F:dW (dW (dW (dW β))))(l:lZ):=tN F l (bz l 19)
abbrev HL(F:dW (dW (dW (dW (dW (D->β))))))(l:lZ):=xk F l (bz l 20) (bz l 21) (bz l 22) (bz l 23) (bz l 24) (bz l 25)
abbrev HM(F:dW (dW (dW (dW (dW (D->D->β))))))(l:lZ):=HL F l (bz l 26)
end
attribute [simp, go_sem] cr cR ff dH fg hy gP u8 fq fb gQ iN gq ku kv u16 tM B0 tN xk HL HM
variable(a:Nat)(b c d e f g:D)(l:lZ)
def xl:lZ:=[aA ⟨#[65]⟩,aA ⟨#[65,70]⟩,aA ⟨#[65,71]⟩,aA ⟨#[65,88]⟩,aA ⟨#[69]⟩,aA ⟨#[69,70]⟩,aA ⟨#[69,71]⟩,aA ⟨#[69,88]⟩,aA ⟨#[85]⟩,aA ⟨#[98,111,111,108]⟩,aA ⟨#[100,101,102]⟩,aA ⟨#[101,108,115,101]⟩,aA ⟨#[102,97,105,114]⟩,aA ⟨#[102,97,108,115,101]⟩,aA ⟨#[105,102]⟩,aA ⟨#[105,110,105,116]⟩,aA ⟨#[105,110,118,97,114]⟩,aA ⟨#[109,111,100]⟩,aA ⟨#[110,101,120,116]⟩,aA ⟨#[115,112,101,99]⟩,aA ⟨#[116,104,101,110]⟩,aA ⟨#[116,114,97,110,115]⟩,aA ⟨#[116,114,117,101]⟩,aA ⟨#[118,97,114]⟩]
abbrev lv:=34
abbrev B1:=36
abbrev lx:=37
abbrev xm:=38
abbrev xn:=40
abbrev xo:=41
abbrev xp:=42
abbrev xq:=44
abbrev xr:=45
abbrev B2:=55
abbrev xt:=56
abbrev ny:=72
abbrev N6:=76
abbrev rH:=81
abbrev tO:=85
abbrev hc:=90
abbrev N7:=95
abbrev N8:=98
abbrev tP:=123
abbrev nz:=157
abbrev N9:=164
abbrev Oa:=166
abbrev xu:=210
abbrev B3:=216
abbrev p7:=236
abbrev p8:=237
abbrev mi:=260
abbrev mj:=262
abbrev tQ:=268
abbrev tR:=280
abbrev ml:=282
abbrev mm:=288
def Ob(a:Nat)(b:D):oX:=aK .eql b bC λa=>af (aV a (av [b,a]) (aK .eql b (aa 2) λa=>af (aV a (av [b,a]) (aK .eql b (aa 3) λa=>af (aV a (av [b,a]) (aK .eql b (aa 4) λa=>av [b,a]))<|aG<|cR λa b=>av [a,b]))<|aG<|cR λa b=>av [a,b]))<|aG<|cR λa b=>aV b (some (D.az [an,an])) (aL .eql a (aa 5) (some (D.az [bC,bC])) (aK .eql a (aa 6) λb=>af (aV b (av [a,b]) (aK .eql a (aa 7) λb=>av [a,b]))<|aG<|cR λa b=>aV b (some (D.az [bC,aa 64])) (aK .eql a (aa 8) λb=>af (aV b (av [a,b]) (aK .eql a (aa 9) λb=>af (aV b (av [a,b]) (aK .eql a (aa 10) λb=>af (aV b (av [a,b]) (aK .eql a (aa 11) λb=>af (aV b (av [a,b]) (aK .eql a (aa 12) λb=>af (aV b (av [a,b]) (aK .eql a (aa 13) λb=>af (aV b (av [a,b]) (aK .eql a (aa 14) λb=>af (aV b (av [a,b]) (aK .eql a (aa 15) λb=>af (aV b (av [a,b]) (aK .eql a (aa 16) λb=>af (aV b (av [a,b]) (aK .eql a (aa 17) λb=>av [a,b]))<|aG<|cR λa b=>av [a,b]))<|aG<|cR λa b=>av [a,b]))<|aG<|cR λa b=>av [a,b]))<|aG<|cR λa b=>av [a,b]))<|aG<|cR λa b=>av [a,b]))<|aG<|cR λa b=>av [a,b]))<|aG<|cR λa b=>av [a,b]))<|aG<|cR λa b=>av [a,b]))<|aG<|cR λa b=>aV b (some (D.az [aa 2,aa 2])) (aL .eql a (aa 18) (some (D.az [aa 3,aa 3])) (some (D.az [aa (-1),aa (-1)]))))))
def B4:=cO (Ob a)
def Oc:oX:=aJ 4 b<|af (B4 a [ae b 0]) λa=>bP a λc=>bQ a λa=>aL .lss c an (some (aa 11)) (af (aK .eql (ae b 0) bC λd=>af (aV d (av [c,a,aa (-255),aa 255,ae b 0,ae b 1,ae b 2,ae b 3]) (aK .eql (ae b 0) (aa 2) λd=>af (aV d (av [c,a,an,bC,ae b 0,ae b 1,ae b 2,ae b 3]) (av [c,a,an,an,ae b 0,ae b 1,ae b 2,ae b 3]))<|aG<|u8 λa b c d e f g h=>av [a,b,c,d,e,f,g,h]))<|aG<|u8 λa b c d e f g h=>av [a,b,c,d,e,f,g,h])<|aG<|u8 λa b c d e f g h=>aK .eql e (aa 3) λi=>cI i (aR (aP false .eql e (aa 4))) λe=>aK .lss f c λc=>cI c (aR (aP false .gtr f d)) λc=>aV c (some (aa 2)) (af (cu e true (aR (aP false .eql g (aA ⟨#[]⟩)))) λc=>af (cu c false (af (kO g) λd=>aR (aP false .gtr d (aa 24)))) λd=>cj e (aR (dQ c cc d)) λc=>af (cu c false (aR (cb .not e))) λd=>af (cu d true (aR (aP false .neq g (aA ⟨#[]⟩)))) λe=>cI c (aR (dQ d e bh)) λc=>aV c (some (aa 12)) (bd h λc=>aK .lss c a λa=>cI a (bd h λa=>aR (aP false .gtr a b)) λa=>aV a (some (aa 3)) (some an))))
def B5:=cO (Oc a)
def xv:ji:=ff (λc d e=>aJ 4 c<|bq e λe=>bp e<|aK .gtr d (aa 64) λd=>af (aV d (av [aa 17,e]) (af (B5 a [cn c]) λa=>bp a<|aK .eql a an λc=>cj c (aR (aP false .gtr e (aa 4096))) λc=>af (aV c (av [aa 4,e]) (av [a,e]))<|aG<|cR λa c=>av [a,c]))<|aG<|cR λa c=>aK .eql a an λd=>some [d,c,a]) l
def xw(a:Nat)(b:lZ):b0:=dH (λa c d e=>aL .lss d c (af (af (a8 4 a d) λf=>af (aN true 4 0 f) λf=>aJ 4 f<|af (gA (.string) (.int .i64 0) true (dJ e) (ae f 0)) λg=>bP g λh=>bQ g λg=>af (cb .not g) λg=>af (aV g (af (lf (.string) (dJ e) (ae f 0) d) λf=>av [a,c,d,D.mp f]) (av [a,c,d,D.mp (dJ e)]))<|aG<|dH λa c d f=>av [a,c,d,D.mp (dJ f)])<|aG<|dH λa c d f=>bq d λd=>av [a,c,d,D.mp (dJ f)]) (bx [D.mp (dJ e)])) b
def Od:oX:=bd b λc=>af (aS (xw a) a [b,c,an,D.mp []])<|aG<|cr λa=>some (D.mp (dJ a))
def xx:=cO (Od a)
def Oe(a:Nat)(b c:D):oX:=aK .lss b (aa (-1048576)) λa=>cI a (aR (aP false .gtr c (aa 1048576))) λa=>cI a (aR (aP false .gtr b c)) λa=>cI a (aK .sub c b λa=>aR (aP false .gtr a (aa 4096))) λa=>aV a (some (D.az [D.agg [bh,an,an],aa 2])) (bp b<|bp c<|aJ 3 (D.agg [bh,b,c])<|some (D.az [D.agg [bh,b,c],an]))
def oI:=du (Oe a)
def xy(a:Nat)(b:lZ):b0:=hy (λa c d e f g=>aL .lss d c (af (a8 3 a d) λh=>af (aN true 3 0 h) λh=>aJ 3 h<|dc (cb .not (ae h 0)) (aT (aT (some (D.az [D.agg [bh,an,an],aa 13])))) (bq d λd=>av [a,c,d,e,f,g])) (bx [e,f,g])) b
def Of(n:Nat)(a0:D):oX:=bd a0 λa=>af (aS (xy n) n [a0,a,an,bh,an,an])<|aG λ_=>some (D.az [D.agg [cc,an,an],an])
def B6:=cO (Of a)
def B7:oX:=aJ 3 c<|aJ 3 d<|aK .eql b (aa 15) λe=>af (aV e (af (cb .neg (ae d 2)) λe=>af (cb .neg (ae d 1)) λf=>bp e<|bp f<|aJ 3 (D.agg [bh,e,f])<|av [aa 14,ae c 0,ae c 1,ae c 2,bh,e,f,bh,an,an]) (av [b,ae c 0,ae c 1,ae c 2,ae d 0,ae d 1,ae d 2,bh,an,an]))<|aG<|gP λb c d e f g h=>aL .eql b (aa 14) (aK .add d g λb=>aK .add e h λc=>af (oI a [b,c]) λb=>bP b λc=>bQ b λb=>aJ 3 c<|some (D.az [D.agg [ae c 0,ae c 1,ae c 2],b])) (aK .mul d g λb=>aK .mul d h λc=>aK .mul e g λd=>aK .mul e h λe=>af (ht false [b,c,d,e]) λf=>af (ht true [b,c,d,e]) λb=>af (oI a [f,b]) λa=>bP a λb=>bQ a λa=>aJ 3 b<|some (D.az [D.agg [ae b 0,ae b 1,ae b 2],a]))
def tS:=hx (B7 a)
def nA:oX:=aJ 4 d<|af (aL .eql (ae d 0) bC (af (oI a [ae d 1,ae d 1]) λg=>bP g λh=>bQ g λg=>aJ 3 h<|aT (some (D.az [D.agg [ae h 0,ae h 1,ae h 2],g]))) (aL .eql (ae d 0) (aa 2) (aT (some (D.az [D.agg [cc,an,an],an]))) (aK .eql (ae d 0) (aa 3) λg=>af (aV g (av [b,c,e,f,ae d 0,g,ae d 0,ae d 1,ae d 2,ae d 3,bh,an,an]) (aK .eql (ae d 0) (aa 4) λg=>av [b,c,e,f,ae d 0,g,ae d 0,ae d 1,ae d 2,ae d 3,bh,an,an]))<|aG<|gq λb c d e f g h i j k l m n=>aV g (af (iX c) λc=>af (gA (.string) (.int .i64 0) true c j) λc=>bP c λg=>bQ c λc=>dc (cb .not c) (aT (some (D.az [D.agg [bh,an,an],aa 12]))) (aK .eql h (aa 4) λc=>cj c (aR (cb .not d)) λc=>aV c (aT (some (D.az [D.agg [bh,an,an],aa 24]))) (af (a8 4 b g) λc=>dc (aN false 1 1 c) (aT (some (D.az [D.agg [cc,an,an],an]))) (af (a8 4 b g) λc=>af (aN false 1 2 c) λc=>af (a8 4 b g) λb=>af (aN false 1 3 b) λb=>af (oI a [c,b]) λb=>bP b λc=>bQ b λb=>aJ 3 c<|aT (some (D.az [D.agg [ae c 0,ae c 1,ae c 2],b])))))) (aK .eql f (aa 5) λb=>af (aV b (av [e,f,b,h,i,j,k,l,m,n]) (aK .eql f (aa 6) λb=>af (aV b (av [e,f,b,h,i,j,k,l,m,n]) (aK .eql f (aa 7) λb=>af (aV b (av [e,f,b,h,i,j,k,l,m,n]) (aK .eql f (aa 8) λb=>af (aV b (av [e,f,b,h,i,j,k,l,m,n]) (aK .eql f (aa 9) λb=>av [e,f,b,h,i,j,k,l,m,n]))<|aG<|fb λb c d e f g h i j k=>av [b,c,d,e,f,g,h,i,j,k]))<|aG<|fb λb c d e f g h i j k=>av [b,c,d,e,f,g,h,i,j,k]))<|aG<|fb λb c d e f g h i j k=>av [b,c,d,e,f,g,h,i,j,k]))<|aG<|fb λb c d e f g h i j k=>aV d (af (B6 a [b]) λd=>bP d λl=>bQ d λd=>aJ 3 l<|aT (some (D.az [D.agg [ae l 0,ae l 1,ae l 2],d]))) (aL .eql c (aa 18) (af (a8 3 b an) λd=>af (aN false 1 0 d) λd=>af (cb .not d) λd=>cI d (af (a8 3 b bC) λd=>af (aN false 1 0 d) λd=>af (a8 3 b (aa 2)) λl=>af (aN false 1 0 l) λl=>aR (aP true .neq d l)) λd=>aV d (aT (some (D.az [D.agg [bh,an,an],aa 13]))) (af (a8 3 b bC) λd=>dc (aN false 1 0 d) (af (a8 3 b bC) λd=>af (aN true 3 0 d) λd=>aJ 3 d<|aT (some (D.az [D.agg [ae d 0,ae d 1,ae d 2],an]))) (af (a8 3 b bC) λd=>af (aN false 1 1 d) λd=>af (a8 3 b (aa 2)) λl=>af (aN false 1 1 l) λl=>af (ht false [d,l]) λd=>af (a8 3 b bC) λl=>af (aN false 1 2 l) λl=>af (a8 3 b (aa 2)) λm=>af (aN false 1 2 m) λm=>af (ht true [l,m]) λl=>af (oI a [d,l]) λd=>bP d λl=>bQ d λd=>aJ 3 l<|aT (some (D.az [D.agg [ae l 0,ae l 1,ae l 2],d]))))) (aK .eql c (aa 10) λd=>af (aV d (av [b,d,e,f,g,h,i,j,k]) (aK .eql c (aa 11) λc=>av [b,c,e,f,g,h,i,j,k]))<|aG<|fq λb c d e f g h i j=>aV c (af (a8 3 b an) λc=>af (aN false 1 0 c) λc=>af (a8 3 b bC) λk=>af (aN false 1 0 k) λk=>dc (aP true .neq c k) (aT (some (D.az [D.agg [bh,an,an],aa 13]))) (aT (some (D.az [D.agg [cc,an,an],an])))) (av [b,d,e,f,g,h,i,j])))))))<|aG<|u8 λb c d e f g h i=>af (a8 3 b an) λj=>af (aN false 1 0 j) λj=>cI j (af (a8 3 b bC) λj=>aR (aN false 1 0 j)) λj=>aV j (some (D.az [D.agg [bh,an,an],aa 13])) (aK .eql c (aa 12) λj=>af (aV j (av [b,c,j,c,d,e,f,g,h,i]) (aK .eql c (aa 13) λj=>av [b,c,j,c,d,e,f,g,h,i]))<|aG<|gP λb c d e f g h=>aV d (some (D.az [D.agg [cc,an,an],an])) (aL .eql c (aa 17) (af (a8 4 h bC) λc=>af (aN true 4 0 c) λc=>aJ 4 c<|aK .neq (ae c 0) bC λd=>cI d (aR (aP false .lss (ae c 1) bC)) λc=>aV c (some (D.az [D.agg [bh,an,an],aa 2])) (af (a8 4 h bC) λc=>af (aN false 1 1 c) λc=>aK .sub c bC λc=>af (oI a [an,c]) λc=>bP c λd=>bQ c λc=>aJ 3 d<|some (D.az [D.agg [ae d 0,ae d 1,ae d 2],c]))) (af (a8 3 b an) λc=>af (aN true 3 0 c) λc=>af (a8 3 b bC) λb=>af (aN true 3 0 b) λb=>af (tS a [e,c,b]) λa=>bP a λb=>bQ a λa=>aJ 3 b<|some (D.az [D.agg [ae b 0,ae b 1,ae b 2],a]))))
def kX:=BJ (nA a)
def tT(a:lZ->oX)(b:Nat)(c:lZ):b0:=ku (λb d e f g h i j k l m n o p=>aL .lss h g (af (a8 4 f h) λq=>af (aN true 4 0 q) λq=>aJ 4 q<|af (a [b,d,cn q,e]) λa=>bP a λq=>bQ a λa=>aJ 3 q<|aL .neq a an (aT (aT (some (D.az [D.agg [bh,an,an],a])))) (aJ 3 (D.agg [ae q 0,ae q 1,ae q 2])<|bG (bZ ((aF p).length+([[ae q 0,ae q 1,ae q 2]]).length) 24)<|bq h λa=>av [b,d,e,f,g,a,i,j,k,l,m,n,o,D.aw 3 ((aF p)++[[ae q 0,ae q 1,ae q 2]])])) (bx [b,d,e,i,j,k,l,m,n,o,D.aw 3 (aF p)])) c
def HN(a:lZ->oX)(b:Nat)(c d e f:D):oX:=aJ 4 e<|bd (ae e 3) λg=>af (aS (tT a b) b [c,d,f,ae e 3,g,an,ae e 0,ae e 1,ae e 2,ae e 3,bh,an,an,D.aw 3 []])<|aG<|gQ λa c d e f g h i j k l=>af (kX b [a,c,D.agg [e,f,g,h],d,D.aw 3 (aF l)]) λa=>bG a.flat<|bP a λb=>bQ a λa=>aJ 3 b<|some (D.az [D.agg [ae b 0,ae b 1,ae b 2],a])
def nB:Nat->lZ->oX|0,_=>none|n+1,a=>match a with|[a0,aE,a2,a3]=>HN (nB n) n a0 aE a2 a3|_=>none
def Og(a:Nat)(b:D):oX:=aV b (some (D.az [bC,cc])) (some (D.az [an,cc]))
def mn:=cO (Og a)
def Oh(a:Nat)(b c:D):oX:=af (cb .not c) λa=>cI a (aR (aP false .lss b (aa (-9007199254740992)))) λa=>cI a (aR (aP false .gtr b (aa 9007199254740992))) λa=>aV a (some (D.az [an,bh])) (some (D.az [b,cc]))
def B8:=du (Oh a)
def B9:oX:=aK .add b c λd=>aK .lss b an λe=>aK .lss c an λc=>af (aP true .neq e c) λc=>cI c (aK .lss b an λb=>aK .lss d an λc=>aR (aP true .eql b c)) λb=>af (B8 a [d,b]) λa=>bP a λb=>bQ a λa=>some (D.az [b,a])
def p9:=du (B9 a)
def HO(a:Nat)(b:D):oX:=aL .lss b an (af (jB .u64 b) λa=>aR (cb .neg a)) (aR (jB .u64 b))
def tU:=cO (HO a)
def HP(a:Nat)(b c:D):oX:=aK .and b (D.val (.int .u64 4294967295)) λa=>aK .shr b (D.val (.int .u64 32)) λd=>aK .and c (D.val (.int .u64 4294967295)) λe=>aK .shr c (D.val (.int .u64 32)) λf=>aK .mul a e λg=>aK .mul d e λe=>aK .shr g (D.val (.int .u64 32)) λg=>aK .add e g λe=>aK .and e (D.val (.int .u64 4294967295)) λg=>aK .shr e (D.val (.int .u64 32)) λe=>aK .mul a f λa=>aK .add g a λa=>aK .mul d f λd=>aK .add d e λd=>aK .shr a (D.val (.int .u64 32)) λa=>aK .add d a λa=>aK .mul b c λb=>some (D.az [a,b])
def HQ:=du (HP a)
def xz:oX:=af (tU a [b]) λd=>af (tU a [c]) λe=>af (HQ a [d,e]) λa=>bP a λd=>bQ a λa=>aK .neq d (D.val (.int .u64 0)) λd=>cI d (aR (aP false .gtr a (D.val (.int .u64 9007199254740992)))) λd=>aV d (some (D.az [an,bh])) (aK .lss b an λb=>aK .lss c an λc=>dc (aP true .neq b c) (af (jB .i64 a) λb=>af (cb .neg b) λb=>some (D.az [b,cc])) (af (jB .i64 a) λa=>some (D.az [a,cc])))
def rI:=du (xz a)
def xA(a:Nat)(b:lZ):b0:=fq (λa c d e f g h i j=>aL .lss f e (bO d f λk=>aK .add c k λk=>bq f λf=>av [a,k,d,e,f,g,h,i,j]) (bx [a,c,g,h,i,j])) b
def hV:oX:=aJ 4 b<|aL .eql (ae b 0) (aa 5) (bO c an λd=>aK .eql d an λd=>af (mn a [d]) λd=>bP d λe=>bQ d λd=>some (D.az [e,d])) (aL .eql (ae b 0) (aa 8) (bO c an λd=>aK .eql d an λd=>cI d (bO c bC λd=>aR (aP false .neq d an)) λd=>af (mn a [d]) λd=>bP d λe=>bQ d λd=>some (D.az [e,d])) (aK .eql (ae b 0) (aa 9) λd=>af (aV d (av [c,ae b 0,d,ae b 0,ae b 1,ae b 2,ae b 3]) (aK .eql (ae b 0) (aa 10) λd=>av [c,ae b 0,d,ae b 0,ae b 1,ae b 2,ae b 3]))<|aG<|gP λb c d e f g h=>aV d (bO b an λd=>bO b bC λi=>aK .eql d i λd=>af (mn a [d]) λd=>bP d λi=>bQ d λd=>some (D.az [i,d])) (aL .eql c (aa 11) (bO b an λd=>bO b bC λi=>aK .neq d i λd=>af (mn a [d]) λd=>bP d λi=>bQ d λd=>some (D.az [i,d])) (aL .eql c (aa 12) (bO b an λd=>bO b bC λi=>aK .lss d i λd=>af (mn a [d]) λd=>bP d λi=>bQ d λd=>some (D.az [i,d])) (aL .eql c (aa 13) (bO b an λd=>bO b bC λi=>aK .leq d i λd=>af (mn a [d]) λd=>bP d λi=>bQ d λd=>some (D.az [i,d])) (aL .eql c (aa 14) (bO b an λd=>bO b bC λi=>af (p9 a [d,i]) λd=>bP d λi=>bQ d λd=>some (D.az [i,d])) (aL .eql c (aa 15) (bO b an λd=>bO b bC λi=>af (cb .neg i) λi=>af (p9 a [d,i]) λd=>bP d λi=>bQ d λd=>some (D.az [i,d])) (aL .eql c (aa 16) (bO b an λd=>bO b bC λi=>af (rI a [d,i]) λd=>bP d λi=>bQ d λd=>some (D.az [i,d])) (aL .eql c (aa 17) (bO b an λd=>bO b bC λi=>aK .rem d i λd=>bO b bC λi=>aK .add d i λd=>bO b bC λi=>aK .rem d i λd=>some (D.az [d,cc])) (aL .eql c (aa 18) (bO b an λc=>aL .neq c an (bO b bC λc=>some (D.az [c,cc])) (bO b (aa 2) λc=>some (D.az [c,cc]))) (bd b λc=>af (aS (xA a) a [b,an,b,c,an,e,f,g,h])<|aG<|ff λb c d=>bd b λb=>aK .eql c b λb=>af (cu b false (aR (aP false .eql d (aa 7)))) λd=>af (cu d true (aR (aP false .gtr c an))) λc=>cI b (aR (dQ d c bh)) λb=>af (mn a [b]) λa=>bP a λb=>bQ a λa=>some (D.az [b,a]))))))))))))
def hz:=du (hV a)
def xB(a:lZ->oY)(b:Nat)(c:lZ):mh:=iN (λb d e f g h i j k l m n=>aL .lss e d (af (a8 4 b e) λo=>af (aN true 4 0 o) λo=>aJ 4 o<|af (a [cn o,f,g,h,i]) λa=>af (eK 0 (bz a 0)) λo=>af (eK 1 (bz a 0)) λp=>dc (cb .not p) (aT (aT (some [D.az [an,bh],bz a 1,bz a 2,bz a 3,bz a 4]))) (bp o<|bG (bZ ((aF n).length+([[o]]).length) 8)<|bq e λe=>av [b,d,e,bz a 1,bz a 2,bz a 3,bz a 4,j,k,l,m,D.aw 1 ((aF n)++[[o]])])) (bx [f,g,h,i,j,k,l,m,aB n])) c
def oJ(a:lZ->oY)(b:Nat)(c:lZ):ji:=fg (λd e f g h=>aJ 4 d<|bd (ae d 3) λi=>af (aS (xB a b) b [ae d 3,i,an,e,f,g,h,ae d 0,ae d 1,ae d 2,ae d 3,D.aw 1 []])<|aG<|fq λa d e f g h i j k=>aK .eql g bC λl=>af (aV l (av [g,l,a,d,e,f,g,h,i,j,aB k]) (aK .eql g (aa 2) λl=>av [g,l,a,d,e,f,g,h,i,j,aB k]))<|aG<|gQ λa d e f g h i j k l m=>aV d (some [D.az [j,cc],e,f,g,h]) (aK .eql a (aa 3) λd=>af (aV d (av [d,e,f,g,h,i,j,k,l,aB m]) (aK .eql a (aa 4) λa=>av [a,e,f,g,h,i,j,k,l,aB m]))<|aG<|fb λa d e f g h i j k l=>aV a (af (iX e) λa=>af (gA (.string) (.int .i64 0) false a j) λa=>aK .eql h (aa 4) λm=>af (aV m (av [f,a,g,d,e,f]) (av [d,a,g,d,e,f]))<|aG<|hy λa m n o p q=>bd a λr=>bd n λs=>aL .neq r s (some [D.az [an,bh],o,p,q,n]) (af (a8 4 n m) λr=>dc (aN false 1 1 r) (bO a m λr=>aK .neq r an λr=>af (mn b [r]) λr=>bP r λs=>bQ r λr=>some [D.az [s,r],o,p,q,n]) (bO a m λa=>af (p9 b [a,an]) λa=>bP a λm=>bQ a λa=>some [D.az [m,a],o,p,q,n]))) (af (hz b [D.agg [h,i,j,k],aB l]) λa=>bG a.flat<|bP a λb=>bQ a λa=>some [D.az [b,a],d,e,f,g]))) c
def oK:Nat->lZ->oY|0,_=>none|n+1,l=>oJ (oK n) n l
def Oi(a:Nat)(b:D)(c:lZ):oX:=af (aN false 1 0 c) λa=>bO a b λa=>aR (cb .not a)
def HR(n:Nat):lZ->oX|[a0,aE]=>(match aE with| .ref x1 0=>Oi n a0 x1|_=>none)|_=>none
def aal:lZ->b0:=dH λc d e f=>aL .lss e d (af (HR a [e,c]) λa=>cF f e λg=>bp a<|af (aF f)[g]? λh=>bq e λe=>av [c,d,e,D.aw 1 ((aF f).set g (er h 0 [a]))]) (bx [aB f])
def Oj:oX:=aJ 4 b<|bd (ae b 0) λb=>af (fm 1 b b) λb=>af (aS (aal a) a [c,aa (List.replicate b [bh]).length,an,D.aw 1 (List.replicate b [bh])])<|aG<|cr λa=>some (aB a)
def HS(n:Nat):lZ->oX|[a0,aE]=>(match fp B1 aE with|some [a]=>Oj n a0 a|_=>none)|_=>none
def Ol(c:lZ):oX:=bp b<|af (aN true 4 0 c) λc=>aR (HS a [c,(D.fn (.func B1) [] [D.ref [b] 0])])
def kx(n:Nat):lZ->oX|[a0,aE]=>(match aE with| .ref x1 0=>Ol n a0 x1|_=>none)|_=>none
def Om(a:Nat)(b:D)(c:lZ)(d:lZ):oX:=af (aN false 1 0 c) λa=>bO a b λa=>cj a (af (aN false 1 0 d) λa=>bO a b λa=>some a) λa=>some a
def HT(n:Nat):lZ->oX|[a0,aE,a2]=>(match aE with| .ref x1 0=>(match a2 with| .ref df 0=>Om n a0 x1 df|_=>none)|_=>none)|_=>none
def aam:lZ->b0:=fg λc d e f g=>aL .lss f e (af (HT a [f,c,d]) λa=>cF g f λh=>bp a<|af (aF g)[h]? λi=>bq f λf=>av [c,d,e,f,D.aw 1 ((aF g).set h (er i 0 [a]))]) (bx [aB g])
def On:oX:=aJ 4 b<|bd (ae b 0) λb=>af (fm 1 b b) λb=>af (aS (aam a) a [c,d,aa (List.replicate b [bh]).length,an,D.aw 1 (List.replicate b [bh])])<|aG<|cr λa=>some (aB a)
def Ca(n:Nat):lZ->oX|[a0,aE]=>(match fp xn aE with|some [a,b]=>On n a0 a b|_=>none)|_=>none
def Oo(a:Nat)(b:D)(c:lZ)(d:lZ):oX:=af (aN false 1 0 c) λa=>bO a b λa=>cI a (af (aN false 1 0 d) λa=>bO a b λa=>some a) λa=>some a
def HU(n:Nat):lZ->oX|[a0,aE,a2]=>(match aE with| .ref x1 0=>(match a2 with| .ref df 0=>Oo n a0 x1 df|_=>none)|_=>none)|_=>none
def aan:lZ->b0:=fg λc d e f g=>aL .lss f e (af (HU a [f,c,d]) λa=>cF g f λh=>bp a<|af (aF g)[h]? λi=>bq f λf=>av [c,d,e,f,D.aw 1 ((aF g).set h (er i 0 [a]))]) (bx [aB g])
def Oq:oX:=aJ 4 b<|bd (ae b 0) λb=>af (fm 1 b b) λb=>af (aS (aan a) a [c,d,aa (List.replicate b [bh]).length,an,D.aw 1 (List.replicate b [bh])])<|aG<|cr λa=>some (aB a)
def Cb(n:Nat):lZ->oX|[a0,aE]=>(match fp xo aE with|some [a,b]=>Oq n a0 a b|_=>none)|_=>none
def Ot(a:Nat)(b:D)(c:lZ)(d:lZ):oX:=af (aN false 1 0 c) λa=>bO a b λa=>af (cb .not a) λa=>cI a (af (aN false 1 0 d) λa=>bO a b λa=>some a) λa=>some a
def HV(n:Nat):lZ->oX|[a0,aE,a2]=>(match aE with| .ref x1 0=>(match a2 with| .ref df 0=>Ot n a0 x1 df|_=>none)|_=>none)|_=>none
def aao:lZ->b0:=fg λc d e f g=>aL .lss f e (af (HV a [f,c,d]) λa=>cF g f λh=>bp a<|af (aF g)[h]? λi=>bq f λf=>av [c,d,e,f,D.aw 1 ((aF g).set h (er i 0 [a]))]) (bx [aB g])
def Ou:oX:=aJ 4 b<|bd (ae b 0) λb=>af (fm 1 b b) λb=>af (aS (aao a) a [c,d,aa (List.replicate b [bh]).length,an,D.aw 1 (List.replicate b [bh])])<|aG<|cr λa=>some (aB a)
def Cc(n:Nat):lZ->oX|[a0,aE]=>(match fp xp aE with|some [a,b]=>Ou n a0 a b|_=>none)|_=>none
def Ov(a:Nat)(b c:D):oX:=aJ 4 b<|bd (ae b 0) λa=>af (fm 1 a a) λa=>af (jR c) λb=>bG (decide (b.1=1\/b.2=[]))<|some (D.aw 1 ((b.2).take (min (b.2).length (List.replicate a [bh]).length)++(List.replicate a [bh]).drop (min (b.2).length (List.replicate a [bh]).length)))
def rJ:=du (Ov a)
def Ow(a:Nat)(b:D):oX:=some cc
def HW:=cO (Ow a)
def Cd:b0:=ff (λc d e=>aL .lss d c (af (HW a [d]) λa=>cF e d λf=>bp a<|af (aF e)[f]? λg=>bq d λd=>av [c,d,D.aw 1 ((aF e).set f (er g 0 [a]))]) (bx [aB e])) l
def HX:oX:=aJ 4 b<|bd (ae b 0) λb=>af (fm 1 b b) λb=>af (aS (Cd a) a [aa (List.replicate b [bh]).length,an,D.aw 1 (List.replicate b [bh])])<|aG<|cr λa=>some (aB a)
def Ce(n:Nat):lZ->oX|[a0,aE]=>bG (rq tO aE) (HX n a0)|_=>none
def Ox:oX:=aJ 4 b<|aR (Ce a [cn b,(D.val (.func (.func tO) #[] #[]))])
def qa:=cO (Ox a)
def Cf(a:Nat)(b:D)(c:lZ):oX:=af (aN false 1 0 c) λa=>bd a λa=>aK .lss b a λa=>cj a (af (aN false 1 0 c) λa=>bO a b λa=>some a) λa=>some a
def qb(n:Nat):lZ->oX|[a0,aE]=>(match aE with| .ref x1 0=>Cf n a0 x1|_=>none)|_=>none
def qc:iM:=gP (λc d e f g h i=>aL .gtr (aa (aF i).length) an (af (aK .sub (aa (aF i).length) bC λj=>cF i j λj=>af (aF i)[j]? λk=>af (aN false 1 1 k) λk=>ct i j λl=>bO c l λl=>bd l λl=>aL .eql k l (ct i j λk=>bp k<|bG (bZ ((aF g).length+([[k]]).length) 8)<|aK .sub (aa (aF i).length) bC λl=>af (h5 (aF i).length none (some l)) λl=>bG (decide (l.1+l.2<=(aF i).length))<|av [c,d,e,f,D.aw 1 ((aF g)++[[k]]),aB h,D.aw 2 (((aF i).drop l.1).take l.2)]) (ct i j λk=>bO c k λk=>af (aF i)[j]? λl=>af (aN false 1 1 l) λl=>bO k l λk=>af (aF i)[j]? λl=>af (aN false 1 1 l) λl=>bq l λl=>bp l<|af (aF i)[j]? λm=>af (qb a [k,d]) λa=>cj a (cF h k λa=>ct h a λa=>aR (cb .not a)) λa=>af (aV a (cF h k λa=>af (aF h)[a]? λn=>bp k<|aJ 2 (D.agg [k,an])<|bG (bZ (((aF i).set j (er m 1 [l])).length+([[k,an]]).length) 16)<|av [c,d,e,f,aB g,D.aw 1 ((aF h).set a (er n 0 [cc])),D.aw 2 (((aF i).set j (er m 1 [l]))++[[k,an]])]) (av [c,d,e,f,aB g,aB h,D.aw 2 ((aF i).set j (er m 1 [l]))]))<|aG<|gP λa i j k l m n=>av [a,i,j,k,aB l,aB m,D.aw 2 (aF n)]))<|aG<|gP λa i j k l m n=>av [a,i,j,k,aB l,aB m,D.aw 2 (aF n)]) (bx [c,d,e,f,aB g,aB h])) l
def tV:b0:=hy (λc d e f g h=>aL .lss f e (af (af (qb a [f,d]) λi=>af (cb .not i) λi=>cI i (cF h f λi=>ct h i λi=>some i) λi=>aV i (av [c,d,e,f,aB g,aB h]) (cF h f λi=>af (aF h)[i]? λj=>bp f<|aJ 2 (D.agg [f,an])<|af (aS (qc a) a [c,d,e,f,aB g,D.aw 1 ((aF h).set i (er j 0 [cc])),D.aw 2 [[f,an]]])<|aG<|hy λa c d e f h=>av [a,c,d,e,aB f,aB h]))<|aG<|hy λa c d e f h=>bq e λe=>av [a,c,d,e,aB f,aB h]) (bx [aB g])) l
def HY:oX:=bd b λd=>af (fm 1 d d) λd=>bd b λe=>af (aS (tV a) a [b,c,e,an,D.aw 1 [],D.aw 1 (List.replicate d [bh])])<|aG<|cr λa=>some (aB a)
def xC(n:Nat):lZ->oX|[a0,aE]=>(match fp hc aE with|some [a]=>HY n a0 a|_=>none)|_=>none
def nC(a:Nat)(b:lZ):ji:=ff (λa c d=>aK .geq a an λe=>cj e (aR (aP false .lss a (aa (aF c).length))) λe=>cj e (cF c a λe=>ct c e λe=>aR (cb .not e)) λe=>af (aV e (cF c a λe=>af (aF c)[e]? λf=>bp a<|bG (bZ ((aF d).length+([[a]]).length) 8)<|av [D.aw 1 ((aF c).set e (er f 0 [cc])),D.aw 1 ((aF d)++[[a]])]) (av [aB c,aB d]))<|aG<|cR λa c=>some [D.az [],aB a,aB c]) b
def tW:ji:=dH (λc d e f=>af (qb a [c,D.ref (dB d) 0]) λg=>af (aV g (af (nC a [c,aB e,aB f]) λa=>av [D.agg (dB d),aB (bz a 1),aB (bz a 2)]) (av [D.agg (dB d),aB e,aB f]))<|aG<|ff λa c d=>some [D.az [],D.agg (dB a),aB c,aB d]) l
def Cg:mh:=hy (λc d e f g h=>aL .lss e d (bO c e λi=>af (tW a [i,D.agg (dB f),aB g,aB h]) λa=>bq e λe=>av [c,d,e,D.agg (dB (bz a 1)),aB (bz a 2),aB (bz a 3)]) (bx [D.agg (dB f),aB g,aB h])) l
def xD:ji:=dH (λc d e f=>bd c λg=>af (aS (Cg a) a [c,g,an,D.agg (dB d),aB e,aB f])<|aG<|ff λa c d=>some [D.az [],D.agg (dB a),aB c,aB d]) l
def xE:iM:=u8 (λc d e f g h i j=>aL .gtr (aa (aF j).length) an (cF j an λk=>ct j k λk=>af (h5 (aF j).length (some bC) none) λl=>bG (decide (l.1+l.2<=(aF j).length))<|bp k<|bG (bZ ((aF h).length+([[k]]).length) 8)<|bO d k λm=>af (xD a [m,D.agg (dB f),aB i,D.aw 1 (((aF j).drop l.1).take l.2)]) λa=>av [c,d,e,D.agg (dB (bz a 1)),aB g,D.aw 1 ((aF h)++[[k]]),aB (bz a 2),aB (bz a 3)]) (bx [c,d,e,D.agg (dB f),aB g,aB h,aB i,aB j])) l
def tX:b0:=gP (λc d e f g h i=>aL .geq e an (af (bO c e λj=>cF h j λj=>ct h j λj=>aV j (av [c,d,e,D.agg (dB f),aB g,aB h,aB i]) (bO c e λj=>af (nC a [j,aB h,aB i]) λh=>af (aS (xE a) a [c,d,e,D.agg (dB f),aB g,D.aw 1 [],aB (bz h 1),aB (bz h 2)])<|aG<|u8 λc d e f h i j k=>af (xi a [aB i]) λa=>bG (da (aB (bz a 1)))<|bG (bZ ((aF h).length+([[aB (bz a 1)]]).length) 24)<|av [c,d,e,D.agg (dB f),D.aw 1 ((aF h)++[[aB (bz a 1)]]),aB j,aB k]))<|aG<|gP λa c d e f h i=>aK .sub d bC λd=>av [a,c,d,D.agg (dB e),aB f,aB h,aB i]) (bx [aB g])) l
def Oy:oX:=aJ 4 b<|bp c<|af (xC a [ae b 1,(D.fn (.func hc) [] [D.ref [c] 0])]) λd=>af (xj a [cn b]) λe=>bd (ae b 0) λb=>af (fm 1 b b) λb=>bd d λf=>aK .sub f bC λf=>af (aS (tX a) a [d,e,f,D.agg [c],D.aw 1 [],D.aw 1 (List.replicate b [bh]),D.aw 1 []])<|aG<|cr λb=>af (tL a [aB b]) λa=>some (aB (bz a 1))
def Ch:=du (Oy a)
def xF(a:Nat)(b:lZ):b0:=fq (λa c d e f g h i j=>aL .lss e d (bO c e λk=>af (lf (.int .i64) (dJ j) k cc) λk=>bq e λe=>av [a,c,d,e,f,g,h,i,D.mp k]) (bx [a,f,g,h,i,D.mp (dJ j)])) b
def tY(a:Nat)(b:lZ):iM:=gq (λa c d e f g h i j k l m n=>aL .lss i h (bO g i λo=>dc (gA (.int .i64) (.bool false) false (dJ n) o) (aT (aT (aT (bx [a,cc,j,k,l,m])))) (bq i λi=>av [a,c,d,e,f,g,h,i,j,k,l,m,D.mp (dJ n)])) (bx [a,c,d,e,f,j,k,l,m,D.mp (dJ n)])) b
def tZ:b0:=fb (λc d e f g h i j k l=>aL .lss g f (af (bO e g λm=>bO i m λm=>bd m λn=>af (aS (tY a) a [c,d,e,f,g,m,n,an,h,i,j,k,D.mp (dJ l)])<|aG<|fb λa e f g l m n o p q=>av [a,e,f,g,l,m,n,o,p,D.mp (dJ q)])<|aG<|fb λa e f g l m n o p q=>bq l λl=>av [a,e,f,g,l,m,n,o,p,D.mp (dJ q)]) (bx [c,d,h,i,j,k])) l
def ua(a:Nat)(b:lZ):iM:=gQ (λa c d e f g h i j k l=>aL .lss h g (bO f h λm=>bO l m λm=>bO m c λm=>aV m (aT (bx [a,d,e,i,j,k,l])) (bq h λh=>av [a,c,d,e,f,g,h,i,j,k,l])) (bx [])) b
def ub(n:Nat)(l:lZ):b0:=gP (λa c b e f g h=>aL .lss b c (af (bd a λd=>af (aS (ua n) n [a,b,c,b,a,d,an,e,f,g,h])<|aG λ_=>aT (aT (aT (some bh))))<|aG<|gP λa c b e f g h=>bq b λv75=>av [a,c,v75,e,f,g,h]) (bx [])) l
def Ci(n:Nat)(a0 aE:D):oX:=aJ 4 a0<|bd aE λc=>af (aS (xF n) n [aE,aE,c,an,ae a0 0,ae a0 1,ae a0 2,ae a0 3,D.mp []])<|aG<|hy λa f g h i b=>bd a λd=>af (aS (tZ n) n [a,bh,a,d,an,f,g,h,i,D.mp (dJ b)])<|aG<|hy λa f g h i b=>dc (cb .not f) (some bh) (bO a an λv53=>bO b v53 λv55=>bd v55 λe=>af (aS (ub n) n [a,e,an,g,h,i,b])<|aG λ_=>some cc)
def uc:=du (Ci a)
def xG(a:Nat)(b:lZ):ji:=cR (λa c=>aJ 4 a<|bd (ae a 0) λa=>af (fm 1 a a) λa=>af (jR c) λc=>bG (decide (c.1=1\/c.2=[]))<|some [D.aw 1 ((c.2).take (min (c.2).length (List.replicate a [bh]).length)++(List.replicate a [bh]).drop (min (c.2).length (List.replicate a [bh]).length))]) b
def ud(a:Nat)(b:lZ):b0:=fq (λa c d e f g h i j=>aL .lss d c (af (cF i d λk=>ct i k λk=>af (aV k (bp d<|bG (bZ ((aF j).length+([[d]]).length) 8)<|av [a,c,d,e,f,g,h,aB i,D.aw 1 ((aF j)++[[d]])]) (av [a,c,d,e,f,g,h,aB i,aB j]))<|aG<|fq λc d k l m n o p q=>av [c,d,k,l,m,n,o,aB p,aB q])<|aG<|fq λc d k l m n o p q=>bq k λk=>av [c,d,k,l,m,n,o,aB p,aB q]) (bx [a,e,f,g,h,aB i,aB j])) b
def rK(a:Nat)(b:lZ):iM:=gP (λa c d e f g h=>aL .lss f e (af (bO d f λi=>bO a i λj=>cj j (cF g i λj=>ct g j λj=>aR (cb .not j)) λj=>af (aV j (cF g i λj=>af (aF g)[j]? λk=>bp i<|bG (bZ ((aF h).length+([[i]]).length) 8)<|av [a,c,d,e,f,D.aw 1 ((aF g).set j (er k 0 [cc])),D.aw 1 ((aF h)++[[i]])]) (av [a,c,d,e,f,aB g,aB h]))<|aG<|gP λd e f i j k l=>av [d,e,f,i,j,aB k,aB l])<|aG<|gP λd e f i j k l=>bq j λj=>av [d,e,f,i,j,aB k,aB l]) (bx [a,c,aB g,aB h])) b
def Cj:b0:=dH (λc d e f=>aL .gtr (aa (aF f).length) an (af (cF f an λg=>ct f g λg=>bO d g λg=>bd g λh=>af (aS (rK a) a [c,d,g,h,an,aB e,aB f])<|aG<|dH λa c d f=>av [a,c,aB d,aB f])<|aG<|dH λa c d f=>af (h5 (aF f).length (some bC) none) λg=>bG (decide (g.1+g.2<=(aF f).length))<|av [a,c,aB d,D.aw 1 (((aF f).drop g.1).take g.2)]) (bx [aB e])) l
def Oz:oX:=aJ 4 b<|af (xG a [cn b,d]) λd=>af (aS (ud a) a [c,aa (aF (bz d 0)).length,an,ae b 0,ae b 1,ae b 2,ae b 3,aB (bz d 0),D.aw 1 []])<|aG<|gP λb c d e f g h=>af (xj a [D.agg [c,d,e,f]]) λc=>af (aS (Cj a) a [b,c,aB g,aB h])<|aG<|cr λa=>some (aB a)
def xH:=hx (Oz a)
def xI(a:Nat)(b:lZ):Option (lZ⊕(lZ⊕(lZ⊕(lZ⊕(lZ⊕(lZ⊕D)))))):=iN (λa c d e f g h i j k l m=>aL .lss h g (bO f h λn=>cF m n λn=>af (aF m)[n]? λo=>bq h λh=>av [a,c,d,e,f,g,h,i,j,k,l,D.aw 1 ((aF m).set n (er o 0 [cc]))]) (bx [a,c,d,e,i,j,k,l,aB m])) b
def ue:b0:=fq (λc d e f g h i j k=>aL .lss f e (af (bO d f λl=>af (uc a [D.agg [g,h,i,j],l]) λm=>af (aV m (bd l λm=>af (aS (xI a) a [c,d,e,f,l,m,an,g,h,i,j,aB k])<|aG<|fq λa l m n o p q r s=>av [a,l,m,n,o,p,q,r,aB s]) (av [c,d,e,f,g,h,i,j,aB k]))<|aG<|fq λa d e f l m n o p=>av [a,d,e,f,l,m,n,o,aB p])<|aG<|fq λa d e f l m n o p=>bq f λf=>av [a,d,e,f,l,m,n,o,aB p]) (bx [c,g,h,i,j,aB k])) l
def OA:oX:=aJ 4 b<|af (rJ a [cn b,c]) λc=>bd c λd=>af (fm 1 d d) λd=>af (Ch a [cn b,c]) λe=>bd e λf=>af (aS (ue a) a [c,e,f,an,ae b 0,ae b 1,ae b 2,ae b 3,D.aw 1 (List.replicate d [bh])])<|aG<|hy λb c d e f g=>aR (xH a [D.agg [c,d,e,f],b,aB g])
def rL:=du (OA a)
def aap(a:Nat):lZ->b0:=fg λa c d e f=>aL .lss f e (bO d f λg=>af (aN false 1 0 (dB a)) λh=>bO h g λh=>cj h (af (aN false 1 0 (dB c)) λh=>bO h g λg=>some g) λg=>aV g (aT (aT (some cc))) (bq f λf=>av [D.agg (dB a),D.agg (dB c),d,e,f])) (bx [])
def OB(n:Nat)(a0:D)(x1:lZ)(df:lZ)(b:lZ):oX:=af (aN false 1 1 x1) λv9=>bO v9 a0 λv12=>bd v12 λa=>af (aS (aap n) n [D.agg df,D.agg b,v12,a,an])<|aG λ_=>some bh
def HZ(n:Nat):lZ->oX|[a0,aE,a2,a3]=>(match aE with| .ref x1 0=>(match a2 with| .ref df 0=>(match a3 with| .ref a 0=>OB n a0 x1 df a|_=>none)|_=>none)|_=>none)|_=>none
def aaq:lZ->b0:=hy λc d e f g h=>aL .lss g f (af (HZ a [g,c,d,e]) λa=>cF h g λi=>bp a<|af (aF h)[i]? λj=>bq g λg=>av [c,d,e,f,g,D.aw 1 ((aF h).set i (er j 0 [a]))]) (bx [aB h])
def OC:oX:=aJ 4 b<|bd (ae b 0) λb=>af (fm 1 b b) λb=>af (aS (aaq a) a [c,d,e,aa (List.replicate b [bh]).length,an,D.aw 1 (List.replicate b [bh])])<|aG<|cr λa=>some (aB a)
def H0(n:Nat):lZ->oX|[a0,aE]=>(match fp B2 aE with|some [a,b,c]=>OC n a0 a b c|_=>none)|_=>none
def aar:oX:=aJ 4 b<|bp c<|af (rJ a [cn b,c]) λc=>bp c<|af (qa a [cn b]) λd=>af (rL a [cn b,d]) λd=>bp d<|aR (H0 a [cn b,(D.fn (.func B2) [] [D.ref [ae b 0,ae b 1,ae b 2,ae b 3] 0,D.ref [c] 0,D.ref [d] 0])])
def Ck:=du (aar a)
def H2(a:Nat)(b:D)(c:lZ)(d:lZ):oX:=af (aN false 1 0 c) λa=>bO a b λa=>cj a (af (aN false 1 0 d) λa=>bO a b λa=>some a) λa=>some a
def Cl(n:Nat):lZ->oX|[a0,aE,a2]=>(match aE with| .ref x1 0=>(match a2 with| .ref df 0=>H2 n a0 x1 df|_=>none)|_=>none)|_=>none
def Cm:b0:=fg (λc d e f g=>aL .lss f e (af (Cl a [f,c,d]) λa=>cF g f λh=>bp a<|af (aF g)[h]? λi=>bq f λf=>av [c,d,e,f,D.aw 1 ((aF g).set h (er i 0 [a]))]) (bx [aB g])) l
def H3:oX:=aJ 4 b<|bd (ae b 0) λb=>af (fm 1 b b) λb=>af (aS (Cm a) a [c,d,aa (List.replicate b [bh]).length,an,D.aw 1 (List.replicate b [bh])])<|aG<|cr λa=>some (aB a)
def xJ(n:Nat):lZ->oX|[a0,aE]=>(match fp xt aE with|some [a,b]=>H3 n a0 a b|_=>none)|_=>none
def OD:oX:=aJ 4 b<|bp d<|af (rJ a [cn b,d]) λd=>bp d<|af (qa a [cn b]) λe=>af (rL a [cn b,e]) λe=>bp e<|af (rJ a [cn b,c]) λc=>af (xJ a [cn b,(D.fn (.func xt) [] [D.ref [d] 0,D.ref [e] 0])]) λd=>aR (xH a [cn b,c,d])
def oL:=hx (OD a)
def OE:oX:=aJ 4 b<|aR (rL a [cn b,c])
def qd:=du (OE a)
def OF(a:Nat)(b:D)(c:lZ)(d:lZ):oX:=af (aN false 1 0 c) λa=>bO a b λa=>af (cb .not a) λa=>cj a (af (aN false 1 0 d) λa=>bO a b λa=>aR (cb .not a)) λa=>some a
def H4(n:Nat):lZ->oX|[a0,aE,a2]=>(match aE with| .ref x1 0=>(match a2 with| .ref df 0=>OF n a0 x1 df|_=>none)|_=>none)|_=>none
def aas:lZ->b0:=fg λc d e f g=>aL .lss f e (af (H4 a [f,c,d]) λa=>cF g f λh=>bp a<|af (aF g)[h]? λi=>bq f λf=>av [c,d,e,f,D.aw 1 ((aF g).set h (er i 0 [a]))]) (bx [aB g])
def OG:oX:=aJ 4 b<|bd (ae b 0) λb=>af (fm 1 b b) λb=>af (aS (aas a) a [c,d,aa (List.replicate b [bh]).length,an,D.aw 1 (List.replicate b [bh])])<|aG<|cr λa=>some (aB a)
def Cn(n:Nat):lZ->oX|[a0,aE]=>(match fp xq aE with|some [a,b]=>OG n a0 a b|_=>none)|_=>none
def OH(a:Nat)(b:D)(c:lZ)(d:lZ):oX:=af (aN false 1 0 c) λa=>bO a b λa=>af (cb .not a) λa=>cj a (af (aN false 1 0 d) λa=>bO a b λa=>aR (cb .not a)) λa=>some a
def H5(n:Nat):lZ->oX|[a0,aE,a2]=>(match aE with| .ref x1 0=>(match a2 with| .ref df 0=>OH n a0 x1 df|_=>none)|_=>none)|_=>none
def aat:lZ->b0:=fg λc d e f g=>aL .lss f e (af (H5 a [f,c,d]) λa=>cF g f λh=>bp a<|af (aF g)[h]? λi=>bq f λf=>av [c,d,e,f,D.aw 1 ((aF g).set h (er i 0 [a]))]) (bx [aB g])
def OI:oX:=aJ 4 b<|bd (ae b 0) λb=>af (fm 1 b b) λb=>af (aS (aat a) a [c,d,aa (List.replicate b [bh]).length,an,D.aw 1 (List.replicate b [bh])])<|aG<|cr λa=>some (aB a)
def Co(n:Nat):lZ->oX|[a0,aE]=>(match fp xr aE with|some [a,b]=>OI n a0 a b|_=>none)|_=>none
def OJ(a:Nat)(b:D):oX:=aK .geq b (D.val (.int .u8 97)) λa=>cj a (aR (aP false .leq b (D.val (.int .u8 122)))) λa=>af (cu a false (aR (aP false .geq b (D.val (.int .u8 65))))) λc=>af (cu c true (aR (aP false .leq b (D.val (.int .u8 90))))) λb=>cI a (aR (dQ c b bh)) λa=>some a
def xK:=cO (OJ a)
def OK(a:Nat)(b:D):oX:=aK .geq b (D.val (.int .u8 48)) λa=>cj a (aR (aP false .leq b (D.val (.int .u8 57)))) λa=>some a
def Cp:=cO (OK a)
def xL:b0:=ff (λc d e=>af (kO c) λf=>aK .lss d f λf=>af (cu f true (af (l2 c d) λg=>aR (Cp a [g]))) λg=>af (cu g false (aR (cb .not e))) λh=>af (cu h true (af (l2 c d) λi=>aR (xK a [i]))) λa=>af (cu a false (af (l2 c d) λi=>aR (aP false .eql i (D.val (.int .u8 95))))) λi=>af (cu h true (aR (dQ a cc i))) λa=>af (cu g false (aR (dQ h a bh))) λa=>cj f (aR (dQ g cc a)) λa=>aV a (bq d λa=>av [c,a,e]) (bx [d])) l
def OL:oX:=af (aS (xL a) a [b,c,d])<|aG<|cr λa=>some a
def Cq:=hx (OL a)
def aau(a:Nat):oX:=some (D.aw 1 [[aA ⟨#[65]⟩],[aA ⟨#[65,70]⟩],[aA ⟨#[65,71]⟩],[aA ⟨#[65,88]⟩],[aA ⟨#[69]⟩],[aA ⟨#[69,70]⟩],[aA ⟨#[69,71]⟩],[aA ⟨#[69,88]⟩],[aA ⟨#[85]⟩],[aA ⟨#[98,111,111,108]⟩],[aA ⟨#[100,101,102]⟩],[aA ⟨#[101,108,115,101]⟩],[aA ⟨#[102,97,105,114]⟩],[aA ⟨#[102,97,108,115,101]⟩],[aA ⟨#[105,102]⟩],[aA ⟨#[105,110,105,116]⟩],[aA ⟨#[105,110,118,97,114]⟩],[aA ⟨#[109,111,100]⟩],[aA ⟨#[110,101,120,116]⟩],[aA ⟨#[115,112,101,99]⟩],[aA ⟨#[116,104,101,110]⟩],[aA ⟨#[116,114,97,110,115]⟩],[aA ⟨#[116,114,117,101]⟩],[aA ⟨#[118,97,114]⟩]])
def H6:=wY (aau a)
def uf(a:Nat)(b:lZ):b0:=ff (λa c d=>bd a λe=>aL .lss d e (bO a d λe=>aL .eql e c (aT (aT (some cc))) (bq d λd=>av [a,c,d])) (bx [])) b
def H7(n:Nat)(a0 aE:D):oX:=af (aS (uf n) n [a0,aE,an])<|aG λ_=>some bh
def xM:=du (H7 a)
def H8:oX:=af (kO b) λc=>aK .geq c bC λc=>cj c (af (kO b) λc=>aR (aP false .leq c (aa 24))) λc=>cj c (af (l2 b an) λc=>aR (xK a [c])) λc=>cj c (af (Cq a [b,an,bh]) λc=>af (kO b) λd=>aR (aP false .eql c d)) λc=>cj c (af (H6 a []) λc=>af (xM a [c,b]) λa=>aR (cb .not a)) λa=>some a
def rM:=cO (H8 a)
def OM(a:Nat)(b:D):oX:=aK .geq b (aa (-255)) λa=>cj a (aR (aP false .leq b (aa 255))) λa=>some a
def xN:=cO (OM a)
def ON(a:Nat)(b:D):oX:=aJ 4 b<|aV (ae b 1) (some (aa 2)) (aL .gtr (ae b 2) (ae b 3) (some an) (af (jB .u64 (ae b 3)) λa=>af (jB .u64 (ae b 2)) λb=>aK .sub a b λa=>aK .gtr a (D.val (.int .u64 1073741824)) λb=>af (aV b (av [D.val (.int .u64 1073741824)]) (av [a]))<|aG<|cr λa=>af (jB .i64 a) λa=>aR (aP false .add a bC)))
def oM:=cO (ON a)
def xO(a:Nat)(b:lZ):iM:=ff (λa c d=>aL .lss d c (af (a8 4 a d) λe=>af (aN false 1 0 e) λe=>af (a8 4 a c) λf=>af (aN false 1 0 f) λf=>aL .eql e f (aT (aT (aT (aT (aT (some (D.az [c,aa 6]))))))) (bq d λd=>av [a,c,d])) (bx [a,c])) b
def rN:b0:=cR (λc d=>bd c λe=>aL .lss d e (af (af (a8 4 c d) λe=>af (aN false 1 0 e) λe=>af (rM a [e]) λe=>dc (cb .not e) (aT (aT (aT (some (D.az [d,aa 12]))))) (af (aS (xO a) a [c,d,an])<|aG<|cR λc d=>af (a8 4 c d) λe=>af (aN false 1 1 e) λe=>af (cu e true (af (a8 4 c d) λf=>af (aN false 1 2 f) λf=>aR (aP false .neq f an))) λf=>af (cu f false (af (a8 4 c d) λg=>af (aN false 1 3 g) λg=>aR (aP false .neq g an))) λg=>cj e (aR (dQ f cc g)) λe=>aV e (aT (aT (aT (some (D.az [d,aa 3]))))) (af (a8 4 c d) λe=>af (aN false 1 1 e) λe=>af (cb .not e) λe=>af (cu e true (af (a8 4 c d) λf=>af (aN false 1 2 f) λf=>af (a8 4 c d) λg=>af (aN false 1 3 g) λg=>aR (aP false .gtr f g))) λf=>af (cu f false (af (a8 4 c d) λg=>af (aN false 1 2 g) λg=>af (xN a [g]) λg=>aR (cb .not g))) λg=>af (cu e true (aR (dQ f cc g))) λf=>af (cu f false (af (a8 4 c d) λg=>af (aN false 1 3 g) λg=>af (xN a [g]) λg=>aR (cb .not g))) λg=>af (cu e true (aR (dQ f cc g))) λf=>af (cu f false (af (a8 4 c d) λg=>af (aN true 4 0 g) λg=>af (oM a [g]) λa=>aR (aP false .gtr a (aa 64)))) λa=>cj e (aR (dQ f cc a)) λa=>aV a (aT (aT (aT (some (D.az [d,aa 2]))))) (av [c,d]))))<|aG<|cR λa c=>bq c λc=>av [a,c]) (bx [])) l
def aav(n:Nat)(a0:D):oX:=af (aS (rN n) n [a0,an])<|aG λ_=>some (D.az [an,an])
def Cr:=cO (aav a)
def Cs(a:Nat)(b:lZ):b0:=cR (λa c=>aL .gtr a bC (aK .quo a (aa 2) λd=>aK .rem a (aa 2) λa=>aK .add d a λa=>bq c λd=>av [a,d]) (bx [c])) b
def OO:oX:=af (aS (Cs a) a [b,an])<|aG<|cr λa=>some a
def Ct:=cO (OO a)
def Cu:b0:=fb (λc d e f g h i j k l=>bd e λm=>aL .lss d m (af (a8 4 e d) λm=>af (aN true 4 0 m) λm=>af (oM a [m]) λm=>af (Ct a [m]) λa=>aK .add c a λa=>bq d λd=>av [a,d,e,f,g,h,i,j,k,l]) (bx [c])) l
def OP:oX:=aJ 8 b<|af (aS (Cu a) a [an,an,ae b 0,ae b 1,ae b 2,ae b 3,ae b 4,ae b 5,ae b 6,ae b 7])<|aG<|cr λa=>some a
def Cv:=cO (OP a)
def xP(a:Nat)(b:lZ):b0:=fb (λa c d e f g h i j k=>bd d λl=>aL .lss c l (af (a8 4 d c) λl=>af (aN false 1 0 l) λl=>aL .eql l a (aT (aT (some c))) (bq c λc=>av [a,c,d,e,f,g,h,i,j,k])) (bx [])) b
def OQ(n:Nat)(a0 aE:D):oX:=aJ 8 a0<|af (aS (xP n) n [aE,an,ae a0 0,ae a0 1,ae a0 2,ae a0 3,ae a0 4,ae a0 5,ae a0 6,ae a0 7])<|aG λ_=>some (aa (-1))
def xQ:=du (OQ a)
def xR(a:Nat)(b:lZ):b0:=fb (λa c d e f g h i j k=>bd e λl=>aL .lss c l (af (a8 5 e c) λl=>af (aN false 1 0 l) λl=>aL .eql l a (aT (aT (some c))) (bq c λc=>av [a,c,d,e,f,g,h,i,j,k])) (bx [])) b
def OR(n:Nat)(a0 aE:D):oX:=aJ 8 a0<|af (aS (xR n) n [aE,an,ae a0 0,ae a0 1,ae a0 2,ae a0 3,ae a0 4,ae a0 5,ae a0 6,ae a0 7])<|aG λ_=>some (aa (-1))
def xS:=du (OR a)
def xT(a:Nat)(b:lZ):b0:=ff (λa c d=>bd a λe=>aL .lss d e (bO a d λe=>aL .eql e c (aT (aT (some cc))) (bq d λd=>av [a,c,d])) (bx [])) b
def OS(n:Nat)(a0 aE:D):oX:=af (aS (xT n) n [a0,aE,an])<|aG λ_=>some bh
def Cw:=du (OS a)
def ug(a:Nat)(b:lZ):b0:=fg (λa c d e f=>bd a λg=>aL .lss e g (af (cb .not d) λg=>cj g (bO a e λg=>aR (aP false .gtr g c)) λg=>af (aV g (bp c<|bG (bZ ((aF f).length+([[c]]).length) 16)<|av [a,c,cc,e,D.aw 1 ((aF f)++[[c]])]) (av [a,c,d,e,aB f]))<|aG<|fg λa e g h i=>bO a h λj=>bp j<|bG (bZ ((aF i).length+([[j]]).length) 16)<|bq h λh=>av [a,e,g,h,D.aw 1 ((aF i)++[[j]])]) (bx [c,d,aB f])) b
def Cx:oX:=dc (Cw a [b,c]) (some b) (af (aS (ug a) a [b,c,bh,an,D.aw 1 ([]:mW)])<|aG<|ff λa b c=>af (cb .not b) λb=>af (aV b (bp a<|bG (bZ ((aF c).length+([[a]]).length) 16)<|av [D.aw 1 ((aF c)++[[a]])]) (av [aB c]))<|aG<|cr λa=>some (aB a))
def uh:=du (Cx a)
def Cy(a:lZ->oX)(b:Nat)(c:lZ):b0:=gP (λb d e f g h i=>bd i λj=>aL .lss e j (af (a8 4 i e) λj=>af (aN true 4 0 j) λj=>af (a [j,b,d]) λa=>bq e λe=>av [b,a,e,f,g,h,i]) (bx [d])) c
def xU(a:lZ->oX)(b:Nat)(c d e:D):oX:=aJ 4 c<|aK .eql (ae c 0) d λf=>af (aV f (af (uh b [e,ae c 2]) λf=>av [d,f,ae c 0,ae c 1,ae c 2,ae c 3]) (av [d,e,ae c 0,ae c 1,ae c 2,ae c 3]))<|aG<|hy λc d e f g h=>af (aS (Cy a b) b [c,d,an,e,f,g,h])<|aG<|cr λa=>some a
def nD:Nat->lZ->oX|0,_=>none|n+1,a=>match a with|[a0,aE,a2]=>xU (nD n) n a0 aE a2|_=>none
def OT:oX:=aJ 4 b<|af (nD a [cn b,aa 3,aX]) λc=>af (nD a [cn b,aa 4,aX]) λa=>some (D.az [c,a])
def ui:=cO (OT a)
def rO:iM:=gq (λc d e f g h i j k l m n o=>bd d λp=>aL .lss e p (af (bO d e λp=>af (xS a [D.agg [f,g,h,i,j,k,l,m],p]) λa=>aK .geq a an λp=>cj p (cF n a λp=>ct n p λp=>aR (cb .not p)) λp=>af (aV p (cF n a λp=>af (aF n)[p]? λq=>bp a<|bG (bZ ((aF o).length+([[a]]).length) 8)<|av [c,d,e,f,g,h,i,j,k,l,m,D.aw 1 ((aF n).set p (er q 0 [cc])),D.aw 1 ((aF o)++[[a]])]) (av [c,d,e,f,g,h,i,j,k,l,m,aB n,aB o]))<|aG<|gq λa d e p q r s t u w x y z=>av [a,d,e,p,q,r,s,t,u,w,x,aB y,aB z])<|aG<|gq λa d e p q r s t u w x y z=>bq e λe=>av [a,d,e,p,q,r,s,t,u,w,x,aB y,aB z]) (bx [c,f,g,h,i,j,k,l,m,aB n,aB o])) l
def Cz:b0:=gQ (λc d e f g h i j k l m=>aL .lss c (aa (aF m).length) (af (cF m c λn=>ct m n λn=>af (a8 5 e n) λn=>af (aN true 4 1 n) λn=>af (ui a [n]) λn=>bP n λo=>bQ n λn=>af (aS (rO a) a [c,o,an,d,e,f,g,h,i,j,k,aB l,aB m])<|aG<|gQ λa c d e f g h i j k m=>av [a,c,d,e,f,g,h,i,j,aB k,aB m])<|aG<|gQ λa c d e f g h i j k m=>bq a λa=>av [a,c,d,e,f,g,h,i,j,aB k,aB m]) (bx [aB l])) l
def OU:oX:=aJ 8 b<|bd (ae b 1) λd=>af (fm 1 d d) λd=>bp c<|af (aS (Cz a) a [an,ae b 0,ae b 1,ae b 2,ae b 3,ae b 4,ae b 5,ae b 6,ae b 7,D.aw 1 (List.replicate d [bh]),D.aw 1 [[c]]])<|aG<|cr λa=>some (aB a)
def CA:=du (OU a)
def H9(a:Nat)(b:D):oX:=af (aK .eql b bC λa=>af (aV a (av [b,b,a]) (aK .eql b (aa 2) λa=>af (aV a (av [b,b,a]) (aK .eql b (aa 3) λa=>af (aV a (av [b,b,a]) (aK .eql b (aa 4) λa=>av [b,b,a]))<|aG<|ff λa b c=>av [a,b,c]))<|aG<|ff λa b c=>av [a,b,c]))<|aG<|ff λa b c=>aV c (aT (some (D.az [an,an]))) (aL .eql b (aa 5) (aT (some (D.az [bC,bC]))) (aK .eql b (aa 6) λc=>af (aV c (av [a,b,c]) (aK .eql b (aa 7) λc=>av [a,b,c]))<|aG<|ff λa b c=>aV c (aT (some (D.az [bC,aa 64]))) (aL .eql b (aa 18) (aT (some (D.az [aa 3,aa 3]))) (av [a])))))<|aG<|cr λa=>aK .lss a bC λb=>cI b (aR (aP false .gtr a (aa 18))) λa=>aV a (some (D.az [aa (-1),aa (-1)])) (some (D.az [aa 2,aa 2]))
def xV:=cO (H9 a)
def OV:oX:=aJ 4 b<|aL .gtr c (aa 64) (some (aa 17)) (af (xV a [ae b 0]) λa=>bP a λc=>bQ a λa=>aL .lss c an (some (aa 11)) (aK .eql (ae b 0) bC λd=>af (aV d (av [c,a,aa (-255),aa 255,ae b 0,ae b 1,ae b 2,ae b 3]) (av [c,a,an,an,ae b 0,ae b 1,ae b 2,ae b 3]))<|aG<|u8 λa b c d e f g h=>aK .eql e (aa 2) λi=>af (aV i (av [a,b,c,bC,e,f,g,h]) (av [a,b,c,d,e,f,g,h]))<|aG<|u8 λa b c d e f g h=>aK .lss f c λc=>cI c (aR (aP false .gtr f d)) λc=>aV c (some (aa 2)) (aK .eql e (aa 3) λc=>cI c (aR (aP false .eql e (aa 4))) λc=>af (cu c true (af (kO g) λd=>aR (aP false .lss d bC))) λd=>af (cu d false (af (kO g) λe=>aR (aP false .gtr e (aa 24)))) λe=>cj c (aR (dQ d cc e)) λd=>af (cu d false (aR (cb .not c))) λc=>af (cu c true (aR (aP false .neq g (aA ⟨#[]⟩)))) λe=>cI d (aR (dQ c e bh)) λc=>aV c (some (aa 12)) (bd h λc=>aK .lss c a λa=>cI a (bd h λa=>aR (aP false .gtr a b)) λa=>aV a (some (aa 3)) (some an)))))
def xW:=du (OV a)
def CB(a:lZ->oX)(b:Nat)(c:lZ):b0:=gP (λb d e f g h i=>bd i λj=>aL .lss e j (af (a8 4 i e) λj=>af (aN true 4 0 j) λj=>bq b λk=>af (a [j,k,d]) λa=>bP a λj=>bQ a λa=>aL .neq j an (aT (aT (some (D.az [j,a])))) (bq e λe=>av [b,a,e,f,g,h,i])) (bx [d])) c
def Ia(a:lZ->oX)(b:Nat)(c d e:D):oX:=aJ 4 c<|bq e λe=>af (xW b [cn c,d]) λf=>aL .neq f an (some (D.az [f,e])) (aL .gtr e (aa 4096) (some (D.az [aa 4,e])) (af (aS (CB a b) b [d,e,an,ae c 0,ae c 1,ae c 2,ae c 3])<|aG<|cr λa=>some (D.az [an,a])))
def oN:Nat->lZ->oX|0,_=>none|n+1,a=>match a with|[a0,aE,a2]=>Ia (oN n) n a0 aE a2|_=>none
def OW:oX:=aJ 4 b<|af (oN a [cn b,bC,an]) λa=>bP a λb=>bQ a λa=>some b
def uj:=cO (OW a)
def xX(a:Nat)(b:lZ):b0:=ff (λa c d=>bd a λe=>aL .lss d e (af (a8 5 a d) λe=>af (aN false 1 0 e) λe=>aL .eql e c (aT (aT (some d))) (bq d λd=>av [a,c,d])) (bx [])) b
def OX(n:Nat)(a0 aE:D):oX:=af (aS (xX n) n [a0,aE,an])<|aG λ_=>some (aa (-1))
def uk:=du (OX a)
def xY:b0:=dH (λc d e f=>bd d λg=>aL .lss e g (af (bO d e λg=>af (uk a [c,g]) λa=>aK .geq a an λg=>af (aV g (bp a<|bG (bZ ((aF f).length+([[a]]).length) 8)<|av [c,d,e,D.aw 1 ((aF f)++[[a]])]) (av [c,d,e,aB f]))<|aG<|dH λa c d e=>av [a,c,d,aB e])<|aG<|dH λa c d e=>bq d λd=>av [a,c,d,aB e]) (bx [aB f])) l
def OY:oX:=aJ 4 b<|af (ui a [cn b]) λb=>bP b λd=>bQ b λb=>af (aS (xY a) a [c,d,an,D.aw 1 ([]:mW)])<|aG<|cr λa=>some (aB a)
def xZ:=du (OY a)
def um(a:Nat)(b:lZ):b0:=ff (λa c d=>bd a λe=>aL .lss d e (bO a d λe=>aL .eql e c (aT (aT (some cc))) (bq d λd=>av [a,c,d])) (bx [])) b
def Ib(n:Nat)(a0 aE:D):oX:=af (aS (um n) n [a0,aE,an])<|aG λ_=>some bh
def rP:=du (Ib a)
def x0(a:lZ->oX)(b:Nat)(c:lZ):b0:=dH (λd e f g=>bd f λh=>aL .lss g h (af (bO f g λh=>af (rP b [e,h]) λb=>af (cb .not b) λb=>af (aV b (bO f g λb=>af (a8 5 d b) λb=>af (aN true 4 1 b) λb=>bO f g λh=>af (jR e) λi=>bG (decide (i.1=1\/i.2=[])&&decide (0<1))<|bG (bZ (([]:mW).length+(i.2).length) 8)<|bp h<|bG (bZ ((([]:mW)++i.2).length+([[h]]).length) 8)<|af (a [b,d,D.aw 1 ((([]:mW)++i.2)++[[h]])]) λa=>av [d,a,f,g]) (av [d,e,f,g]))<|aG<|dH λa b d f=>av [a,b,d,f])<|aG<|dH λa b d f=>bq f λf=>av [a,b,d,f]) (bx [e])) c
def CC(a:lZ->oX)(b:Nat)(c d e:D):oX:=aJ 4 c<|af (xZ b [cn c,d]) λc=>af (aS (x0 a b) b [d,e,c,an])<|aG<|cr λa=>some a
def nE:Nat->lZ->oX|0,_=>none|n+1,a=>match a with|[a0,aE,a2]=>CC (nE n) n a0 aE a2|_=>none
def OZ:oX:=af (a8 5 b c) λd=>af (aN true 4 1 d) λd=>af (nE a [d,b,aX]) λb=>aR (rP a [b,c])
def CD:=du (OZ a)
def x2(a:lZ->oX)(b:Nat)(c:lZ):b0:=gq (λb d e f g h i j k l m n o=>bd j λp=>aL .lss f p (af (a8 4 j f) λp=>af (aN true 4 0 p) λp=>bq d λq=>af (a [p,b,q,e]) λa=>bP a λp=>bQ a λq=>af (eK 2 a) λa=>aJ 4 p<|aL .neq a an (aT (aT (some (D.az [D.agg [an,an,aA ⟨#[]⟩,aX],q,a])))) (aJ 4 (cn p)<|bG (bZ ((aF o).length+([[ae p 0,ae p 1,ae p 2,ae p 3]]).length) 56)<|bq f λa=>av [b,d,q,a,g,h,i,j,k,l,m,n,D.aw 4 ((aF o)++[[ae p 0,ae p 1,ae p 2,ae p 3]])])) (bx [e,g,h,i,j,k,l,m,n,D.aw 4 (aF o)])) c
def mo(a:lZ->oX)(b:Nat)(c d e f:D):oX:=aJ 4 c<|aK .eql (ae c 0) (aa 3) λg=>af (aV g (af (uk b [d,ae c 2]) λg=>aL .geq g an (af (a8 5 d g) λg=>af (aN true 4 1 g) λg=>af (a [g,d,e,f]) λg=>bP g λh=>bQ g λi=>af (eK 2 g) λg=>aJ 4 h<|aT (some (D.az [cn h,i,g]))) (av [d,e,f,ae c 0,ae c 1,ae c 2,ae c 3,an,an,aA ⟨#[]⟩,aX])) (av [d,e,f,ae c 0,ae c 1,ae c 2,ae c 3,an,an,aA ⟨#[]⟩,aX]))<|aG<|gQ λc d e f g h i j k l m=>bq e λe=>af (xW b [D.agg [f,g,h,i],d]) λn=>aL .neq n an (some (D.az [D.agg [an,an,aA ⟨#[]⟩,aX],e,n])) (aL .gtr e (aa 4096) (some (D.az [D.agg [an,an,aA ⟨#[]⟩,aX],e,aa 4])) (af (aS (x2 a b) b [c,d,e,an,f,g,h,i,j,k,l,m,D.aw 4 ([]:mW)])<|aG<|fb λa b c d e f g h i j=>bp b<|bp c<|bp d<|some (D.az [D.agg [b,c,d,D.aw 4 (aF j)],a,an])))
def nF:Nat->lZ->oX|0,_=>none|n+1,a=>match a with|[a0,aE,a2,a3]=>mo (nF n) n a0 aE a2 a3|_=>none
def x3:b0:=gQ (λc d e f g h i j k l m=>bd d λn=>aL .lss e n (bO d e λn=>dc (CD a [c,n]) (aT (aT (some (D.az [D.agg [an,an,aA ⟨#[]⟩,aX],aa 14])))) (bq e λa=>av [c,d,a,f,g,h,i,j,k,l,m])) (bx [c,f,g,h,i,j,k,l,m])) l
def x4:oX:=aJ 4 b<|af (uj a [cn b]) λd=>aL .neq d an (some (D.az [D.agg [an,an,aA ⟨#[]⟩,aX],d])) (af (nE a [cn b,c,aX]) λd=>af (aS (x3 a) a [c,d,an,ae b 0,ae b 1,ae b 2,ae b 3,an,an,aA ⟨#[]⟩,aX])<|aG<|fg λb c d e f=>af (nF a [D.agg [c,d,e,f],b,bC,an]) λa=>bP a λb=>bQ a λc=>af (eK 2 a) λa=>aJ 4 b<|aJ 4 (cn b)<|some (D.az [cn b,a]))
def ky:=du (x4 a)
def O0(a:Nat)(b c:D):oX:=af (cb .neg (aa 1048576)) λa=>aK .lss b a λa=>cI a (aR (aP false .gtr b (aa 1048576))) λa=>cI a (af (cb .neg (aa 1048576)) λa=>aR (aP false .lss c a)) λa=>cI a (aR (aP false .gtr c (aa 1048576))) λa=>cI a (aR (aP false .lss c b)) λa=>cI a (aK .sub c b λa=>aR (aP false .gtr a (aa 4096))) λa=>aV a (some (D.az [D.agg [bh,an,an],aa 2])) (bp b<|bp c<|aJ 3 (D.agg [bh,b,c])<|some (D.az [D.agg [bh,b,c],an]))
def nG:=du (O0 a)
def x5(a:Nat)(b:lZ):b0:=ff (λa c d=>bd a λe=>aL .lss d e (af (a8 4 a d) λe=>af (aN false 1 0 e) λe=>aL .eql e c (aT (aT (some d))) (bq d λd=>av [a,c,d])) (bx [])) b
def O1(n:Nat)(a0 aE:D):oX:=af (aS (x5 n) n [a0,aE,an])<|aG λ_=>some (aa (-1))
def uo:=du (O1 a)
def x6(a:Nat)(b:lZ):b0:=cR (λa c=>bd a λd=>aL .lss c d (af (a8 3 a c) λd=>af (aN false 1 0 d) λd=>dc (cb .not d) (aT (aT (some bh))) (bq c λc=>av [a,c])) (bx [])) b
def O2(n:Nat)(a0:D):oX:=af (aS (x6 n) n [a0,an])<|aG λ_=>some cc
def CE:=cO (O2 a)
def CF(a:Nat)(b:lZ):b0:=dH (λa c d e=>aL .lss d (aa 4) (cF e d λf=>ct e f λf=>af (ht false [a,f]) λf=>cF e d λg=>ct e g λg=>af (ht true [c,g]) λg=>bq d λd=>av [f,g,d,aB e]) (bx [a,c])) b
def O3:oX:=aJ 3 b<|aJ 3 c<|aK .mul (ae b 1) (ae c 1) λd=>aK .mul (ae b 1) (ae c 2) λe=>aK .mul (ae b 2) (ae c 1) λf=>aK .mul (ae b 2) (ae c 2) λb=>bp d<|bp e<|bp f<|bp b<|af (cS ([[d],[e],[f],[b]]).length an) λc=>af (([[d],[e],[f],[b]])[c]?) λc=>af (aN false 1 0 c) λc=>af (cS ([[d],[e],[f],[b]]).length an) λg=>af (([[d],[e],[f],[b]])[g]?) λg=>af (aN false 1 0 g) λg=>af (aS (CF a) a [c,g,bC,D.aw 1 [[d],[e],[f],[b]]])<|aG<|cR λa b=>some (D.az [a,b])
def CG:=du (O3 a)
def CH:oX:=aJ 4 b<|af (aK .eql (ae b 0) (aa 5) λd=>af (aV d (av [c,aa 13,ae b 0,d,ae b 0,ae b 1,ae b 2,ae b 3,bh,an,an,cc,an,an]) (aK .eql (ae b 0) (aa 6) λd=>af (aV d (av [c,aa 13,ae b 0,d,ae b 0,ae b 1,ae b 2,ae b 3,bh,an,an,cc,an,an]) (aK .eql (ae b 0) (aa 7) λd=>af (aV d (av [c,aa 13,ae b 0,d,ae b 0,ae b 1,ae b 2,ae b 3,bh,an,an,cc,an,an]) (aK .eql (ae b 0) (aa 8) λd=>af (aV d (av [c,aa 13,ae b 0,d,ae b 0,ae b 1,ae b 2,ae b 3,bh,an,an,cc,an,an]) (aK .eql (ae b 0) (aa 9) λd=>av [c,aa 13,ae b 0,d,ae b 0,ae b 1,ae b 2,ae b 3,bh,an,an,cc,an,an]))<|aG<|ku λb c d e f g h i j k l m n o=>av [b,c,d,e,f,g,h,i,j,k,l,m,n,o]))<|aG<|ku λb c d e f g h i j k l m n o=>av [b,c,d,e,f,g,h,i,j,k,l,m,n,o]))<|aG<|ku λb c d e f g h i j k l m n o=>av [b,c,d,e,f,g,h,i,j,k,l,m,n,o]))<|aG<|ku λb c d e f g h i j k l m n o=>aV e (af (CE a [b]) λe=>dc (cb .not e) (aT (some (D.az [D.agg [bh,an,an],c]))) (aJ 3 (D.agg [m,n,o])<|aT (some (D.az [D.agg [m,n,o],an])))) (aK .eql d (aa 10) λe=>af (aV e (av [b,c,d,e,f,g,h,i,j,k,l,m,n,o]) (aK .eql d (aa 11) λe=>av [b,c,d,e,f,g,h,i,j,k,l,m,n,o]))<|aG<|ku λb c d e f g h i j k l m n o=>aV e (af (a8 3 b an) λe=>af (aN false 1 0 e) λe=>af (a8 3 b bC) λp=>af (aN false 1 0 p) λp=>dc (aP true .neq e p) (aT (some (D.az [D.agg [bh,an,an],c]))) (aJ 3 (D.agg [m,n,o])<|aT (some (D.az [D.agg [m,n,o],an])))) (aL .eql d (aa 18) (af (a8 3 b an) λd=>af (aN false 1 0 d) λd=>af (cb .not d) λd=>cI d (af (a8 3 b bC) λd=>af (aN false 1 0 d) λd=>af (a8 3 b (aa 2)) λe=>af (aN false 1 0 e) λe=>aR (aP true .neq d e)) λd=>aV d (aT (some (D.az [D.agg [bh,an,an],c]))) (af (a8 3 b bC) λd=>dc (aN false 1 0 d) (aJ 3 (D.agg [m,n,o])<|aT (some (D.az [D.agg [m,n,o],an]))) (af (a8 3 b bC) λd=>af (aN false 1 1 d) λd=>af (a8 3 b (aa 2)) λe=>af (aN false 1 1 e) λe=>af (ht false [d,e]) λd=>af (a8 3 b bC) λe=>af (aN false 1 2 e) λe=>af (a8 3 b (aa 2)) λp=>af (aN false 1 2 p) λp=>af (ht true [e,p]) λe=>af (nG a [d,e]) λd=>bP d λe=>bQ d λd=>aJ 3 e<|aT (some (D.az [D.agg [ae e 0,ae e 1,ae e 2],d]))))) (av [b,c,f,g,h,i,j,k,l,m,n,o]))))<|aG<|iN λb c d e f g h i j k l m=>af (a8 3 b an) λe=>af (aN false 1 0 e) λe=>cI e (af (a8 3 b bC) λe=>aR (aN false 1 0 e)) λe=>aV e (some (D.az [D.agg [bh,an,an],c])) (aL .eql d (aa 14) (af (a8 3 b an) λc=>af (aN false 1 1 c) λc=>af (a8 3 b bC) λe=>af (aN false 1 1 e) λe=>aK .add c e λc=>af (a8 3 b an) λe=>af (aN false 1 2 e) λe=>af (a8 3 b bC) λf=>af (aN false 1 2 f) λf=>aK .add e f λe=>af (nG a [c,e]) λc=>bP c λe=>bQ c λc=>aJ 3 e<|some (D.az [D.agg [ae e 0,ae e 1,ae e 2],c])) (aL .eql d (aa 15) (af (a8 3 b an) λc=>af (aN false 1 1 c) λc=>af (a8 3 b bC) λe=>af (aN false 1 2 e) λe=>aK .sub c e λc=>af (a8 3 b an) λe=>af (aN false 1 2 e) λe=>af (a8 3 b bC) λf=>af (aN false 1 1 f) λf=>aK .sub e f λe=>af (nG a [c,e]) λc=>bP c λe=>bQ c λc=>aJ 3 e<|some (D.az [D.agg [ae e 0,ae e 1,ae e 2],c])) (aL .eql d (aa 16) (af (a8 3 b an) λc=>af (aN true 3 0 c) λc=>af (a8 3 b bC) λb=>af (aN true 3 0 b) λb=>af (CG a [c,b]) λb=>bP b λc=>bQ b λb=>af (nG a [c,b]) λb=>bP b λc=>bQ b λb=>aJ 3 c<|some (D.az [D.agg [ae c 0,ae c 1,ae c 2],b])) (aL .eql d (aa 17) (af (a8 4 g bC) λb=>af (aN false 1 0 b) λb=>aK .neq b bC λb=>cI b (af (a8 4 g bC) λb=>af (aN false 1 1 b) λb=>aR (aP false .lss b bC)) λb=>aV b (some (D.az [D.agg [bh,an,an],aa 2])) (af (a8 4 g bC) λb=>af (aN false 1 1 b) λb=>aK .sub b bC λb=>af (nG a [an,b]) λa=>bP a λb=>bQ a λa=>aJ 3 b<|some (D.az [D.agg [ae b 0,ae b 1,ae b 2],a]))) (aJ 3 (D.agg [k,l,m])<|some (D.az [D.agg [k,l,m],an]))))))
def uq:=du (CH a)
def ur(a:lZ->oX)(b:Nat)(c:lZ):b0:=gQ (λb d e f g h i j k l m=>bd i λn=>aL .lss e n (af (a8 4 i e) λn=>af (aN true 4 0 n) λn=>af (a [b,n,d]) λa=>bP a λn=>bQ a λa=>aJ 3 n<|aL .neq a an (aT (aT (some (D.az [D.agg [bh,an,an],a])))) (aJ 3 (D.agg [ae n 0,ae n 1,ae n 2])<|bG (bZ ((aF m).length+([[ae n 0,ae n 1,ae n 2]]).length) 24)<|bq e λa=>av [b,d,a,f,g,h,i,j,k,l,D.aw 3 ((aF m)++[[ae n 0,ae n 1,ae n 2]])])) (bx [f,g,h,i,j,k,l,D.aw 3 (aF m)])) c
def oO(a:lZ->oX)(b:Nat)(c d e:D):oX:=aJ 4 d<|aL .eql (ae d 0) bC (af (nG b [ae d 1,ae d 1]) λf=>bP f λg=>bQ f λf=>aJ 3 g<|some (D.az [D.agg [ae g 0,ae g 1,ae g 2],f])) (aL .eql (ae d 0) (aa 2) (some (D.az [D.agg [cc,an,an],an])) (aK .eql (ae d 0) (aa 3) λf=>af (aV f (av [c,e,f,ae d 0,ae d 1,ae d 2,ae d 3,bh,an,an]) (aK .eql (ae d 0) (aa 4) λf=>av [c,e,f,ae d 0,ae d 1,ae d 2,ae d 3,bh,an,an]))<|aG<|fb λc d e f g h i j k l=>aV e (af (uo b [c,h]) λe=>aL .lss e an (some (D.az [D.agg [bh,an,an],aa 12])) (aK .eql f (aa 4) λm=>cj m (aR (cb .not d)) λm=>aV m (some (D.az [D.agg [bh,an,an],aa 24])) (af (a8 4 c e) λm=>dc (aN false 1 1 m) (some (D.az [D.agg [cc,an,an],an])) (af (a8 4 c e) λm=>af (aN false 1 2 m) λm=>af (a8 4 c e) λe=>af (aN false 1 3 e) λe=>af (nG b [m,e]) λe=>bP e λm=>bQ e λe=>aJ 3 m<|some (D.az [D.agg [ae m 0,ae m 1,ae m 2],e]))))) (af (aS (ur a b) b [c,d,an,f,g,h,i,j,k,l,D.aw 3 ([]:mW)])<|aG<|u8 λa c d e f g h i=>af (uq b [D.agg [a,c,d,e],D.aw 3 (aF i)]) λa=>bG a.flat<|bP a λb=>bQ a λa=>aJ 3 b<|some (D.az [D.agg [ae b 0,ae b 1,ae b 2],a]))))
def jE:Nat->lZ->oX|0,_=>none|n+1,a=>match a with|[a0,aE,a2]=>oO (jE n) n a0 aE a2|_=>none
def Ic:oX:=aJ 4 c<|af (uj a [cn c]) λe=>aL .neq e an (some (D.az [D.agg [bh,an,an],e])) (af (jE a [b,cn c,d]) λa=>bP a λb=>bQ a λa=>aJ 3 b<|some (D.az [D.agg [ae b 0,ae b 1,ae b 2],a]))
def uu:=hx (Ic a)
def Ie:oX:=aJ 8 b<|aJ 4 c<|af (ky a [cn c,ae b 1]) λc=>bP c λe=>bQ c λc=>aJ 4 e<|aL .neq c an (some (D.az [D.agg [bh,an,an],c])) (af (uu a [ae b 0,cn e,d]) λa=>bP a λb=>bQ a λa=>aJ 3 b<|some (D.az [D.agg [ae b 0,ae b 1,ae b 2],a]))
def rQ:=hx (Ie a)
def rR:b0:=fq (λc d e f g h i j k=>bd e λl=>aL .lss c l (af (a8 5 e c) λl=>af (aN false 1 0 l) λl=>af (rM a [l]) λl=>dc (cb .not l) (aT (aT (some (D.az [c,aa 12])))) (af (a8 5 e c) λl=>af (aN false 1 0 l) λl=>af (xQ a [D.agg [d,e,f,g,h,i,j,k],l]) λl=>aK .geq l an λl=>cI l (af (a8 5 e c) λl=>af (aN false 1 0 l) λl=>af (xS a [D.agg [d,e,f,g,h,i,j,k],l]) λa=>aR (aP false .lss a c)) λa=>aV a (aT (aT (some (D.az [c,aa 6])))) (bq c λa=>av [a,d,e,f,g,h,i,j,k]))) (bx [d,e,f,g,h,i,j,k])) l
def x7:b0:=fq (λc d e f g h i j k=>bd e λl=>aL .lss c l (af (CA a [D.agg [d,e,f,g,h,i,j,k],c]) λa=>bO a c λa=>aV a (aT (aT (some (D.az [c,aa 14])))) (bq c λa=>av [a,d,e,f,g,h,i,j,k])) (bx [d,e,f,g,h,i,j,k])) l
def x8:b0:=fq (λc d e f g h i j k=>bd e λl=>aL .lss c l (af (a8 5 e c) λl=>af (aN true 4 1 l) λl=>af (rQ a [D.agg [d,e,f,g,h,i,j,k],l,bh]) λa=>bP a λl=>bQ a λa=>aJ 3 l<|aL .neq a an (aT (aT (some (D.az [c,a])))) (bq c λa=>av [a,d,e,f,g,h,i,j,k])) (bx [])) l
def x9(n:Nat)(a0:D):oX:=aJ 8 a0<|af (aS (rR n) n [an,ae a0 0,ae a0 1,ae a0 2,ae a0 3,ae a0 4,ae a0 5,ae a0 6,ae a0 7])<|aG<|u8 λa b c d e f g h=>af (aS (x7 n) n [an,a,b,c,d,e,f,g,h])<|aG<|u8 λa b c d e f g h=>af (aS (x8 n) n [an,a,b,c,d,e,f,g,h])<|aG λ_=>some (D.az [an,an])
def rS:=cO (x9 a)
def Ig:oX:=aJ 8 b<|aJ 4 c<|af (rQ a [eo b,cn c,d]) λa=>bP a λb=>bQ a λa=>aJ 3 b<|aK .eql a an λc=>cj c (aR (cb .not (ae b 0))) λb=>aV b (some (aa 13)) (some a)
def uv:=hx (Ig a)
def ya:b0:=gQ (λc d e f g h i j k l m=>bd c λn=>aL .lss e n (af (a8 4 c e) λn=>af (aN true 4 0 n) λn=>af (uv a [D.agg [f,g,h,i,j,k,l,m],n,d]) λa=>aL .neq a an (aT (aT (some (D.az [e,a])))) (bq e λa=>av [c,d,a,f,g,h,i,j,k,l,m])) (bx [])) l
def Ih(n:Nat)(a0 aE a2:D):oX:=aJ 8 a0<|af (aS (ya n) n [aE,a2,an,ae a0 0,ae a0 1,ae a0 2,ae a0 3,ae a0 4,ae a0 5,ae a0 6,ae a0 7])<|aG λ_=>some (D.az [an,an])
def qe:=hx (Ih a)
def uw(a:Nat)(b:lZ):iM:=gQ (λa c d e f g h i j k l=>aL .lss d a (af (a8 5 i d) λm=>af (aN false 1 0 m) λm=>af (a8 5 i a) λn=>af (aN false 1 0 n) λn=>aL .eql m n (aT (aT (aT (aT (aT (some (D.az [a,aa 6]))))))) (bq d λd=>av [a,c,d,e,f,g,h,i,j,k,l])) (bx [a,c,e,f,g,h,i,j,k,l])) b
def qf:b0:=fq (λc d e f g h i j k=>bd h λl=>aL .lss c l (af (af (a8 5 h c) λl=>af (aN false 1 0 l) λl=>af (xQ a [D.agg [d,e,f,g,h,i,j,k],l]) λl=>aL .lss l an (aT (aT (aT (some (D.az [c,aa 12]))))) (af (aS (uw a) a [c,l,an,d,e,f,g,h,i,j,k])<|aG<|fb λc d e f g h i j k l=>af (a8 5 i c) λm=>af (aN true 4 1 m) λm=>af (rQ a [D.agg [e,f,g,h,i,j,k,l],m,bh]) λa=>bP a λm=>bQ a λa=>aJ 3 m<|aK .eql a an λn=>cj n (af (a8 4 e d) λd=>af (aN false 1 1 d) λd=>aR (aP true .neq (ae m 0) d)) λd=>af (aV d (av [c,aa 13,e,f,g,h,i,j,k,l]) (av [c,a,e,f,g,h,i,j,k,l]))<|aG<|fb λa c d e f g h i j k=>aL .neq c an (aT (aT (aT (some (D.az [a,c]))))) (av [a,d,e,f,g,h,i,j,k])))<|aG<|fq λa c d e f g h i j=>bq a λa=>av [a,c,d,e,f,g,h,i,j]) (bx [])) l
def Ii(n:Nat)(a0:D):oX:=aJ 8 a0<|af (aS (qf n) n [an,ae a0 0,ae a0 1,ae a0 2,ae a0 3,ae a0 4,ae a0 5,ae a0 6,ae a0 7])<|aG λ_=>some (D.az [an,an])
def yb:=cO (Ii a)
def O4(n:Nat)(a0:D):oX:=af (aL .eql a0 bC (aT (some an)) (aK .eql a0 (aa 2) λj=>af (aV j (av [a0,j]) (aK .eql a0 (aa 6) λk=>af (aV k (av [a0,k]) (aK .eql a0 (aa 7) λv9=>af (aV v9 (av [a0,v9]) (aK .eql a0 (aa 8) λc=>af (aV c (av [a0,c]) (aK .eql a0 (aa 10) λd=>af (aV d (av [a0,d]) (aK .eql a0 (aa 11) λv12=>af (aV v12 (av [a0,v12]) (aK .eql a0 (aa 12) λh=>av [a0,h]))<|aG<|cR λa b=>av [a,b]))<|aG<|cR λa b=>av [a,b]))<|aG<|cR λa b=>av [a,b]))<|aG<|cR λa b=>av [a,b]))<|aG<|cR λa b=>av [a,b]))<|aG<|cR λa b=>aV b (aT (some bC)) (aK .eql a (aa 3) λe=>af (aV e (av [e]) (aK .eql a (aa 4) λf=>af (aV f (av [f]) (aK .eql a (aa 5) λv17=>af (aV v17 (av [v17]) (aK .eql a (aa 9) λg=>af (aV g (av [g]) (aK .eql a (aa 13) λi=>av [i]))<|aG<|cr λa=>av [a]))<|aG<|cr λa=>av [a]))<|aG<|cr λa=>av [a]))<|aG<|cr λa=>aV a (aT (some (aa 2))) (av []))))<|aG λ_=>some (aa (-1))
def yc:=cO (O4 a)
def O5(a:Nat)(b:D):oX:=aJ 4 b<|aK .eql (ae b 0) an λa=>cj a (aR (aP false .eql (ae b 1) an)) λa=>cj a (aR (aP false .eql (ae b 2) (aA ⟨#[]⟩))) λa=>cj a (bd (ae b 3) λa=>aR (aP false .eql a an)) λa=>some a
def CI:=cO (O5 a)
def ux:oX:=aJ 6 b<|af (yc a [ae b 0]) λc=>aL .lss c an (some (aa 11)) (aK .eql (ae b 0) bC λc=>af (aV c (af (uj a [D.agg [ae b 1,ae b 2,ae b 3,ae b 4]]) λc=>aL .neq c an (aT (some c)) (af (ui a [D.agg [ae b 1,ae b 2,ae b 3,ae b 4]]) λc=>bP c λd=>bQ c λc=>bd c λc=>aL .gtr c an (aT (some (aa 24))) (av [ae b 0,ae b 1,ae b 2,ae b 3,ae b 4,ae b 5]))) (av [ae b 0,ae b 1,ae b 2,ae b 3,ae b 4,ae b 5]))<|aG<|hy λb c d e f g=>bd g λg=>af (yc a [b]) λh=>aK .neq g h λg=>af (cu g false (aR (aP false .neq b bC))) λb=>af (cu b true (af (CI a [D.agg [c,d,e,f]]) λa=>aR (cb .not a))) λa=>cI g (aR (dQ b a bh)) λa=>aV a (some (aa 3)) (some an))
def qg:=cO (ux a)
def CJ(a:lZ->oX)(b:Nat)(c:lZ):b0:=fq (λb d e f g h i j k=>bd k λl=>aL .lss e l (af (a8 6 k e) λl=>af (aN true 6 0 l) λl=>bq b λm=>af (a [l,m,d]) λa=>bP a λl=>bQ a λa=>aL .neq l an (aT (aT (some (D.az [l,a])))) (bq e λe=>av [b,a,e,f,g,h,i,j,k])) (bx [d])) c
def Ij(a:lZ->oX)(b:Nat)(c d e:D):oX:=aJ 6 c<|aL .gtr d (aa 64) (some (D.az [aa 17,e])) (af (qg b [D.agg [ae c 0,ae c 1,ae c 2,ae c 3,ae c 4,ae c 5]]) λf=>aL .neq f an (some (D.az [f,e])) (bq e λe=>aL .gtr e (aa 4096) (some (D.az [aa 4,e])) (af (aS (CJ a b) b [d,e,an,ae c 0,ae c 1,ae c 2,ae c 3,ae c 4,ae c 5])<|aG<|cr λa=>some (D.az [an,a]))))
def oP:Nat->lZ->oX|0,_=>none|n+1,a=>match a with|[a0,aE,a2]=>Ij (oP n) n a0 aE a2|_=>none
def O6:oX:=aJ 6 b<|af (oP a [D.agg [ae b 0,ae b 1,ae b 2,ae b 3,ae b 4,ae b 5],bC,an]) λa=>bP a λb=>bQ a λa=>some b
def yd:=cO (O6 a)
def ye(a:lZ->oX)(b:Nat)(c:lZ):b0:=kv (λb d e f g h i j k l m n o p q=>bd q λr=>aL .lss b r (af (a8 6 q b) λr=>af (aN true 6 0 r) λr=>af (a [D.agg [d,e,f,g,h,i,j,k],r]) λa=>aL .neq a an (aT (aT (some a))) (bq b λa=>av [a,d,e,f,g,h,i,j,k,l,m,n,o,p,q])) (bx [])) c
def yf(a:lZ->oX)(n:Nat)(a0 aE:D):oX:=aJ 8 a0<|aJ 6 aE<|aL .eql (ae aE 0) bC (aR (uv n [eo a0,D.agg [ae aE 1,ae aE 2,ae aE 3,ae aE 4],bh])) (af (aS (ye a n) n [an,ae a0 0,ae a0 1,ae a0 2,ae a0 3,ae a0 4,ae a0 5,ae a0 6,ae a0 7,ae aE 0,ae aE 1,ae aE 2,ae aE 3,ae aE 4,ae aE 5])<|aG λ_=>some an)
def oQ:Nat->lZ->oX|0,_=>none|n+1,a=>match a with|[a0,aE]=>yf (oQ n) n a0 aE|_=>none
def uy(a:Nat)(b:lZ):iM:=fb (λa c d e f g h i j k=>aL .lss c a (af (a8 7 k c) λl=>af (aN false 1 0 l) λl=>af (a8 7 k a) λm=>af (aN false 1 0 m) λm=>aL .eql l m (aT (aT (aT (aT (aT (some (D.az [a,aa 6]))))))) (bq c λc=>av [a,c,d,e,f,g,h,i,j,k])) (bx [a,d,e,f,g,h,i,j,k])) b
def qh:b0:=fq (λc d e f g h i j k=>bd k λl=>aL .lss c l (af (af (a8 7 k c) λl=>af (aN false 1 0 l) λl=>af (rM a [l]) λl=>dc (cb .not l) (aT (aT (aT (some (D.az [c,aa 12]))))) (af (aS (uy a) a [c,an,d,e,f,g,h,i,j,k])<|aG<|fq λc d e f g h i j k=>af (a8 7 k c) λl=>af (aN true 6 1 l) λl=>af (yd a [l]) λl=>aK .eql l an λm=>af (aV m (af (a8 7 k c) λm=>af (aN true 6 1 m) λm=>af (oQ a [D.agg [d,e,f,g,h,i,j,k],m]) λa=>av [c,a,d,e,f,g,h,i,j,k]) (av [c,l,d,e,f,g,h,i,j,k]))<|aG<|fb λa c d e f g h i j k=>aL .neq c an (aT (aT (aT (some (D.az [a,c]))))) (av [a,d,e,f,g,h,i,j,k])))<|aG<|fq λa c d e f g h i j=>bq a λa=>av [a,c,d,e,f,g,h,i,j]) (bx [])) l
def Ik(n:Nat)(a0:D):oX:=aJ 8 a0<|af (aS (qh n) n [an,ae a0 0,ae a0 1,ae a0 2,ae a0 3,ae a0 4,ae a0 5,ae a0 6,ae a0 7])<|aG λ_=>some (D.az [an,an])
def yg:=cO (Ik a)
def mq(a:Nat)(b:lZ):b0:=iN (λa c d e f g h i j k l m=>aL .lss a (aa (aF m).length) (cF m a λn=>ct m n λn=>aL .gtr n (aa 64) (bq a λn=>bp n<|aJ 2 (D.agg [n,aa 64])<|aT (aT (some (D.az [D.agg [n,aa 64],aa 18])))) (bq a λa=>av [a,c,d,e,f,g,h,i,j,k,l,aB m])) (bx [c,d,e,f,g,h,i,j,k,l])) b
def gr:b0:=gq (λc d e f g h i j k l m n o=>aL .leq e (aa 8) (af (af (aK .eql e (aa 2) λp=>af (aV p (af (rS a [D.agg [f,g,h,i,j,k,l,m]]) λp=>bP p λq=>bQ p λp=>av [q,p,e,f,g,h,i,j,k,l,m,n,o]) (aK .eql e (aa 3) λp=>af (aV p (af (qe a [D.agg [f,g,h,i,j,k,l,m],h,bh]) λp=>bP p λq=>bQ p λp=>av [q,p,e,f,g,h,i,j,k,l,m,n,o]) (aK .eql e (aa 4) λp=>af (aV p (af (qe a [D.agg [f,g,h,i,j,k,l,m],i,bh]) λp=>bP p λq=>bQ p λp=>av [q,p,e,f,g,h,i,j,k,l,m,n,o]) (aK .eql e (aa 5) λp=>af (aV p (af (yb a [D.agg [f,g,h,i,j,k,l,m]]) λp=>bP p λq=>bQ p λp=>av [q,p,e,f,g,h,i,j,k,l,m,n,o]) (aK .eql e (aa 6) λp=>af (aV p (af (qe a [D.agg [f,g,h,i,j,k,l,m],k,cc]) λp=>bP p λq=>bQ p λp=>av [q,p,e,f,g,h,i,j,k,l,m,n,o]) (aK .eql e (aa 7) λp=>af (aV p (af (qe a [D.agg [f,g,h,i,j,k,l,m],l,bh]) λp=>bP p λq=>bQ p λp=>av [q,p,e,f,g,h,i,j,k,l,m,n,o]) (aK .eql e (aa 8) λp=>af (aV p (af (yg a [D.agg [f,g,h,i,j,k,l,m]]) λa=>bP a λp=>bQ a λa=>av [p,a,e,f,g,h,i,j,k,l,m,n,o]) (av [c,d,e,f,g,h,i,j,k,l,m,n,o]))<|aG<|gq λa c d e f g h i j k l m p=>av [a,c,d,e,f,g,h,i,j,k,l,m,p]))<|aG<|gq λa c d e f g h i j k l m p=>av [a,c,d,e,f,g,h,i,j,k,l,m,p]))<|aG<|gq λa c d e f g h i j k l m p=>av [a,c,d,e,f,g,h,i,j,k,l,m,p]))<|aG<|gq λa c d e f g h i j k l m p=>av [a,c,d,e,f,g,h,i,j,k,l,m,p]))<|aG<|gq λa c d e f g h i j k l m p=>av [a,c,d,e,f,g,h,i,j,k,l,m,p]))<|aG<|gq λa c d e f g h i j k l m p=>av [a,c,d,e,f,g,h,i,j,k,l,m,p]))<|aG<|gq λa c d e f g h i j k l m p=>av [a,c,d,e,f,g,h,i,j,k,l,m,p])<|aG<|gq λa c d e f g h i j k l m p=>aL .neq c an (bp d<|bp a<|aJ 2 (D.agg [d,a])<|aT (aT (aT (some (D.az [D.agg [d,a],c]))))) (av [a,c,d,e,f,g,h,i,j,k,l,m,p]))<|aG<|gq λa c d e f g h i j k l m p=>bq d λd=>av [a,c,d,e,f,g,h,i,j,k,l,m,p]) (bx [n,o])) l
def rT(n:Nat)(a0:D):oX:=aJ 8 a0<|bd (ae a0 0) λb=>bd (ae a0 1) λc=>bd (ae a0 2) λv17=>bd (ae a0 3) λv20=>bd (ae a0 4) λd=>bd (ae a0 5) λv26=>bd (ae a0 6) λe=>bd (ae a0 7) λv32=>bp b<|bp c<|bp v17<|bp v20<|bp d<|bp v26<|bp e<|bp v32<|af (aS (mq n) n [an,ae a0 0,ae a0 1,ae a0 2,ae a0 3,ae a0 4,ae a0 5,ae a0 6,ae a0 7,an,an,D.aw 1 [[b],[c],[v17],[v20],[d],[v26],[e],[v32]]])<|aG<|fb λf g h i j k l m o p=>af (Cr n [f]) λv51=>bP v51 λa=>bQ v51 λv53=>aL .neq v53 an (bp a<|aJ 2 (D.agg [bC,a])<|some (D.az [D.agg [bC,a],v53])) (af (Cv n [D.agg [f,g,h,i,j,k,l,m]]) λv60=>aL .gtr v60 (aa 30) (some (D.az [D.agg [bC,an],aa 18])) (af (aS (gr n) n [a,v53,aa 2,f,g,h,i,j,k,l,m,o,p])<|aG λ_=>some (D.az [D.agg [an,an],an])))
def ly:=cO (rT a)
def yh:b0:=dH (λc d e f=>bd c λg=>aL .lss f g (af (a8 4 c f) λg=>af (aN true 4 0 g) λg=>af (oM a [g]) λa=>aK .mul e a λa=>aL .gtr a d (aT (aT (some bh))) (bq f λe=>av [c,d,a,e])) (bx [])) l
def Il(n:Nat)(a0 aE:D):oX:=af (aS (yh n) n [a0,aE,bC,an])<|aG λ_=>some cc
def uz:=du (Il a)
def uA:oX:=aJ 8 b<|bd (ae b 0) λd=>aK .gtr d (aa 12) λd=>cI d (bd (ae b 1) λd=>bd (ae b 2) λe=>aK .add d e λd=>bd (ae b 3) λe=>aK .add d e λd=>bd (ae b 4) λe=>aK .add d e λd=>bd (ae b 5) λe=>aK .add d e λd=>bd (ae b 6) λe=>aK .add d e λd=>bd (ae b 7) λe=>aK .add d e λd=>aR (aP false .gtr d (aa 40))) λd=>aV d (some bh) (af (ly a [eo b]) λd=>bP d λe=>bQ d λd=>aJ 2 e<|aK .neq d an λf=>cj f (aR (aP false .lss (ae e 1) (aa 64))) λe=>af (cu e false (aR (aP false .eql d an))) λd=>af (cu d true (aR (uz a [ae b 0,c]))) λa=>cI e (aR (dQ d a bh)) λa=>some a)
def qi:=du (uA a)
def CK:b0:=dH (λc d e f=>bd c λg=>aL .lss e g (af (a8 4 c e) λg=>af (aN true 4 0 g) λg=>af (ky a [g,d]) λa=>bP a λg=>bQ a λa=>aJ 4 g<|aL .neq a an (aT (aT (some (D.az [aX,e,a])))) (aJ 4 (cn g)<|bG (bZ ((aF f).length+([[ae g 0,ae g 1,ae g 2,ae g 3]]).length) 56)<|bq e λa=>av [c,d,a,D.aw 4 ((aF f)++[[ae g 0,ae g 1,ae g 2,ae g 3]])])) (bx [D.aw 4 (aF f)])) l
def O7:oX:=af (aS (CK a) a [b,c,an,D.aw 4 ([]:mW)])<|aG<|cr λa=>some (D.az [D.aw 4 (aF a),an,an])
def lz:=du (O7 a)
def uB(a:lZ->oX)(b:Nat)(c:lZ):b0:=kv (λb d e f g h i j k l m n o p q=>bd j λr=>aL .lss d r (af (a8 6 j d) λr=>af (aN true 6 0 r) λr=>af (a [r,b]) λa=>bP a λr=>bQ a λa=>aJ 6 r<|aL .neq a an (aT (aT (some (D.az [D.agg [an,an,an,aA ⟨#[]⟩,aX,aX],a])))) (aJ 6 (D.agg [ae r 0,ae r 1,ae r 2,ae r 3,ae r 4,ae r 5])<|bG (bZ ((aF q).length+([[ae r 0,ae r 1,ae r 2,ae r 3,ae r 4,ae r 5]]).length) 88)<|bq d λa=>av [b,a,e,f,g,h,i,j,k,l,m,n,o,p,D.aw 6 ((aF q)++[[ae r 0,ae r 1,ae r 2,ae r 3,ae r 4,ae r 5]])])) (bx [e,f,g,h,i,j,k,l,m,n,o,p,D.aw 6 (aF q)])) c
def nH(a:lZ->oX)(b:Nat)(c d:D):oX:=aJ 6 c<|aL .eql (ae c 0) bC (af (ky b [D.agg [ae c 1,ae c 2,ae c 3,ae c 4],d]) λe=>bP e λf=>bQ e λe=>aJ 4 f<|aL .neq e an (some (D.az [D.agg [an,an,an,aA ⟨#[]⟩,aX,aX],e])) (aJ 4 (cn f)<|aJ 6 (D.agg [ae c 0,ae f 0,ae f 1,ae f 2,ae f 3,ae c 5])<|some (D.az [D.agg [ae c 0,ae f 0,ae f 1,ae f 2,ae f 3,ae c 5],an]))) (af (aS (uB a b) b [d,an,ae c 0,ae c 1,ae c 2,ae c 3,ae c 4,ae c 5,an,an,an,aA ⟨#[]⟩,aX,aX,D.aw 6 ([]:mW)])<|aG<|gq λa b c d e f g h i j k l m=>bp a<|bp b<|bp c<|bp d<|bp e<|some (D.az [D.agg [a,b,c,d,e,D.aw 6 (aF m)],an]))
def kY:Nat->lZ->oX|0,_=>none|n+1,a=>match a with|[a0,aE]=>nH (kY n) n a0 aE|_=>none
def Im:oX:=aJ 6 b<|af (yd a [D.agg [ae b 0,ae b 1,ae b 2,ae b 3,ae b 4,ae b 5]]) λd=>aL .neq d an (some (D.az [D.agg [an,an,an,aA ⟨#[]⟩,aX,aX],d])) (af (kY a [D.agg [ae b 0,ae b 1,ae b 2,ae b 3,ae b 4,ae b 5],c]) λa=>bP a λb=>bQ a λa=>aJ 6 b<|some (D.az [D.agg [ae b 0,ae b 1,ae b 2,ae b 3,ae b 4,ae b 5],a]))
def uC:=du (Im a)
def uD:b0:=HM (λc d e f g h i j k l m n o p q r s t u w x y z A B C E=>bd h λF=>aL .lss c F (af (a8 5 h c) λF=>af (aN true 4 1 F) λF=>af (ky a [F,e]) λa=>bP a λF=>bQ a λa=>aJ 4 F<|aL .neq a an (bp c<|aJ 2 (D.agg [aa 5,c])<|aT (aT (some (D.az [D.agg [aX,aX,aX,aX,aX,aX,aX,aX],D.agg [aa 5,c],a])))) (af (a8 5 h c) λa=>af (aN false 1 0 a) λa=>bp a<|aJ 4 (cn F)<|aJ 5 (D.agg [a,ae F 0,ae F 1,ae F 2,ae F 3])<|bG (bZ ((aF E).length+([[a,ae F 0,ae F 1,ae F 2,ae F 3]]).length) 72)<|bq c λc=>av [c,d,e,f,g,h,i,j,k,l,m,n,o,p,q,r,s,t,u,w,x,y,z,A,B,C,D.aw 5 ((aF E)++[[a,ae F 0,ae F 1,ae F 2,ae F 3]])])) (bx [d,e,f,g,h,i,j,k,l,m,n,o,p,q,r,s,t,u,w,x,y,z,A,B,C,D.aw 5 (aF E)])) l
def uE:b0:=HM (λc d e f g h i j k l m n o p q r s t u w x y z A B C E=>bd k λF=>aL .lss c F (af (a8 7 k c) λF=>af (aN true 6 1 F) λF=>af (uC a [F,e]) λa=>bP a λF=>bQ a λa=>aJ 6 F<|aL .neq a an (bp c<|aJ 2 (D.agg [aa 8,c])<|aT (aT (some (D.az [D.agg [aX,aX,aX,aX,aX,aX,aX,aX],D.agg [aa 8,c],a])))) (af (a8 7 k c) λa=>af (aN false 1 0 a) λa=>bp a<|aJ 6 (D.agg [ae F 0,ae F 1,ae F 2,ae F 3,ae F 4,ae F 5])<|aJ 7 (D.agg [a,ae F 0,ae F 1,ae F 2,ae F 3,ae F 4,ae F 5])<|bG (bZ ((aF E).length+([[a,ae F 0,ae F 1,ae F 2,ae F 3,ae F 4,ae F 5]]).length) 104)<|bq c λc=>av [c,d,e,f,g,h,i,j,k,l,m,n,o,p,q,r,s,t,u,w,x,y,z,A,B,D.aw 5 (aF C),D.aw 7 ((aF E)++[[a,ae F 0,ae F 1,ae F 2,ae F 3,ae F 4,ae F 5]])])) (bx [l,m,n,o,p,q,r,s,t,u,w,x,y,z,A,B,D.aw 5 (aF C),D.aw 7 (aF E)])) l
def Io:oX:=aJ 8 b<|bG (da (ae b 0))<|aJ 8 (D.agg [ae b 0,aX,aX,aX,aX,aX,aX,aX])<|af (lz a [ae b 2,ae b 1]) λc=>bP c λd=>bQ c λe=>af (eK 2 c) λc=>aL .neq c an (bp e<|aJ 2 (D.agg [aa 3,e])<|some (D.az [D.agg [aX,aX,aX,aX,aX,aX,aX,aX],D.agg [aa 3,e],c])) (bp d<|af (lz a [ae b 3,ae b 1]) λc=>bP c λe=>bQ c λf=>af (eK 2 c) λc=>aL .neq c an (bp f<|aJ 2 (D.agg [aa 4,f])<|some (D.az [D.agg [aX,aX,aX,aX,aX,aX,aX,aX],D.agg [aa 4,f],c])) (bp e<|af (aS (uD a) a [an,ae b 0,ae b 1,ae b 2,ae b 3,ae b 4,ae b 5,ae b 6,ae b 7,aX,aX,aX,aX,aX,aX,aX,aX,an,an,ae b 0,aX,d,e,aX,aX,aX,D.aw 5 []])<|aG<|HL λb c d e f g h i j k l m n o p q r s t u w x y z A B=>af (lz a [g,c]) λy=>bP y λz=>bQ y λC=>af (eK 2 y) λy=>aL .neq y an (bp C<|aJ 2 (D.agg [aa 6,C])<|some (D.az [D.agg [aX,aX,aX,aX,aX,aX,aX,aX],D.agg [aa 6,C],y])) (bp z<|af (lz a [h,c]) λy=>bP y λC=>bQ y λE=>af (eK 2 y) λy=>aL .neq y an (bp E<|aJ 2 (D.agg [aa 7,E])<|some (D.az [D.agg [aX,aX,aX,aX,aX,aX,aX,aX],D.agg [aa 7,E],y])) (bp C<|af (bG (iW A)<|aS (uE a) a [an,b,c,d,e,f,g,h,i,j,k,l,m,n,o,p,q,r,s,t,u,w,x,z,C,D.aw 5 (aF B),D.aw 7 []])<|aG<|B0 λa b c d e f g h i j k l m n o p q r=>aJ 8 (D.agg [k,l,m,n,D.aw 5 (aF q),o,p,D.aw 7 (aF r)])<|some (D.az [D.agg [k,l,m,n,D.aw 5 (aF q),o,p,D.aw 7 (aF r)],D.agg [an,an],an])))))
def yi:=cO (Io a)
def CL:oX:=aJ 8 b<|bd (ae b 1) λc=>aL .eql c an (aJ 8 (eo b)<|some (eo b)) (af (yi a [eo b]) λa=>bP a λb=>bQ a λc=>af (eK 2 a) λa=>aJ 8 b<|aJ 2 c<|aJ 8 (eo b)<|some (eo b))
def oR:=cO (CL a)
def yj:b0:=fb (λc d e f g h i j k l=>bd e λm=>aL .lss d m (af (a8 4 e d) λm=>af (aN true 4 0 m) λm=>af (oM a [m]) λa=>aL .eql a an (aT (aT (some (D.az [an,cc])))) (bq d λa=>av [c,a,e,f,g,h,i,j,k,l])) (bx [c,e,f,g,h,i,j,k,l])) l
def yk:b0:=fb (λc d e f g h i j k l=>bd e λm=>aL .lss d m (af (a8 4 e d) λm=>af (aN true 4 0 m) λm=>af (oM a [m]) λa=>aK .mul c a λa=>aL .gtr a (aa 1073741824) (aT (aT (some (D.az [an,bh])))) (bq d λd=>av [a,d,e,f,g,h,i,j,k,l])) (bx [c])) l
def CM:oX:=aJ 8 b<|af (aS (yj a) a [bC,an,ae b 0,ae b 1,ae b 2,ae b 3,ae b 4,ae b 5,ae b 6,ae b 7])<|aG<|fq λb c d e f g h i j=>af (aS (yk a) a [b,an,c,d,e,f,g,h,i,j])<|aG<|cr λa=>some (D.az [a,cc])
def uF:=cO (CM a)
def yl:N5:=ku (λc d e f g h i j k l m n o p=>af (a8 4 g c) λq=>af (aN true 4 0 q) λq=>af (oM a [q]) λa=>aL .lss f a (cF o e λa=>ct o a λa=>af (jR a) λa=>bG (decide (a.1=1\/a.2=[])&&decide (0<1))<|bG (bZ (([]:mW).length+(a.2).length) 8)<|aK .add d f λq=>bp q<|bG (bZ ((([]:mW)++a.2).length+([[q]]).length) 8)<|bG (da (D.aw 1 ((([]:mW)++a.2)++[[q]])))<|bG (bZ ((aF p).length+([[D.aw 1 ((([]:mW)++a.2)++[[q]])]]).length) 24)<|bq f λf=>av [c,d,e,f,g,h,i,j,k,l,m,n,aB o,D.aw 1 ((aF p)++[[D.aw 1 ((([]:mW)++a.2)++[[q]])]])]) (bx [c,d,e,g,h,i,j,k,l,m,n,aB o,aB p])) l
def ym:iM:=gq (λc d e f g h i j k l m n o=>aL .lss e (aa (aF n).length) (af (af (aS (yl a) a [c,d,e,an,f,g,h,i,j,k,l,m,aB n,aB o])<|aG<|gq λa d e n p q r s t u w x y=>av [a,d,e,n,p,q,r,s,t,u,w,aB x,aB y])<|aG<|gq λa d e n p q r s t u w x y=>bq e λe=>av [a,d,e,n,p,q,r,s,t,u,w,aB x,aB y]) (bx [c,f,g,h,i,j,k,l,m,aB o])) l
def yn:b0:=fb (λc d e f g h i j k l=>bd d λm=>aL .lss c m (af (af (a8 4 d c) λm=>af (aN false 1 2 m) λm=>af (a8 4 d c) λn=>af (aN false 1 1 n) λn=>af (aV n (av [c,an,d,e,f,g,h,i,j,k,aB l]) (av [c,m,d,e,f,g,h,i,j,k,aB l]))<|aG<|gQ λc d e f g h i j k m n=>af (aS (ym a) a [c,d,an,e,f,g,h,i,j,k,m,aB n,D.aw 1 ([]:mW)])<|aG<|fb λa c d e f g h i j k=>av [a,c,d,e,f,g,h,i,j,aB k])<|aG<|fb λa c d e f g h i j k=>bq a λa=>av [a,c,d,e,f,g,h,i,j,aB k]) (bx [aB l])) l
def O8:oX:=aJ 8 b<|af (uF a [eo b]) λd=>bP d λe=>bQ d λd=>af (cb .not d) λd=>cI d (aR (aP false .gtr e c)) λc=>aV c (some aX) (bG (da (D.aw 1 ([]:mW)))<|af (aS (yn a) a [an,ae b 0,ae b 1,ae b 2,ae b 3,ae b 4,ae b 5,ae b 6,ae b 7,D.aw 1 [[D.aw 1 ([]:mW)]]])<|aG<|cr λa=>some (aB a))
def CN:=du (O8 a)
def mr(a:Nat)(b:lZ):b0:=fb (λa c d e f g h i j k=>bd a λl=>aL .lss c l (af (a8 4 d c) λl=>af (aN true 4 0 l) λl=>aJ 4 l<|cj (ae l 1) (bO a c λm=>aR (aP false .neq m an)) λm=>cj m (bO a c λm=>aR (aP false .neq m bC)) λm=>af (cu m false (aR (cb .not (ae l 1)))) λn=>af (cu n true (bO a c λo=>aR (aP false .lss o (ae l 2)))) λo=>af (cu o false (bO a c λp=>aR (aP false .gtr p (ae l 3)))) λl=>af (cu n true (aR (dQ o cc l))) λl=>cI m (aR (dQ n l bh)) λl=>aV l (aT (aT (some bh))) (bq c λc=>av [a,c,d,e,f,g,h,i,j,k])) (bx [])) b
def O9(n:Nat)(a0 aE:D):oX:=aJ 8 a0<|bd aE λb=>bd (ae a0 0) λa=>aL .neq b a (some bh) (af (aS (mr n) n [aE,an,ae a0 0,ae a0 1,ae a0 2,ae a0 3,ae a0 4,ae a0 5,ae a0 6,ae a0 7])<|aG λ_=>some cc)
def yo:=du (O9 a)
def yp(a:lZ->oX)(b:Nat)(c:lZ):b0:=fg (λb d e f g=>bd g λh=>aL .lss b h (af (a8 4 g b) λh=>af (aN true 4 0 h) λh=>dc (a [h]) (aT (aT (some cc))) (bq b λa=>av [a,d,e,f,g])) (bx [])) c
def CO(a:lZ->oX)(n:Nat)(a0:D):oX:=aJ 4 a0<|aL .eql (ae a0 0) (aa 4) (some cc) (af (aS (yp a n) n [an,ae a0 0,ae a0 1,ae a0 2,ae a0 3])<|aG λ_=>some bh)
def nI:Nat->lZ->oX|0,_=>none|n+1,a=>match a with|[a0]=>CO (nI n) n a0|_=>none
def Pa(a:Nat)(b:D):oX:=aV b (some bC) (some an)
def lA:=cO (Pa a)
def CP(a:Nat)(b:D):oX:=aK .lss b (aa (-9007199254740992)) λa=>cI a (aR (aP false .gtr b (aa 9007199254740992))) λa=>some a
def rU:=cO (CP a)
def Pb(a:Nat)(b:D):oX:=af (cb .neg b) λa=>aR (ht true [b,a])
def yq:=cO (Pb a)
def qj(a:lZ->oX)(b:Nat)(c:lZ):b0:=fb (λb d e f g h i j k l=>bd k λm=>aL .lss g m (af (af (a8 4 k g) λm=>af (aN true 4 0 m) λm=>af (a [b,m,d,e]) λa=>bP a λm=>bQ a λa=>dc (cb .not a) (aT (aT (aT (some (D.az [an,bh]))))) (bp m<|bG (bZ ((aF l).length+([[m]]).length) 8)<|aK .eql h (aa 6) λa=>cI a (aR (aP false .eql h (aa 7))) λa=>af (aV a (aK .add f m λa=>av [b,d,e,a,g,h,i,j,k,D.aw 1 ((aF l)++[[m]])]) (av [b,d,e,f,g,h,i,j,k,D.aw 1 ((aF l)++[[m]])]))<|aG<|fb λa b d e g m n o p q=>av [a,b,d,e,g,m,n,o,p,aB q]))<|aG<|fb λa b d e g m n o p q=>bq g λg=>av [a,b,d,e,g,m,n,o,p,aB q]) (bx [f,h,i,j,k,aB l])) c
def ik(a:lZ->oX)(b:Nat)(c d e f:D):oX:=aJ 4 d<|aK .eql (ae d 0) bC λg=>af (aV g (av [c,e,f,ae d 0,g,ae d 0,ae d 1,ae d 2,ae d 3]) (aK .eql (ae d 0) (aa 2) λg=>av [c,e,f,ae d 0,g,ae d 0,ae d 1,ae d 2,ae d 3]))<|aG<|fq λc d e f g h i j k=>aV g (some (D.az [i,cc])) (aK .eql f (aa 3) λg=>af (aV g (av [c,d,e,g,h,i,j,k]) (aK .eql f (aa 4) λf=>av [c,d,e,f,h,i,j,k]))<|aG<|u8 λc d e f g h i j=>aV f (af (uo b [c,i]) λf=>aK .eql g (aa 3) λk=>af (aV k (bO d f λk=>av [c,f,k]) (bO e f λk=>av [c,f,k]))<|aG<|ff λf k l=>af (a8 4 f k) λf=>dc (aN false 1 1 f) (aK .neq l an λf=>af (lA b [f]) λf=>some (D.az [f,cc])) (af (rU b [l]) λf=>af (cb .not f) λf=>some (D.az [l,f]))) (af (aS (qj a b) b [c,d,e,an,an,g,h,i,j,D.aw 1 ([]:mW)])<|aG<|hy λa c d e f g=>af (aK .eql c (aa 5) λd=>af (aV d (cF g an λd=>ct g d λd=>aK .sub bC d λd=>av [d]) (aK .eql c (aa 6) λd=>af (aV d (aK .eql a (aa (aF g).length) λd=>af (lA b [d]) λd=>av [d]) (aK .eql c (aa 7) λd=>af (aV d (aK .gtr a an λa=>af (lA b [a]) λa=>av [a]) (aK .eql c (aa 8) λa=>af (aV a (cF g an λa=>ct g a λa=>aK .eql a an λa=>cI a (cF g bC λa=>ct g a λa=>aR (aP false .eql a bC)) λa=>af (lA b [a]) λa=>av [a]) (aK .eql c (aa 9) λa=>af (aV a (av [an,c,a,aB g]) (aK .eql c (aa 10) λa=>av [an,c,a,aB g]))<|aG<|dH λa c d e=>af (aV d (cF e an λd=>ct e d λd=>cF e bC λf=>ct e f λf=>aK .eql d f λd=>af (lA b [d]) λd=>av [d]) (aK .eql c (aa 11) λd=>af (aV d (cF e an λd=>ct e d λd=>cF e bC λf=>ct e f λf=>aK .neq d f λd=>af (lA b [d]) λd=>av [d]) (aK .eql c (aa 12) λd=>af (aV d (cF e an λd=>ct e d λd=>cF e bC λf=>ct e f λf=>aK .lss d f λd=>af (lA b [d]) λd=>av [d]) (aK .eql c (aa 13) λd=>af (aV d (cF e an λd=>ct e d λd=>cF e bC λf=>ct e f λf=>aK .leq d f λd=>af (lA b [d]) λd=>av [d]) (aK .eql c (aa 14) λd=>af (aV d (cF e an λd=>ct e d λd=>cF e bC λf=>ct e f λf=>aK .add d f λd=>av [d]) (aK .eql c (aa 15) λd=>af (aV d (cF e an λd=>ct e d λd=>cF e bC λf=>ct e f λf=>aK .sub d f λd=>av [d]) (aK .eql c (aa 16) λd=>af (aV d (cF e an λd=>ct e d λd=>aK .neq d an λd=>cj d (cF e bC λd=>ct e d λd=>af (yq b [d]) λd=>cF e an λf=>ct e f λf=>af (yq b [f]) λf=>aK .quo (aa 9007199254740992) f λf=>aR (aP false .gtr d f)) λd=>aV d (aT (aT (aT (aT (aT (aT (aT (aT (aT (aT (aT (aT (some (D.az [an,bh])))))))))))))) (cF e an λd=>ct e d λd=>cF e bC λf=>ct e f λf=>aK .mul d f λd=>av [d])) (aK .eql c (aa 17) λd=>af (aV d (cF e an λd=>ct e d λd=>cF e bC λf=>ct e f λf=>aK .rem d f λd=>cF e bC λf=>ct e f λf=>aK .add d f λd=>cF e bC λf=>ct e f λf=>aK .rem d f λd=>av [d]) (aK .eql c (aa 18) λc=>af (aV c (af (cS (aF e).length (aa 2)) λc=>ct e c λc=>cF e an λd=>ct e d λd=>aK .eql d bC λd=>af (aV d (cF e bC λd=>ct e d λd=>av [d]) (av [c]))<|aG<|cr λc=>av [c]) (av [a]))<|aG<|cr λa=>av [a]))<|aG<|cr λa=>av [a]))<|aG<|cr λa=>av [a]))<|aG<|cr λa=>av [a]))<|aG<|cr λa=>av [a]))<|aG<|cr λa=>av [a]))<|aG<|cr λa=>av [a]))<|aG<|cr λa=>av [a]))<|aG<|cr λa=>av [a]))<|aG<|cr λa=>av [a]))<|aG<|cr λa=>av [a]))<|aG<|cr λa=>av [a]))<|aG<|cr λa=>av [a])<|aG<|cr λa=>af (rU b [a]) λb=>af (cb .not b) λb=>some (D.az [a,b])))
def nJ:Nat->lZ->oX|0,_=>none|n+1,a=>match a with|[a0,aE,a2,a3]=>ik (nJ n) n a0 aE a2 a3|_=>none
def uG:oX:=aJ 4 c<|af (uu a [b,cn c,cc]) λf=>bP f λg=>bQ f λf=>aJ 3 g<|aK .neq f an λf=>cI f (bd d λf=>bd b λg=>aR (aP false .neq f g)) λf=>af (cu f false (aR (nI a [cn c]))) λg=>af (cu g true (bd e λh=>bd b λi=>aR (aP false .neq h i))) λh=>cI f (aR (dQ g h bh)) λf=>aV f (some (D.az [an,bh])) (af (nJ a [b,cn c,d,e]) λa=>bP a λb=>bQ a λa=>dc (cb .not a) (some (D.az [an,bh])) (some (D.az [b,cc])))
def mu:=p2 (uG a)
def yr:b0:=fg (λc d e f g=>bd d λh=>aL .lss g h (af (a8 4 d g) λh=>af (aN true 4 0 h) λh=>af (mu a [c,h,e,f]) λa=>bP a λh=>bQ a λa=>af (cb .not a) λa=>cI a (aR (aP false .neq h bC)) λa=>aV a (aT (aT (some bh))) (bq g λa=>av [c,d,e,f,a])) (bx [])) l
def Ip(n:Nat)(a0 aE a2 a3:D):oX:=af (aS (yr n) n [a0,aE,a2,a3,an])<|aG λ_=>some cc
def qk:=p2 (Ip a)
def Iq:oX:=aJ 8 b<|af (yo a [eo b,c]) λd=>cj d (aR (qk a [ae b 0,ae b 3,c,aX])) λa=>some a
def ql:=du (Iq a)
def ys:b0:=gQ (λc d e f g h i j k l m=>bd c λn=>aL .lss d n (af (bO c d λn=>af (ql a [D.agg [e,f,g,h,i,j,k,l],n]) λa=>af (aV a (bO c d λa=>bp a<|bG (bZ ((aF m).length+([[a]]).length) 24)<|av [c,d,e,f,g,h,i,j,k,l,D.aw 1 ((aF m)++[[a]])]) (av [c,d,e,f,g,h,i,j,k,l,aB m]))<|aG<|gQ λa c d e f g h i j k l=>av [a,c,d,e,f,g,h,i,j,k,aB l])<|aG<|gQ λa c d e f g h i j k l=>bq c λc=>av [a,c,d,e,f,g,h,i,j,k,aB l]) (bx [aB m])) l
def Pc:oX:=aJ 8 b<|af (oR a [eo b]) λb=>aJ 8 b<|af (CN a [eo b,aa 4096]) λc=>af (aS (ys a) a [c,an,ae b 0,ae b 1,ae b 2,ae b 3,ae b 4,ae b 5,ae b 6,ae b 7,D.aw 1 ([]:mW)])<|aG<|cr λa=>some (aB a)
def CQ:=cO (Pc a)
def uH:b0:=gQ (λc d e f g h i j k l m=>bd j λn=>aL .lss e n (af (a8 5 j e) λn=>af (aN true 4 1 n) λn=>af (mu a [f,n,c,aX]) λn=>bP n λo=>bQ n λn=>af (a8 5 j e) λp=>af (aN false 1 0 p) λp=>af (uo a [f,p]) λa=>af (cb .not n) λn=>cI n (aR (aP false .lss a an)) λn=>cI n (bO d a λa=>aR (aP false .neq a o)) λa=>aV a (aT (aT (some bh))) (bq e λa=>av [c,d,a,f,g,h,i,j,k,l,m])) (bx [c,d,f,g,h,i,j,k,l,m])) l
def yt:oX:=aJ 8 b<|af (oR a [eo b]) λb=>aJ 8 b<|af (ql a [eo b,c]) λe=>af (cb .not e) λe=>cI e (af (ql a [eo b,d]) λe=>aR (cb .not e)) λe=>aV e (some bh) (af (aS (uH a) a [c,d,an,ae b 0,ae b 1,ae b 2,ae b 3,ae b 4,ae b 5,ae b 6,ae b 7])<|aG<|u8 λb c d e f g h i=>aR (qk a [d,i,b,c]))
def rV:=hx (yt a)
def Ir:oX:=aJ 8 b<|af (oR a [eo b]) λb=>aJ 8 b<|af (ql a [eo b,c]) λd=>cj d (aR (qk a [ae b 0,ae b 2,c,aX])) λa=>some a
def yu:=du (Ir a)
def CR:b0:=gQ (λc d e f g h i j k l m=>bd k λn=>aL .lss d n (bq d λn=>af (jC 4 k (some d) (some n)) λn=>af (qk a [e,n,c,aX]) λa=>bp a<|bG (bZ ((aF m).length+([[a]]).length) 1)<|bq d λd=>av [c,d,e,f,g,h,i,j,k,l,D.aw 1 ((aF m)++[[a]])]) (bx [aB m])) l
def Pd:oX:=aJ 8 b<|af (oR a [eo b]) λb=>aJ 8 b<|af (aS (CR a) a [c,an,ae b 0,ae b 1,ae b 2,ae b 3,ae b 4,ae b 5,ae b 6,ae b 7,D.aw 1 ([]:mW)])<|aG<|cr λa=>some (aB a)
def CS:=du (Pd a)
def uI:iM:=tN (λc d e f g h i j k l m n o p q r s t u=>bd q λw=>aL .lss d w (af (bO q c λw=>bO q d λx=>af (rV a [D.agg [e,f,g,h,i,j,k,l],w,x]) λa=>af (aV a (bp d<|bG (bZ ((aF r).length+([[d]]).length) 8)<|av [c,d,e,f,g,h,i,j,k,l,m,n,o,p,q,D.aw 1 ((aF r)++[[d]]),aB s,aB t,aB u]) (av [c,d,e,f,g,h,i,j,k,l,m,n,o,p,q,aB r,aB s,aB t,aB u]))<|aG<|tN λa d w x y z A B C E F G H I J K L M N=>av [a,d,w,x,y,z,A,B,C,E,F,G,H,I,J,aB K,aB L,aB M,aB N])<|aG<|tN λa d w x y z A B C E F G H I J K L M N=>bq d λd=>av [a,d,w,x,y,z,A,B,C,E,F,G,H,I,J,aB K,aB L,aB M,aB N]) (bx [c,e,f,g,h,i,j,k,l,m,n,o,p,q,aB r,aB s,aB t,aB u])) l
def uJ:b0:=tM (λc d e f g h i j k l m n o p q r s=>bd p λt=>aL .lss c t (af (af (aS (uI a) a [c,an,d,e,f,g,h,i,j,k,l,m,n,o,p,D.aw 1 [],aB q,aB r,aB s])<|aG<|B0 λc d e f g h i j k t u w x y z A B C=>bG (da (aB z))<|bG (bZ ((aF A).length+([[aB z]]).length) 24)<|bO y c λE=>af (yu a [D.agg [d,e,f,g,h,i,j,k],E]) λE=>af (aV E (bp c<|bG (bZ ((aF B).length+([[c]]).length) 8)<|av [c,d,e,f,g,h,i,j,k,t,u,w,x,y,D.aw 1 ((aF A)++[[aB z]]),D.aw 1 ((aF B)++[[c]]),aB C]) (av [c,d,e,f,g,h,i,j,k,t,u,w,x,y,D.aw 1 ((aF A)++[[aB z]]),aB B,aB C]))<|aG<|tM λc d e f g h i j k t u w x y z A B=>bO y c λC=>af (CS a [D.agg [d,e,f,g,h,i,j,k],C]) λa=>bp a<|bG (bZ ((aF B).length+([[a]]).length) 24)<|av [c,d,e,f,g,h,i,j,k,t,u,w,x,y,aB z,aB A,D.aw 1 ((aF B)++[[a]])])<|aG<|tM λa c d e f g h i j k t u w x y z A=>bq a λa=>av [a,c,d,e,f,g,h,i,j,k,t,u,w,x,aB y,aB z,aB A]) (bx [l,m,n,o,p,aB q,aB r,aB s])) l
def Is:oX:=aJ 8 b<|af (ly a [eo b]) λc=>bP c λd=>bQ c λc=>aJ 2 d<|aL .neq c an (some (D.az [D.agg [aX,aX,aX,aX],c])) (af (uz a [ae b 0,aa 4096]) λc=>dc (cb .not c) (some (D.az [D.agg [aX,aX,aX,aX],aa 18])) (af (yi a [eo b]) λb=>bP b λc=>bQ b λd=>af (eK 2 b) λb=>aJ 8 c<|af (CQ a [eo c]) λb=>bp b<|af (aS (uJ a) a [an,ae c 0,ae c 1,ae c 2,ae c 3,ae c 4,ae c 5,ae c 6,ae c 7,aX,aX,aX,aX,b,D.aw 1 [],D.aw 1 [],D.aw 1 []])<|aG<|u8 λa b c d e f g h=>bp e<|some (D.az [D.agg [e,aB f,aB g,aB h],an])))
def uK:=cO (Is a)
def Pe(a:Nat)(b:D):oX:=aK .geq b (D.val (.int .u8 97)) λa=>cj a (aR (aP false .leq b (D.val (.int .u8 122)))) λa=>af (cu a false (aR (aP false .geq b (D.val (.int .u8 65))))) λc=>af (cu c true (aR (aP false .leq b (D.val (.int .u8 90))))) λb=>cI a (aR (dQ c b bh)) λa=>some a
def yv:=cO (Pe a)
def Pf(a:Nat)(b:D):oX:=aK .geq b (D.val (.int .u8 48)) λa=>cj a (aR (aP false .leq b (D.val (.int .u8 57)))) λa=>some a
def CT:=cO (Pf a)
def Pg:oX:=af (yv a [b]) λc=>cI c (aR (CT a [b])) λa=>cI a (aR (aP false .eql b (D.val (.int .u8 95)))) λa=>some a
def CU:=cO (Pg a)
def yw:b0:=cR (λc d=>af (kO c) λe=>aK .lss d e λe=>cj e (af (l2 c d) λe=>aR (CU a [e])) λa=>aV a (bq d λa=>av [c,a]) (bx [d])) l
def It:oX:=af (aS (yw a) a [b,an])<|aG<|cr λa=>some a
def yx(n:Nat):lZ->oX|[a0,aE]=>bG (rq xu aE) (It n a0)|_=>none
def uL(a:Nat)(b:lZ):b0:=dH (λa c d e=>aL .lss e d (bO a e λf=>aL .eql c f (aT (aT (some e))) (bq e λe=>av [a,c,d,e])) (bx [])) b
def Iu(n:Nat)(a0 aE:D):oX:=bd a0 λa=>af (aS (uL n) n [a0,aE,a,an])<|aG λ_=>some (aa (-1))
def yy:=du (Iu a)
def Ph:oX:=af (yy a [b,c]) λa=>aR (aP false .geq a an)
def CV:=du (Ph a)
def Iv:oX:=aK .neq b (aA ⟨#[]⟩) λc=>cj c (af (kO b) λc=>aR (aP false .leq c (aa 24))) λc=>cj c (af (l2 b an) λc=>aR (yv a [c])) λc=>cj c (af (yx a [b,(D.val (.func (.func xu) #[] #[]))]) λc=>af (kO b) λd=>aR (aP false .eql c d)) λc=>cj c (af (CV a [(D.aw 1 ((xl).map λa=>
[a])),b]) λa=>aR (cb .not a)) λa=>some a
def rW:=cO (Iv a)
def Iw(a:Nat)(b:D)(c:lZ):oX:=aJ 4 b<|af (aN false 1 0 c) λa=>aR (aP false .eql (ae b 0) a)
def yz(n:Nat):lZ->oX|[a0,aE]=>(match aE with| .ref x1 0=>Iw n a0 x1|_=>none)|_=>none
def rX:b0:=dH (λc d e f=>aL .lss f e (af (a8 4 c f) λg=>af (aN true 4 0 g) λg=>dc (yz a [g,d]) (aT (aT (some f))) (bq f λa=>av [c,d,e,a])) (bx [])) l
def Ix(n:Nat)(a0:D)(a:D):oX:=bd a0 λb=>af (aS (rX n) n [a0,a,b,an])<|aG λ_=>some (aa (-1))
def uM(n:Nat):lZ->oX|[a0,aE]=>(match fp nz aE with|some [a]=>Ix n a0 a|_=>none)|_=>none
def Iy:oX:=af (uM a [b,(D.fn (.func nz) [] [c])]) λa=>aR (aP false .geq a an)
def yA(n:Nat):lZ->oX|[a0,aE]=>(match fp nz aE with|some [a]=>Iy n a0 a|_=>none)|_=>none
def rY:b0:=dH (λc d e f=>aL .lss f e (af (a8 4 d f) λg=>af (aN true 4 0 g) λg=>aJ 4 g<|af (ht true [ae g 2,ae g 3]) λh=>aK .gtr h (aa 255) λh=>cI h (af (ht false [ae g 2,ae g 3]) λh=>aR (aP false .lss h (aa (-255)))) λh=>af (rW a [ae g 0]) λi=>dc (cb .not i) (aT (aT (some (D.az [f,aa 12])))) (af (jC 4 c none (some f)) λi=>af (yA a [i,(D.fn (.func nz) [] [D.ref [ae g 0,ae g 1,ae g 2,ae g 3] 0])]) λa=>bG a.flat<|aV a (aT (aT (some (D.az [f,aa 6])))) (af (cu (ae g 1) true (aR (aP false .neq (ae g 2) an))) λa=>af (cu a false (aR (aP false .neq (ae g 3) an))) λi=>cj (ae g 1) (aR (dQ a cc i)) λa=>aV a (aT (aT (some (D.az [f,aa 3])))) (af (cb .not (ae g 1)) λa=>af (cu a true (aR (aP false .gtr (ae g 2) (ae g 3)))) λi=>af (cu i false (some h)) λh=>af (cu a true (aR (dQ i cc h))) λh=>af (cu h false (aK .sub (ae g 3) (ae g 2) λg=>aR (aP false .geq g (aa 64)))) λg=>cj a (aR (dQ h cc g)) λa=>aV a (aT (aT (some (D.az [f,aa 2])))) (bq f λa=>av [c,d,e,a]))))) (bx [])) l
def Pj(n:Nat)(a0:D):oX:=bd a0 λv9=>af (aS (rY n) n [a0,a0,v9,an])<|aG λ_=>some (D.az [an,an])
def uN:=cO (Pj a)
def Pk(a:Nat)(b:D):oX:=aJ 4 b<|aV (ae b 1) (some (aa 2)) (aL .gtr (ae b 2) (ae b 3) (some an) (af (jB .u64 (ae b 3)) λa=>af (jB .u64 (ae b 2)) λb=>aK .sub a b λa=>aL .lss a (D.val (.int .u64 1073741824)) (af (jB .i64 a) λa=>aR (aP false .add a bC)) (some (aa 1073741825))))
def uO:=cO (Pk a)
def CW(a:Nat)(b:lZ):b0:=cR (λa c=>aL .lss c (aa 63) (aK .shl bC c λd=>aL .leq a d (aT (aT (some c))) (bq c λc=>av [a,c])) (bx [])) b
def Pl(n:Nat)(a0:D):oX:=af (aS (CW n) n [a0,an])<|aG λ_=>some (aa 63)
def CX:=cO (Pl a)
def CY:b0:=dH (λc d e f=>aL .lss f e (af (a8 4 d f) λg=>af (aN true 4 0 g) λg=>aJ 4 g<|af (uO a [cn g]) λg=>af (CX a [g]) λa=>aK .add c a λa=>bq f λf=>av [a,d,e,f]) (bx [c])) l
def Pm:oX:=aJ 8 b<|bd (ae b 0) λc=>af (aS (CY a) a [an,ae b 0,c,an])<|aG<|cr λa=>some a
def yB:=cO (Pm a)
def Pn(a:Nat)(b:D):oX:=aR (dK b)
def yC:=cO (Pn a)
def Po(a:Nat)(b:D):oX:=aR (dK b)
def yD:=cO (Po a)
def yE(a:Nat)(b:D):oX:=aJ 3 b<|aR (dK (ae b 1))
def mw:=cO (yE a)
def Pp(a:Nat)(b:D):oX:=aR (dK b)
def yG:=cO (Pp a)
def Pq(a:Nat)(b:D):oX:=aR (dK b)
def yH:=cO (Pq a)
def Pr(a:Nat)(b:D):oX:=aR (dK b)
def yI:=cO (Pr a)
def CZ(a:Nat)(b:D)(c:lZ):oX:=aJ 7 b<|af (aN false 1 0 c) λa=>aR (aP false .eql (ae b 0) a)
def C0(n:Nat):lZ->oX|[a0,aE]=>(match aE with| .ref x1 0=>CZ n a0 x1|_=>none)|_=>none
def yJ:b0:=dH (λc d e f=>aL .lss f e (af (a8 7 c f) λg=>af (aN true 7 0 g) λg=>dc (C0 a [g,d]) (aT (aT (some f))) (bq f λa=>av [c,d,e,a])) (bx [])) l
def yK(n:Nat)(a0:D)(a:D):oX:=bd a0 λb=>af (aS (yJ n) n [a0,a,b,an])<|aG λ_=>some (aa (-1))
def uP(n:Nat):lZ->oX|[a0,aE]=>(match fp mm aE with|some [a]=>yK n a0 a|_=>none)|_=>none
def C1:oX:=af (uP a [b,(D.fn (.func mm) [] [c])]) λa=>aR (aP false .geq a an)
def uQ(n:Nat):lZ->oX|[a0,aE]=>(match fp mm aE with|some [a]=>C1 n a0 a|_=>none)|_=>none
def yL(a:Nat)(b:lZ):mh:=ff (λa c d=>aK .gtr c an λe=>cj e (aK .sub c bC λe=>cF d e λe=>ct d e λe=>aR (aP false .gtr e a)) λe=>aV e (aK .sub c bC λe=>av [a,e,aB d]) (bx [a,c,aB d])) b
def qm:ji:=cR (λc d=>af (aS (yL a) a [c,aa (aF d).length,aB d])<|aG<|ff λa c d=>aK .gtr c an λe=>cj e (aK .sub c bC λe=>cF d e λe=>ct d e λe=>aR (aP false .eql e a)) λe=>aV e (some [aB d]) (bG (bZ ((aF d).length+([[aA ⟨#[]⟩]]).length) 16)<|bq c λe=>af (h5 ((aF d)++[[aA ⟨#[]⟩]]).length (some e) none) λe=>af (h5 ((aF d)++[[aA ⟨#[]⟩]]).length (some c) none) λf=>bG (decide (f.1+f.2<=((aF d)++[[aA ⟨#[]⟩]]).length))<|bG (decide (e.1+e.2<=((aF d)++[[aA ⟨#[]⟩]]).length))<|af (cS (((aF d)++[[aA ⟨#[]⟩]]).take e.1++((((aF d)++[[aA ⟨#[]⟩]]).drop f.1).take f.2).take (min ((((aF d)++[[aA ⟨#[]⟩]]).drop f.1).take f.2).length e.2)++((aF d)++[[aA ⟨#[]⟩]]).drop (e.1+(min ((((aF d)++[[aA ⟨#[]⟩]]).drop f.1).take f.2).length e.2))).length c) λc=>bp a<|af ((((aF d)++[[aA ⟨#[]⟩]]).take e.1++((((aF d)++[[aA ⟨#[]⟩]]).drop f.1).take f.2).take (min ((((aF d)++[[aA ⟨#[]⟩]]).drop f.1).take f.2).length e.2)++((aF d)++[[aA ⟨#[]⟩]]).drop (e.1+(min ((((aF d)++[[aA ⟨#[]⟩]]).drop f.1).take f.2).length e.2)))[c]?) λg=>some [D.aw 1 ((((aF d)++[[aA ⟨#[]⟩]]).take e.1++((((aF d)++[[aA ⟨#[]⟩]]).drop f.1).take f.2).take (min ((((aF d)++[[aA ⟨#[]⟩]]).drop f.1).take f.2).length e.2)++((aF d)++[[aA ⟨#[]⟩]]).drop (e.1+(min ((((aF d)++[[aA ⟨#[]⟩]]).drop f.1).take f.2).length e.2))).set c (er g 0 [a]))])) l
def rZ:ji:=dH (λc d e f=>aJ 4 c<|af (aK .eql (ae c 0) (aa 3) λd=>af (aV d (af (qm a [ae c 2,aB e]) λd=>av [aB (bz d 0),aB f]) (aK .eql (ae c 0) (aa 4) λd=>af (aV d (af (qm a [ae c 2,aB f]) λa=>av [aB e,aB (bz a 0)]) (av [aB e,aB f]))<|aG<|cR λa c=>av [aB a,aB c]))<|aG<|cR λa c=>av [aB a,aB c])<|aG<|cR λa c=>some [cc,aB a,aB c]) l
def C2(a:lZ->oY)(b:Nat)(c:lZ):mh:=hy (λb d e f g h=>aL .lss f e (af (a8 4 d f) λi=>af (aN true 4 0 i) λi=>aJ 4 i<|bq b λj=>af (a [cn i,j,g,h]) λa=>dc (cb .not (bz a 0)) (aT (aT (some [bh,bz a 1,bz a 2]))) (bq f λf=>av [b,d,e,f,bz a 1,bz a 2])) (bx [g,h])) c
def Iz(a:lZ->oY)(b:Nat)(c:lZ):ji:=dH (λd e f g=>aJ 4 d<|af (xv b [cn d,e,f,g]) λf=>dc (cb .not (bz f 0)) (some [bh,bz f 1,bz f 2]) (bd (ae d 3) λg=>af (aS (C2 a b) b [e,ae d 3,g,an,bz f 1,bz f 2])<|aG<|cR λa b=>some [cc,a,b])) c
def oS:Nat->lZ->oY|0,_=>none|n+1,l=>Iz (oS n) n l
def Ps:oX:=aJ 4 b<|af (oS a [cn b,bC,an,an]) λa=>some (bz a 2)
def qn:=cO (Ps a)
def C3(a:lZ->oY)(b:Nat)(c:lZ):mh:=hy (λb d e f g h=>aL .lss f e (af (a8 4 d f) λi=>af (aN true 4 0 i) λi=>aJ 4 i<|bq b λj=>af (a [cn i,j,aB g,aB h]) λa=>dc (cb .not (bz a 0)) (aT (aT (some [bh,aB (bz a 1),aB (bz a 2)]))) (bq f λf=>av [b,d,e,f,aB (bz a 1),aB (bz a 2)])) (bx [aB g,aB h])) c
def IA(a:lZ->oY)(b:Nat)(c:lZ):ji:=dH (λd e f g=>aJ 4 d<|af (rZ b [cn d,e,aB f,aB g]) λf=>dc (cb .not (bz f 0)) (some [bh,aB (bz f 1),aB (bz f 2)]) (bd (ae d 3) λg=>af (aS (C3 a b) b [e,ae d 3,g,an,aB (bz f 1),aB (bz f 2)])<|aG<|cR λa b=>some [cc,aB a,aB b])) c
def oT:Nat->lZ->oY|0,_=>none|n+1,l=>IA (oT n) n l
def Pt:oX:=aJ 4 b<|af (oT a [cn b,bC,D.aw 1 [],D.aw 1 []]) λa=>some (D.az [aB (bz a 1),aB (bz a 2)])
def qo:=cO (Pt a)
def C4:oX:=aJ 6 b<|aL .neq (ae b 0) bC (some an) (af (qn a [D.agg [ae b 1,ae b 2,ae b 3,ae b 4]]) λc=>aL .neq c an (some c) (af (qo a [D.agg [ae b 1,ae b 2,ae b 3,ae b 4]]) λa=>bP a λb=>bQ a λa=>bd a λa=>aL .gtr a an (some (aa 24)) (some an)))
def uR:=cO (C4 a)
def Pu(n:Nat)(a0:D):oX:=af (aL .eql a0 bC (aT (some an)) (aK .eql a0 (aa 3) λk=>af (aV k (av [a0,k]) (aK .eql a0 (aa 4) λl=>af (aV l (av [a0,l]) (aK .eql a0 (aa 5) λv9=>af (aV v9 (av [a0,v9]) (aK .eql a0 (aa 9) λc=>af (aV c (av [a0,c]) (aK .eql a0 (aa 13) λi=>av [a0,i]))<|aG<|cR λa b=>av [a,b]))<|aG<|cR λa b=>av [a,b]))<|aG<|cR λa b=>av [a,b]))<|aG<|cR λa b=>aV b (aT (some (aa 2))) (aK .eql a (aa 2) λd=>af (aV d (av [d]) (aK .eql a (aa 6) λe=>af (aV e (av [e]) (aK .eql a (aa 7) λf=>af (aV f (av [f]) (aK .eql a (aa 8) λg=>af (aV g (av [g]) (aK .eql a (aa 10) λv17=>af (aV v17 (av [v17]) (aK .eql a (aa 11) λh=>af (aV h (av [h]) (aK .eql a (aa 12) λj=>av [j]))<|aG<|cr λa=>av [a]))<|aG<|cr λa=>av [a]))<|aG<|cr λa=>av [a]))<|aG<|cr λa=>av [a]))<|aG<|cr λa=>av [a]))<|aG<|cr λa=>aV a (aT (some bC)) (av []))))<|aG λ_=>some (aa (-1))
def C5:=cO (Pu a)
def yM:ji:=dH (λc d e f=>aJ 6 c<|bq e λe=>bp e<|aK .eql (ae c 1) an λg=>cj g (aR (aP false .eql (ae c 2) an)) λg=>cj g (aR (aP false .eql (ae c 3) (aA ⟨#[]⟩))) λg=>cj g (bd (ae c 4) λg=>aR (aP false .eql g an)) λg=>af (uR a [D.agg [ae c 0,ae c 1,ae c 2,ae c 3,ae c 4,ae c 5]]) λh=>af (C5 a [ae c 0]) λa=>af (aK .gtr d (aa 64) λd=>af (aV d (av [aa 17,e]) (aK .lss a an λd=>af (aV d (av [aa 11,e]) (aK .neq h an λd=>af (aV d (bp h<|av [h,e]) (bd (ae c 5) λd=>aK .neq d a λa=>af (cu a false (aR (aP false .neq (ae c 0) bC))) λc=>af (cu c true (aR (cb .not g))) λd=>cI a (aR (dQ c d bh)) λa=>af (aV a (av [aa 3,e]) (aK .gtr e (aa 4096) λa=>af (aV a (av [aa 4,e]) (av [f,e]))<|aG<|cR λa c=>av [a,c]))<|aG<|cR λa c=>av [a,c]))<|aG<|cR λa c=>av [a,c]))<|aG<|cR λa c=>av [a,c]))<|aG<|cR λa c=>av [a,c])<|aG<|cR λa c=>aK .eql a an λd=>some [d,c,a]) l
def C6(a:lZ->oY)(b:Nat)(c:lZ):mh:=hy (λb d e f g h=>aL .lss f e (af (a8 6 d f) λi=>af (aN true 6 0 i) λi=>aJ 6 i<|bq b λj=>af (a [D.agg [ae i 0,ae i 1,ae i 2,ae i 3,ae i 4,ae i 5],j,g,h]) λa=>dc (cb .not (bz a 0)) (aT (aT (some [bh,bz a 1,bz a 2]))) (bq f λf=>av [b,d,e,f,bz a 1,bz a 2])) (bx [g,h])) c
def IB(a:lZ->oY)(b:Nat)(c:lZ):ji:=dH (λd e f g=>aJ 6 d<|af (yM b [D.agg [ae d 0,ae d 1,ae d 2,ae d 3,ae d 4,ae d 5],e,f,g]) λf=>dc (cb .not (bz f 0)) (some [bh,bz f 1,bz f 2]) (bd (ae d 5) λg=>af (aS (C6 a b) b [e,ae d 5,g,an,bz f 1,bz f 2])<|aG<|cR λa b=>some [cc,a,b])) c
def oU:Nat->lZ->oY|0,_=>none|n+1,l=>IB (oU n) n l
def Pv:oX:=aJ 6 b<|af (oU a [D.agg [ae b 0,ae b 1,ae b 2,ae b 3,ae b 4,ae b 5],bC,an,an]) λa=>some (bz a 2)
def oV:=cO (Pv a)
def yN(a:Nat)(b:lZ):b0:=dH (λa c d e=>aL .lss d c (af (af (a8 5 a d) λf=>af (aN true 5 0 f) λf=>aJ 5 f<|af (gA (.string) (.int .i64 0) true (dJ e) (ae f 0)) λg=>bP g λh=>bQ g λg=>af (cb .not g) λg=>af (aV g (af (lf (.string) (dJ e) (ae f 0) d) λf=>av [a,c,d,D.mp f]) (av [a,c,d,D.mp (dJ e)]))<|aG<|dH λa c d f=>av [a,c,d,D.mp (dJ f)])<|aG<|dH λa c d f=>bq d λd=>av [a,c,d,D.mp (dJ f)]) (bx [D.mp (dJ e)])) b
def Pw:oX:=bd b λc=>af (aS (yN a) a [b,c,an,D.mp []])<|aG<|cr λa=>some (D.mp (dJ a))
def r0:=cO (Pw a)
def yO(a:Nat)(b:lZ):iM:=fq (λa c d e f g h i j=>aL .lss h g (af (bO f h λk=>af (iX a) λl=>af (gA (.string) (.int .i64 0) true l k) λk=>bP k λl=>bQ k λk=>af (aV k (bp l<|bG (bZ ((aF j).length+([[l]]).length) 8)<|av [a,c,d,e,f,g,h,aB i,D.aw 1 ((aF j)++[[l]])]) (av [a,c,d,e,f,g,h,aB i,aB j]))<|aG<|fq λf g h k l m n o p=>av [f,g,h,k,l,m,n,aB o,aB p])<|aG<|fq λf g h k l m n o p=>bq n λn=>av [f,g,h,k,l,m,n,aB o,aB p]) (bx [a,c,d,e,aB i,aB j])) b
def C7:b0:=fg (λc d e f g=>aL .lss f e (af (af (a8 5 d f) λh=>af (aN true 5 0 h) λh=>aJ 5 h<|af (qo a [D.agg [ae h 1,ae h 2,ae h 3,ae h 4]]) λh=>bP h λi=>bQ h λh=>bd i λh=>af (aS (yO a) a [c,d,e,f,i,h,an,aB g,D.aw 1 []])<|aG<|hy λa c d e f h=>bG (da (aB h))<|bG (bZ ((aF f).length+([[aB h]]).length) 24)<|av [a,c,d,e,D.aw 1 ((aF f)++[[aB h]])])<|aG<|fg λa c d e f=>bq e λe=>av [a,c,d,e,aB f]) (bx [aB g])) l
def Px:oX:=af (r0 a [b]) λc=>bd b λd=>af (aS (C7 a) a [c,b,d,an,D.aw 1 []])<|aG<|cr λa=>some (aB a)
def yP:=cO (Px a)
def yQ(a:lZ->oY)(b:Nat)(c:lZ):mh:=fg (λb d e f g=>aL .lss e d (af (bO b e λh=>af (gA (.int .i64) (.bool false) false (dJ g) h) λi=>af (cb .not i) λi=>af (aV i (af (lf (.int .i64) (dJ g) h cc) λi=>af (a [h,f,D.mp i]) λa=>av [b,d,e,bz a 1,D.mp (dJ (bz a 2))]) (av [b,d,e,f,D.mp (dJ g)]))<|aG<|fg λa b d e h=>av [a,b,d,e,D.mp (dJ h)])<|aG<|fg λa b d e h=>bq d λd=>av [a,b,d,e,D.mp (dJ h)]) (bx [f,D.mp (dJ g)])) c
def C8(a:lZ->oY)(b:Nat)(c:lZ):ji:=ff (λd e f=>bO e d λd=>bd d λg=>af (aS (yQ a b) b [d,g,an,e,D.mp (dJ f)])<|aG<|cR λa b=>some [D.az [],a,D.mp (dJ b)]) c
def mx:Nat->lZ->oY|0,_=>none|n+1,l=>C8 (mx n) n l
def C9:mh:=fg (λc d e f g=>aL .lss e d (bO c e λh=>af (mx a [h,g,D.mp (dJ f)]) λa=>bq e λe=>av [c,d,e,D.mp (dJ (bz a 2)),bz a 1]) (bx [D.mp (dJ f)])) l
def yR:ji:=cR (λc d=>bp c<|bd d λe=>af (aS (C9 a) a [d,e,an,D.mp [],c])<|aG<|cr λa=>some [D.mp (dJ a)]) l
def Da:b0:=fg (λc d e f g=>aL .lss e d (bO c e λh=>af (mx a [h,g,D.mp (dJ f)]) λa=>bq e λe=>av [c,d,e,D.mp (dJ (bz a 2)),bz a 1]) (bx [D.mp (dJ f)])) l
def Py:oX:=bp b<|bd c λd=>af (aS (Da a) a [c,d,an,D.mp [],b])<|aG<|cr λa=>some (D.mp (dJ a))
def uS:=du (Py a)
def yS(a:lZ->oY)(b:Nat)(c:lZ):mh:=iN (λa b d e f g h i j k l m=>aL .eql f (aa 3) (af (iX b) λn=>af (gA (.string) (.int .i64 0) true n h) λn=>bP n λo=>bQ n λn=>dc (cb .not n) (bx [a,e,f,g,h,i,j,k,l,m,b,d]) (af (a8 5 d o) λn=>af (aN true 4 1 n) λn=>aJ 4 n<|av [a,b,d,e,ae n 0,ae n 1,ae n 2,ae n 3,j,k,l,m])) (bx [a,e,f,g,h,i,j,k,l,m,b,d])) c
def uT(a:lZ->oY)(b:Nat)(c:lZ):mh:=u16 (λb d e f g h i j k l m n o p q r=>aL .lss f e (af (af (a8 4 d f) λs=>af (aN true 4 0 s) λs=>aJ 4 s<|aK .leq b (aa 64) λt=>cj t (aR (aP false .leq g (aa 4096))) λt=>af (aV t (bq b λt=>af (a [cn s,t,q,r,g]) λa=>cF p f λs=>aJ 4 (bz a 0)<|af (aF p)[s]? λt=>av [b,d,e,f,bz a 3,h,i,j,k,l,m,n,o,D.aw 4 ((aF p).set s (er t 0 [ae (bz a 0) 0,ae (bz a 0) 1,ae (bz a 0) 2,ae (bz a 0) 3])),bz a 1,bz a 2]) (av [b,d,e,f,g,h,i,j,k,l,m,n,o,D.aw 4 (aF p),q,r]))<|aG<|u16 λa b d e f s t u w x y z A B C E=>av [a,b,d,e,f,s,t,u,w,x,y,z,A,D.aw 4 (aF B),C,E])<|aG<|u16 λa b d e f s t u w x y z A B C E=>bq e λe=>av [a,b,d,e,f,s,t,u,w,x,y,z,A,D.aw 4 (aF B),C,E]) (bx [h,i,j,k,l,m,n,o,D.aw 4 (aF p),q,r,g])) c
def yU(a:lZ->oY)(b:Nat)(c:lZ):ji:=fg (λd e f g h=>aJ 4 d<|af (aS (yS a b) b [e,f,g,h,ae d 0,ae d 1,ae d 2,ae d 3,an,an,aA ⟨#[]⟩,aX])<|aG<|iN λd e f g h i j k l m n o=>bq e λe=>bp e<|bd i λp=>aL .eql p an (aJ 4 (D.agg [f,g,h,i])<|some [D.agg [f,g,h,i],n,o,e]) (bd i λp=>af (fm 56 p p) λp=>bd i λq=>af (aS (uT a b) b [d,i,q,an,e,f,g,h,i,j,k,l,m,D.aw 4 (List.replicate p [D.val (.int .i64 0),D.val (.int .i64 0),D.val (.string ⟨#[]⟩),aX]),n,o])<|aG<|iN λa b d e f g h i j k l m=>bG (da (D.aw 4 (aF j)))<|aJ 4 (D.agg [a,b,d,D.aw 4 (aF j)])<|some [D.agg [a,b,d,D.aw 4 (aF j)],k,l,m])) c
def nK:Nat->lZ->oY|0,_=>none|n+1,l=>yU (nK n) n l
def Pz:oX:=aJ 4 b<|bp c<|af (r0 a [c]) λd=>bp d<|af (nK a [cn b,bC,d,c,an]) λa=>aJ 4 (bz a 0)<|some (cn (bz a 0))
def yV:=du (Pz a)
def uU(a:Nat)(b:lZ):b0:=kv (λa c d e f g h i j k l m n o p=>aL .lss g f (af (bO e g λq=>af (iX c) λr=>af (gA (.string) (.int .i64 0) true r q) λq=>bP q λr=>bQ q λq=>af (aV q (bp r<|bG (bZ ((aF p).length+([[r]]).length) 8)<|av [a,c,d,e,f,g,h,i,j,k,l,m,n,o,D.aw 1 ((aF p)++[[r]])]) (av [a,c,d,e,f,g,h,i,j,k,l,m,n,o,aB p]))<|aG<|kv λc e f g q r s t u w x y z A B=>av [c,e,f,g,q,r,s,t,u,w,x,y,z,A,aB B])<|aG<|kv λc e f g q r s t u w x y z A B=>bq r λr=>av [c,e,f,g,q,r,s,t,u,w,x,y,z,A,aB B]) (bx [a,d,h,i,j,k,l,m,n,o,aB p])) b
def Db(a:Nat)(b:lZ):b0:=ku (λa c d e f g h i j k l m n o=>aL .lss f e (bO d f λp=>af (lf (.int .i64) (dJ o) p cc) λp=>bq f λf=>av [a,c,d,e,f,g,h,i,j,k,l,m,n,D.mp p]) (bx [a,c,g,h,i,j,k,l,m,n,D.mp (dJ o)])) b
def r1:b0:=gq (λc d e f g h i j k l m n o=>aL .lss f e (af (gA (.int .i64) (.bool false) false (dJ o) f) λp=>cj p (bp f<|af (uS a [d,D.aw 1 [[f]]]) λa=>af (iX a) λa=>aR (gA (.int .i64) (.bool false) false a f)) λa=>aV a (aT (aT (some (D.az [D.agg [an,an,aA ⟨#[]⟩,aX],aa 14])))) (bq f λa=>av [c,d,e,a,g,h,i,j,k,l,m,n,D.mp (dJ o)])) (bx [c,g,h,i,j,k,l,m,n])) l
def yW:oX:=aJ 4 b<|af (qn a [cn b]) λd=>aL .neq d an (some (D.az [D.agg [an,an,aA ⟨#[]⟩,aX],d])) (af (r0 a [c]) λd=>af (yP a [c]) λe=>af (qo a [cn b]) λf=>bP f λg=>bQ f λf=>bd g λf=>af (aS (uU a) a [c,d,e,g,f,an,ae b 0,ae b 1,ae b 2,ae b 3,an,an,aA ⟨#[]⟩,aX,D.aw 1 []])<|aG<|gQ λb c d e f g h i j k l=>af (yR a [c,aB l]) λm=>bd (aB l) λn=>af (aS (Db a) a [b,c,aB l,n,an,d,e,f,g,h,i,j,k,D.mp (dJ (bz m 0))])<|aG<|gQ λb c d e f g h i j k l=>bd b λm=>af (aS (r1 a) a [b,c,m,an,d,e,f,g,h,i,j,k,D.mp (dJ l)])<|aG<|fg λb c d e f=>af (yV a [D.agg [c,d,e,f],b]) λb=>aJ 4 b<|af (qn a [cn b]) λa=>aL .neq a an (some (D.az [D.agg [an,an,aA ⟨#[]⟩,aX],a])) (aJ 4 (cn b)<|some (D.az [cn b,an])))
def kz:=du (yW a)
def IC:oX:=aJ 4 c<|af (qn a [cn c]) λe=>aL .neq e an (some (D.az [D.agg [bh,an,an],e])) (af (xx a [b]) λe=>af (nB a [b,e,cn c,d]) λa=>bP a λb=>bQ a λa=>aJ 3 b<|some (D.az [D.agg [ae b 0,ae b 1,ae b 2],a]))
def r2:=hx (IC a)
def ID:oX:=aJ 8 b<|aJ 4 c<|af (kz a [cn c,ae b 1]) λc=>bP c λe=>bQ c λc=>aJ 4 e<|aL .neq c an (some (D.az [D.agg [bh,an,an],c])) (af (r2 a [ae b 0,cn e,d]) λa=>bP a λb=>bQ a λa=>aJ 3 b<|some (D.az [D.agg [ae b 0,ae b 1,ae b 2],a]))
def r3:=hx (ID a)
def IE:oX:=aJ 8 b<|aJ 4 c<|af (r3 a [eo b,cn c,d]) λa=>bP a λb=>bQ a λa=>aJ 3 b<|aK .eql a an λc=>cj c (aR (cb .not (ae b 0))) λb=>aV b (some (aa 13)) (some a)
def uV:=hx (IE a)
def yX(a:lZ->oX)(b:Nat)(c:lZ):b0:=gQ (λb d e f g h i j k l m=>aL .lss e d (af (a8 6 b e) λn=>af (aN true 6 0 n) λn=>aJ 6 n<|af (a [D.agg [f,g,h,i,j,k,l,m],D.agg [ae n 0,ae n 1,ae n 2,ae n 3,ae n 4,ae n 5]]) λa=>aL .neq a an (aT (aT (some a))) (bq e λa=>av [b,d,a,f,g,h,i,j,k,l,m])) (bx [])) c
def yY(a:lZ->oX)(n:Nat)(a0 aE:D):oX:=aJ 8 a0<|aJ 6 aE<|aL .eql (ae aE 0) bC (aR (uV n [eo a0,D.agg [ae aE 1,ae aE 2,ae aE 3,ae aE 4],bh])) (bd (ae aE 5) λv17=>af (aS (yX a n) n [ae aE 5,v17,an,ae a0 0,ae a0 1,ae a0 2,ae a0 3,ae a0 4,ae a0 5,ae a0 6,ae a0 7])<|aG λ_=>some an)
def oW:Nat->lZ->oX|0,_=>none|n+1,a=>match a with|[a0,aE]=>yY (oW n) n a0 aE|_=>none
def yZ:oX:=aJ 8 c<|af (a8 7 b d) λe=>af (aN false 1 0 e) λe=>bp e<|af (rW a [e]) λf=>dc (cb .not f) (some (aa 12)) (af (jC 7 b none (some d)) λf=>af (uQ a [f,(D.fn (.func mm) [] [D.ref [e] 0])]) λe=>bG e.flat<|aV e (some (aa 6)) (af (a8 7 b d) λe=>af (aN true 6 1 e) λe=>af (oV a [e]) λe=>aL .neq e an (some e) (af (a8 7 b d) λb=>af (aN true 6 1 b) λb=>aR (oW a [eo c,b]))))
def o0:=hx (yZ a)
def Dc(a:Nat)(b:D)(c:lZ):oX:=aJ 4 b<|af (aN false 1 0 c) λa=>aR (aP false .eql (ae b 0) a)
def Dd(n:Nat):lZ->oX|[a0,aE]=>(match aE with| .ref x1 0=>Dc n a0 x1|_=>none)|_=>none
def y0:b0:=dH (λc d e f=>aL .lss f e (af (a8 4 c f) λg=>af (aN true 4 0 g) λg=>dc (Dd a [g,d]) (aT (aT (some f))) (bq f λa=>av [c,d,e,a])) (bx [])) l
def y1(n:Nat)(a0:D)(a:D):oX:=bd a0 λb=>af (aS (y0 n) n [a0,a,b,an])<|aG λ_=>some (aa (-1))
def uW(n:Nat):lZ->oX|[a0,aE]=>(match fp tR aE with|some [a]=>y1 n a0 a|_=>none)|_=>none
def De(a:Nat)(b:D)(c:lZ):oX:=aJ 5 b<|af (aN false 1 0 c) λa=>aR (aP false .eql (ae b 0) a)
def Df(n:Nat):lZ->oX|[a0,aE]=>(match aE with| .ref x1 0=>De n a0 x1|_=>none)|_=>none
def y2:b0:=dH (λc d e f=>aL .lss f e (af (a8 5 c f) λg=>af (aN true 5 0 g) λg=>dc (Df a [g,d]) (aT (aT (some f))) (bq f λa=>av [c,d,e,a])) (bx [])) l
def y3(n:Nat)(a0:D)(a:D):oX:=bd a0 λb=>af (aS (y2 n) n [a0,a,b,an])<|aG λ_=>some (aa (-1))
def uX(n:Nat):lZ->oX|[a0,aE]=>(match fp ml aE with|some [a]=>y3 n a0 a|_=>none)|_=>none
def Dg:oX:=af (uX a [b,(D.fn (.func ml) [] [c])]) λa=>aR (aP false .geq a an)
def uY(n:Nat):lZ->oX|[a0,aE]=>(match fp ml aE with|some [a]=>Dg n a0 a|_=>none)|_=>none
def Dh:oX:=aJ 8 c<|af (a8 5 b d) λe=>af (aN false 1 0 e) λe=>bp e<|af (uW a [ae c 0,(D.fn (.func tR) [] [D.ref [e] 0])]) λf=>bG f.flat<|aL .lss f an (some (aa 12)) (af (jC 5 b none (some d)) λg=>af (uY a [g,(D.fn (.func ml) [] [D.ref [e] 0])]) λe=>bG e.flat<|aV e (some (aa 6)) (af (a8 5 b d) λb=>af (aN true 4 1 b) λb=>af (r3 a [eo c,b,bh]) λa=>bP a λb=>bQ a λa=>aJ 3 b<|aK .eql a an λd=>cj d (af (a8 4 (ae c 0) f) λc=>af (aN false 1 1 c) λc=>aR (aP true .neq (ae b 0) c)) λb=>aV b (some (aa 13)) (some a)))
def qp:=hx (Dh a)
def PA:oX:=aJ 3 b<|aJ 8 c<|af (a8 4 (ae b 1) d) λd=>af (aN true 4 0 d) λd=>aR (uV a [eo c,d,ae b 2])
def u0:=hx (PA a)
def PB:oX:=aJ 8 c<|af (a8 5 b d) λb=>af (aN true 4 1 b) λb=>af (r3 a [eo c,b,bh]) λa=>bP a λb=>bQ a λa=>aJ 3 b<|some a
def u1:=hx (PB a)
def Di(a:Nat)(b:D)(c:lZ):oX:=aJ 5 b<|af (aN false 1 0 c) λa=>aR (aP false .eql (ae b 0) a)
def Dj(n:Nat):lZ->oX|[a0,aE]=>(match aE with| .ref x1 0=>Di n a0 x1|_=>none)|_=>none
def y4:b0:=dH (λc d e f=>aL .lss f e (af (a8 5 c f) λg=>af (aN true 5 0 g) λg=>dc (Dj a [g,d]) (aT (aT (some f))) (bq f λa=>av [c,d,e,a])) (bx [])) l
def y5(n:Nat)(a0:D)(a:D):oX:=bd a0 λb=>af (aS (y4 n) n [a0,a,b,an])<|aG λ_=>some (aa (-1))
def u2(n:Nat):lZ->oX|[a0,aE]=>(match fp tQ aE with|some [a]=>y5 n a0 a|_=>none)|_=>none
def r4:iM:=gP (λc d e f g h i=>aL .lss g f (af (bO e g λj=>bp j<|af (u2 a [c,(D.fn (.func tQ) [] [D.ref [j] 0])]) λa=>bG a.flat<|aK .geq a an λj=>cj j (cF h a λj=>ct h j λj=>aR (cb .not j)) λj=>af (aV j (cF h a λj=>af (aF h)[j]? λk=>bp a<|bG (bZ ((aF i).length+([[a]]).length) 8)<|av [c,d,e,f,g,D.aw 1 ((aF h).set j (er k 0 [cc])),D.aw 1 ((aF i)++[[a]])]) (av [c,d,e,f,g,aB h,aB i]))<|aG<|gP λa e f g j k l=>av [a,e,f,g,j,aB k,aB l])<|aG<|gP λa e f g j k l=>bq j λj=>av [a,e,f,g,j,aB k,aB l]) (bx [c,d,aB h,aB i])) l
def Dk:b0:=dH (λc d e f=>aL .gtr (aa (aF f).length) an (af (cF f an λg=>ct f g λg=>af (a8 5 c g) λg=>af (aN true 4 1 g) λg=>af (qo a [g]) λg=>bP g λh=>bQ g λg=>bd h λg=>af (aS (r4 a) a [c,d,h,g,an,aB e,aB f])<|aG<|dH λa c f g=>av [a,c,aB f,aB g])<|aG<|dH λa c f g=>af (h5 (aF g).length (some bC) none) λh=>bG (decide (h.1+h.2<=(aF g).length))<|av [a,c,aB f,D.aw 1 (((aF g).drop h.1).take h.2)]) (bx [d,aB e])) l
def PC:oX:=aJ 8 c<|bd b λc=>af (fm 1 c c) λc=>bp d<|af (aS (Dk a) a [b,d,D.aw 1 (List.replicate c [bh]),D.aw 1 [[d]]])<|aG<|cR λa b=>cF b a λa=>ct b a λa=>aV a (some (aa 14)) (some an)
def u3:=hx (PC a)
def Dl(a:Nat)(b:D)(c:lZ):oX:=aJ 4 b<|af (aN false 1 0 c) λa=>aR (aP false .eql (ae b 0) a)
def Dm(n:Nat):lZ->oX|[a0,aE]=>(match aE with| .ref x1 0=>Dl n a0 x1|_=>none)|_=>none
def y6:b0:=dH (λc d e f=>aL .lss f e (af (a8 4 c f) λg=>af (aN true 4 0 g) λg=>dc (Dm a [g,d]) (aT (aT (some f))) (bq f λa=>av [c,d,e,a])) (bx [])) l
def y7(n:Nat)(a0:D)(a:D):oX:=bd a0 λb=>af (aS (y6 n) n [a0,a,b,an])<|aG λ_=>some (aa (-1))
def u4(n:Nat):lZ->oX|[a0,aE]=>(match fp mi aE with|some [a]=>y7 n a0 a|_=>none)|_=>none
def Dn:oX:=af (u4 a [b,(D.fn (.func mi) [] [c])]) λa=>aR (aP false .geq a an)
def u5(n:Nat):lZ->oX|[a0,aE]=>(match fp mi aE with|some [a]=>Dn n a0 a|_=>none)|_=>none
def Dp(a:Nat)(b:D)(c:lZ):oX:=aJ 5 b<|af (aN false 1 0 c) λa=>aR (aP false .eql (ae b 0) a)
def Dq(n:Nat):lZ->oX|[a0,aE]=>(match aE with| .ref x1 0=>Dp n a0 x1|_=>none)|_=>none
def y8:b0:=dH (λc d e f=>aL .lss f e (af (a8 5 c f) λg=>af (aN true 5 0 g) λg=>dc (Dq a [g,d]) (aT (aT (some f))) (bq f λa=>av [c,d,e,a])) (bx [])) l
def y9(n:Nat)(a0:D)(a:D):oX:=bd a0 λb=>af (aS (y8 n) n [a0,a,b,an])<|aG λ_=>some (aa (-1))
def u6(n:Nat):lZ->oX|[a0,aE]=>(match fp mj aE with|some [a]=>y9 n a0 a|_=>none)|_=>none
def Dr:oX:=af (u6 a [b,(D.fn (.func mj) [] [c])]) λa=>aR (aP false .geq a an)
def u7(n:Nat):lZ->oX|[a0,aE]=>(match fp mj aE with|some [a]=>Dr n a0 a|_=>none)|_=>none
def za:oX:=aJ 8 c<|af (a8 5 b d) λe=>af (aN false 1 0 e) λe=>bp e<|af (rW a [e]) λf=>dc (cb .not f) (some (aa 12)) (af (u5 a [ae c 0,(D.fn (.func mi) [] [D.ref [e] 0])]) λc=>bG c.flat<|af (aV c (av [c]) (af (jC 5 b none (some d)) λb=>af (u7 a [b,(D.fn (.func mj) [] [D.ref [e] 0])]) λa=>bG a.flat<|av [a]))<|aG<|cr λa=>aV a (some (aa 6)) (some an))
def o1:=hx (za a)
def PD(a:Nat)(b:D):oX:=some (aa 8)
def Ds:=cO (PD a)
def PE(a:Nat)(b:D):oX:=some (aa 5)
def Dt:=cO (PE a)
def PF(a:Nat)(b:D):oX:=aJ 3 b<|some (ae b 0)
def Du:=cO (PF a)
def PG(a:Nat)(b:D):oX:=some (aa 2)
def Dv:=cO (PG a)
def PH(a:Nat)(b:D):oX:=some (aa 2)
def Dw:=cO (PH a)
def PI(a:Nat)(b:D):oX:=some (aa 2)
def Dx:=cO (PI a)
def my(a:Nat)(b:lZ):b0:=iN (λa c d e f g h i j k l m=>aL .lss c (aa 8) (af (cS 8 c) λn=>af (iE false 1 (n*1) a) λn=>aL .gtr n (aa 64) (aK .add bC c λn=>bp n<|aJ 2 (D.agg [n,aa 64])<|aT (aT (some (D.az [D.agg [n,aa 64],aa 18])))) (bq c λc=>av [a,c,d,e,f,g,h,i,j,k,l,m])) (bx [d,e,f,g,h,i,j,k,l,m])) b
def fs:iM:=kv (λc d e f g h i j k l m n o p q=>aL .lss g f (af (tl c) λr=>af (en r.1 166 (o1 a [r.2,D.agg [h,i,j,k,l,m,n,o],g]) (en r.1 167 (u3 a [r.2,D.agg [h,i,j,k,l,m,n,o],g]) (en r.1 168 (u1 a [r.2,D.agg [h,i,j,k,l,m,n,o],g]) (en r.1 170 (u0 a [r.2,D.agg [h,i,j,k,l,m,n,o],g]) (en r.1 171 (qp a [r.2,D.agg [h,i,j,k,l,m,n,o],g]) (en r.1 172 (o0 a [r.2,D.agg [h,i,j,k,l,m,n,o],g]) (none))))))) λr=>aL .neq r an (af (tl c) λs=>af (en s.1 166 (Dx a [s.2]) (en s.1 167 (Dw a [s.2]) (en s.1 168 (Dv a [s.2]) (en s.1 170 (Du a [s.2]) (en s.1 171 (Dt a [s.2]) (en s.1 172 (Ds a [s.2]) (none))))))) λa=>bp a<|bp g<|aJ 2 (D.agg [a,g])<|aT (aT (aT (aT (aT (some (D.az [D.agg [a,g],r]))))))) (bq g λa=>av [c,d,e,f,a,h,i,j,k,l,m,n,o,p,q])) (bx [d,e,h,i,j,k,l,m,n,o,p,q])) l
def fh:b0:=iN (λc d e f g h i j k l m n=>aL .lss d (aa 9) (af (af (cS 9 d) λo=>af (iE false 1 (o*1) c) λo=>af (tl o) λp=>af (en p.1 166 (yI a [p.2]) (en p.1 167 (yH a [p.2]) (en p.1 168 (yG a [p.2]) (en p.1 170 (mw a [p.2]) (en p.1 171 (yD a [p.2]) (en p.1 172 (yC a [p.2]) (none))))))) λp=>af (aS (fs a) a [o,c,d,p,an,e,f,g,h,i,j,k,l,m,n])<|aG<|iN λa c d e f g h i j k l o=>av [a,c,d,e,f,g,h,i,j,k,l,o])<|aG<|iN λa c d e f g h i j k l o=>bq c λc=>av [a,c,d,e,f,g,h,i,j,k,l,o]) (bx [m,n])) l
def r5(n:Nat)(a0:D):oX:=aJ 8 a0<|bd (ae a0 0) λb=>bd (ae a0 1) λv17=>bd (ae a0 2) λv20=>bd (ae a0 3) λc=>bd (ae a0 4) λv26=>bd (ae a0 5) λd=>bd (ae a0 6) λv32=>bd (ae a0 7) λv35=>bp b<|bp v17<|bp v20<|bp c<|bp v26<|bp d<|bp v32<|bp v35<|af (aS (my n) n [D.agg [b,v17,v20,c,v26,d,v32,v35],an,ae a0 0,ae a0 1,ae a0 2,ae a0 3,ae a0 4,ae a0 5,ae a0 6,ae a0 7,an,an])<|aG<|fb λl a f g j h i k m o=>af (uN n [l]) λv50=>bP v50 λv51=>bQ v50 λe=>aL .neq e an (bp v51<|aJ 2 (D.agg [bC,v51])<|some (D.az [D.agg [bC,v51],e])) (af (yB n [D.agg [l,a,f,g,j,h,i,k]]) λv59=>aL .gtr v59 (aa 30) (some (D.az [D.agg [bC,an],aa 18])) (bp f<|bp g<|bp h<|bp i<|bG (da (D.cP 166 a))<|bG (da (D.cP 167 a))<|bG (da (D.cP 168 a))<|bG (da (D.cP 170 (D.agg [aa 3,f,bh])))<|bG (da (D.cP 170 (D.agg [aa 4,g,bh])))<|bG (da (D.cP 171 j))<|bG (da (D.cP 170 (D.agg [aa 6,h,cc])))<|bG (da (D.cP 170 (D.agg [aa 7,i,bh])))<|bG (da (D.cP 172 k))<|af (aS (fh n) n [D.agg [D.cP 166 a,D.cP 167 a,D.cP 168 a,D.cP 170 (D.agg [aa 3,f,bh]),D.cP 170 (D.agg [aa 4,g,bh]),D.cP 171 j,D.cP 170 (D.agg [aa 6,h,cc]),D.cP 170 (D.agg [aa 7,i,bh]),D.cP 172 k],an,l,a,f,g,j,h,i,k,m,o])<|aG λ_=>some (D.az [D.agg [an,an],an])))
def kA:=cO (r5 a)
def zb:b0:=fg (λc d e f g=>aL .lss g f (af (af (a8 4 e g) λh=>af (aN true 4 0 h) λh=>aJ 4 h<|af (uO a [cn h]) λa=>cI d (aR (aP false .eql a an)) λh=>aK .leq c (aa 1073741824) λi=>af (aV i (af (ht true [a,bC]) λa=>aK .mul c a λa=>av [a,h,e,f,g]) (av [c,h,e,f,g]))<|aG<|fg λa e f g h=>av [a,e,f,g,h])<|aG<|fg λa e f g h=>bq h λh=>av [a,e,f,g,h]) (bx [c,d])) l
def Dy:oX:=aJ 8 b<|bd (ae b 0) λc=>af (aS (zb a) a [bC,bh,ae b 0,c,an])<|aG<|cR λa b=>aV b (some (D.az [an,cc])) (aL .gtr a (aa 1073741824) (some (D.az [an,bh])) (some (D.az [a,cc])))
def u9:=cO (Dy a)
def Dz:b0:=fg (λc d e f g=>aL .lss f e (af (a8 4 d f) λh=>af (aN true 4 0 h) λh=>aJ 4 h<|af (kz a [cn h,c]) λa=>bP a λh=>bQ a λa=>aJ 4 h<|aL .neq a an (aT (aT (some (D.az [aX,f,a])))) (aJ 4 (cn h)<|bG (bZ ((aF g).length+([[ae h 0,ae h 1,ae h 2,ae h 3]]).length) 56)<|bq f λa=>av [c,d,e,a,D.aw 4 ((aF g)++[[ae h 0,ae h 1,ae h 2,ae h 3]])])) (bx [D.aw 4 (aF g)])) l
def PJ:oX:=bd b λd=>af (aS (Dz a) a [c,b,d,an,D.aw 4 []])<|aG<|cr λa=>some (D.az [D.aw 4 (aF a),an,an])
def lB:=du (PJ a)
def DA:b0:=fg (λc d e f g=>aL .lss f e (af (a8 5 d f) λh=>af (aN true 5 0 h) λh=>aJ 5 h<|af (kz a [D.agg [ae h 1,ae h 2,ae h 3,ae h 4],c]) λa=>bP a λi=>bQ a λa=>aJ 4 i<|aL .neq a an (aT (aT (some (D.az [aX,f,a])))) (bG (da (ae h 0))<|aJ 4 (cn i)<|aJ 5 (D.agg [ae h 0,ae i 0,ae i 1,ae i 2,ae i 3])<|bG (bZ ((aF g).length+([[ae h 0,ae i 0,ae i 1,ae i 2,ae i 3]]).length) 72)<|bq f λa=>av [c,d,e,a,D.aw 5 ((aF g)++[[ae h 0,ae i 0,ae i 1,ae i 2,ae i 3]])])) (bx [D.aw 5 (aF g)])) l
def PK:oX:=bd b λd=>af (aS (DA a) a [c,b,d,an,D.aw 5 []])<|aG<|cr λa=>some (D.az [D.aw 5 (aF a),an,an])
def vb:=du (PK a)
def vc(a:lZ->oY)(b:Nat)(c:lZ):mh:=tM (λb d e f g h i j k l m n o p q r s=>aL .lss e d (af (a8 6 b e) λt=>af (aN true 6 0 t) λt=>aJ 6 t<|af (a [D.agg [ae t 0,ae t 1,ae t 2,ae t 3,ae t 4,ae t 5],s]) λa=>af (eK 0 (bz a 0)) λt=>af (eK 1 (bz a 0)) λu=>aJ 6 t<|aL .neq u an (aT (aT (some [D.az [D.agg [an,an,an,aA ⟨#[]⟩,aX,aX],u],bz a 1]))) (aJ 6 (D.agg [ae t 0,ae t 1,ae t 2,ae t 3,ae t 4,ae t 5])<|bG (bZ ((aF r).length+([[ae t 0,ae t 1,ae t 2,ae t 3,ae t 4,ae t 5]]).length) 88)<|bq e λe=>av [b,d,e,f,g,h,i,j,k,l,m,n,o,p,q,D.aw 6 ((aF r)++[[ae t 0,ae t 1,ae t 2,ae t 3,ae t 4,ae t 5]]),bz a 1])) (bx [f,g,h,i,j,k,l,m,n,o,p,q,D.aw 6 (aF r),s])) c
def nL(a:lZ->oY)(b:Nat)(c:lZ):ji:=cR (λd e=>aJ 6 d<|aL .eql (ae d 0) bC (af (kz b [D.agg [ae d 1,ae d 2,ae d 3,ae d 4],e]) λf=>bP f λg=>bQ f λf=>aJ 4 g<|aL .neq f an (some [D.az [D.agg [an,an,an,aA ⟨#[]⟩,aX,aX],f],e]) (bG (da (ae d 0))<|aJ 4 (cn g)<|aJ 6 (D.agg [ae d 0,ae g 0,ae g 1,ae g 2,ae g 3,aX])<|some [D.az [D.agg [ae d 0,ae g 0,ae g 1,ae g 2,ae g 3,aX],an],e])) (bd (ae d 5) λf=>af (aS (vc a b) b [ae d 5,f,an,ae d 0,ae d 1,ae d 2,ae d 3,ae d 4,ae d 5,an,an,an,aA ⟨#[]⟩,aX,aX,D.aw 6 [],e])<|aG<|ku λa b d e f g h i j k l m n o=>bp a<|aJ 6 (D.agg [a,an,an,aA ⟨#[]⟩,aX,D.aw 6 (aF n)])<|some [D.az [D.agg [a,an,an,aA ⟨#[]⟩,aX,D.aw 6 (aF n)],an],o])) c
def kZ:Nat->lZ->oY|0,_=>none|n+1,l=>nL (kZ n) n l
def IF:oX:=aJ 6 b<|bp c<|af (oV a [D.agg [ae b 0,ae b 1,ae b 2,ae b 3,ae b 4,ae b 5]]) λd=>aL .neq d an (some (D.az [D.agg [an,an,an,aA ⟨#[]⟩,aX,aX],d])) (af (kZ a [D.agg [ae b 0,ae b 1,ae b 2,ae b 3,ae b 4,ae b 5],c]) λa=>af (eK 0 (bz a 0)) λb=>af (eK 1 (bz a 0)) λa=>aJ 6 b<|some (D.az [D.agg [ae b 0,ae b 1,ae b 2,ae b 3,ae b 4,ae b 5],a]))
def vd:=du (IF a)
def DB:b0:=fg (λc d e f g=>aL .lss f e (af (a8 7 d f) λh=>af (aN true 7 0 h) λh=>aJ 7 h<|af (vd a [D.agg [ae h 1,ae h 2,ae h 3,ae h 4,ae h 5,ae h 6],c]) λa=>bP a λi=>bQ a λa=>aJ 6 i<|aL .neq a an (aT (aT (some (D.az [aX,f,a])))) (bG (da (ae h 0))<|aJ 6 (D.agg [ae i 0,ae i 1,ae i 2,ae i 3,ae i 4,ae i 5])<|aJ 7 (D.agg [ae h 0,ae i 0,ae i 1,ae i 2,ae i 3,ae i 4,ae i 5])<|bG (bZ ((aF g).length+([[ae h 0,ae i 0,ae i 1,ae i 2,ae i 3,ae i 4,ae i 5]]).length) 104)<|bq f λa=>av [c,d,e,a,D.aw 7 ((aF g)++[[ae h 0,ae i 0,ae i 1,ae i 2,ae i 3,ae i 4,ae i 5]])])) (bx [D.aw 7 (aF g)])) l
def PL:oX:=bd b λd=>af (aS (DB a) a [c,b,d,an,D.aw 7 []])<|aG<|cr λa=>some (D.az [D.aw 7 (aF a),an,an])
def ve:=du (PL a)
def IG:oX:=aJ 8 b<|bG (da (ae b 0))<|af (lB a [ae b 2,ae b 1]) λc=>bP c λd=>bQ c λe=>af (eK 2 c) λc=>bp d<|bp e<|aL .neq c an (bp e<|aJ 2 (D.agg [aa 3,e])<|some (D.az [D.agg [aX,aX,aX,aX,aX,aX,aX,aX],D.agg [aa 3,e],c])) (af (lB a [ae b 3,ae b 1]) λc=>bP c λe=>bQ c λf=>af (eK 2 c) λc=>bp e<|bp f<|aL .neq c an (bp f<|aJ 2 (D.agg [aa 4,f])<|some (D.az [D.agg [aX,aX,aX,aX,aX,aX,aX,aX],D.agg [aa 4,f],c])) (af (vb a [ae b 4,ae b 1]) λc=>bP c λf=>bQ c λg=>af (eK 2 c) λc=>bp f<|bp g<|aL .neq c an (bp g<|aJ 2 (D.agg [aa 5,g])<|some (D.az [D.agg [aX,aX,aX,aX,aX,aX,aX,aX],D.agg [aa 5,g],c])) (af (lB a [ae b 5,ae b 1]) λc=>bP c λg=>bQ c λh=>af (eK 2 c) λc=>bp g<|bp h<|aL .neq c an (bp h<|aJ 2 (D.agg [aa 6,h])<|some (D.az [D.agg [aX,aX,aX,aX,aX,aX,aX,aX],D.agg [aa 6,h],c])) (af (lB a [ae b 6,ae b 1]) λc=>bP c λh=>bQ c λi=>af (eK 2 c) λc=>bp h<|bp i<|aL .neq c an (bp i<|aJ 2 (D.agg [aa 7,i])<|some (D.az [D.agg [aX,aX,aX,aX,aX,aX,aX,aX],D.agg [aa 7,i],c])) (af (ve a [ae b 7,ae b 1]) λa=>bP a λc=>bQ a λi=>af (eK 2 a) λa=>bp c<|bp i<|aL .neq a an (bp i<|aJ 2 (D.agg [aa 8,i])<|some (D.az [D.agg [aX,aX,aX,aX,aX,aX,aX,aX],D.agg [aa 8,i],a])) (aJ 8 (D.agg [ae b 0,aX,d,e,f,g,h,c])<|some (D.az [D.agg [ae b 0,aX,d,e,f,g,h,c],D.agg [an,an],an])))))))
def DC:=cO (IG a)
def zc(a:Nat)(b:lZ):ji:=cr (λa=>dc (Ba .eql a aX) (some [D.aw 1 []]) (af (jR a) λa=>bG (decide (a.1=1\/a.2=[])&&decide (0<1))<|bG (bZ (([]:mW).length+(a.2).length) 8)<|some [D.aw 1 (([]:mW)++a.2)])) b
def zd:N5:=kv (λc d e f g h i j k l m n o p q=>aL .lss k j (af (zc a [d]) λa=>aK .add c k λr=>bp r<|bG (bZ ((aF (bz a 0)).length+([[r]]).length) 8)<|bG (da (D.aw 1 ((aF (bz a 0))++[[r]])))<|bG (bZ ((aF p).length+([[D.aw 1 ((aF (bz a 0))++[[r]])]]).length) 24)<|bq k λk=>av [c,d,e,f,g,h,i,j,k,l,m,n,o,D.aw 1 ((aF p)++[[D.aw 1 ((aF (bz a 0))++[[r]])]]),aB q]) (bx [c,e,f,g,h,i,l,m,n,o,aB p,aB q])) l
def ze:iM:=iN (λc d e f g h i j k l m n=>aL .lss h g (af (cF n h λo=>ct n o λo=>af (uO a [D.agg [i,j,k,l]]) λp=>af (aS (zd a) a [c,o,d,e,f,g,h,p,an,i,j,k,l,aB m,aB n])<|aG<|iN λa c g h i j k l n o p q=>av [a,c,g,h,i,j,k,l,n,o,aB p,aB q])<|aG<|iN λa c g h i j k l n o p q=>bq j λj=>av [a,c,g,h,i,j,k,l,n,o,aB p,aB q]) (bx [d,e,f,aB m])) l
def zf:b0:=dH (λc d e f=>aL .lss e d (af (af (a8 4 c e) λg=>af (aN true 4 0 g) λg=>aJ 4 g<|af (aV (ae g 1) (av [an,c,d,e,aB f,ae g 0,ae g 1,ae g 2,ae g 3]) (av [ae g 2,c,d,e,aB f,ae g 0,ae g 1,ae g 2,ae g 3]))<|aG<|fq λc d e g h i j k l=>af (aS (ze a) a [c,d,e,g,aa (aF h).length,an,i,j,k,l,D.aw 1 [],aB h])<|aG<|dH λa c d e=>av [a,c,d,aB e])<|aG<|dH λa c d e=>bq d λd=>av [a,c,d,aB e]) (bx [aB f])) l
def PM:oX:=bd b λc=>af (aS (zf a) a [b,c,an,D.aw 1 [[aX]]])<|aG<|cr λa=>some (aB a)
def DD(n:Nat):lZ->oX|[a0]=>PM n a0|_=>none
def vf(d:D):D:=match d with| .val (.slice none 0 0)=> .aw 1 []|d=>d
def zg:D->oX| .aw k es=>if es.all (λe=>(e.map vf).all D.one)=true then some (.aw k (es.map λe=>e.map vf))else none|_=>none
def zh(n:Nat)(a:lZ):oX:=match DD n a with|some r=>zg r|none=>none
def DE:oX:=bp b<|aJ 4 c<|bp d<|bp e<|af (r2 a [b,cn c,cc]) λf=>bP f λg=>bQ f λf=>aJ 3 g<|aK .neq f an λf=>cI f (bd d λf=>bd b λg=>aR (aP false .neq f g)) λf=>aV f (some (D.az [an,bh])) (af (xx a [b]) λf=>bp f<|af (oK a [cn c,d,f,e,b]) λa=>af (eK 0 (bz a 0)) λb=>af (eK 1 (bz a 0)) λa=>some (D.az [b,a]))
def nM:=p2 (DE a)
def PN:oX:=aJ 8 b<|aJ 4 c<|af (nM a [ae b 0,cn c,d,e]) λa=>bP a λb=>bQ a λa=>cj a (aR (aP false .neq b an)) λa=>some a
def zi:=p2 (PN a)
def zj:b0:=gq (λc d e f g h i j k l m n o=>aL .lss g f (af (a8 4 e g) λp=>af (aN true 4 0 p) λp=>aJ 4 p<|af (zi a [D.agg [h,i,j,k,l,m,n,o],cn p,c,d]) λa=>dc (cb .not a) (aT (aT (some bh))) (bq g λa=>av [c,d,e,f,a,h,i,j,k,l,m,n,o])) (bx [])) l
def IH(n:Nat)(a0 aE a2 a3:D):oX:=aJ 8 a0<|bd aE λv12=>af (aS (zj n) n [a2,a3,aE,v12,an,ae a0 0,ae a0 1,ae a0 2,ae a0 3,ae a0 4,ae a0 5,ae a0 6,ae a0 7])<|aG λ_=>some cc
def r6:=p2 (IH a)
def DF(a:Nat)(b:D)(c:lZ):oX:=aJ 4 b<|af (aN false 1 0 c) λa=>aR (aP false .eql (ae b 0) a)
def DG(n:Nat):lZ->oX|[a0,aE]=>(match aE with| .ref x1 0=>DF n a0 x1|_=>none)|_=>none
def zk:b0:=dH (λc d e f=>aL .lss f e (af (a8 4 c f) λg=>af (aN true 4 0 g) λg=>dc (DG a [g,d]) (aT (aT (some f))) (bq f λa=>av [c,d,e,a])) (bx [])) l
def zl(n:Nat)(a0:D)(a:D):oX:=bd a0 λb=>af (aS (zk n) n [a0,a,b,an])<|aG λ_=>some (aa (-1))
def vg(n:Nat):lZ->oX|[a0,aE]=>(match fp tP aE with|some [a]=>zl n a0 a|_=>none)|_=>none
def DH:b0:=gq (λc d e f g h i j k l m n o=>aL .lss f e (af (a8 5 d f) λp=>af (aN true 5 0 p) λp=>aJ 5 p<|af (nM a [g,D.agg [ae p 1,ae p 2,ae p 3,ae p 4],c,aX]) λq=>bP q λr=>bQ q λq=>dc (cb .not q) (aT (aT (some (D.az [aX,bh])))) (af (vg a [g,(D.fn (.func tP) [] [D.ref [ae p 0,ae p 1,ae p 2,ae p 3,ae p 4] 0])]) λa=>bG a.flat<|bp a<|bp r<|aJ 2 (D.agg [a,r])<|bG (bZ ((aF o).length+([[a,r]]).length) 16)<|bq f λf=>av [c,d,e,f,g,h,i,j,k,l,m,n,D.aw 2 ((aF o)++[[a,r]])])) (bx [D.aw 2 (aF o)])) l
def PO:oX:=aJ 8 b<|bd (ae b 4) λd=>af (aS (DH a) a [c,ae b 4,d,an,ae b 0,ae b 1,ae b 2,ae b 3,ae b 4,ae b 5,ae b 6,ae b 7,D.aw 2 []])<|aG<|cr λa=>some (D.az [D.aw 2 (aF a),cc])
def DI:=du (PO a)
def DJ(a:Nat)(b:D)(c:lZ):oX:=aJ 2 b<|af (aN false 1 0 c) λa=>bO a (ae b 0) λa=>aR (aP false .neq a (ae b 1))
def DK(n:Nat):lZ->oX|[a0,aE]=>(match aE with| .ref x1 0=>DJ n a0 x1|_=>none)|_=>none
def zm:b0:=dH (λc d e f=>aL .lss f e (af (a8 2 c f) λg=>af (aN true 2 0 g) λg=>dc (DK a [g,d]) (aT (aT (some f))) (bq f λa=>av [c,d,e,a])) (bx [])) l
def zn(n:Nat)(a0:D)(a:D):oX:=bd a0 λb=>af (aS (zm n) n [a0,a,b,an])<|aG λ_=>some (aa (-1))
def zo(n:Nat):lZ->oX|[a0,aE]=>(match fp ny aE with|some [a]=>zn n a0 a|_=>none)|_=>none
def zp:oX:=af (zo a [b,(D.fn (.func ny) [] [c])]) λa=>aR (aP false .geq a an)
def vh(n:Nat):lZ->oX|[a0,aE]=>(match fp ny aE with|some [a]=>zp n a0 a|_=>none)|_=>none
def vi:b0:=kv (λc d e f g h i j k l m n o p q=>aL .lss e d (af (bO c e λr=>af (r6 a [D.agg [i,j,k,l,m,n,o,p],l,r,aX]) λa=>af (aV a (bp r<|bG (bZ ((aF q).length+([[r]]).length) 24)<|av [c,d,e,f,g,h,i,j,k,l,m,n,o,p,D.aw 1 ((aF q)++[[r]])]) (av [c,d,e,f,g,h,i,j,k,l,m,n,o,p,aB q]))<|aG<|kv λa c d e r s t u w x y z A B C=>av [a,c,d,e,r,s,t,u,w,x,y,z,A,B,aB C])<|aG<|kv λa c d e r s t u w x y z A B C=>bq d λd=>av [a,c,d,e,r,s,t,u,w,x,y,z,A,B,aB C]) (bx [f,g,h,i,j,k,l,m,n,o,p,aB q])) l
def zq:iM:=tN (λc d e f g h i j k l m n o p q r s t u=>aL .lss h g (af (a8 4 f h) λw=>af (aN true 4 0 w) λw=>aJ 4 w<|af (zi a [D.agg [i,j,k,l,m,n,o,p],cn w,c,aX]) λa=>bp a<|bG (bZ ((aF q).length+([[a]]).length) 1)<|bq h λh=>av [c,d,e,f,g,h,i,j,k,l,m,n,o,p,D.aw 1 ((aF q)++[[a]]),aB r,aB s,aB t,aB u]) (bx [c,d,e,i,j,k,l,m,n,o,p,aB q,aB r,aB s,aB t,aB u])) l
def vj:iM:=xk (λc d e f g h i j k l m n o p q r s t u w=>aL .lss i h (af (cF s i λx=>ct s x λx=>bp x<|cj e (af (vh a [d,(D.fn (.func ny) [] [D.ref [x] 0])]) λy=>bG y.flat<|aR (cb .not y)) λy=>cj y (aR (r6 a [D.agg [j,k,l,m,n,o,p,q],o,c,x])) λa=>af (aV a (bp i<|bG (bZ ((aF r).length+([[i]]).length) 8)<|av [c,d,e,f,g,h,i,j,k,l,m,n,o,p,q,D.aw 1 ((aF r)++[[i]]),aB s,aB t,aB u,aB w]) (av [c,d,e,f,g,h,i,j,k,l,m,n,o,p,q,aB r,aB s,aB t,aB u,aB w]))<|aG<|xk λa c d e h i x y z A B C E F G H I J K L=>av [a,c,d,e,h,i,x,y,z,A,B,C,E,F,G,aB H,aB I,aB J,aB K,aB L])<|aG<|xk λa c d e h i x y z A B C E F G H I J K L=>bq x λx=>av [a,c,d,e,h,i,x,y,z,A,B,C,E,F,G,aB H,aB I,aB J,aB K,aB L]) (bx [f,g,j,k,l,m,n,o,p,q,aB r,aB s,aB t,aB u,aB w])) l
def vk:b0:=ku (λc d e f g h i j k l m n o p=>aL .lss d c (af (cF m d λq=>ct m q λq=>af (r6 a [D.agg [e,f,g,h,i,j,k,l],g,q,aX]) λr=>af (aV r (bp d<|bG (bZ ((aF o).length+([[d]]).length) 8)<|av [q,c,d,e,f,g,h,i,j,k,l,aB m,aB n,D.aw 1 ((aF o)++[[d]]),aB p]) (av [q,c,d,e,f,g,h,i,j,k,l,aB m,aB n,aB o,aB p]))<|aG<|kv λc d e f g h i j k l q r s t u=>bd l λw=>af (aS (zq a) a [c,d,e,l,w,an,f,g,h,i,j,k,l,q,D.aw 1 [],aB r,aB s,aB t,aB u])<|aG<|u16 λc d e f g h i j k l q r s t u w=>bG (da (aB r))<|bG (bZ ((aF w).length+([[aB r]]).length) 24)<|af (DI a [D.agg [f,g,h,i,j,k,l,q],c]) λx=>bP x λy=>bQ x λx=>af (aS (vj a) a [c,y,x,d,e,aa (aF s).length,an,f,g,h,i,j,k,l,q,D.aw 1 [],aB s,aB t,aB u,D.aw 1 ((aF w)++[[aB r]])])<|aG<|kv λa c d e f g h i j k l q r s t=>bG (da (aB l))<|bG (bZ ((aF r).length+([[aB l]]).length) 24)<|av [a,c,d,e,f,g,h,i,j,k,aB q,D.aw 1 ((aF r)++[[aB l]]),aB s,aB t])<|aG<|ku λa c d e f g h i j k l q r s=>bq c λc=>av [a,c,d,e,f,g,h,i,j,k,aB l,aB q,aB r,aB s]) (bx [aB m,aB n,aB o,aB p])) l
def II:oX:=aJ 8 b<|af (kA a [eo b]) λc=>bP c λd=>bQ c λc=>aJ 2 d<|aL .neq c an (some (D.az [D.agg [aX,aX,aX,aX],c])) (af (u9 a [eo b]) λc=>bP c λd=>bQ c λc=>af (cb .not c) λc=>cI c (aR (aP false .gtr d (aa 4096))) λc=>aV c (some (D.az [D.agg [aX,aX,aX,aX],aa 18])) (af (DC a [eo b]) λb=>bP b λc=>bQ b λd=>af (eK 2 b) λb=>aJ 8 c<|aJ 2 d<|aL .neq b an (some (D.az [D.agg [aX,aX,aX,aX],b])) (aJ 8 (eo c)<|aJ 8 (eo c)<|af (zh a [ae c 0]) λb=>bd b λd=>af (aS (vi a) a [b,d,an,aX,aX,aX,ae c 0,ae c 1,ae c 2,ae c 3,ae c 4,ae c 5,ae c 6,ae c 7,D.aw 1 []])<|aG<|iN λb c d e f g h i j k l m=>af (bG (iW b)<|bG (iW c)<|bG (iW d)<|aS (vk a) a [aa (aF m).length,an,e,f,g,h,i,j,k,l,aB m,D.aw 1 [],D.aw 1 [],D.aw 1 []])<|aG<|dH λa b c d=>some (D.az [D.agg [aB a,aB b,aB c,aB d],an]))))
def r7(n:Nat):lZ->oX|[a0]=>II n a0|_=>none
def nN(k:Nat)(d:D):D:=match d with| .val (.slice none 0 0)=> .aw k []|d=>d
def IJ:D->D| .agg [bF,c1,c2,b3,eM,iF,iG,nO]=> .agg [nN 4 bF,nN 5 c1,nN 4 c2,nN 4 b3,nN 5 eM,nN 4 iF,nN 4 iG,nN 7 nO]|d=>d
def o2(n:Nat)(b:lZ):oX:=match b with|[a]=>r7 n [IJ a]|_=>none
def DL(a:Nat)(b:lZ):b0:=ff (λa c d=>bd a λe=>aL .lss d e (bO a d λe=>bO c d λf=>dc (aP true .neq e f) (aT (aT (some bh))) (bq d λd=>av [a,c,d])) (bx [])) b
def PQ(n:Nat)(a0 aE:D):oX:=bd a0 λa=>bd aE λv9=>aL .neq a v9 (some bh) (af (aS (DL n) n [a0,aE,an])<|aG λ_=>some cc)
def r8:=du (PQ a)
def zr(a:Nat)(b:lZ):b0:=ff (λa c d=>bd a λe=>aL .lss d e (bO a d λe=>bO c d λf=>aL .neq e f (aT (aT (some bh))) (bq d λd=>av [a,c,d])) (bx [])) b
def DM(n:Nat)(a0 aE:D):oX:=bd a0 λa=>bd aE λv9=>aL .neq a v9 (some bh) (af (aS (zr n) n [a0,aE,an])<|aG λ_=>some cc)
def r9:=du (DM a)
def DN:b0:=ff (λc d e=>bd c λf=>aL .lss e f (bO c e λf=>bO d e λg=>af (r9 a [f,g]) λa=>dc (cb .not a) (aT (aT (some bh))) (bq e λa=>av [c,d,a])) (bx [])) l
def PR(n:Nat)(a0 aE:D):oX:=bd a0 λa=>bd aE λv9=>aL .neq a v9 (some bh) (af (aS (DN n) n [a0,aE,an])<|aG λ_=>some cc)
def zs:=du (PR a)
def DO:b0:=fq (λc d e f g h i j k=>bd k λl=>aL .lss c l (bO g c λl=>bO k c λm=>af (r8 a [l,m]) λa=>dc (cb .not a) (aT (aT (some bh))) (bq c λa=>av [a,d,e,f,g,h,i,j,k])) (bx [d,e,f,g,h,i,j,k])) l
def PS:oX:=aJ 4 b<|aJ 4 c<|bd (ae b 3) λd=>bd (ae c 3) λe=>aL .neq d e (some bh) (af (aS (DO a) a [an,ae b 0,ae b 1,ae b 2,ae b 3,ae c 0,ae c 1,ae c 2,ae c 3])<|aG<|gP λb c d e f g h=>af (zs a [b,f]) λb=>cj b (aR (zs a [c,g])) λb=>cj b (aR (r9 a [d,h])) λa=>some a)
def vl:=du (PS a)
def DP:oX:=aJ 8 b<|af (qi a [eo b,aa 40]) λc=>dc (cb .not c) (some (D.az [D.agg [aX,aX,aX,aX],D.agg [aX,aX,aX,aX],bh,cc])) (af (uK a [eo b]) λc=>bP c λd=>bQ c λc=>aJ 4 d<|af (o2 a [eo b]) λb=>bP b λe=>bQ b λb=>aJ 4 e<|aK .eql c an λf=>aK .eql b c λb=>cj b (aR (vl a [cn e,cn d])) λa=>aJ 4 (cn e)<|aJ 4 (cn d)<|some (D.az [cn e,cn d,f,a]))
def sa:=cO (DP a)
def aaw(a:Nat):oX:=aJ 5 (D.agg [aA ⟨#[120]⟩,aa 5,an,aA ⟨#[]⟩,D.aw 4 [[aa 3,an,aA ⟨#[120]⟩,aX]]])<|some (D.agg [D.aw 4 [[aA ⟨#[120]⟩,cc,an,an]],aX,aX,aX,D.aw 5 [[aA ⟨#[120]⟩,aa 5,an,aA ⟨#[]⟩,D.aw 4 [[aa 3,an,aA ⟨#[120]⟩,aX]]]],aX,D.aw 4 [[aa 3,an,aA ⟨#[120]⟩,aX]],aX])
def PT(n:Nat):lZ->oX|[]=>aaw n|_=>none
def zt(g m:lZ)(no:D):Nat->D|0=> .ref [] 0|k+1=> .ref [.fn (.func lx) [] [.ref g 0,.ref m 0,zt g m no k,no]] 0
def sb(a:lZ):D:= .ref [.fn (.func lv) [] [.ref a 0]] 0
def aax(a:lZ->oX)(b:Nat):lZ->b0:=dH λb d e f=>aL .lss f e (af (a8 6 d f) λg=>af (aN true 6 0 g) λg=>aJ 6 g<|af (a [b,D.agg [ae g 0,ae g 1,ae g 2,ae g 3,ae g 4,ae g 5]]) λa=>aL .neq a an (aT (aT (some a))) (bq f λa=>av [b,d,e,a])) (bx [])
def PU(a:lZ->oX)(n:Nat)(a0 aE:D):oX:=aJ 6 aE<|aL .eql (ae aE 0) bC (af (r2 n [a0,D.agg [ae aE 1,ae aE 2,ae aE 3,ae aE 4],bh]) λv17=>bP v17 λb=>bQ v17 λc=>aJ 3 b<|aK .eql c an λv21=>cj v21 (aR (cb .not (ae b 0))) λv26=>af (aV v26 (av [aa 13]) (av [c]))<|aG<|cr λe=>some e) (bd (ae aE 5) λd=>af (aS (aax a n) n [a0,ae aE 5,d,an])<|aG λ_=>some an)
def qq:Nat->lZ->oX|0,_=>none|n+1,a=>match a with|[a0,aE]=>PU (qq n) n a0 aE|_=>none
def PV(c:lZ)(d:lZ)(e:lZ):oX:=af (aN false 1 0 c) λc=>af (aN true 4 1 d) λd=>af (aN false 1 0 e) λe=>bO e b λb=>af (nM a [c,d,b,aX]) λa=>bP a λb=>bQ a λa=>cj a (aR (aP false .eql b bC)) λa=>some a
def IK(n:Nat):lZ->oX|[a0,aE,a2,a3]=>(match aE with| .ref x1 0=>(match a2 with| .ref df 0=>(match a3 with| .ref a 0=>PV n a0 x1 df a|_=>none)|_=>none)|_=>none)|_=>none
def aay:lZ->b0:=hy λc d e f g h=>aL .lss g f (af (IK a [g,c,d,e]) λa=>cF h g λi=>bp a<|af (aF h)[i]? λj=>bq g λg=>av [c,d,e,f,g,D.aw 1 ((aF h).set i (er j 0 [a]))]) (bx [aB h])
def PW:oX:=aJ 4 b<|bd (ae b 0) λb=>af (fm 1 b b) λb=>af (aS (aay a) a [c,d,e,aa (List.replicate b [bh]).length,an,D.aw 1 (List.replicate b [bh])])<|aG<|cr λa=>some (aB a)
def DQ(n:Nat):lZ->oX|[a0,aE]=>(match fp xm aE with|some [a,b,c]=>PW n a0 a b c|_=>none)|_=>none
def PX(a:lZ->oX)(b:Nat)(c:D)(d:lZ)(e:lZ)(f:lZ)(g:lZ):oX:=aJ 6 c<|aL .eql (ae c 0) bC (af (aN true 4 0 d) λh=>aR (DQ b [h,(D.fn (.func xm) [] [D.ref e 0,D.ref [ae c 0,ae c 1,ae c 2,ae c 3,ae c 4,ae c 5] 0,D.ref d 0])])) (af (aN false 1 0 f) λe=>af (a8 6 (ae c 5) an) λh=>af (aN true 6 0 h) λh=>af (lh [(lx,a),(lv,kx b)] e [h]) λe=>bp e<|bp e<|bd (ae c 5) λh=>aK .gtr h bC λh=>af (aV h (af (aN false 1 0 f) λf=>af (a8 6 (ae c 5) bC) λh=>af (aN true 6 0 h) λh=>af (lh [(lx,a),(lv,kx b)] f [h]) λf=>bp f<|av [D.agg d,D.agg g,ae c 0,ae c 1,ae c 2,ae c 3,ae c 4,ae c 5,e,f]) (av [D.agg d,D.agg g,ae c 0,ae c 1,ae c 2,ae c 3,ae c 4,ae c 5,e,e]))<|aG<|fb λc d e f g h i j k l=>aL .eql e (aa 2) (af (aN false 1 0 (dB d)) λf=>aR (lh [(lx,a),(lv,kx b)] f [k])) (aL .eql e (aa 3) (af (aN true 4 0 (dB c)) λf=>aR (Ca b [f,(D.fn (.func xn) [] [D.ref [k] 0,D.ref [l] 0])])) (aL .eql e (aa 4) (af (aN true 4 0 (dB c)) λf=>aR (Cb b [f,(D.fn (.func xo) [] [D.ref [k] 0,D.ref [l] 0])])) (aL .eql e (aa 5) (af (aN true 4 0 (dB c)) λf=>aR (Cc b [f,(D.fn (.func xp) [] [D.ref [k] 0,D.ref [l] 0])])) (aL .eql e (aa 6) (af (aN true 4 0 (dB c)) λf=>aR (Ck b [f,k])) (aL .eql e (aa 7) (af (aN true 4 0 (dB c)) λf=>af (aN true 4 0 (dB c)) λg=>af (qa b [g]) λg=>aR (oL b [f,g,k])) (aL .eql e (aa 8) (af (aN true 4 0 (dB c)) λf=>aR (qd b [f,k])) (aL .eql e (aa 9) (af (aN true 4 0 (dB c)) λf=>aR (oL b [f,k,l])) (aL .eql e (aa 10) (af (aN false 1 0 (dB d)) λf=>af (aN true 4 0 (dB c)) λg=>af (aN false 1 0 (dB d)) λh=>af (lh [(lx,a),(lv,kx b)] h [k]) λh=>af (Ck b [g,h]) λg=>aR (lh [(lx,a),(lv,kx b)] f [g])) (aL .eql e (aa 11) (af (aN false 1 0 (dB d)) λf=>af (aN true 4 0 (dB c)) λg=>af (aN false 1 0 (dB d)) λh=>af (lh [(lx,a),(lv,kx b)] h [k]) λh=>af (qd b [g,h]) λg=>aR (lh [(lx,a),(lv,kx b)] f [g])) (aL .eql e (aa 12) (af (aN false 1 0 (dB d)) λe=>af (aN true 4 0 (dB c)) λf=>af (aN true 4 0 (dB c)) λg=>af (qa b [g]) λg=>af (aN false 1 0 (dB d)) λh=>af (lh [(lx,a),(lv,kx b)] h [k]) λh=>af (oL b [f,g,h]) λf=>aR (lh [(lx,a),(lv,kx b)] e [f])) (af (aN true 4 0 (dB c)) λe=>af (aN false 1 0 (dB d)) λf=>af (lh [(lx,a),(lv,kx b)] f [l]) λf=>af (qd b [e,f]) λe=>bp e<|af (aN true 4 0 (dB c)) λf=>af (aN false 1 0 (dB d)) λd=>af (lh [(lx,a),(lv,kx b)] d [l]) λa=>af (aN true 4 0 (dB c)) λd=>af (Cn b [d,(D.fn (.func xq) [] [D.ref [k] 0,D.ref [l] 0])]) λd=>af (oL b [f,a,d]) λa=>bp a<|af (aN true 4 0 (dB c)) λc=>aR (Co b [c,(D.fn (.func xr) [] [D.ref [e] 0,D.ref [a] 0])])))))))))))))
def qs:Nat->lZ->oX|0,_=>none|n+1,a=>match a with|[a0,aE,a2,a3,a4]=>(match aE with| .ref x1 0=>(match a2 with| .ref df 0=>(match a3 with| .ref b 0=>(match a4 with| .ref c 0=>PX (qs n) n a0 x1 df b c|_=>none)|_=>none)|_=>none)|_=>none)|_=>none
def PY:oX:=bG (cw 4 b)<|bG (cw 8 c)<|bG (cw 6 d)<|af (oV a [D.agg [ae d 0,ae d 1,ae d 2,ae d 3,ae d 4,ae d 5]]) λe=>dc (aP false .neq e an) (some (D.az [aX,e])) (af (qq a [ae c 0,D.agg [ae d 0,ae d 1,ae d 2,ae d 3,ae d 4,ae d 5]]) λe=>dc (aP false .neq e an) (some (D.az [aX,e])) (af (qs a [D.agg [ae d 0,ae d 1,ae d 2,ae d 3,ae d 4,ae d 5],.ref [ae b 0,ae b 1,ae b 2,ae b 3] 0,.ref [ae c 0,ae c 1,ae c 2,ae c 3,ae c 4,ae c 5,ae c 6,ae c 7] 0,zt [ae b 0,ae b 1,ae b 2,ae b 3] [ae c 0,ae c 1,ae c 2,ae c 3,ae c 4,ae c 5,ae c 6,ae c 7] (sb [ae b 0,ae b 1,ae b 2,ae b 3]) a,sb [ae b 0,ae b 1,ae b 2,ae b 3]]) λa=>some (D.az [a,an])))
def zu(n:Nat):lZ->oX|[a0,aE,a2]=>PY n a0 aE a2|_=>none
def aaz:oX:=af (PT a []) λb=>aJ 8 b<|af (o2 a [eo b]) λc=>bP c λd=>bQ c λc=>aJ 4 d<|af (zu a [cn d,eo b,D.agg [aa 8,an,an,aA ⟨#[]⟩,aX,D.aw 6 [[bC,aa 2,bC,aA ⟨#[]⟩,aX,aX]]]]) λe=>bP e λf=>bQ e λe=>af (zu a [cn d,eo b,D.agg [aa 8,an,an,aA ⟨#[]⟩,aX,D.aw 6 [[bC,aa 3,an,aA ⟨#[120]⟩,aX,aX]]]]) λg=>bP g λh=>bQ g λg=>af (zu a [cn d,eo b,D.agg [aa 11,an,an,aA ⟨#[]⟩,aX,D.aw 6 [[bC,aa 3,an,aA ⟨#[120]⟩,aX,aX]]]]) λb=>bP b λd=>bQ b λb=>aK .eql c an λc=>cj c (aR (aP false .eql e an)) λc=>cj c (aR (aP false .eql g an)) λc=>cj c (aR (aP false .eql b an)) λb=>cj b (af (r8 a [f,D.aw 1 [[cc],[cc]]]) λb=>bG b.flat<|some b) λb=>cj b (af (r8 a [h,D.aw 1 [[bh],[bh]]]) λb=>bG b.flat<|some b) λb=>cj b (af (r8 a [d,D.aw 1 [[cc],[cc]]]) λa=>bG a.flat<|some a) λa=>some a
def DR:=wY (aaz a)
def zv(a:Nat)(b:lZ):b0:=ff (λa c d=>aL .lss c (aa (aF d).length) (bd a λe=>aK .lss c e λe=>cj e (bO a c λe=>some e) λe=>cF d c λf=>bp e<|af (aF d)[f]? λg=>bq c λc=>av [a,c,D.aw 1 ((aF d).set f (er g 0 [e]))]) (bx [aB d])) b
def PZ:oX:=aJ 4 b<|bd (ae b 0) λb=>af (fm 1 b b) λb=>af (aS (zv a) a [c,an,D.aw 1 (List.replicate b [bh])])<|aG<|cr λa=>some (aB a)
def sc:=du (PZ a)
def DS(a:Nat)(b:lZ):b0:=cR (λa c=>aL .lss a (aa (aF c).length) (cF c a λd=>af (aF c)[d]? λe=>bq a λa=>av [a,D.aw 1 ((aF c).set d (er e 0 [cc]))]) (bx [aB c])) b
def P2:oX:=aJ 4 b<|bd (ae b 0) λb=>af (fm 1 b b) λb=>af (aS (DS a) a [an,D.aw 1 (List.replicate b [bh])])<|aG<|cr λa=>some (aB a)
def zw:=cO (P2 a)
def zx(a:Nat)(b:lZ):iM:=ku (λa c d e f g h i j k l m n o=>aL .lss o n (bO m o λp=>cI h (bO d p λq=>some q) λq=>cI i (bO e p λp=>some p) λp=>bq o λo=>av [a,c,d,e,f,g,q,p,j,k,l,m,n,o]) (bx [a,c,d,e,f,g,h,i,j,k,l])) b
def zy:b0:=u8 (λc d e f g h i j=>aL .lss j i (af (bO h j λk=>bd k λl=>af (aS (zx a) a [c,d,e,f,g,j,bh,bh,h,i,j,k,l,an])<|aG<|gQ λa c d e f g h i j k l=>bO d g λm=>bO c g λn=>cj n (bO f g λn=>some n) λn=>af (cu n false (bO a g λo=>some o)) λo=>af (cu o true (some h)) λh=>cI n (aR (dQ o h bh)) λh=>af (aP true .neq m h) λh=>pM h false (bO e g λm=>bO a g λn=>af (cu n true (some i)) λo=>af (cu h false (aR (dQ n o bh))) λn=>af (cu n true (bO e g λo=>some o)) λo=>cI h (af (dQ n o bh) λn=>aR (aP true .neq m n)) λm=>af (cu m false (bO e g λn=>some n)) λn=>af (cu n true (bO f g λo=>aR (cb .not o))) λo=>cI m (aR (dQ n o bh)) λm=>aV m (aT (aT (aT (some bh)))) (av [a,c,d,e,f,j,k,l])) (af (cu gn true (some i)) λi=>af (cu h false (aR (dQ gn i bh))) λi=>af (cu i true (bO e g λm=>some m)) λm=>cI h (af (dQ i m bh) λh=>aR (aP true .neq gn h)) λh=>af (cu h false (bO e g λi=>some i)) λi=>af (cu i true (bO f g λg=>aR (cb .not g))) λg=>cI h (aR (dQ i g bh)) λg=>aV g (aT (aT (aT (some bh)))) (av [a,c,d,e,f,j,k,l])))<|aG<|u8 λa c d e f g h i=>bq i λi=>av [a,c,d,e,f,g,h,i]) (bx [])) l
def IL(n:Nat)(a0 aE a2:D):oX:=aJ 8 a0<|af (sa n [eo a0]) λv22=>bP v22 λb=>bQ v22 λv24=>af (eK 2 v22) λv25=>af (eK 3 v22) λv26=>aJ 4 b<|aJ 4 v24<|dc (cb .not v26) (some bh) (dc (cb .not v25) (aR (DR n [])) (af (sc n [cn v24,aE]) λa=>af (sc n [cn v24,a2]) λv37=>af (oL n [cn b,a,v37]) λv41=>af (qd n [cn b,a]) λv44=>af (zw n [cn v24]) λd=>af (rL n [cn b,d]) λc=>bd v41 λv50=>bd a λe=>aK .neq v50 e λv53=>cI v53 (bd v44 λf=>bd a λv58=>aR (aP false .neq f v58)) λv60=>cI v60 (bd c λg=>bd a λh=>aR (aP false .neq g h)) λv67=>aV v67 (some bh) (bd (ae v24 1) λv70=>af (aS (zy n) n [a,v37,v41,v44,c,ae v24 1,v70,an])<|aG λ_=>aR (DR n []))))
def DT:=hx (IL a)
end Go.Am
