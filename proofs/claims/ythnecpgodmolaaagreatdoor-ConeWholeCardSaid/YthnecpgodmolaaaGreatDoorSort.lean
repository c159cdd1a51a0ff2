/- Laws, on data. No condition. -/
import Derived.Test.YthnecpgodmolaaaGreatDoorEngD
import Derived.Test.YthnecpgodmolaaaGreatDoorCode
import Derived.Test.YthnecpgodmolaaaGreatDoorEngS
set_option linter.all false
set_option linter.unnecessarySimpa false
namespace Go.Am
def kx{β S:Type}{f:List D->Option (List D⊕β)}(e0:S->List D)(Ot:S->Nat)(Inv:S->Prop)(Q:β->Prop) (step:∀s,Inv s->(∃s',f (e0 s)=some (.inl (e0 s'))/\Inv s'/\Ot s'<Ot s)\/(∃r,f (e0 s)=some (.inr r)/\Q r)): ∀n s,Inv s->Ot s<n->∃r,bq f n (e0 s)=some r/\Q r
 |0,s,_,h=>absurd h (xay _)
 |n+1,s,h,hm=>by
  rw[jP];rcases step s h with⟨s',ab,af,aw⟩|⟨r,ab,af⟩
  .rw[ab];exact kx e0 Ot Inv Q step n s' af (by omega)
  rw[ab];exact⟨r,rfl,af⟩
section
variable{α:Type}
structure Part(a b:Nat)(L bB:List α):Prop where
 len:bB.length=L.length
 out:∀i,i<a\/b<=i->bB[i]?=L[i]?
 vA:∀p:α->Bool,bB.countP p=L.countP p
theorem Part.refl(a b:Nat)(L:List α):Part a b L L:=⟨rfl,λ_ _=>rfl,λ_=>rfl⟩
def Part.trans{a b:Nat}{L M N:List α}(h:Part a b L M)(bx:Part a b M N):Part a b L N:=⟨bx.len.trans h.len,λi ah=>(bx.out i ah).trans (h.out i ah),λp=>(bx.vA p).trans (h.vA p)⟩
def Part.mono{a b cB b':Nat}{L M:List α}(h:Part a b L M)(aE:cB<=a)(aj:b<=b'):Part cB b' L M:=⟨h.len,λi ah=>h.out i (by omega),h.vA⟩
def eT(L:List α)(i j:Nat):List α:=match L[i]?,L[j]? with|some x,some y=>(L.set i y).set j x|_,_=>L
def awS{L:List α}{i j:Nat}{x y:α}(ah:L[i]?=some x)(aP:L[j]?=some y):(L.set i y).set j x=eT L i j:=by simp only[eT,ah,aP]
def Jq(L:List α)(i j:Nat):(eT L i j).length=L.length:=by unfold eT;split<;>simp
def aeU{L:List α}{i j:Nat}(ah:i<L.length)(aP:j<L.length)(k:Nat):(eT L i j)[k]?=if k=j then L[i]? else if k=i then L[j]? else L[k]?:=by
 unfold eT;rw[xaa ah,xaa aP];simp only[List.getElem?_set,xbb];by_cases ab:k=j;.subst ab;simp[aP]
 by_cases af:k=i;.subst af;rw[xac (λh=>ab h.symm),xac ab];simp[ah]
 rw[xac (λh=>ab h.symm),xac (λh=>af h.symm),xac ab,xac af]
def awT{L:List α}{i:Nat}:eT L i i=L:=by
 unfold eT;split
 .rename_i x y ab af;rw[ab]at af;cases af;apply xbR;intro k;simp only[List.getElem?_set,xbb];by_cases h:i=k;.subst h;rw[ab];simp[(xae.1 ab).1]
  simp[h]
 rfl
def Part.eT{a b i j:Nat}{L:List α}(ah:a<=i)(jB:i<b)(aP:a<=j)(q3:j<b)(aj:b<=L.length):Part a b L (eT L i j):=by
 refine⟨Jq L i j,?_,?_⟩;.intro k ak;rw[aeU (by omega) (by omega),xac (by omega),xac (by omega)]
 intro p;by_cases gS:i=j;.subst gS;rw[awT]
 have ab:i<L.length:=by omega
 have af:j<L.length:=by omega
 unfold Am.eT;rw[xaa ab,xaa af];simp only;rw[List.countP_set (by simpa using af),List.countP_set ab];rw[List.getElem_set_ne gS];have aO:1<=L.countP p\/p L[i]=false:=by cases h:p L[i]with|false=>exact .inr rfl|true=>exact .inl (List.countP_pos_iff.2 ⟨_,xaX ab,h⟩)
 have aX:1<=L.countP p\/p L[j]=false:=by cases h:p L[j]with|false=>exact .inr rfl|true=>exact .inl (List.countP_pos_iff.2 ⟨_,xaX af,h⟩)
 cases aw:p L[i]<;>cases a4:p L[j]<;>simp_all<;>omega
def tV(P:α->Prop)(a b:Nat)(L:List α):Prop:=∀i x,a<=i->i<b->L[i]?=some x->P x
def tV.mono{P:α->Prop}{a b cB b':Nat}{L:List α}(h:tV P a b L)(aE:a<=cB)(aj:b'<=b):tV P cB b' L:=λi x ab af ag=>h i x (by omega) (by omega) ag
def tV.out{P:α->Prop}{a b c d:Nat}{L M:List α}(h:tV P c d L)(aT:Part a b L M)(ay:d<=a\/b<=c):tV P c d M:=λi x ab af ag=>h i x ab af (by rw[<-aT.out i (by omega)];exact ag)
def awU{p:α->Bool}{l:List α}(h:l.countP p=0):∀x∈l,p x=false:=by intro x ag;cases aT:p x with|false=>rfl|true=>have:=List.countP_pos_iff.2 ⟨x,ag,aT⟩;omega
open Classical in
def tV.part{P:α->Prop}{a b:Nat}{L M:List α}(h:tV P a b L)(aT:Part a b L M)(fE:a<=b):tV P a b M:=by
 intro i x ab af ag;have aO:M.take a=L.take a:=by
  apply xbR;intro k;rw[xaQ,xaQ];split;.rename_i ak;exact aT.out k (.inl ak)
  rfl
 have aX:M.drop b=L.drop b:=by apply xbR;intro k;rw[xaZ,xaZ];exact aT.out _ (.inr (by omega))
 have aeV:∀(N:List α)(q:α->Bool),N.countP q=(N.take a).countP q+((N.drop a).take (b-a)).countP q+(N.drop b).countP q:=by
  intro N q
  conv=>lhs;rw[<-xbv a N,List.countP_append,<-xbv (b-a) (N.drop a),List.countP_append,List.drop_drop]
  rw[show a+(b-a)=b by omega];omega
 have an:=aT.vA (λy=>!decide (P y));rw[aeV M,aeV L,aO,aX]at an;have ar:((L.drop a).take (b-a)).countP (λy=>!decide (P y))=0:=by
  rw[List.countP_eq_zero];intro y aJ;obtain⟨k,ak⟩:=List.getElem?_of_mem aJ;rw[xaQ]at ak;split at ak;.rename_i cu;rw[xaZ]at ak;simp[h (a+k) y (by omega) (by omega) ak]
  cases ak
 have aw:((M.drop a).take (b-a)).countP (λy=>!decide (P y))=0:=by omega
 have hm:x∈(M.drop a).take (b-a):=by refine xab (i:=i-a) ?_;rw[xaQ,xad (by omega),xaZ,show a+(i-a)=i by omega];exact ag
 have:=awU aw x hm;simpa using this
def Part.mem{a b:Nat}{L M:List α}(h:Part a b L M)[DecidableEq α](x:α):x∈M↔x∈L:=by
 have:=h.vA (λy=>y==x);have e:∀N:List α,x∈N↔0<N.countP (λy=>y==x):=by
  intro N;rw[List.countP_pos_iff];constructor;.intro h;exact⟨x,h,by simp⟩
  rintro⟨y,ab,af⟩;rw[<-eq_of_beq af];exact ab
 rw[e,e,this]
structure Jr(lt:α->α->Bool):Prop where
 Js:∀x,lt x x=false
 D6:∀x y,lt x y=true->lt y x=false
 tr:∀x y z,lt y x=false->lt z y=false->lt z x=false
end
section
variable{α:Type}
def gt[Inhabited α](L:List α)(i:Nat):α:=L.getD i default
def Jt[Inhabited α]{L:List α}{i:Nat}(h:i<L.length):L[i]?=some (gt L i):=by simp[gt,xaR,xaa h]
def jW(f:Nat->α)(i j:Nat):Nat->α:=λk=>if k=j then f i else if k=i then f j else f k
def sl[Inhabited α]{L:List α}{i j:Nat}(ah:i<L.length)(aP:j<L.length):gt (eT L i j)=jW (gt L) i j:=by
 funext k
 simp only[gt,jW,xaR,aeU ah aP];split<;>try split
 all_goals rfl
def Part.p9[Inhabited α]{a b:Nat}{L M:List α}(h:Part a b L M){i:Nat}(ah:i<a\/b<=i):gt M i=gt L i:=by simp only[gt,xaR,h.out i ah]
def e2(P:α->Prop)(a b:Nat)(f:Nat->α):Prop:=∀i,a<=i->i<b->P (f i)
def e2.part[Inhabited α]{P:α->Prop}{a b:Nat}{L M:List α}(h:e2 P a b (gt L))(aT:Part a b L M)(aj:b<=L.length):e2 P a b (gt M):=by
 intro i ab af;have aw:tV P a b L:=λk x cD dN ag=>by have:=h k cD dN;have e:=Jt (L:=L) (i:=k) (by omega);rw[e]at ag;cases ag;exact this
 exact(aw.part aT (by omega)) i _ ab af (Jt (by rw[aT.len];omega))
def e2.out[Inhabited α]{P:α->Prop}{a b c d:Nat}{L M:List α}(h:e2 P c d (gt L))(aT:Part a b L M)(ay:d<=a\/b<=c):e2 P c d (gt M):=by intro i ab af;rw[aT.p9 (by omega)];exact h i ab af
def e2.mono{P:α->Prop}{a b cB b':Nat}{f:Nat->α}(h:e2 P a b f)(aE:a<=cB)(aj:b'<=b):e2 P cB b' f:=λi ab af=>h i (by omega) (by omega)
def eE(lt:α->α->Bool)(a b:Nat)(f:Nat->α):Prop:=∀i j,a<=i->i<j->j<b->lt (f j) (f i)=false
def eE.out[Inhabited α]{lt:α->α->Bool}{a b c d:Nat}{L M:List α}(h:eE lt c d (gt L))(aT:Part a b L M)(ay:d<=a\/b<=c):eE lt c d (gt M):=by intro i j ab af aw;rw[aT.p9 (by omega),aT.p9 (by omega)];exact h i j ab af aw
def eE.mono{lt:α->α->Bool}{a b cB b':Nat}{f:Nat->α}(h:eE lt a b f)(aE:a<=cB)(aj:b'<=b):eE lt cB b' f:=λi j ab af aw=>h i j (by omega) af (by omega)
def xG{lt:α->α->Bool}{a b:Nat}{f:Nat->α}(h:b<=a+1):eE lt a b f:=λi j ab af aw=>by omega
def eE.join{lt:α->α->Bool}{a m b:Nat}{f:Nat->α}(ab:eE lt a m f)(af:eE lt m b f)(h:∀i j,a<=i->i<m->m<=j->j<b->lt (f j) (f i)=false):eE lt a b f:=by
 intro i j aW a2 bb;by_cases aP:j<m;.exact ab i j aW a2 aP
 by_cases ah:i<m;.exact h i j aW ah (by omega) bb
 exact af i j (by omega) a2 bb
variable{lt:α->α->Bool}(aF:Jr lt)
include aF
theorem eE.more{a i:Nat}{f:Nat->α}(h:eE lt a i f)(ah:a<i)(aq:lt (f i) (f (i-1))=false):eE lt a (i+1) f:=by
 intro p q ab af aw;by_cases bj:q<i;.exact h p q ab af bj
 have e:q=i:=by omega
 subst e;by_cases aT:p=q-1;.subst aT;exact aq
 exact aF.tr _ _ _ (h p (q-1) ab (by omega) (by omega)) aq
omit aF
def D7(lt:α->α->Bool)(a j i:Nat)(f:Nat->α):Prop:=∀p q,a<=p->p<q->q<=i->q≠j->lt (f q) (f p)=false
theorem aeW{a i:Nat}{f:Nat->α}(h:eE lt a i f):D7 lt a i i f:=λp q ab af aw a4=>h p q ab af (by omega)
include aF
theorem aeX{a j i:Nat}{f:Nat->α}(h:D7 lt a j i f)(aE:a<j)(iY:j<=i)(aq:lt (f j) (f (j-1))=true):D7 lt a (j-1) i (jW f j (j-1)):=by
 intro p q ab af aw a4;have has:=aF.D6 _ _ aq;simp only[jW];rw[xac a4];by_cases bj:q=j
 .subst bj;rw[xad rfl];by_cases aT:p=q-1;.rw[xad aT];exact has
  rw[xac aT,xac (by omega)];exact h p (q-1) ab (by omega) (by omega) (by omega)
 rw[xac bj];by_cases aT:p=j-1;.rw[xad aT];exact h j q (by omega) (by omega) aw bj
 rw[xac aT];by_cases oS:p=j;.rw[xad oS];exact h (j-1) q (by omega) (by omega) aw bj
 rw[xac oS];exact h p q ab af aw bj
theorem Ou{a j i:Nat}{f:Nat->α}(h:D7 lt a j i f)(awV:a<=j)(aq:j=a\/lt (f j) (f (j-1))=false):eE lt a (i+1) f:=by
 intro p q ab af aw;by_cases bj:q=j
 .subst bj;rcases aq with aq|aq
  .omega
  by_cases aT:p=q-1;.subst aT;exact aq
  exact aF.tr _ _ _ (h p (q-1) ab (by omega) (by omega) (by omega)) aq
 exact h p q ab af (by omega) bj
omit aF
def awW(lt:α->α->Bool)(z lo ah x:Nat)(f:Nat->α):Prop:=∀r c,lo<=r->r≠x->(c=2*r+1\/c=2*r+2)->c<ah->lt (f (z+r)) (f (z+c))=false
def Ju(lt:α->α->Bool)(z lo ah x:Nat)(f:Nat->α):Prop:=awW lt z lo ah x f/\∀r c,lo<=r->(x=2*r+1\/x=2*r+2)->(c=2*x+1\/c=2*x+2)->c<ah->lt (f (z+r)) (f (z+c))=false
def pg(lt:α->α->Bool)(z lo ah:Nat)(f:Nat->α):Prop:=∀r c,lo<=r->(c=2*r+1\/c=2*r+2)->c<ah->lt (f (z+r)) (f (z+c))=false
theorem awX{z lo ah:Nat}{f:Nat->α}(h:pg lt z (lo+1) ah f):Ju lt z lo ah lo f:=⟨λr c ab af aw a4=>h r c (by omega) aw a4,λr c ab af aw a4=>by omega⟩
theorem Ov{z lo ah x:Nat}{f:Nat->α}(h:Ju lt z lo ah x f)(ag:∀c,(c=2*x+1\/c=2*x+2)->c<ah->lt (f (z+x)) (f (z+c))=false):pg lt z lo ah f:=by
 intro r c ab af aw;by_cases av:r=x;.subst av;exact ag c af aw
 exact h.1 r c ab av af aw
include aF
theorem Vh{z lo ah x y:Nat}{f:Nat->α}(h:Ju lt z lo ah x f)(hG:lo<=x)(aJ:y=2*x+1\/y=2*x+2)(awY:y<ah) (q5:∀c,(c=2*x+1\/c=2*x+2)->c<ah->lt (f (z+y)) (f (z+c))=false) (aq:lt (f (z+x)) (f (z+y))=true):Ju lt z lo ah y (jW f (z+x) (z+y)):=by
 have has:=aF.D6 _ _ aq;have aBs:x<y:=by omega
 constructor
 .intro r c ab af aw a4;simp only[jW];rw[xac (show¬z+r=z+y by omega)];by_cases av:r=x
  .subst av;rw[xad rfl];by_cases an:c=y;.subst an;rw[xad rfl];exact has
   rw[xac (by omega),xac (by omega)];exact q5 c aw a4
  rw[xac (by omega)];by_cases an:c=y;.omega
  rw[xac (by omega)];by_cases pt:c=x;.subst pt;rw[xad rfl];exact h.2 r y ab aw aJ awY
  rw[xac (by omega)];exact h.1 r c ab av aw a4
 intro r c ab af aw a4;have av:r=x:=by omega
 subst av;simp only[jW];rw[xac (show¬z+r=z+y by omega)];simp only[xaC];rw[xac (by omega),xac (by omega)];exact h.1 y c (by omega) (by omega) aw a4
theorem awZ{z ah:Nat}{f:Nat->α}(h:pg lt z 0 ah f):∀k,k<ah->lt (f z) (f (z+k))=false:=by
 intro k
 induction k using Nat.strongRecOn with
 |ind k ih=>
  intro ak;by_cases ar:k=0;.subst ar;exact aF.Js _
  have ab:=ih ((k-1)/2) (by omega) (by omega);have af:=h ((k-1)/2) k (by omega) (by omega) ak;exact aF.tr _ _ _ af ab
omit aF
structure tW(lt:α->α->Bool)(z i ah:Nat)(f:Nat->α):Prop where
 h:pg lt z 0 i f
 s:eE lt (z+i) (z+ah) f
 c:∀p q,z<=p->p<z+i->z+i<=q->q<z+ah->lt (f q) (f p)=false
theorem tW.start{z n:Nat}{f:Nat->α}(h:pg lt z 0 n f):tW lt z n n f:=⟨h,xG (by omega),λp q ab af aw a4=>by omega⟩
include aF
theorem tW.swap{z i ah:Nat}{f:Nat->α}(h:tW lt z (i+1) ah f)(jB:i+1<=ah):pg lt z 1 i (jW f z (z+i))/\eE lt (z+i) (z+ah) (jW f z (z+i))/\∀p q,z<=p->p<z+i->z+i<=q->q<z+ah->lt (jW f z (z+i) q) (jW f z (z+i) p)=false:=by
 have hm:=awZ aF h.h;refine⟨?_,?_,?_⟩;.intro r c ab af aw;simp only[jW];rw[xac (by omega),xac (by omega),xac (by omega),xac (by omega)];exact h.h r c (by omega) af (by omega)
 .intro p q ab af aw;simp only[jW];rw[xac (show¬q=z+i by omega),xac (show¬q=z by omega)];by_cases aT:p=z+i;.rw[xad aT];exact h.c z q (by omega) (by omega) (by omega) aw
  rw[xac aT,xac (by omega)];exact h.s p q (by omega) af aw
 intro p q ab af aw a4;simp only[jW];rw[xac (show¬p=z+i by omega)];by_cases bj:q=z+i
 .rw[xad bj];by_cases aT:p=z;.rw[xad aT];exact hm i (by omega)
  rw[xac aT];have:=hm (p-z) (by omega)
  rwa [show z+(p-z)=p by omega]at this
 rw[xac bj,xac (by omega)];by_cases aT:p=z;.rw[xad aT];exact h.c (z+i) q (by omega) (by omega) (by omega) a4
 rw[xac aT];exact h.c p q ab (by omega) (by omega) a4
omit aF
theorem tW.next[Inhabited α]{z i ah:Nat}{L M:List α}(aT:Part z (z+i) L M)(aj:z+ah<=L.length)(jB:i<=ah)(ab:pg lt z 0 i (gt M))(af:eE lt (z+i) (z+ah) (gt L)) (aw:∀p q,z<=p->p<z+i->z+i<=q->q<z+ah->lt (gt L q) (gt L p)=false):tW lt z i ah (gt M):=by refine⟨ab,af.out aT (.inr (xan _)),?_⟩;intro p q aW a2 bb cX;rw[aT.p9 (i:=q) (.inr bb)];have:e2 (λx=>lt (gt L q) x=false) z (z+i) (gt M):=e2.part (λj cD dN=>aw j q cD dN bb cX) aT (by omega);exact this p aW a2
structure jX(lt:α->α->Bool)(ae fM a b:Nat)(f:Nat->α):Prop where
 le:ae<=a/\a<=b/\b<=fM
 l:eE lt ae a f
 r:eE lt b fM f
 lm:∀i j,ae<=i->i<a->a<=j->j<fM->lt (f j) (f i)=false
 vM:∀i j,ae<=i->i<b->b<=j->j<fM->lt (f j) (f i)=false
 pre:0<ae->∀j,ae<=j->j<fM->lt (f j) (f (ae-1))=false
theorem jX.start{a b:Nat}{f:Nat->α}(h:a<=b)(aT:0<a->∀j,a<=j->j<b->lt (f j) (f (a-1))=false):jX lt a b a b f:=⟨⟨xan _,h,xan _⟩,xG (by omega),xG (by omega),λi j ab af=>by omega,λi j ab af aw a4=>by omega,aT⟩
theorem jX.done{ae fM a b:Nat}{f:Nat->α}(h:jX lt ae fM a b f)(aG:eE lt a b f):eE lt ae fM f:=by have aq:=h.le;refine eE.join h.l (eE.join aG h.r λi j aW a2 bb cX=>h.vM i j (by omega) a2 bb cX) λi j aW a2 bb cX=>h.lm i j aW a2 bb cX
theorem jX.low{ae fM a b:Nat}{f:Nat->α}(h:jX lt ae fM a b f)(aE:0<a):∀j,a<=j->j<b->lt (f j) (f (a-1))=false:=by
 intro j ab af;have aq:=h.le;by_cases ar:ae=a
 .subst ar;exact h.pre aE j ab (by omega)
 exact h.lm (a-1) j (by omega) (by omega) ab (by omega)
theorem jX.part[Inhabited α]{ae fM a b:Nat}{L M:List α}(h:jX lt ae fM a b (gt L))(aT:Part a b L M)(aj:fM<=L.length):jX lt ae fM a b (gt M):=by
 have aq:=h.le;have aw0:∀i,ae<=i->i<a->e2 (λx=>lt x (gt L i)=false) a b (gt M):=λi ab af=>e2.part (λj aw a4=>h.lm i j ab af aw (by omega)) aT (by omega);have aw1:∀j,b<=j->j<fM->e2 (λx=>lt (gt L j) x=false) a b (gt M):=λj ab af=>e2.part (λi aw a4=>h.vM i j (by omega) a4 ab af) aT (by omega);refine⟨h.le,h.l.out aT (.inl (xan _)),h.r.out aT (.inr (xan _)),?_,?_,?_⟩
 .intro i j ab af aw a4;rw[aT.p9 (i:=i) (.inl af)];by_cases aP:j<b;.exact aw0 i ab af j aw aP
  rw[aT.p9 (.inr (by omega))];exact h.lm i j ab af aw a4
 .intro i j ab af aw a4;rw[aT.p9 (i:=j) (.inr aw)];by_cases ah:a<=i;.exact aw1 j aw a4 i ah af
  rw[aT.p9 (.inl (by omega))];exact h.vM i j ab af aw a4
 intro ar j ab af;rw[aT.p9 (i:=ae-1) (.inl (by omega))];have:e2 (λx=>lt x (gt L (ae-1))=false) a b (gt M):=e2.part (λj aw a4=>h.pre ar j (by omega) (by omega)) aT (by omega);by_cases aP:a<=j/\j<b
 .exact this j aP.1 aP.2
 rw[aT.p9 (by omega)];exact h.pre ar j ab af
theorem jX.right{ae fM a b m:Nat}{f:Nat->α}(h:jX lt ae fM a b f)(ab:a<=m)(af:m<b)(aG:eE lt a m f)(aq:e2 (λx=>lt (f m) x=false) a m f)(av:e2 (λx=>lt x (f m)=false) (m+1) b f)(aF:Jr lt):jX lt ae fM (m+1) b f:=by
 have hle:=h.le;refine⟨⟨by omega,by omega,by omega⟩,?_,h.r,?_,λi j aW a2 bb cX=>h.vM i j aW a2 bb cX,h.pre⟩
 .refine eE.join h.l (eE.join aG (xG (by omega)) ?_) ?_
  .intro i j aW a2 bb cX;have:j=m:=by omega
   subst this;exact aq i aW a2
  intro i j aW a2 bb cX;exact h.lm i j aW a2 bb (by omega)
 intro i j aW a2 bb cX;by_cases ah:i<a;.exact h.lm i j aW ah (by omega) cX
 by_cases aP:j<b
 .have q:=av j bb aP;by_cases aw2:i=m;.subst aw2;exact q
  exact aF.tr _ _ _ (aq i (by omega) (by omega)) q
 exact h.vM i j aW (by omega) (by omega) cX
theorem jX.left{ae fM a b m:Nat}{f:Nat->α}(h:jX lt ae fM a b f)(ab:a<=m)(af:m<b)(aG:eE lt (m+1) b f)(aq:e2 (λx=>lt (f m) x=false) a m f)(av:e2 (λx=>lt x (f m)=false) (m+1) b f)(aF:Jr lt):jX lt ae fM a m f:=by
 have hle:=h.le;refine⟨⟨by omega,by omega,by omega⟩,h.l,?_,λi j aW a2 bb cX=>h.lm i j aW a2 bb cX,?_,h.pre⟩
 .refine eE.join (eE.join (xG (xan (m+1))) aG ?_) h.r ?_
  .intro i j aW a2 bb cX;have:i=m:=by omega
   subst this;exact av j bb cX
  intro i j aW a2 bb cX;exact h.vM i j (by omega) a2 bb cX
 intro i j aW a2 bb cX;by_cases ah:i<a;.exact h.lm i j aW ah (by omega) cX
 by_cases aP:j<b
 .have q:=aq i (by omega) a2;by_cases UI:j=m;.subst UI;exact q
  exact aF.tr _ _ _ q (av j (by omega) aP)
 exact h.vM i j aW (by omega) (by omega) cX
theorem jX.eq{ae fM a b m:Nat}{f:Nat->α}{p:α}(h:jX lt ae fM a b f)(ab:a<=m)(af:m<=b)(aq:e2 (λx=>lt p x=false) a m f)(aT:e2 (λx=>lt x p=false) a b f)(av:e2 (λx=>lt p x=true) m b f)(aF:Jr lt):jX lt ae fM m b f:=by
 have hle:=h.le;have fE:∀i j,a<=i->i<m->a<=j->j<b->lt (f j) (f i)=false:=λi j aW a2 bb cX=>aF.tr _ _ _ (aq i aW a2) (aT j bb cX);refine⟨⟨by omega,by omega,by omega⟩,?_,h.r,?_,λi j aW a2 bb cX=>h.vM i j aW a2 bb cX,h.pre⟩
 .refine eE.join h.l (λi j aW a2 bb=>fE i j aW (by omega) (by omega) (by omega)) ?_;intro i j aW a2 bb cX;exact h.lm i j aW a2 bb (by omega)
 intro i j aW a2 bb cX;by_cases ah:i<a;.exact h.lm i j aW ah (by omega) cX
 by_cases aP:j<b;.exact fE i j (by omega) a2 (by omega) aP
 exact h.vM i j aW (by omega) (by omega) cX
end
def kf:Jr blt where
 Js:=nv
 D6 x y h:=by cases af:blt y x with|false=>rfl|true=>have:=s6 h af;rw[nv]at this;cases this
 tr x y z ab af:=by
  cases aw:blt z x with
  |false=>rfl
  |true=>
   rcases BX y x with h|h|h;.rw[ab]at h;cases h
   .subst h;rw[af]at aw;cases aw
   have:=s6 aw h;rw[af]at this;cases this
def aeY:∀{l m:List ByteArray},hP l->hP m->(∀x,x∈l↔x∈m)->l=m
 |[],[],_,_,_=>rfl|[],b::m,_,_,h=>by have:=(h b).2 (by simp);cases this
 |a::l,[],_,_,h=>by have:=(h a).1 (by simp);cases this
 |a::l,b::m,ab,af,h=>by
  have fE:a=b:=by
   have aE:=(h a).1 (by simp);have aj:=(h b).2 (by simp);rcases xal.1 aE with e|e
   .exact e
   rcases xal.1 aj with aX|aX;.exact aX.symm
   have aW:=af.1 a e;have a2:=ab.1 b aX;have:=s6 aW a2;rw[nv]at this;cases this
  subst fE;have:=aeY ab.2 af.2 λx=>by
   have ag:=h x;constructor
   .intro g;rcases xal.1 (ag.1 (xbI _ g))with e|e
    .subst e;have:=ab.1 x g;rw[nv]at this;cases this
    exact e
   intro g;rcases xal.1 (ag.2 (xbI _ g))with e|e
   .subst e;have:=af.1 x g;rw[nv]at this;cases this
   exact e
  rw[this]
def Ow:List ByteArray->Prop
 |[]=>True|a::r=>(∀x∈r,blt x a=false)/\Ow r
def aw3{l:List ByteArray}(h:eE blt 0 l.length (gt l)):Ow l:=by
 induction l with
 |nil=>trivial
 |cons a r ih=>
  constructor
  .intro x ag;obtain⟨i,ah⟩:=List.getElem?_of_mem ag;have cu:=(xae.1 ah).1;have:=h 0 (i+1) (by omega) (by omega) (by simp;omega);have aO:gt (a::r) 0=a:=rfl;have aX:gt (a::r) (i+1)=x:=by simp[gt,xaR,ah]
   rw[aO,aX]at this;exact this
  refine ih λi j ab af aw=>?_;have:=h (i+1) (j+1) (by omega) (by omega) (by simp;omega);simpa[gt,xaR]using this
def nK:List ByteArray->List ByteArray
 |[]=>[]|[a]=>[a]|a::b::r=>if a=b then nK (b::r)else a::nK (b::r)
def Vi:∀(l:List ByteArray)(x:ByteArray),x∈nK l↔x∈l
 |[],x=>by simp[nK]|[a],x=>by simp[nK]
 |a::b::r,x=>by
  have ih:=Vi (b::r) x;simp only[nK];split;.rename_i h;subst h;rw[ih];simp
  rw[xal,ih,xal (a:=x) (b:=a)]
def aeZ:∀{l:List ByteArray},Ow l->hP (nK l)
 |[],_=>trivial|[a],_=>⟨by simp,trivial⟩
 |a::b::r,h=>by
  have ih:=aeZ h.2;simp only[nK];split;.exact ih
  rename_i fE;refine⟨?_,ih⟩;intro x ag;have ag:=(Vi _ _).1 ag;have g:=h.1 x ag;rcases BX a x with e|e|e
  .exact e
  ·
   subst e;rcases xal.1 ag with aX|aX
   .exact absurd aX fE
   have aW:=h.1 b (by simp);have a2:=h.2.1 a aX;rcases BX a b with bQ|bQ|bQ
   .rw[a2]at bQ;cases bQ
   .exact absurd bQ fE
   rw[aW]at bQ;cases bQ
  rw[g]at e;cases e
section
variable{α:Type}[Inhabited α](c:α->D)
def qa(L:List α):List (List D):=L.map λx=>[c x]
def c8{m i:Nat}(h:i<m):cj m (J (i:Int))=some i:=by rw[oV,xad h]
theorem cQ{L:List α}{i:Nat}(h:i<L.length):(qa c L)[i]?=some [c (gt L i)]:=by rw[qa,xaj,Jt h];rfl
def nc(L:List α)(i:Nat)(v:α):(qa c L).set i [c v]=qa c (L.set i v):=by simp[qa,List.map_set]
theorem eK(x:D):a5 false 1 0 [x]=some x:=rfl
theorem nd(w v:D):dH [w] 0 [v]=[v]:=rfl
def gX(L:List α):(qa c L).length=L.length:=by simp[qa]
def Ox{L:List α}{i:Nat}(h:i<L.length):bo 1 (D.az 1 (qa c L)) (J (i:Int))=some [c (gt L i)]:=by rw[aly (Int.natCast_nonneg i),Int.toNat_natCast];exact cQ c h
def mL{L:List α}{i j:Nat}(ah:i<L.length)(aP:j<L.length):(L.set i (gt L j)).set j (gt L i)=eT L i j:=awS (Jt ah) (Jt aP)
end
section
variable{bt:Bool}{a b:Nat}
theorem qS(h:a+b<4000000000000000000):ai bt .add (J (a:Int)) (J (b:Int))=some (J ((a+b:Nat):Int)):=by rw[gx (by omega) (by omega)];rfl
def qT(h:b<=a)(bx:a<4000000000000000000):ai bt .sub (J (a:Int)) (J (b:Int))=some (J ((a-b:Nat):Int)):=by rw[mD (by omega) (by omega)];congr 2;omega
def ky(h:1<=a)(bx:a<4000000000000000000):ai bt .sub (J (a:Int)) (J 1)=some (J ((a-1:Nat):Int)):=by rw[mD (by omega) (by omega)];congr 2;omega
def Oy{k:Nat}(ak:0<k)(h:a<4000000000000000000)(bx:k<1000):ai bt .quo (J (a:Int)) (J (k:Int))=some (J ((a/k:Nat):Int)):=by
 have e:Int.tdiv (a:Int) (k:Int)=((a/k:Nat):Int):=by rw[Int.tdiv_eq_ediv_of_nonneg (by omega)];exact(Int.natCast_ediv a k).symm
 have bj:a/k<=a:=Nat.div_le_self a k;rw[Zf (by omega),e];generalize a/k=q at*;rw[wrap64 _ (by omega) (by omega)]
end
def iy(n:Nat)(x y:ByteArray):jq n [aC x,aC y]=some (ax (blt x y)):=by simp[jq,aaz,Hj,aay]
abbrev cw(L:List ByteArray):D:=D.az 1 (qa aC L)
def aw4(n:Nat)(bW:List ByteArray)(a i:Nat)(B:D)(qb:a<=i)(ah:i<bW.length)(bR:bW.length<1000000000)(aN:bW.length<n)(aG:eE blt a i (gt bW)): ∃bB,bq (Cs n) n [J (a:Int),B,J (i:Int),J (i:Int),cw bW]=some (.inl [J (a:Int),B,J (i:Int),cw bB])/\Part a (i+1) bW bB/\eE blt a (i+1) (gt bB):=by
 have key:=kx (f:=Cs n) (S:=Nat×List ByteArray) (λs=>[J (a:Int),B,J (i:Int),J (s.1:Int),cw s.2]) (λs=>s.1) (λs=>a<=s.1/\s.1<=i/\Part a (i+1) bW s.2/\D7 blt a s.1 i (gt s.2)) (λr=>∃bB,r= .inl [J (a:Int),B,J (i:Int),cw bB]/\Part a (i+1) bW bB/\eE blt a (i+1) (gt bB)) ?_ n (i,bW) ⟨qb,xan _,Part.refl _ _ _,aeW aG⟩ (by simp only;omega);.obtain⟨r,ab,bB,rfl,af,aw⟩:=key;exact⟨bB,ab,af,aw⟩
 rintro⟨j,L⟩ ⟨aW,a2,bb,cX⟩;simp only at aW a2 bb cX⊢;have b2:=bb.len;by_cases aP:a=j
 .subst aP;right;refine⟨_,?_,L,rfl,bb,Ou kf cX (xan _) (.inl rfl)⟩;simp only[Cs,go_sem,yF ((a:Int)>(a:Int)),en,ee]
 have cJ:j<L.length:=by omega
 have kX:j-1<L.length:=by omega
 have aO:ai false .sub (J (j:Int)) (J 1)=some (J ((j-1:Nat):Int)):=ky (by omega) (by omega);by_cases aj:blt (gt L j) (gt L (j-1))=true
 .left;refine⟨(j-1,eT L j (j-1)),?_,⟨by omega,by omega,bb.trans (Part.eT (by omega) (by omega) (by omega) (by omega) (by omega)),?_⟩,by simp;omega⟩
  .simp only[Cs,go_sem,yT ((j:Int)>(a:Int)),en,ee,c8 cJ,c8 kX,cQ aC cJ,cQ aC kX,eK,aO,iy,aj,nd,nc,gX,xbb];have bz:j-1<(L.set j (gt L (j-1))).length:=by simpa using kX
   simp only[cQ aC bz,nd,nc,eN,mL cJ kX]
  rw[sl cJ kX];exact aeX kf cX (by omega) a2 aj
 right;have aj:blt (gt L j) (gt L (j-1))=false:=by simpa using aj
 refine⟨_,?_,L,rfl,bb,Ou kf cX aW (.inr aj)⟩;simp only[Cs,go_sem,yT ((j:Int)>(a:Int)),en,ee,c8 cJ,c8 kX,cQ aC cJ,cQ aC kX,eK,aO,iy,aj,gX]
def aw5(n:Nat)(bW:List ByteArray)(a b:Nat)(fE:a<=b)(aj:b<=bW.length)(bR:bW.length<1000000000)(aN:bW.length+1<n): ∃bB,Ct n [J (a:Int),J (b:Int),cw bW]=some [D.aZ [],cw bB]/\Part a b bW bB/\eE blt a b (gt bB):=by
 have key:=kx (f:=MA n) (S:=Nat×List ByteArray) (λs=>[J (a:Int),J (b:Int),J (s.1:Int),cw s.2]) (λs=>b-s.1) (λs=>a+1<=s.1/\(s.1<=b\/s.1=a+1)/\Part a b bW s.2/\eE blt a s.1 (gt s.2)) (λr=>∃bB,r= .inl [cw bB]/\Part a b bW bB/\eE blt a b (gt bB)) ?_ n (a+1,bW) ⟨xan _,.inr rfl,Part.refl _ _ _,xG (xan _)⟩ (by simp only;omega);.obtain⟨r,ab,bB,rfl,af,aw⟩:=key;refine⟨bB,?_,af,aw⟩;have bE:ai false .add (J (a:Int)) (J 1)=some (J ((a+1:Nat):Int)):=b0 (by omega);simp only[Ct,go_sem,bE,ab]
 rintro⟨i,L⟩ ⟨aW,a2,bb,cX⟩;simp only at aW a2 bb cX⊢;have b2:=bb.len;by_cases ah:i<b
 .left;obtain⟨bB,ab,af,aw⟩:=aw4 n L a i (J (b:Int)) (by omega) (by omega) (by omega) (by omega) cX;have aO:ai false .add (J (i:Int)) (J 1)=some (J ((i+1:Nat):Int)):=b0 (by omega);refine⟨(i+1,bB),?_,⟨by omega,.inl ah,bb.trans (af.mono (xan _) ah),aw⟩,by simp only;omega⟩;simp only[MA,go_sem,yT ((i:Int)<(b:Int)),ab,aO]
 right;refine⟨_,?_,L,rfl,bb,cX.mono (xan _) (by omega)⟩;simp only[MA,go_sem,yF ((i:Int)<(b:Int))]
def aw6(n:Nat)(bW:List ByteArray)(a b:Nat)(fE:a<b)(aj:b<=bW.length)(bR:bW.length<1000000000)(aN:bW.length+1<n): ∃bB,Cx n [J (a:Int),J (b:Int),cw bW]=some [D.aZ [],cw bB]/\Part a b bW bB:=by
 have key:=kx (f:=ME n) (S:=Nat×Nat×List ByteArray) (λs=>[J (s.1:Int),J (s.2.1:Int),cw s.2.2]) (λs=>s.2.1+1-s.1) (λs=>a<=s.1/\s.1<=s.2.1+1/\s.2.1<b/\Part a b bW s.2.2) (λr=>∃bB,r= .inl [cw bB]/\Part a b bW bB) ?_ n (a,b-1,bW) ⟨xan _,by simp only;omega,by simp only;omega,Part.refl _ _ _⟩ (by simp only;omega);.obtain⟨r,ab,bB,rfl,af⟩:=key;refine⟨bB,?_,af⟩;have bE:ai false .sub (J (b:Int)) (J 1)=some (J ((b-1:Nat):Int)):=ky (by omega) (by omega);simp only[Cx,go_sem,bE,ab]
 rintro⟨i,j,L⟩ ⟨aW,a2,bb,cX⟩;simp only at aW a2 bb cX⊢;have b2:=cX.len;by_cases ah:i<j
 .left;have ck:i<L.length:=by omega
  have cJ:j<L.length:=by omega
  have AH:j<(L.set i (gt L j)).length:=by simpa using cJ
  have aO:ai false .add (J (i:Int)) (J 1)=some (J ((i+1:Nat):Int)):=b0 (by omega);have aX:ai false .sub (J (j:Int)) (J 1)=some (J ((j-1:Nat):Int)):=ky (by omega) (by omega);refine⟨(i+1,j-1,eT L i j),?_,⟨by simp only;omega,by simp only;omega,by simp only;omega,cX.trans (Part.eT (by omega) (by omega) (by omega) (by omega) (by omega))⟩,by simp only;omega⟩;simp only[ME,go_sem,yT ((i:Int)<(j:Int)),c8 ck,c8 cJ,cQ aC ck,cQ aC cJ,eK,nd,nc,gX,xbb,aO,aX,cQ aC AH,mL ck cJ]
 right;refine⟨_,?_,L,rfl,cX⟩;simp only[ME,go_sem,yF ((i:Int)<(j:Int))]
theorem aw7{bt:Bool}{a:Nat}(h:a<1000000000):ai bt .mul (J 2) (J (a:Int))=some (J ((2*a:Nat):Int)):=by rw[Lz (by omega) (by omega)];rfl
def ae0(n:Nat)(bW:List ByteArray)(z lo ah:Nat)(hG:lo<=ah)(bn:z+ah<=bW.length)(bR:bW.length<1000000000)(aN:bW.length+1<n)(aT:pg blt z (lo+1) ah (gt bW)): ∃bB,u6 n [J (lo:Int),J (ah:Int),J (z:Int),cw bW]=some [D.aZ [],cw bB]/\Part (z+lo) (z+ah) bW bB/\pg blt z lo ah (gt bB):=by
 have key:=kx (f:=u5 n) (S:=Nat×List ByteArray) (λs=>[J (ah:Int),J (z:Int),J (s.1:Int),cw s.2]) (λs=>ah-s.1) (λs=>lo<=s.1/\s.1<=ah/\Part (z+lo) (z+ah) bW s.2/\Ju blt z lo ah s.1 (gt s.2)) (λr=>∃bB,(r= .inl [cw bB]\/r= .inr [D.aZ [],cw bB])/\Part (z+lo) (z+ah) bW bB/\pg blt z lo ah (gt bB)) ?_ n (lo,bW) ⟨xan _,hG,Part.refl _ _ _,awX aT⟩ (by simp only;omega)
 .obtain⟨r,ab,bB,av,af,aw⟩:=key;refine⟨bB,?_,af,aw⟩;rcases av with rfl|rfl;.simp only[u6,go_sem,ab]
  simp only[u6,go_sem,ab]
 rintro⟨x,L⟩ ⟨aW,a2,bb,cX⟩;simp only at aW a2 bb cX⊢;have b2:=bb.len;have aO:ai false .mul (J 2) (J (x:Int))=some (J ((2*x:Nat):Int)):=aw7 (by omega);have aX:ai false .add (J ((2*x:Nat):Int)) (J 1)=some (J ((2*x+1:Nat):Int)):=b0 (by omega);have bQ:ai false .add (J ((2*x+1:Nat):Int)) (J 1)=some (J ((2*x+2:Nat):Int)):=b0 (by omega);by_cases an:ah<=2*x+1
 .right;refine⟨_,?_,L,.inl rfl,bb,Ov cX λc ab af=>by omega⟩;simp only[u5,go_sem,aO,aX,yT (((2*x+1:Nat):Int)>=(ah:Int))]
 have ag:z+x<L.length:=by omega
 have qU:z+(2*x+1)<L.length:=by omega
 have ao:ai false .add (J (z:Int)) (J ((2*x+1:Nat):Int))=some (J ((z+(2*x+1):Nat):Int)):=qS (by omega);have bc:ai false .add (J ((z+(2*x+1):Nat):Int)) (J 1)=some (J ((z+(2*x+2):Nat):Int)):=b0 (by omega);have b9:ai false .add (J (z:Int)) (J (x:Int))=some (J ((z+x:Nat):Int)):=qS (by omega);by_cases aG:2*x+2<ah
 .have iT:z+(2*x+2)<L.length:=by omega
  have ay:=yT (((2*x+2:Nat):Int)<(ah:Int));by_cases eO:blt (gt L (z+(2*x+1))) (gt L (z+(2*x+2)))=true
  .have q5:∀c,(c=2*x+1\/c=2*x+2)->c<ah->blt (gt L (z+(2*x+2))) (gt L (z+c))=false:=by
    rintro c (rfl|rfl) h;.exact kf.D6 _ _ eO
    exact kf.Js _
   have aJ:z+(2*x+2)<L.length:=by omega
   have Jv:z+(2*x+2)<(L.set (z+x) (gt L (z+(2*x+2)))).length:=by simpa using aJ
   have cL:ai false .add (J (z:Int)) (J ((2*x+2:Nat):Int))=some (J ((z+(2*x+2):Nat):Int)):=qS (by omega);by_cases aj:blt (gt L (z+x)) (gt L (z+(2*x+2)))=true
   .left;refine⟨(2*x+2,eT L (z+x) (z+(2*x+2))),?_,⟨by simp only;omega,by simp only;omega,bb.trans (Part.eT (by omega) (by omega) (by omega) (by omega) (by omega)),?_⟩,by simp only;omega⟩;.simp only[u5,go_sem,aO,aX,yF (((2*x+1:Nat):Int)>=(ah:Int)),bQ,ay,c8 iT,cQ aC iT,eO,en,ee,ao,bc,b9,cL,c8 ag,c8 qU,c8 aJ,cQ aC ag,cQ aC qU,cQ aC aJ,eK,nd,nc,gX,xbb,iy,aj,cQ aC Jv,mL ag aJ]
    rw[sl ag aJ];exact Vh kf cX aW (by omega) (by omega) q5 aj
   right;have aj:blt (gt L (z+x)) (gt L (z+(2*x+2)))=false:=by simpa using aj
   refine⟨_,?_,L,.inr rfl,bb,Ov cX λc ab af=>kf.tr _ _ _ (q5 c ab af) aj⟩;simp only[u5,go_sem,aO,aX,yF (((2*x+1:Nat):Int)>=(ah:Int)),bQ,ay,c8 iT,cQ aC iT,eO,en,ee,ao,bc,b9,cL,c8 ag,c8 qU,c8 aJ,cQ aC ag,cQ aC qU,cQ aC aJ,eK,gX,iy,aj]
  have eO:blt (gt L (z+(2*x+1))) (gt L (z+(2*x+2)))=false:=by simpa using eO
  have q5:∀c,(c=2*x+1\/c=2*x+2)->c<ah->blt (gt L (z+(2*x+1))) (gt L (z+c))=false:=by
   rintro c (rfl|rfl) h;.exact kf.Js _
   exact eO
  have aJ:z+(2*x+1)<L.length:=by omega
  have Jv:z+(2*x+1)<(L.set (z+x) (gt L (z+(2*x+1)))).length:=by simpa using aJ
  have cL:ai false .add (J (z:Int)) (J ((2*x+1:Nat):Int))=some (J ((z+(2*x+1):Nat):Int)):=qS (by omega);by_cases aj:blt (gt L (z+x)) (gt L (z+(2*x+1)))=true
  .left;refine⟨(2*x+1,eT L (z+x) (z+(2*x+1))),?_,⟨by simp only;omega,by simp only;omega,bb.trans (Part.eT (by omega) (by omega) (by omega) (by omega) (by omega)),?_⟩,by simp only;omega⟩;.simp only[u5,go_sem,aO,aX,yF (((2*x+1:Nat):Int)>=(ah:Int)),bQ,ay,c8 iT,cQ aC iT,eO,en,ee,ao,bc,b9,cL,c8 ag,c8 qU,c8 aJ,cQ aC ag,cQ aC qU,cQ aC aJ,eK,nd,nc,gX,xbb,iy,aj,cQ aC Jv,mL ag aJ]
   rw[sl ag aJ];exact Vh kf cX aW (by omega) (by omega) q5 aj
  right;have aj:blt (gt L (z+x)) (gt L (z+(2*x+1)))=false:=by simpa using aj
  refine⟨_,?_,L,.inr rfl,bb,Ov cX λc ab af=>kf.tr _ _ _ (q5 c ab af) aj⟩;simp only[u5,go_sem,aO,aX,yF (((2*x+1:Nat):Int)>=(ah:Int)),bQ,ay,c8 iT,cQ aC iT,eO,en,ee,ao,bc,b9,cL,c8 ag,c8 qU,c8 aJ,cQ aC ag,cQ aC qU,cQ aC aJ,eK,gX,iy,aj]
 have ay:=yF (((2*x+2:Nat):Int)<(ah:Int));have q5:∀c,(c=2*x+1\/c=2*x+2)->c<ah->blt (gt L (z+(2*x+1))) (gt L (z+c))=false:=by
  rintro c (rfl|rfl) h;.exact kf.Js _
  omega
 have aJ:z+(2*x+1)<L.length:=by omega
 have Jv:z+(2*x+1)<(L.set (z+x) (gt L (z+(2*x+1)))).length:=by simpa using aJ
 have cL:ai false .add (J (z:Int)) (J ((2*x+1:Nat):Int))=some (J ((z+(2*x+1):Nat):Int)):=qS (by omega);by_cases aj:blt (gt L (z+x)) (gt L (z+(2*x+1)))=true
 .left;refine⟨(2*x+1,eT L (z+x) (z+(2*x+1))),?_,⟨by simp only;omega,by simp only;omega,bb.trans (Part.eT (by omega) (by omega) (by omega) (by omega) (by omega)),?_⟩,by simp only;omega⟩;.simp only[u5,go_sem,aO,aX,yF (((2*x+1:Nat):Int)>=(ah:Int)),bQ,ay,en,ee,ao,bc,b9,cL,c8 ag,c8 qU,c8 aJ,cQ aC ag,cQ aC qU,cQ aC aJ,eK,nd,nc,gX,xbb,iy,aj,cQ aC Jv,mL ag aJ]
  rw[sl ag aJ];exact Vh kf cX aW (by omega) (by omega) q5 aj
 right;have aj:blt (gt L (z+x)) (gt L (z+(2*x+1)))=false:=by simpa using aj
 refine⟨_,?_,L,.inr rfl,bb,Ov cX λc ab af=>kf.tr _ _ _ (q5 c ab af) aj⟩;simp only[u5,go_sem,aO,aX,yF (((2*x+1:Nat):Int)>=(ah:Int)),bQ,ay,en,ee,ao,bc,b9,cL,c8 ag,c8 qU,c8 aJ,cQ aC ag,cQ aC qU,cQ aC aJ,eK,gX,iy,aj]
def aw8(n:Nat)(bW:List ByteArray)(z ah:Nat)(ab:1<=ah)(bn:z+ah<=bW.length)(bR:bW.length<1000000000)(aN:bW.length+1<n): ∃bB,bq (Hk n) n [J (z:Int),J 0,J (ah:Int),J (((ah-1)/2:Nat):Int),cw bW]=some (.inl [J (z:Int),J 0,J (ah:Int),cw bB])/\Part z (z+ah) bW bB/\pg blt z 0 ah (gt bB):=by
 have key:=kx (f:=Hk n) (S:=Nat×List ByteArray) (λs=>[J (z:Int),J 0,J (ah:Int),J ((s.1:Int)-1),cw s.2]) (λs=>s.1) (λs=>s.1<=ah/\Part z (z+ah) bW s.2/\pg blt z s.1 ah (gt s.2)) (λr=>∃bB,r= .inl [J (z:Int),J 0,J (ah:Int),cw bB]/\Part z (z+ah) bW bB/\pg blt z 0 ah (gt bB)) ?_ n ((ah-1)/2+1,bW) ⟨by simp only;omega,Part.refl _ _ _,λr c ab af aw=>by omega⟩ (by simp only;omega)
 .obtain⟨r,ab,bB,rfl,af,aw⟩:=key;have e:((((ah-1)/2+1:Nat):Int)-1)=(((ah-1)/2:Nat):Int):=by omega
  simp only[e]at ab;exact⟨bB,ab,af,aw⟩
 rintro⟨k,L⟩ ⟨aW,a2,bb⟩;simp only at aW a2 bb⊢;have b2:=a2.len;cases k with
 |zero=>right;refine⟨_,?_,L,rfl,a2,bb⟩;simp only[Hk,go_sem,yF ((((0:Nat):Int)-1)>=0)]
 |succ m=>
  left;obtain⟨bB,bz,bA,cx⟩:=ae0 n L z m ah (by omega) (by omega) (by omega) (by omega) bb;have e:(((m+1:Nat):Int)-1)=(m:Int):=by omega
  have aO:ai false .sub (J (m:Int)) (J 1)=some (J ((m:Int)-1)):=mD (by omega) (by omega);refine⟨(m,bB),?_,⟨by simp only;omega,a2.trans (bA.mono (by omega) (xan _)),cx⟩,by simp only;omega⟩;simp only[Hk,go_sem,e,yT ((m:Int)>=0),bz,aO]
def aw9(n:Nat)(bW:List ByteArray)(z ah:Nat)(bn:z+ah<=bW.length)(bR:bW.length<1000000000)(aN:bW.length+1<n)(aT:pg blt z 0 ah (gt bW)): ∃bB,bq (Hl n) n [J (z:Int),J 0,J ((ah:Int)-1),cw bW]=some (.inl [cw bB])/\Part z (z+ah) bW bB/\eE blt z (z+ah) (gt bB):=by
 have key:=kx (f:=Hl n) (S:=Nat×List ByteArray) (λs=>[J (z:Int),J 0,J ((s.1:Int)-1),cw s.2]) (λs=>s.1) (λs=>s.1<=ah/\Part z (z+ah) bW s.2/\tW blt z s.1 ah (gt s.2)) (λr=>∃bB,r= .inl [cw bB]/\Part z (z+ah) bW bB/\eE blt z (z+ah) (gt bB)) ?_ n (ah,bW) ⟨xan _,Part.refl _ _ _,tW.start aT⟩ (by simp only;omega);.obtain⟨r,ab,bB,rfl,af,aw⟩:=key;exact⟨bB,ab,af,aw⟩
 rintro⟨k,L⟩ ⟨aW,a2,bb⟩;simp only at aW a2 bb⊢;have b2:=a2.len;cases k with
 |zero=>right;refine⟨_,?_,L,rfl,a2,by simpa using bb.s⟩;simp only[Hl,go_sem,yF ((((0:Nat):Int)-1)>=0)]
 |succ m=>
  left;have AE:z<L.length:=by omega
  have Jw:z+m<L.length:=by omega
  obtain⟨s1,s2,gT⟩:=tW.swap kf bb aW;rw[<-sl AE Jw]at s1 s2 gT;have gr:=Jq L z (z+m);obtain⟨bB,bz,bA,cx⟩:=ae0 n (eT L z (z+m)) z 0 m (by omega) (by omega) (by omega) (by omega) s1;have bz:u6 n [J 0,J (m:Int),J (z:Int),cw (eT L z (z+m))]=some [D.aZ [],cw bB]:=bz;have e:(((m+1:Nat):Int)-1)=(m:Int):=by omega
  have aO:ai false .sub (J (m:Int)) (J 1)=some (J ((m:Int)-1)):=mD (by omega) (by omega);have aX:ai false .add (J (z:Int)) (J (m:Int))=some (J ((z+m:Nat):Int)):=qS (by omega);have axa:z+m<(L.set z (gt L (z+m))).length:=by simpa using Jw
  refine⟨(m,bB),?_,⟨by simp only;omega,(a2.trans (Part.eT (xan _) (by omega) (by omega) (by omega) (by omega))).trans (bA.mono (by omega) (by omega)),tW.next (bA.mono (by omega) (xan _)) (by omega) (by omega) cx s2 gT⟩,by simp only;omega⟩;simp only[Hl,go_sem,e,yT ((m:Int)>=0),aX,c8 AE,c8 Jw,cQ aC AE,cQ aC Jw,eK,nd,nc,gX,xbb,cQ aC axa,mL AE Jw,bz,aO]
def axb(n:Nat)(bW:List ByteArray)(a b:Nat)(fE:a<b)(aj:b<=bW.length)(bR:bW.length<1000000000)(aN:bW.length+1<n): ∃bB,Cw n [J (a:Int),J (b:Int),cw bW]=some [D.aZ [],cw bB]/\Part a b bW bB/\eE blt a b (gt bB):=by
 obtain⟨D8,dy,dg,eW⟩:=aw8 n bW a (b-a) (by omega) (by omega) bR aN;have nO:=dg.len;obtain⟨iG,bz,bA,cx⟩:=aw9 n D8 a (b-a) (by omega) (by omega) (by omega) eW;have e:a+(b-a)=b:=by omega
 rw[e]at dg bA cx;refine⟨iG,?_,dg.trans bA,cx⟩;have aO:ai false .sub (J (b:Int)) (J (a:Int))=some (J ((b-a:Nat):Int)):=qT (by omega) (by omega);have aX:ai false .sub (J ((b-a:Nat):Int)) (J 1)=some (J ((b-a-1:Nat):Int)):=ky (by omega) (by omega);have bQ:ai false .quo (J ((b-a-1:Nat):Int)) (J 2)=some (J (((b-a-1)/2:Nat):Int)):=Oy (k:=2) (by omega) (by omega) (by omega);have cO:(((b-a-1:Nat):Int))=((b-a:Nat):Int)-1:=by omega
 have eb:ai false .sub (J ((b-a:Nat):Int)) (J 1)=some (J (((b-a:Nat):Int)-1)):=by rw[aX,cO]
 simp only[Cw,go_sem,aO,aX,bQ,dy];rw[cO,bz];rfl
def axc(n:Nat)(L:List ByteArray)(a i j:Nat)(qb:a<i)(gS:i<=j+1)(aP:j<L.length)(bR:L.length<1000000000)(aN:L.length+1<n): ∃cq:Nat,bq (CD n) n [J (a:Int),J (i:Int),J (j:Int),cw L]=some (.inl [J (a:Int),J (cq:Int),J (j:Int),cw L])/\i<=cq/\cq<=j+1/\e2 (λx=>blt x (gt L a)=true) i cq (gt L)/\(cq<=j->blt (gt L cq) (gt L a)=false):=by
 have key:=kx (f:=CD n) (S:=Nat) (λs=>[J (a:Int),J (s:Int),J (j:Int),cw L]) (λs=>j+1-s) (λs=>i<=s/\s<=j+1/\e2 (λx=>blt x (gt L a)=true) i s (gt L)) (λr=>∃cq:Nat,r= .inl [J (a:Int),J (cq:Int),J (j:Int),cw L]/\i<=cq/\cq<=j+1/\e2 (λx=>blt x (gt L a)=true) i cq (gt L)/\(cq<=j->blt (gt L cq) (gt L a)=false)) ?_ n i ⟨xan _,gS,λk ab af=>by omega⟩ (by omega);.obtain⟨r,ab,cq,rfl,af⟩:=key;exact⟨cq,ab,af⟩
 rintro s ⟨aW,a2,bb⟩;by_cases aG:s<=j
 .have gr:s<L.length:=by omega
  have fz:a<L.length:=by omega
  by_cases aj:blt (gt L s) (gt L a)=true
  .left;have aO:ai false .add (J (s:Int)) (J 1)=some (J ((s+1:Nat):Int)):=b0 (by omega);refine⟨s+1,?_,⟨by omega,by omega,λk ab af=>?_⟩,by omega⟩
   .simp only[CD,go_sem,yT ((s:Int)<=(j:Int)),en,ee,c8 gr,c8 fz,cQ aC gr,cQ aC fz,eK,gX,iy,aj,aO]
   by_cases ak:k=s;.subst ak;exact aj
   exact bb k ab (by omega)
  right;have aj:blt (gt L s) (gt L a)=false:=by simpa using aj
  refine⟨_,?_,s,rfl,aW,a2,bb,λ_=>aj⟩;simp only[CD,go_sem,yT ((s:Int)<=(j:Int)),en,ee,c8 gr,c8 fz,cQ aC gr,cQ aC fz,eK,gX,iy,aj]
 right;refine⟨_,?_,s,rfl,aW,a2,bb,λh=>absurd h aG⟩;simp only[CD,go_sem,yF ((s:Int)<=(j:Int)),en,ee]
def axd(n:Nat)(L:List ByteArray)(a i j:Nat)(qb:a<i)(gS:i<=j+1)(aP:j<L.length)(bR:L.length<1000000000)(aN:L.length+1<n): ∃cq:Nat,bq (CF n) n [J (a:Int),J (i:Int),J (j:Int),cw L]=some (.inl [J (a:Int),J (cq:Int),J (j:Int),cw L])/\i<=cq/\cq<=j+1/\e2 (λx=>blt x (gt L a)=true) i cq (gt L)/\(cq<=j->blt (gt L cq) (gt L a)=false):=by
 have key:=kx (f:=CF n) (S:=Nat) (λs=>[J (a:Int),J (s:Int),J (j:Int),cw L]) (λs=>j+1-s) (λs=>i<=s/\s<=j+1/\e2 (λx=>blt x (gt L a)=true) i s (gt L)) (λr=>∃cq:Nat,r= .inl [J (a:Int),J (cq:Int),J (j:Int),cw L]/\i<=cq/\cq<=j+1/\e2 (λx=>blt x (gt L a)=true) i cq (gt L)/\(cq<=j->blt (gt L cq) (gt L a)=false)) ?_ n i ⟨xan _,gS,λk ab af=>by omega⟩ (by omega);.obtain⟨r,ab,cq,rfl,af⟩:=key;exact⟨cq,ab,af⟩
 rintro s ⟨aW,a2,bb⟩;by_cases aG:s<=j
 .have gr:s<L.length:=by omega
  have fz:a<L.length:=by omega
  by_cases aj:blt (gt L s) (gt L a)=true
  .left;have aO:ai false .add (J (s:Int)) (J 1)=some (J ((s+1:Nat):Int)):=b0 (by omega);refine⟨s+1,?_,⟨by omega,by omega,λk ab af=>?_⟩,by omega⟩
   .simp only[CF,go_sem,yT ((s:Int)<=(j:Int)),en,ee,c8 gr,c8 fz,cQ aC gr,cQ aC fz,eK,gX,iy,aj,aO]
   by_cases ak:k=s;.subst ak;exact aj
   exact bb k ab (by omega)
  right;have aj:blt (gt L s) (gt L a)=false:=by simpa using aj
  refine⟨_,?_,s,rfl,aW,a2,bb,λ_=>aj⟩;simp only[CF,go_sem,yT ((s:Int)<=(j:Int)),en,ee,c8 gr,c8 fz,cQ aC gr,cQ aC fz,eK,gX,iy,aj]
 right;refine⟨_,?_,s,rfl,aW,a2,bb,λh=>absurd h aG⟩;simp only[CF,go_sem,yF ((s:Int)<=(j:Int)),en,ee]
def axe(n:Nat)(L:List ByteArray)(a i j:Nat)(qb:a<i)(gS:i<=j+1)(aP:j<L.length)(bR:L.length<1000000000)(aN:L.length+1<n): ∃du:Nat,bq (CE n) n [J (a:Int),J (i:Int),J (j:Int),cw L]=some (.inl [J (a:Int),J (i:Int),J (du:Int),cw L])/\i<=du+1/\du<=j/\e2 (λx=>blt x (gt L a)=false) (du+1) (j+1) (gt L)/\(i<=du->blt (gt L du) (gt L a)=true):=by
 have key:=kx (f:=CE n) (S:=Nat) (λs=>[J (a:Int),J (i:Int),J (s:Int),cw L]) (λs=>s) (λs=>i<=s+1/\s<=j/\e2 (λx=>blt x (gt L a)=false) (s+1) (j+1) (gt L)) (λr=>∃du:Nat,r= .inl [J (a:Int),J (i:Int),J (du:Int),cw L]/\i<=du+1/\du<=j/\e2 (λx=>blt x (gt L a)=false) (du+1) (j+1) (gt L)/\(i<=du->blt (gt L du) (gt L a)=true)) ?_ n j ⟨gS,xan _,λk ab af=>by omega⟩ (by omega);.obtain⟨r,ab,du,rfl,af⟩:=key;exact⟨du,ab,af⟩
 rintro s ⟨aW,a2,bb⟩;by_cases aG:i<=s
 .have gr:s<L.length:=by omega
  have fz:a<L.length:=by omega
  by_cases aj:blt (gt L s) (gt L a)=true;.right;refine⟨_,?_,s,rfl,aW,a2,bb,λ_=>aj⟩;simp only[CE,go_sem,yT ((i:Int)<=(s:Int)),en,ee,c8 gr,c8 fz,cQ aC gr,cQ aC fz,eK,gX,iy,aj]
  left;have aj:blt (gt L s) (gt L a)=false:=by simpa using aj
  have aO:ai false .sub (J (s:Int)) (J 1)=some (J ((s-1:Nat):Int)):=ky (by omega) (by omega);refine⟨s-1,?_,⟨by omega,by omega,λk ab af=>?_⟩,by omega⟩;.simp only[CE,go_sem,yT ((i:Int)<=(s:Int)),en,ee,c8 gr,c8 fz,cQ aC gr,cQ aC fz,eK,gX,iy,aj,aO]
  by_cases ak:k=s;.subst ak;exact aj
  exact bb k (by omega) af
 right;refine⟨_,?_,s,rfl,aW,a2,bb,λh=>absurd h aG⟩;simp only[CE,go_sem,yF ((i:Int)<=(s:Int)),en,ee]
def axf(n:Nat)(L:List ByteArray)(a i j:Nat)(qb:a<i)(gS:i<=j+1)(aP:j<L.length)(bR:L.length<1000000000)(aN:L.length+1<n): ∃du:Nat,bq (CG n) n [J (a:Int),J (i:Int),J (j:Int),cw L]=some (.inl [J (a:Int),J (i:Int),J (du:Int),cw L])/\i<=du+1/\du<=j/\e2 (λx=>blt x (gt L a)=false) (du+1) (j+1) (gt L)/\(i<=du->blt (gt L du) (gt L a)=true):=by
 have key:=kx (f:=CG n) (S:=Nat) (λs=>[J (a:Int),J (i:Int),J (s:Int),cw L]) (λs=>s) (λs=>i<=s+1/\s<=j/\e2 (λx=>blt x (gt L a)=false) (s+1) (j+1) (gt L)) (λr=>∃du:Nat,r= .inl [J (a:Int),J (i:Int),J (du:Int),cw L]/\i<=du+1/\du<=j/\e2 (λx=>blt x (gt L a)=false) (du+1) (j+1) (gt L)/\(i<=du->blt (gt L du) (gt L a)=true)) ?_ n j ⟨gS,xan _,λk ab af=>by omega⟩ (by omega);.obtain⟨r,ab,du,rfl,af⟩:=key;exact⟨du,ab,af⟩
 rintro s ⟨aW,a2,bb⟩;by_cases aG:i<=s
 .have gr:s<L.length:=by omega
  have fz:a<L.length:=by omega
  by_cases aj:blt (gt L s) (gt L a)=true;.right;refine⟨_,?_,s,rfl,aW,a2,bb,λ_=>aj⟩;simp only[CG,go_sem,yT ((i:Int)<=(s:Int)),en,ee,c8 gr,c8 fz,cQ aC gr,cQ aC fz,eK,gX,iy,aj]
  left;have aj:blt (gt L s) (gt L a)=false:=by simpa using aj
  have aO:ai false .sub (J (s:Int)) (J 1)=some (J ((s-1:Nat):Int)):=ky (by omega) (by omega);refine⟨s-1,?_,⟨by omega,by omega,λk ab af=>?_⟩,by omega⟩;.simp only[CG,go_sem,yT ((i:Int)<=(s:Int)),en,ee,c8 gr,c8 fz,cQ aC gr,cQ aC fz,eK,gX,iy,aj,aO]
  by_cases ak:k=s;.subst ak;exact aj
  exact bb k (by omega) af
 right;refine⟨_,?_,s,rfl,aW,a2,bb,λh=>absurd h aG⟩;simp only[CG,go_sem,yF ((i:Int)<=(s:Int)),en,ee]
structure qc(bW:List ByteArray)(a b i j:Nat)(p:ByteArray)(L:List ByteArray):Prop where
 qV:a<i
 xH:i<=j+1
 qW:j<b
 tX:Part a b bW L
 pv:gt L a=p
 lo:e2 (λx=>blt x p=true) (a+1) i (gt L)
 ah:e2 (λx=>blt x p=false) (j+1) b (gt L)
def qc.step{bW L:List ByteArray}{a b i j cq du:Nat}{p:ByteArray}(h:qc bW a b i j p L)(ab:i<=cq)(af:cq<=j+1)(aw:e2 (λx=>blt x p=true) i cq (gt L))(a4:cq<=du+1)(b6:du<=j)(cP:e2 (λx=>blt x p=false) (du+1) (j+1) (gt L)):qc bW a b cq du p L:=⟨by have:=h.qV;omega,a4,by have:=h.qW;omega,h.tX,h.pv,λk aW a2=>if ak:k<i then h.lo k aW ak else aw k (by omega) a2,λk aW a2=>if ak:j+1<=k then h.ah k ak a2 else cP k aW (by omega)⟩
def qc.swap{bW L:List ByteArray}{a b i j:Nat}{p:ByteArray}(h:qc bW a b i j p L)(gS:i<=j)(ah:blt (gt L i) p=false)(aP:blt (gt L j) p=true)(aj:b<=L.length):qc bW a b (i+1) (j-1) p (eT L i j):=by
 have aE:=h.qV;have AI:=h.qW;have cK:i≠j:=by rintro rfl;rw[ah]at aP;cases aP
 have e:=sl (L:=L) (i:=i) (j:=j) (by omega) (by omega);refine⟨by omega,by omega,by omega,h.tX.trans (Part.eT (by omega) (by omega) (by omega) (by omega) aj),?_,?_,?_⟩;.rw[e];simp only[jW];rw[xac (by omega),xac (by omega)];exact h.pv
 .intro k aW a2;rw[e];simp only[jW];rw[xac (by omega)];by_cases ak:k=i;.rw[xad ak];exact aP
  rw[xac ak];exact h.lo k aW (by omega)
 intro k aW a2;rw[e];simp only[jW];by_cases ak:k=j;.rw[xad ak];exact ah
 rw[xac ak,xac (by omega)];exact h.ah k (by omega) a2
def qc.fin{bW L:List ByteArray}{a b i j:Nat}{p:ByteArray}(h:qc bW a b i j p L)(gS:j<i)(aj:b<=L.length):Part a b bW (eT L j a)/\a<=j/\j<b/\e2 (λx=>blt (gt (eT L j a) j) x=false) a j (gt (eT L j a))/\e2 (λx=>blt x (gt (eT L j a) j)=false) (j+1) b (gt (eT L j a)):=by
 have aE:=h.qV;have AI:=h.qW;have aBt:=h.xH;have e:=sl (L:=L) (i:=j) (j:=a) (by omega) (by omega);have ae1:gt (eT L j a) j=p:=by
  rw[e];simp only[jW];by_cases Vj:j=a;.rw[xad Vj,Vj];exact h.pv
  rw[xac Vj];simp only[xaC];exact h.pv
 refine⟨h.tX.trans (Part.eT (by omega) (by omega) (by omega) (by omega) aj),by omega,AI,?_,?_⟩
 .intro k aW a2;rw[ae1,e];simp only[jW];by_cases ak:k=a;.rw[xad ak];exact kf.D6 _ _ (h.lo j (by omega) (by omega))
  rw[xac ak,xac (by omega)];exact kf.D6 _ _ (h.lo k (by omega) (by omega))
 intro k aW a2;rw[ae1,e];simp only[jW];rw[xac (by omega),xac (by omega)];exact h.ah k aW a2
def axg(n:Nat)(bW L:List ByteArray)(a b i j:Nat)(p:ByteArray)(h:qc bW a b i j p L)(aj:b<=bW.length)(bR:bW.length<1000000000)(aN:bW.length+1<n): ∃(cq du:Nat)(bB:List ByteArray),bq (Ht n) n [J (a:Int),J (i:Int),J (j:Int),cw L]=some (.inl [J (a:Int),J (du:Int),cw bB])/\qc bW a b cq du p bB/\du<cq:=by
 have key:=kx (f:=Ht n) (S:=Nat×Nat×List ByteArray) (λs=>[J (a:Int),J (s.1:Int),J (s.2.1:Int),cw s.2.2]) (λs=>s.2.1+1-s.1) (λs=>qc bW a b s.1 s.2.1 p s.2.2) (λr=>∃(cq du:Nat)(bB:List ByteArray),r= .inl [J (a:Int),J (du:Int),cw bB]/\qc bW a b cq du p bB/\du<cq) ?_ n (i,j,L) h (by have:=h.qW;simp only;omega);.obtain⟨r,ab,cq,du,bB,rfl,af⟩:=key;exact⟨cq,du,bB,ab,af⟩
 rintro⟨i,j,L⟩ g;simp only at g⊢;have b2:=g.tX.len;have qb:=g.qV;have AI:=g.qW;have gS:=g.xH;obtain⟨i1,dy,dg,eW,jj,lD⟩:=axd n L a i j g.qV g.xH (by omega) (by omega) (by omega);obtain⟨hp,bz,bA,cx,eo,fi⟩:=axf n L a i1 j (by omega) eW (by omega) (by omega) (by omega);rw[g.pv]at jj lD eo fi;have lC:=g.step dg eW jj bA cx eo;by_cases an:i1<=hp
 .left;have ck:i1<L.length:=by omega
  have cJ:hp<L.length:=by omega
  have AH:hp<(L.set i1 (gt L hp)).length:=by simpa using cJ
  have aO:ai false .add (J (i1:Int)) (J 1)=some (J ((i1+1:Nat):Int)):=b0 (by omega);have aX:ai false .sub (J (hp:Int)) (J 1)=some (J ((hp-1:Nat):Int)):=ky (by omega) (by omega);refine⟨(i1+1,hp-1,eT L i1 hp),?_,lC.swap an (lD (by omega)) (fi an) (by omega),by simp only;omega⟩;simp only[Ht,go_sem,dy,bz,yF ((i1:Int)>(hp:Int)),c8 ck,c8 cJ,cQ aC ck,cQ aC cJ,eK,nd,nc,gX,xbb,cQ aC AH,mL ck cJ,aO,aX]
 right;refine⟨_,?_,i1,hp,L,rfl,lC,by omega⟩;simp only[Ht,go_sem,dy,bz,yT ((i1:Int)>(hp:Int))]
def axh(n:Nat)(bW:List ByteArray)(a b pv:Nat)(fE:a+1<b)(D9:a<=pv/\pv<b)(aj:b<=bW.length)(bR:bW.length<1000000000)(aN:bW.length+1<n): ∃(m:Nat)(d:Bool)(bB:List ByteArray),zG n [J (a:Int),J (b:Int),J (pv:Int),cw bW]=some [D.aZ [J (m:Int),ax d],cw bB]/\Part a b bW bB/\a<=m/\m<b/\e2 (λx=>blt (gt bB m) x=false) a m (gt bB)/\e2 (λx=>blt x (gt bB m)=false) (m+1) b (gt bB):=by
 have fz:a<bW.length:=by omega
 have kD:pv<bW.length:=by omega
 have Oz:pv<(bW.set a (gt bW pv)).length:=by simpa using kD
 have nO:=Jq bW a pv;have k3:Part a b bW (eT bW a pv):=Part.eT (xan _) (by omega) D9.1 D9.2 aj;have aO:ai false .add (J (a:Int)) (J 1)=some (J ((a+1:Nat):Int)):=b0 (by omega);have aX:ai false .sub (J (b:Int)) (J 1)=some (J ((b-1:Nat):Int)):=ky (by omega) (by omega);have Ea:=mL fz kD;generalize eT bW a pv=L at*;have g:qc bW a b (a+1) (b-1) (gt L a) L:=⟨by omega,by omega,by omega,k3,rfl,λk ab af=>by omega,λk ab af=>by omega⟩;obtain⟨i1,dy,dg,eW,jj,lD⟩:=axc n L a (a+1) (b-1) g.qV g.xH (by omega) (by omega) (by omega);obtain⟨hp,bz,bA,cx,eo,fi⟩:=axe n L a i1 (b-1) (by omega) eW (by omega) (by omega) (by omega);have lC:=g.step dg eW jj bA cx eo;have OA:a<L.length:=by omega
 have cJ:hp<L.length:=by omega
 by_cases an:i1<=hp
 .have ck:i1<L.length:=by omega
  have AH:hp<(L.set i1 (gt L hp)).length:=by simpa using cJ
  have f1:ai false .add (J (i1:Int)) (J 1)=some (J ((i1+1:Nat):Int)):=b0 (by omega);have f2:ai false .sub (J (hp:Int)) (J 1)=some (J ((hp-1:Nat):Int)):=ky (by omega) (by omega);have a2:=lC.swap an (lD (by omega)) (fi an) (by omega);have axi:=mL ck cJ;obtain⟨i2,OB,iG,e4,eh,jL⟩:=axg n bW (eT L i1 hp) a b (i1+1) (hp-1) _ a2 aj bR aN;have qh:=eh.tX.len;have AI:=eh.qW;obtain⟨t1,t2,t3,t4,t5⟩:=eh.fin jL (by omega);have OC:a<iG.length:=by omega
  have Jc:OB<iG.length:=by omega
  have Ax:a<(iG.set OB (gt iG a)).length:=by simpa using OC
  refine⟨OB,false,_,?_,t1,t2,t3,t4,t5⟩;simp only[zG,go_sem,c8 fz,c8 kD,cQ aC fz,cQ aC kD,eK,nd,nc,gX,xbb,cQ aC Oz,Ea,aO,aX,dy,bz,yF ((i1:Int)>(hp:Int)),c8 ck,c8 cJ,cQ aC ck,cQ aC cJ,cQ aC AH,axi,f1,f2,e4,c8 OC,c8 Jc,cQ aC OC,cQ aC Jc,cQ aC Ax,mL Jc OC]
 obtain⟨t1,t2,t3,t4,t5⟩:=lC.fin (by omega) (by omega);have Ax:a<(L.set hp (gt L a)).length:=by simpa using OA
 refine⟨hp,true,_,?_,t1,t2,t3,t4,t5⟩;simp only[zG,go_sem,c8 fz,c8 kD,cQ aC fz,cQ aC kD,eK,nd,nc,gX,xbb,cQ aC Oz,Ea,aO,aX,dy,bz,yT ((i1:Int)>(hp:Int)),c8 OA,c8 cJ,cQ aC OA,cQ aC cJ,cQ aC Ax,mL cJ OA]
def axj(n:Nat)(L:List ByteArray)(a i j:Nat)(qb:a<i)(gS:i<=j+1)(aP:j<L.length)(bR:L.length<1000000000)(aN:L.length+1<n): ∃cq:Nat,bq (CA n) n [J (a:Int),J (i:Int),J (j:Int),cw L]=some (.inl [J (a:Int),J (cq:Int),J (j:Int),cw L])/\i<=cq/\cq<=j+1/\e2 (λx=>blt (gt L a) x=false) i cq (gt L)/\(cq<=j->blt (gt L a) (gt L cq)=true):=by
 have key:=kx (f:=CA n) (S:=Nat) (λs=>[J (a:Int),J (s:Int),J (j:Int),cw L]) (λs=>j+1-s) (λs=>i<=s/\s<=j+1/\e2 (λx=>blt (gt L a) x=false) i s (gt L)) (λr=>∃cq:Nat,r= .inl [J (a:Int),J (cq:Int),J (j:Int),cw L]/\i<=cq/\cq<=j+1/\e2 (λx=>blt (gt L a) x=false) i cq (gt L)/\(cq<=j->blt (gt L a) (gt L cq)=true)) ?_ n i ⟨xan _,gS,λk ab af=>by omega⟩ (by omega);.obtain⟨r,ab,cq,rfl,af⟩:=key;exact⟨cq,ab,af⟩
 rintro s ⟨aW,a2,bb⟩;by_cases aG:s<=j
 .have gr:s<L.length:=by omega
  have fz:a<L.length:=by omega
  by_cases aj:blt (gt L a) (gt L s)=true;.right;refine⟨_,?_,s,rfl,aW,a2,bb,λ_=>aj⟩;simp only[CA,go_sem,yT ((s:Int)<=(j:Int)),en,ee,c8 gr,c8 fz,cQ aC gr,cQ aC fz,eK,gX,iy,aj]
  left;have aj:blt (gt L a) (gt L s)=false:=by simpa using aj
  have aO:ai false .add (J (s:Int)) (J 1)=some (J ((s+1:Nat):Int)):=b0 (by omega);refine⟨s+1,?_,⟨by omega,by omega,λk ab af=>?_⟩,by omega⟩;.simp only[CA,go_sem,yT ((s:Int)<=(j:Int)),en,ee,c8 gr,c8 fz,cQ aC gr,cQ aC fz,eK,gX,iy,aj,aO]
  by_cases ak:k=s;.subst ak;exact aj
  exact bb k ab (by omega)
 right;refine⟨_,?_,s,rfl,aW,a2,bb,λh=>absurd h aG⟩;simp only[CA,go_sem,yF ((s:Int)<=(j:Int)),en,ee]
def axk(n:Nat)(L:List ByteArray)(a i j:Nat)(qb:a<i)(gS:i<=j+1)(aP:j<L.length)(bR:L.length<1000000000)(aN:L.length+1<n): ∃du:Nat,bq (CB n) n [J (a:Int),J (i:Int),J (j:Int),cw L]=some (.inl [J (a:Int),J (i:Int),J (du:Int),cw L])/\i<=du+1/\du<=j/\e2 (λx=>blt (gt L a) x=true) (du+1) (j+1) (gt L)/\(i<=du->blt (gt L a) (gt L du)=false):=by
 have key:=kx (f:=CB n) (S:=Nat) (λs=>[J (a:Int),J (i:Int),J (s:Int),cw L]) (λs=>s) (λs=>i<=s+1/\s<=j/\e2 (λx=>blt (gt L a) x=true) (s+1) (j+1) (gt L)) (λr=>∃du:Nat,r= .inl [J (a:Int),J (i:Int),J (du:Int),cw L]/\i<=du+1/\du<=j/\e2 (λx=>blt (gt L a) x=true) (du+1) (j+1) (gt L)/\(i<=du->blt (gt L a) (gt L du)=false)) ?_ n j ⟨gS,xan _,λk ab af=>by omega⟩ (by omega);.obtain⟨r,ab,du,rfl,af⟩:=key;exact⟨du,ab,af⟩
 rintro s ⟨aW,a2,bb⟩;by_cases aG:i<=s
 .have gr:s<L.length:=by omega
  have fz:a<L.length:=by omega
  by_cases aj:blt (gt L a) (gt L s)=true
  .left;have aO:ai false .sub (J (s:Int)) (J 1)=some (J ((s-1:Nat):Int)):=ky (by omega) (by omega);refine⟨s-1,?_,⟨by omega,by omega,λk ab af=>?_⟩,by omega⟩
   .simp only[CB,go_sem,yT ((i:Int)<=(s:Int)),en,ee,c8 gr,c8 fz,cQ aC gr,cQ aC fz,eK,gX,iy,aj,aO]
   by_cases ak:k=s;.subst ak;exact aj
   exact bb k (by omega) af
  right;have aj:blt (gt L a) (gt L s)=false:=by simpa using aj
  refine⟨_,?_,s,rfl,aW,a2,bb,λ_=>aj⟩;simp only[CB,go_sem,yT ((i:Int)<=(s:Int)),en,ee,c8 gr,c8 fz,cQ aC gr,cQ aC fz,eK,gX,iy,aj]
 right;refine⟨_,?_,s,rfl,aW,a2,bb,λh=>absurd h aG⟩;simp only[CB,go_sem,yF ((i:Int)<=(s:Int)),en,ee]
structure sm(bW:List ByteArray)(a b i j:Nat)(p:ByteArray)(L:List ByteArray):Prop where
 qV:a<i
 xH:i<=j+1
 qW:j<b
 tX:Part a b bW L
 pv:gt L a=p
 lo:e2 (λx=>blt p x=false) (a+1) i (gt L)
 ah:e2 (λx=>blt p x=true) (j+1) b (gt L)
def sm.step{bW L:List ByteArray}{a b i j cq du:Nat}{p:ByteArray}(h:sm bW a b i j p L)(ab:i<=cq)(af:cq<=j+1)(aw:e2 (λx=>blt p x=false) i cq (gt L))(a4:cq<=du+1)(b6:du<=j)(cP:e2 (λx=>blt p x=true) (du+1) (j+1) (gt L)):sm bW a b cq du p L:=⟨by have:=h.qV;omega,a4,by have:=h.qW;omega,h.tX,h.pv,λk aW a2=>if ak:k<i then h.lo k aW ak else aw k (by omega) a2,λk aW a2=>if ak:j+1<=k then h.ah k ak a2 else cP k aW (by omega)⟩
def sm.swap{bW L:List ByteArray}{a b i j:Nat}{p:ByteArray}(h:sm bW a b i j p L)(gS:i<=j)(ah:blt p (gt L i)=true)(aP:blt p (gt L j)=false)(aj:b<=L.length):sm bW a b (i+1) (j-1) p (eT L i j):=by
 have aE:=h.qV;have AI:=h.qW;have cK:i≠j:=by rintro rfl;rw[ah]at aP;cases aP
 have e:=sl (L:=L) (i:=i) (j:=j) (by omega) (by omega);refine⟨by omega,by omega,by omega,h.tX.trans (Part.eT (by omega) (by omega) (by omega) (by omega) aj),?_,?_,?_⟩;.rw[e];simp only[jW];rw[xac (by omega),xac (by omega)];exact h.pv
 .intro k aW a2;rw[e];simp only[jW];rw[xac (by omega)];by_cases ak:k=i;.rw[xad ak];exact aP
  rw[xac ak];exact h.lo k aW (by omega)
 intro k aW a2;rw[e];simp only[jW];by_cases ak:k=j;.rw[xad ak];exact ah
 rw[xac ak,xac (by omega)];exact h.ah k (by omega) a2
def axl(n:Nat)(bW L:List ByteArray)(a b i j:Nat)(p:ByteArray)(h:sm bW a b i j p L)(aj:b<=bW.length)(bR:bW.length<1000000000)(aN:bW.length+1<n): ∃(cq du:Nat)(bB:List ByteArray),bq (Hr n) n [J (a:Int),J (i:Int),J (j:Int),cw L]=some (.inl [J (cq:Int),cw bB])/\sm bW a b cq du p bB/\du<cq:=by
 have key:=kx (f:=Hr n) (S:=Nat×Nat×List ByteArray) (λs=>[J (a:Int),J (s.1:Int),J (s.2.1:Int),cw s.2.2]) (λs=>s.2.1+1-s.1) (λs=>sm bW a b s.1 s.2.1 p s.2.2) (λr=>∃(cq du:Nat)(bB:List ByteArray),r= .inl [J (cq:Int),cw bB]/\sm bW a b cq du p bB/\du<cq) ?_ n (i,j,L) h (by have:=h.qW;simp only;omega);.obtain⟨r,ab,cq,du,bB,rfl,af⟩:=key;exact⟨cq,du,bB,ab,af⟩
 rintro⟨i,j,L⟩ g;simp only at g⊢;have b2:=g.tX.len;have qb:=g.qV;have AI:=g.qW;have gS:=g.xH;obtain⟨i1,dy,dg,eW,jj,lD⟩:=axj n L a i j g.qV g.xH (by omega) (by omega) (by omega);obtain⟨hp,bz,bA,cx,eo,fi⟩:=axk n L a i1 j (by omega) eW (by omega) (by omega) (by omega);rw[g.pv]at jj lD eo fi;have lC:=g.step dg eW jj bA cx eo;by_cases an:i1<=hp
 .left;have ck:i1<L.length:=by omega
  have cJ:hp<L.length:=by omega
  have AH:hp<(L.set i1 (gt L hp)).length:=by simpa using cJ
  have aO:ai false .add (J (i1:Int)) (J 1)=some (J ((i1+1:Nat):Int)):=b0 (by omega);have aX:ai false .sub (J (hp:Int)) (J 1)=some (J ((hp-1:Nat):Int)):=ky (by omega) (by omega);refine⟨(i1+1,hp-1,eT L i1 hp),?_,lC.swap an (lD (by omega)) (fi an) (by omega),by simp only;omega⟩;simp only[Hr,go_sem,dy,bz,yF ((i1:Int)>(hp:Int)),c8 ck,c8 cJ,cQ aC ck,cQ aC cJ,eK,nd,nc,gX,xbb,cQ aC AH,mL ck cJ,aO,aX]
 right;refine⟨_,?_,i1,hp,L,rfl,lC,by omega⟩;simp only[Hr,go_sem,dy,bz,yT ((i1:Int)>(hp:Int))]
def axm(n:Nat)(bW:List ByteArray)(a b pv:Nat)(fE:a+1<b)(D9:a<=pv/\pv<b)(aj:b<=bW.length)(bR:bW.length<1000000000)(aN:bW.length+1<n): ∃(m:Nat)(bB:List ByteArray),CC n [J (a:Int),J (b:Int),J (pv:Int),cw bW]=some [J (m:Int),cw bB]/\Part a b bW bB/\a<m/\m<=b/\e2 (λx=>blt (gt bW pv) x=false) a m (gt bB)/\e2 (λx=>blt (gt bW pv) x=true) m b (gt bB):=by
 have fz:a<bW.length:=by omega
 have kD:pv<bW.length:=by omega
 have Oz:pv<(bW.set a (gt bW pv)).length:=by simpa using kD
 have nO:=Jq bW a pv;have k3:Part a b bW (eT bW a pv):=Part.eT (xan _) (by omega) D9.1 D9.2 aj;have aO:ai false .add (J (a:Int)) (J 1)=some (J ((a+1:Nat):Int)):=b0 (by omega);have aX:ai false .sub (J (b:Int)) (J 1)=some (J ((b-1:Nat):Int)):=ky (by omega) (by omega);have Ea:=mL fz kD;have U1:gt (eT bW a pv) a=gt bW pv:=by
  rw[sl fz kD];simp only[jW];by_cases h:a=pv;.rw[xad h,h]
  rw[xac h];simp
 generalize eT bW a pv=L at*;have g:sm bW a b (a+1) (b-1) (gt bW pv) L:=⟨by omega,by omega,by omega,k3,U1,λk ab af=>by omega,λk ab af=>by omega⟩;obtain⟨i2,OB,iG,e4,eh,jL⟩:=axl n bW L a b (a+1) (b-1) _ g aj bR aN;have qb:=eh.qV;have gS:=eh.xH;have AI:=eh.qW;refine⟨i2,iG,?_,eh.tX,qb,by omega,?_,eh.ah.mono (by omega) (xan _)⟩
 .simp only[CC,go_sem,c8 fz,c8 kD,cQ aC fz,cQ aC kD,eK,nd,nc,gX,xbb,cQ aC Oz,Ea,aO,aX,e4]
 intro k ab af;by_cases ak:k=a;.subst ak;rw[eh.pv];exact nv _
 exact eh.lo k (by omega) af
def axn(n:Nat)(L:List ByteArray)(a b i:Nat)(K:D)(qb:a<i)(jl:i<=b)(aj:b<=L.length)(bR:L.length<1000000000)(aN:L.length+1<n)(aG:eE blt a i (gt L)): ∃cq:Nat,bq (Cy n) n [J (a:Int),J (b:Int),J (i:Int),K,cw L]=some (.inl [J (a:Int),J (b:Int),J (cq:Int),K,cw L])/\i<=cq/\cq<=b/\eE blt a cq (gt L):=by
 have key:=kx (f:=Cy n) (S:=Nat) (λs=>[J (a:Int),J (b:Int),J (s:Int),K,cw L]) (λs=>b-s) (λs=>i<=s/\s<=b/\eE blt a s (gt L)) (λr=>∃cq:Nat,r= .inl [J (a:Int),J (b:Int),J (cq:Int),K,cw L]/\i<=cq/\cq<=b/\eE blt a cq (gt L)) ?_ n i ⟨xan _,jl,aG⟩ (by omega);.obtain⟨r,ab,cq,rfl,af⟩:=key;exact⟨cq,ab,af⟩
 rintro s ⟨aW,a2,bb⟩;by_cases aBu:s<b
 .have gr:s<L.length:=by omega
  have OD:s-1<L.length:=by omega
  have bE:ai false .sub (J (s:Int)) (J 1)=some (J ((s-1:Nat):Int)):=ky (by omega) (by omega);by_cases aj:blt (gt L s) (gt L (s-1))=true;.right;refine⟨_,?_,s,rfl,aW,a2,bb⟩;simp only[Cy,go_sem,yT ((s:Int)<(b:Int)),en,ee,c8 gr,c8 OD,cQ aC gr,cQ aC OD,eK,gX,iy,aj,bE]
  left;have aj:blt (gt L s) (gt L (s-1))=false:=by simpa using aj
  have aO:ai false .add (J (s:Int)) (J 1)=some (J ((s+1:Nat):Int)):=b0 (by omega);refine⟨s+1,?_,⟨by omega,by omega,bb.more kf (by omega) aj⟩,by omega⟩;simp only[Cy,go_sem,yT ((s:Int)<(b:Int)),en,ee,c8 gr,c8 OD,cQ aC gr,cQ aC OD,eK,gX,iy,aj,bE,aO]
 right;refine⟨_,?_,s,rfl,aW,a2,bb⟩;simp only[Cy,go_sem,yF ((s:Int)<(b:Int)),en,ee]
def qe(a b:Nat)(L:List ByteArray):Prop:=0<a->∀q,a<=q->q<b->blt (gt L q) (gt L (a-1))=false
def qe.part{a b c d:Nat}{L M:List ByteArray}(h:qe a b L)(aT:Part c d L M)(an:a<=c)(ay:d<=b)(aj:b<=L.length):qe a b M:=by intro ar q ab af;rw[aT.p9 (i:=a-1) (.inl (by omega))];exact e2.part (P:=λx=>blt x (gt L (a-1))=false) (λq ab af=>h ar q ab af) (aT.mono an ay) aj q ab af
def axo(n:Nat)(bW:List ByteArray)(a b i:Nat)(B K:D)(qb:a<i)(jl:i<b)(aj:b<=bW.length)(bR:bW.length<1000000000)(aN:bW.length+1<n)(aG:eE blt a (i-1) (gt bW))(nf:qe a b bW): ∃bB:List ByteArray,bq (zB n) n [J (a:Int),B,J (i:Int),K,J ((i-1:Nat):Int),cw bW]=some (.inl [J (a:Int),B,J (i:Int),K,cw bB])/\Part a i bW bB/\eE blt a i (gt bB):=by
 have key:=kx (f:=zB n) (S:=Nat×List ByteArray) (λs=>[J (a:Int),B,J (i:Int),K,J (s.1:Int),cw s.2]) (λs=>s.1) (λs=>a<=s.1/\s.1<=i-1/\Part a i bW s.2/\D7 blt a s.1 (i-1) (gt s.2)) (λr=>∃bB:List ByteArray,r= .inl [J (a:Int),B,J (i:Int),K,cw bB]/\Part a i bW bB/\eE blt a i (gt bB)) ?_ n (i-1,bW) ⟨by simp only;omega,xan _,Part.refl _ _ _,aeW aG⟩ (by simp only;omega);.obtain⟨r,ab,bB,rfl,af⟩:=key;exact⟨bB,ab,af⟩
 rintro⟨j,L⟩ ⟨aW,a2,bb,cX⟩;simp only at aW a2 bb cX⊢;have b2:=bb.len;have ae2:i-1+1=i:=by omega
 by_cases aeA:1<=j
 .have cJ:j<L.length:=by omega
  have kX:j-1<L.length:=by omega
  have aO:ai false .sub (J (j:Int)) (J 1)=some (J ((j-1:Nat):Int)):=ky (by omega) (by omega);by_cases kk:blt (gt L j) (gt L (j-1))=true
  .have awV:a≠j:=by
    rintro rfl;have:=(nf.part bb (xan _) (by omega) aj) (by omega) a (xan _) (by omega);rw[kk]at this;cases this
   left;have bz:j-1<(L.set j (gt L (j-1))).length:=by simpa using kX
   refine⟨(j-1,eT L j (j-1)),?_,⟨by simp only;omega,by simp only;omega,bb.trans (Part.eT (by omega) (by omega) (by omega) (by omega) (by omega)),?_⟩,by simp only;omega⟩;.simp only[zB,go_sem,yT ((j:Int)>=1),c8 cJ,c8 kX,cQ aC cJ,cQ aC kX,eK,aO,iy,kk,nd,nc,gX,xbb,cQ aC bz,mL cJ kX]
   rw[sl cJ kX];exact aeX kf cX (by omega) a2 kk
  right;have kk:blt (gt L j) (gt L (j-1))=false:=by simpa using kk
  refine⟨_,?_,L,rfl,bb,by rw[<-ae2];exact Ou kf cX aW (.inr kk)⟩;simp only[zB,go_sem,yT ((j:Int)>=1),c8 cJ,c8 kX,cQ aC cJ,cQ aC kX,eK,aO,iy,kk,gX]
 right;refine⟨_,?_,L,rfl,bb,by rw[<-ae2];exact Ou kf cX aW (.inl (by omega))⟩;simp only[zB,go_sem,yF ((j:Int)>=1)]
def axp(n:Nat)(bW:List ByteArray)(i b:Nat)(A K:D)(jl:i<b)(aj:b<=bW.length)(bR:bW.length<1000000000)(aN:bW.length+1<n): ∃bB:List ByteArray,bq (zC n) n [A,J (b:Int),J (i:Int),K,J ((i+1:Nat):Int),cw bW]=some (.inl [A,J (b:Int),J (i:Int),K,cw bB])/\Part i b bW bB:=by
 have key:=kx (f:=zC n) (S:=Nat×List ByteArray) (λs=>[A,J (b:Int),J (i:Int),K,J (s.1:Int),cw s.2]) (λs=>b-s.1) (λs=>i+1<=s.1/\s.1<=b/\Part i b bW s.2) (λr=>∃bB:List ByteArray,r= .inl [A,J (b:Int),J (i:Int),K,cw bB]/\Part i b bW bB) ?_ n (i+1,bW) ⟨xan _,jl,Part.refl _ _ _⟩ (by simp only;omega);.obtain⟨r,ab,bB,rfl,af⟩:=key;exact⟨bB,ab,af⟩
 rintro⟨j,L⟩ ⟨aW,a2,bb⟩;simp only at aW a2 bb⊢;have b2:=bb.len;by_cases aeA:j<b
 .have cJ:j<L.length:=by omega
  have kX:j-1<L.length:=by omega
  have aO:ai false .sub (J (j:Int)) (J 1)=some (J ((j-1:Nat):Int)):=ky (by omega) (by omega);have aX:ai false .add (J (j:Int)) (J 1)=some (J ((j+1:Nat):Int)):=b0 (by omega);by_cases kk:blt (gt L j) (gt L (j-1))=true
  .left;have bz:j-1<(L.set j (gt L (j-1))).length:=by simpa using kX
   refine⟨(j+1,eT L j (j-1)),?_,⟨by simp only;omega,by simp only;omega,bb.trans (Part.eT (by omega) (by omega) (by omega) (by omega) (by omega))⟩,by simp only;omega⟩;simp only[zC,go_sem,yT ((j:Int)<(b:Int)),c8 cJ,c8 kX,cQ aC cJ,cQ aC kX,eK,aO,aX,iy,kk,nd,nc,gX,xbb,cQ aC bz,mL cJ kX]
  right;have kk:blt (gt L j) (gt L (j-1))=false:=by simpa using kk
  refine⟨_,?_,L,rfl,bb⟩;simp only[zC,go_sem,yT ((j:Int)<(b:Int)),c8 cJ,c8 kX,cQ aC cJ,cQ aC kX,eK,aO,iy,kk,gX]
 right;refine⟨_,?_,L,rfl,bb⟩;simp only[zC,go_sem,yF ((j:Int)<(b:Int))]
def axq(n:Nat)(bW:List ByteArray)(a b:Nat)(fE:a<b)(aj:b<=bW.length)(bR:bW.length<1000000000)(aN:bW.length+20<n)(nf:qe a b bW): ∃(r:Bool)(bB:List ByteArray),xb n [J (a:Int),J (b:Int),cw bW]=some [ax r,cw bB]/\Part a b bW bB/\(r=true->eE blt a b (gt bB)):=by
 have key:=kx (f:=zE n) (S:=Nat×Nat×List ByteArray) (λs=>[J (a:Int),J (b:Int),J (s.1:Int),J (s.2.1:Int),cw s.2.2]) (λs=>5-s.2.1) (λs=>a<s.1/\s.1<=b/\s.2.1<=5/\Part a b bW s.2.2/\eE blt a s.1 (gt s.2.2)) (λr=>∃bB:List ByteArray,(r= .inl [cw bB]\/r= .inr [ax false,cw bB]\/(r= .inr [ax true,cw bB]/\eE blt a b (gt bB)))/\Part a b bW bB) ?_ n (a+1,0,bW) ⟨by simp only;omega,fE,by simp only;omega,Part.refl _ _ _,xG (xan _)⟩ (by simp only;omega)
 .obtain⟨r,ab,bB,av,af⟩:=key;have bE:ai false .add (J (a:Int)) (J 1)=some (J ((a+1:Nat):Int)):=b0 (by omega);have ab:bq (zE n) n [J (a:Int),J (b:Int),J ((a+1:Nat):Int),J 0,cw bW]=some r:=ab;rcases av with rfl|rfl|⟨rfl,aw⟩
  .exact⟨false,bB,by simp only[xb,go_sem,bE,ab],af,λh=>by cases h⟩
  .exact⟨false,bB,by simp only[xb,go_sem,bE,ab],af,λh=>by cases h⟩
  exact⟨true,bB,by simp only[xb,go_sem,bE,ab],af,λ_=>aw⟩
 rintro⟨i,k,L⟩ ⟨aW,a2,bb,cX,iD⟩;simp only at aW a2 bb cX iD⊢;have b2:=cX.len;by_cases ak:k<5
 .have Vk:=yT ((k:Int)<5);obtain⟨cq,dy,dg,eW,jj⟩:=axn n L a b i (J (k:Int)) aW a2 (by omega) (by omega) (by omega) iD;have oD:ai false .add (J (k:Int)) (J 1)=some (J ((k+1:Nat):Int)):=b0 (by omega);have Jx:ai false .sub (J (b:Int)) (J (a:Int))=some (J ((b-a:Nat):Int)):=qT (by omega) (by omega);by_cases jl:cq=b
  .right;refine⟨_,?_,L,.inr (.inr ⟨rfl,by rw[<-jl];exact jj⟩),cX⟩;simp only[zE,go_sem,Vk,dy,jl,beq_self_eq_true]
  have bj:((cq:Int)==(b:Int))=false:=by simp;omega
  by_cases axr:b-a<50;.right;refine⟨_,?_,L,.inr (.inl rfl),cX⟩;simp only[zE,go_sem,Vk,dy,bj,Jx,yT (((b-a:Nat):Int)<50)]
  left;have axs:=yF (((b-a:Nat):Int)<50);have aO:ai false .sub (J (cq:Int)) (J 1)=some (J ((cq-1:Nat):Int)):=ky (by omega) (by omega);have aX:ai false .sub (J (cq:Int)) (J (a:Int))=some (J ((cq-a:Nat):Int)):=qT (by omega) (by omega);have bQ:ai false .sub (J (b:Int)) (J (cq:Int))=some (J ((b-cq:Nat):Int)):=qT (by omega) (by omega);have cO:ai false .add (J (cq:Int)) (J 1)=some (J ((cq+1:Nat):Int)):=b0 (by omega);have ck:cq<L.length:=by omega
  have Jy:cq-1<L.length:=by omega
  have bz:cq-1<(L.set cq (gt L (cq-1))).length:=by simpa using Jy
  have Ea:=mL ck Jy;have ae3:Part a b L (eT L cq (cq-1)):=Part.eT (by omega) (by omega) (by omega) (by omega) (by omega);have nO:=Jq L cq (cq-1);have Kh:eE blt a (cq-1) (gt (eT L cq (cq-1))):=by intro p q ab af aw;rw[sl ck Jy];simp only[jW];rw[xac (by omega),xac (by omega),xac (by omega),xac (by omega)];exact jj p q ab af (by omega)
  obtain⟨iG,e4,eh,jL⟩:∃iG:List ByteArray,aa (aI (ax (decide (((cq-a:Nat):Int)>=2))) (aa (ai false .sub (J (cq:Int)) (J 1)) λgI=>aa (bq (zB n) n [J (a:Int),J (b:Int),J (cq:Int),J (k:Int),gI,cw (eT L cq (cq-1))]) (a9 λls=>some (Sum.inl [I ls 0,I ls 1,I ls 2,I ls 3,D.az 1 (au (I ls 4))]))) (some (.inl [J (a:Int),J (b:Int),J (cq:Int),J (k:Int),cw (eT L cq (cq-1))]))) some=some (Sum.inl (β:=List D⊕(List D⊕(List D⊕List D))) [J (a:Int),J (b:Int),J (cq:Int),J (k:Int),cw iG])/\Part a cq (eT L cq (cq-1)) iG/\eE blt a cq (gt iG):=by
   by_cases af:2<=cq-a;.obtain⟨iG,t1,t2,t3⟩:=axo n (eT L cq (cq-1)) a b cq (J (b:Int)) (J (k:Int)) (by omega) (by omega) (by omega) (by omega) (by omega) Kh ((nf.part cX (xan _) (xan _) aj).part ae3 (xan _) (xan _) (by omega));refine⟨iG,?_,t2,t3⟩;simp only[go_sem,yT (((cq-a:Nat):Int)>=2),aO,t1]
   refine⟨_,?_,Part.refl _ _ _,xG (by omega)⟩;simp only[go_sem,yF (((cq-a:Nat):Int)>=2)]
  have qh:=eh.len;obtain⟨AJ,s1,s2⟩:∃AJ:List ByteArray,aa (aI (ax (decide (((b-cq:Nat):Int)>=2))) (aa (ai false .add (J (cq:Int)) (J 1)) λjd=>aa (bq (zC n) n [J (a:Int),J (b:Int),J (cq:Int),J (k:Int),jd,cw iG]) (a9 λls=>some (Sum.inl [I ls 0,I ls 1,I ls 2,I ls 3,D.az 1 (au (I ls 4))]))) (some (.inl [J (a:Int),J (b:Int),J (cq:Int),J (k:Int),cw iG]))) some=some (Sum.inl (β:=List D⊕(List D⊕(List D⊕List D))) [J (a:Int),J (b:Int),J (cq:Int),J (k:Int),cw AJ])/\Part cq b iG AJ:=by
   by_cases af:2<=b-cq;.obtain⟨AJ,t1,t2⟩:=axp n iG cq b (J (a:Int)) (J (k:Int)) (by omega) (by omega) (by omega) (by omega);refine⟨AJ,?_,t2⟩;simp only[go_sem,yT (((b-cq:Nat):Int)>=2),cO,t1]
   refine⟨_,?_,Part.refl _ _ _⟩;simp only[go_sem,yF (((b-cq:Nat):Int)>=2)]
  have gT:eE blt a cq (gt AJ):=jL.out s2 (.inl (xan _));have hB:∀{dY:Type}{x:Option dY},aa x some=x:=λ{dY x}=>by cases x<;>rfl
  rw[hB]at e4 s1;refine⟨(cq,k+1,AJ),?_,⟨by simp only;omega,by simp only;omega,by simp only;omega,((cX.trans ae3).trans (eh.mono (xan _) (by omega))).trans (s2.mono (by omega) (xan _)),gT⟩,by simp only;omega⟩;simp only[zE,go_sem,Vk,dy,bj,Jx,axs,aO,c8 ck,c8 Jy,cQ aC ck,cQ aC Jy,eK,nd,nc,gX,xbb,cQ aC bz,Ea,aX,bQ];rw[l8]at e4 s1;rw[aO,eN]at e4;rw[cO,eN]at s1;rw[e4];simp only[go_sem,bQ,cO];rw[s1];simp only[go_sem,oD]
 right;refine⟨_,?_,L,.inl rfl,cX⟩;simp only[zE,go_sem,yF ((k:Int)<5)]
def Vl:ByteArray:=⟨#[0,1,2,2,3,3,3,3,4,4,4,4,4,4,4,4,5,5,5,5,5,5,5,5,5,5,5,5,5,5,5,5,6,6,6,6,6,6,6,6,6,6,6,6,6,6,6,6,6,6,6,6,6,6,6,6,6,6,6,6,6,6,6,6,7,7,7,7,7,7,7,7,7,7,7,7,7,7,7,7,7,7,7,7,7,7,7,7,7,7,7,7,7,7,7,7,7,7,7,7,7,7,7,7,7,7,7,7,7,7,7,7,7,7,7,7,7,7,7,7,7,7,7,7,7,7,7,7,8,8,8,8,8,8,8,8,8,8,8,8,8,8,8,8,8,8,8,8,8,8,8,8,8,8,8,8,8,8,8,8,8,8,8,8,8,8,8,8,8,8,8,8,8,8,8,8,8,8,8,8,8,8,8,8,8,8,8,8,8,8,8,8,8,8,8,8,8,8,8,8,8,8,8,8,8,8,8,8,8,8,8,8,8,8,8,8,8,8,8,8,8,8,8,8,8,8,8,8,8,8,8,8,8,8,8,8,8,8,8,8,8,8,8,8,8,8,8,8,8,8,8,8,8,8,8,8]⟩
def ae4(x:Nat):Bool:=match nY (aC Vl) (.val (.int .u8 x))with|some (.val (.int .u8 t))=>decide (0<=t/\t<=8/\(1<=x->1<=t/\2^t.toNat<=2*x))|_=>false
def axt:∀x:_root_.Fin 256,ae4 x.val=true:=by decide+kernel
def axu{x:Nat}(h:x<256):∃t:Nat,nY (aC Vl) (.val (.int .u8 x))=some (.val (.int .u8 t))/\t<=8/\(1<=x->1<=t/\2^t<=2*x):=by
 have:=axt ⟨x,h⟩;unfold ae4 at this;simp only at this;split at this;.rename_i t aL;have:=xba this;obtain⟨m,rfl⟩:∃m:Nat,t=(m:Int):=⟨t.toNat,by omega⟩;exact⟨m,aL,by omega,λh=>⟨by have:=this.2.2 h;omega,by have:=(this.2.2 h).2;simpa using this⟩⟩
 cases this
abbrev lu(n:Nat):D:= .val (.int .u64 n)
theorem OE{bt:Bool}{a b:Int}:ai bt .geq (.val (.int .u64 a)) (.val (.int .u64 b))=some (ax (decide (a>=b))):=rfl
theorem ae5{bt:Bool}{a:Nat}:ai bt .shr (lu a) (.val (.int .u64 16))=some (lu (a/65536)):=by show some (D.val (.int .u64 ((a:Int).fdiv 65536)))=_;rw[Int.fdiv_eq_ediv_of_nonneg _ (by omega)];rfl
theorem Vm{bt:Bool}{a:Nat}:ai bt .shr (lu a) (.val (.int .u64 8))=some (lu (a/256)):=by show some (D.val (.int .u64 ((a:Int).fdiv 256)))=_;rw[Int.fdiv_eq_ediv_of_nonneg _ (by omega)];rfl
def axv{a:Nat}(h:a<256):kn .u8 (lu a)=some (.val (.int .u8 a)):=by
 show some (D.val (.int .u8 (IntKind.u8.wrap a)))=_
 congr 3
 simp[IntKind.wrap,IntKind.bits,show IntKind.u8.signed=false from rfl,show IntKind.u64.signed=false from rfl]
 try omega
theorem axw{a:Nat}(h:a<256):kn .i64 (.val (.int .u8 a))=some (J a):=by show some (D.val (.int .i64 (IntKind.i64.wrap a)))=_;rw[wrap64 _ (by omega) (by omega)];rfl
def Vn{a:Nat}(h:a<4000000000000000000):kn .u64 (J (a:Int))=some (lu a):=by
 show some (D.val (.int .u64 (IntKind.u64.wrap a)))=_
 congr 3
 simp[IntKind.wrap,IntKind.bits,show IntKind.u8.signed=false from rfl,show IntKind.u64.signed=false from rfl]
 try omega
set_option maxRecDepth 20000 in
def ae6(n:Nat){v:Nat}(ab:1<=v)(af:v<4294967296):∃k:Nat,k<=40/\1<=k/\rS n [lu v]=some (J k)/\2^k<=2*v:=by
 have s0:decide ((v:Int)>=4294967296)=false:=xaF (by omega);have jH:∀{x y:Nat},x+y<1000->ai false .add (J (x:Int)) (J (y:Int))=some (J ((x+y:Nat):Int)):=λh=>qS (by omega);have h7:ai false .add (J 0) (J 16)=some (J 16):=rfl;have eJ:ai false .add (J 0) (J 8)=some (J 8):=rfl;have mK:ai false .add (J 16) (J 8)=some (J 24):=rfl;have tail:∀(x s:Nat),x<256->1<=x->s<=24->2^s*x<=v->∃k:Nat,k<=40/\1<=k/\(aa (kn .u8 (lu x)) λbT=>aa (nY (aC Vl) bT) λcI=>aa (kn .i64 cI) λcH=>aa (ai false .add (J (s:Int)) cH) λdf=>some df)=some (J k)/\2^k<=2*v:=by
  intro x s ag xq aG hle;obtain⟨t,t1,t2,t3⟩:=axu ag;obtain⟨t4,t5⟩:=t3 xq;refine⟨s+t,by omega,by omega,?_,?_⟩;.simp only[axv ag,eN,t1,axw (show t<256 by omega),jH (show s+t<1000 by omega)]
  rw[Nat.pow_add]
  calc 2^s*2^t<=2^s*(2*x):=Nat.mul_le_mul_left _ t5
   _=2*(2^s*x):=by rw[Nat.mul_left_comm]
   _<=2*v:=by omega
 by_cases bU:65536<=v
 .have s1:decide ((v:Int)>=65536)=true:=xaw (by omega);by_cases bY:256<=v/65536;.have s2:decide (((v/65536:Nat):Int)>=256)=true:=xaw (by omega);obtain⟨k,cD,dN,hv,rB⟩:=tail (v/65536/256) 24 (by omega) (by omega) (by omega) (by omega);refine⟨k,cD,dN,?_,rB⟩;simp only[rS,Hi,zz,Hh,go_sem,OE,s0,s1,s2,ae5,Vm,h7,mK];exact congrArg (λo=>aa o λcp=>some cp) hv
  have s2:decide (((v/65536:Nat):Int)>=256)=false:=xaF (by omega);obtain⟨k,cD,dN,hv,rB⟩:=tail (v/65536) 16 (by omega) (by omega) (by omega) (by omega);refine⟨k,cD,dN,?_,rB⟩;simp only[rS,Hi,zz,Hh,go_sem,OE,s0,s1,s2,ae5,Vm,h7,mK];exact congrArg (λo=>aa o λcp=>some cp) hv
 have s1:decide ((v:Int)>=65536)=false:=xaF (by omega);by_cases bY:256<=v;.have s2:decide ((v:Int)>=256)=true:=xaw (by omega);obtain⟨k,cD,dN,hv,rB⟩:=tail (v/256) 8 (by omega) (by omega) (by omega) (by omega);refine⟨k,cD,dN,?_,rB⟩;simp only[rS,Hi,zz,Hh,go_sem,OE,s0,s1,s2,Vm,eJ];exact congrArg (λo=>aa o λcp=>some cp) hv
 have s2:decide ((v:Int)>=256)=false:=xaF (by omega);obtain⟨k,cD,dN,hv,rB⟩:=tail v 0 (by omega) ab (by omega) (by omega);refine⟨k,cD,dN,?_,rB⟩;simp only[rS,Hi,zz,Hh,go_sem,OE,s0,s1,s2];exact congrArg (λo=>aa o λcp=>some cp) hv
theorem axx(n:Nat)(v:Int):∃w:Int,MC n [.val (.int .u64 v)]=some [.val (.int .u64 w),.val (.int .u64 w)]:=⟨_,rfl⟩
def axy(bt:Bool)(w:Int)(m:Nat)(hm:m<4000000000000000000):∃r:Nat,r<=m/\ai bt .and (.val (.int .u64 w)) (lu m)=some (lu r):=by
 refine⟨(BitVec.ofInt 64 w&&&BitVec.ofInt 64 (m:Int)).toNat,?_,?_⟩;.rw[BitVec.toNat_and];refine xbh Nat.and_le_right ?_;rw[BitVec.toNat_ofInt];omega
 show some (D.val (.int .u64 (IntKind.u64.wrap ((BitVec.ofInt 64 w&&&BitVec.ofInt 64 (m:Int)).toNat:Int))))=_;have cu:=(BitVec.ofInt 64 w&&&BitVec.ofInt 64 (m:Int)).isLt;generalize (BitVec.ofInt 64 w&&&BitVec.ofInt 64 (m:Int)).toNat=r at*
 congr 3
 simp[IntKind.wrap,IntKind.bits,show IntKind.u64.signed=false from rfl];omega
def axz{bt:Bool}{m:Nat}(h:1<=m)(bx:m<4000000000000000000):ai bt .sub (lu m) (.val (.int .u64 1))=some (lu (m-1)):=by
 show some (D.val (.int .u64 (IntKind.u64.wrap ((m:Int)-1))))=_
 congr 3
 simp[IntKind.wrap,IntKind.bits,show IntKind.u64.signed=false from rfl];omega
theorem axA{a:Nat}(h:a<4000000000000000000):kn .i64 (lu a)=some (J a):=by show some (D.val (.int .i64 (IntKind.i64.wrap a)))=_;rw[wrap64 _ (by omega) (by omega)];rfl
def axB(bt:Bool){k:Nat}(h:k<=40):ai bt .shl (.val (.int .u64 1)) (J (k:Int))=some (lu (2^k)):=by
 have ab:¬(k:Int)<0:=by omega
 simp only[ai,J,xac ab,nX];have af:min (k:Int).toNat IntKind.u64.bits=k:=by simp[IntKind.bits];omega
 rw[af];have aw:2^k<=2^40:=Nat.pow_le_pow_right (by omega) h;have a4:((1:Int)*2^k)=((2^k:Nat):Int):=by simp
 rw[a4];generalize 2^k=q at*
 congr 3
 simp[IntKind.wrap,IntKind.bits,show IntKind.u64.signed=false from rfl];omega
def axC(n:Nat){v:Nat}(ab:1<=v)(af:v<4294967296):∃m:Nat,1<=m/\m<=2*v/\Hm n [J (v:Int)]=some (lu m):=by obtain⟨k,cD,dN,hv,rB⟩:=ae6 n ab af;refine⟨2^k,Nat.one_le_two_pow,rB,?_⟩;simp only[Hm,aaC,go_sem,Vn (show v<4000000000000000000 by omega),hv,axB false cD]
def OF{bt:Bool}{a c:Nat}(h:a<1000000000)(bx:c<=100):ai bt .mul (J (a:Int)) (J (c:Int))=some (J ((a*c:Nat):Int)):=by have af:a*c<=1000000000*100:=Nat.mul_le_mul (by omega) bx;have e:(a:Int)*(c:Int)=((a*c:Nat):Int):=(Int.natCast_mul a c).symm;rw[Lz (by omega) (by omega),e]
def axD(n:Nat)(bW:List ByteArray)(a b:Nat)(fE:a<b)(aj:b<=bW.length)(bR:bW.length<1000000000)(aN:bW.length+20<n): ∃bB,zA n [J (a:Int),J (b:Int),cw bW]=some [D.aZ [],cw bB]/\Part a b bW bB:=by
 have aO:ai false .sub (J (b:Int)) (J (a:Int))=some (J ((b-a:Nat):Int)):=qT (by omega) (by omega);by_cases h1:b-a<8;.refine⟨bW,?_,Part.refl _ _ _⟩;simp only[zA,go_sem,aO,yF (((b-a:Nat):Int)>=8)]
 generalize aq:b-a=l at*;have axE:=yT (((l:Nat):Int)>=8);obtain⟨m,gM,kI,vw⟩:=axC n (v:=l) (by omega) (by omega);have bz:ai false .quo (J (l:Int)) (J 4)=some (J ((l/4:Nat):Int)):=Oy (k:=4) (by omega) (by omega) (by omega);have bA:ai false .mul (J ((l/4:Nat):Int)) (J 2)=some (J ((l/4*2:Nat):Int)):=OF (c:=2) (by omega) (by omega);have cx:ai false .add (J (a:Int)) (J ((l/4*2:Nat):Int))=some (J ((a+l/4*2:Nat):Int)):=qS (by omega);have eo:ai false .sub (J ((a+l/4*2:Nat):Int)) (J 1)=some (J ((a+l/4*2-1:Nat):Int)):=ky (by omega) (by omega);have fi:ai false .add (J ((a+l/4*2:Nat):Int)) (J 1)=some (J ((a+l/4*2+1:Nat):Int)):=b0 (by omega);have key:=kx (f:=Hn n) (S:=Nat×List ByteArray×Int) (λs=>[J (a:Int),J (l:Int),lu m,J (s.1:Int),cw s.2.1,.val (.int .u64 s.2.2)]) (λs=>a+l/4*2+2-s.1) (λs=>a<=s.1/\Part a b bW s.2.1) (λr=>∃bB,r= .inl [cw bB]/\Part a b bW bB) ?_ n (a+l/4*2-1,bW,(l:Int)) ⟨by simp only;omega,Part.refl _ _ _⟩ (by simp only;omega)
 .obtain⟨r,ab,bB,rfl,af⟩:=key;refine⟨bB,?_,af⟩;have one:bJ (lu l)=true:=rfl;simp only[zA,go_sem,aO,axE,Vn (show l<4000000000000000000 by omega),one,vw,bz,bA,cx,eo,ab]
 rintro⟨x,L,v⟩ ⟨aW,a2⟩;simp only at aW a2⊢;have b2:=a2.len;by_cases ag:x<=a+l/4*2+1
 .left;obtain⟨w,fs⟩:=axx n v;obtain⟨r,e4,eh⟩:=axy false w (m-1) (by omega);have gp:ai false .sub (lu m) (.val (.int .u64 1))=some (lu (m-1)):=axz gM (by omega);have jL:kn .i64 (lu r)=some (J r):=axA (by omega);obtain⟨o,g7,my⟩:∃o:Nat,o<l/\(r<l/\o=r\/¬r<l/\o=r-l):=by
   by_cases h:r<l;.exact⟨r,h,.inl ⟨h,rfl⟩⟩
   exact⟨r-l,by omega,.inr ⟨h,rfl⟩⟩
  have s1:ai false .add (J (a:Int)) (J (o:Int))=some (J ((a+o:Nat):Int)):=qS (by omega);have sE:a+o<L.length:=by omega
  have lA:x<L.length:=by omega
  have ae7:a+o<(L.set x (gt L (a+o))).length:=by simpa using sE
  have s2:ai false .add (J (x:Int)) (J 1)=some (J ((x+1:Nat):Int)):=b0 (by omega);refine⟨(x+1,eT L x (a+o),w),?_,⟨by simp only;omega,a2.trans (Part.eT (by omega) (by omega) (by omega) (by omega) (by omega))⟩,by simp only;omega⟩;rcases my with⟨my,rfl⟩|⟨my,rfl⟩
  .simp only[Hn,go_sem,bz,bA,cx,fi,yT ((x:Int)<=((a+l/4*2+1:Nat):Int)),fs,gp,eh,jL,yF ((o:Int)>=(l:Int)),s1,c8 sE,c8 lA,cQ aC sE,cQ aC lA,eK,nd,nc,gX,xbb,cQ aC ae7,mL lA sE,s2]
  have gT:ai false .sub (J (r:Int)) (J (l:Int))=some (J ((r-l:Nat):Int)):=qT (by omega) (by omega);simp only[Hn,go_sem,bz,bA,cx,fi,yT ((x:Int)<=((a+l/4*2+1:Nat):Int)),fs,gp,eh,jL,yT ((r:Int)>=(l:Int)),gT,s1,c8 sE,c8 lA,cQ aC sE,cQ aC lA,eK,nd,nc,gX,xbb,cQ aC ae7,mL lA sE,s2]
 right;refine⟨_,?_,L,rfl,a2⟩;simp only[Hn,go_sem,bz,bA,cx,fi,yF ((x:Int)<=((a+l/4*2+1:Nat):Int))]
def Vo(n:Nat)(L:List ByteArray)(i j s:Nat)(ah:i<L.length)(aP:j<L.length)(aG:s<1000): ∃x y w:Nat,tx n [cw L,J (i:Int),J (j:Int),J (s:Int)]=some [D.aZ [J (x:Int),J (y:Int)],J (w:Int)]/\(x=i\/x=j)/\(y=i\/y=j)/\w<=s+1:=by
 have aO:ai false .add (J (s:Int)) (J 1)=some (J ((s+1:Nat):Int)):=b0 (by omega);by_cases h:blt (gt L j) (gt L i)=true;.refine⟨j,i,s+1,?_,.inr rfl,.inl rfl,xan _⟩;simp only[tx,go_sem,Ox aC ah,Ox aC aP,eK,iy,h,aO]
 have h:blt (gt L j) (gt L i)=false:=by simpa using h
 refine⟨i,j,s,?_,.inl rfl,.inr rfl,by omega⟩;simp only[tx,go_sem,Ox aC ah,Ox aC aP,eK,iy,h]
def Vp(n:Nat)(L:List ByteArray)(i j k s:Nat)(ah:i<L.length)(aP:j<L.length)(ak:k<L.length)(aG:s<900): ∃x w:Nat,u9 n [cw L,J (i:Int),J (j:Int),J (k:Int),J (s:Int)]=some [J (x:Int),J (w:Int)]/\(x=i\/x=j\/x=k)/\w<=s+3:=by obtain⟨c2,tY,fs,dy,dg,eW,jj⟩:=Vo n L i j s ah aP (by omega);obtain⟨m6,OG,gp,bz,bA,cx,eo⟩:=Vo n L tY k fs (by rcases eW with rfl|rfl<;>assumption) ak (by omega);obtain⟨DW,Jz,kc,e4,eh,jL,KO⟩:=Vo n L c2 m6 gp (by rcases dg with rfl|rfl<;>assumption) (by rcases bA with rfl|rfl<;>(try assumption);rcases eW with rfl|rfl<;>assumption) (by omega);refine⟨Jz,kc,?_,by omega,by omega⟩;simp only[u9,go_sem,dy,bz,e4]
def Vq(n:Nat)(L:List ByteArray)(i s:Nat)(ab:1<=i)(ah:i+1<L.length)(bR:L.length<1000000000)(aG:s<900): ∃x w:Nat,pU n [cw L,J (i:Int),J (s:Int)]=some [J (x:Int),J (w:Int)]/\(i<=x+1/\x<=i+1)/\w<=s+3:=by obtain⟨x,w,dy,dg,eW⟩:=Vp n L (i-1) i (i+1) s (by omega) (by omega) ah aG;have aO:ai false .sub (J (i:Int)) (J 1)=some (J ((i-1:Nat):Int)):=ky (by omega) (by omega);have aX:ai false .add (J (i:Int)) (J 1)=some (J ((i+1:Nat):Int)):=b0 (by omega);refine⟨x,w,?_,by omega,eW⟩;simp only[pU,go_sem,aO,aX,dy]
def axF(n:Nat)(L:List ByteArray)(a b:Nat)(fE:a+12<b)(aj:b<=L.length)(bR:L.length<1000000000): ∃p h:Nat,w9 n [cw L,J (a:Int),J (b:Int)]=some (D.aZ [J (p:Int),J (h:Int)])/\a<=p/\p<b/\h<=2:=by
 have aO:ai false .sub (J (b:Int)) (J (a:Int))=some (J ((b-a:Nat):Int)):=qT (by omega) (by omega);generalize aq:b-a=l at*;have bz:ai false .quo (J (l:Int)) (J 4)=some (J ((l/4:Nat):Int)):=Oy (k:=4) (by omega) (by omega) (by omega);have gM:ai false .mul (J ((l/4:Nat):Int)) (J 1)=some (J ((l/4*1:Nat):Int)):=OF (c:=1) (by omega) (by omega);have kI:ai false .mul (J ((l/4:Nat):Int)) (J 2)=some (J ((l/4*2:Nat):Int)):=OF (c:=2) (by omega) (by omega);have vw:ai false .mul (J ((l/4:Nat):Int)) (J 3)=some (J ((l/4*3:Nat):Int)):=OF (c:=3) (by omega) (by omega);have s1:ai false .add (J (a:Int)) (J ((l/4*1:Nat):Int))=some (J ((a+l/4*1:Nat):Int)):=qS (by omega);have s2:ai false .add (J (a:Int)) (J ((l/4*2:Nat):Int))=some (J ((a+l/4*2:Nat):Int)):=qS (by omega);have gT:ai false .add (J (a:Int)) (J ((l/4*3:Nat):Int))=some (J ((a+l/4*3:Nat):Int)):=qS (by omega);have d8:=yT ((l:Int)>=8);obtain⟨p,w,aT,yx,oS⟩:∃p w:Nat,(∀(k:List D->Option D),aa (aa (if decide ((l:Int)>=50)=true then aa (pU n [cw L,J ((a+l/4*1:Nat):Int),J 0]) λab=>aa (pU n [cw L,J ((a+l/4*2:Nat):Int),(I ab 1)]) λaf=>aa (pU n [cw L,J ((a+l/4*3:Nat):Int),(I af 1)]) λaw=>some (Sum.inl [cw L,(I ab 0),(I af 0),(I aw 0),(I aw 1)])
    else some (Sum.inl [cw L,J ((a+l/4*1:Nat):Int),J ((a+l/4*2:Nat):Int),J ((a+l/4*3:Nat):Int),J 0])) (a9 λls=>aa (u9 n [(I ls 0),(I ls 1),(I ls 2),(I ls 3),(I ls 4)]) λa4=>some (Sum.inl [(I a4 0),(I a4 1)]))) (a9 k)=k [J (p:Int),J (w:Int)])/\a<=p/\p<b:=by
  by_cases axr:50<=l;.obtain⟨c2,fs,t1,t2,t3⟩:=Vq n L (a+l/4*1) 0 (by omega) (by omega) bR (by omega);obtain⟨m6,gp,ly,kZ,aBv⟩:=Vq n L (a+l/4*2) fs (by omega) (by omega) bR (by omega);obtain⟨DW,kc,v1,v2,rv⟩:=Vq n L (a+l/4*3) gp (by omega) (by omega) bR (by omega);obtain⟨Au,o5,tY,OG,Jz⟩:=Vp n L c2 m6 DW kc (by omega) (by omega) (by omega) (by omega);have t1:pU n [cw L,J ((a+l/4*1:Nat):Int),J 0]=some [J (c2:Int),J (fs:Int)]:=t1;refine⟨Au,o5,λk=>?_,by omega,by omega⟩;simp only[go_sem,yT ((l:Int)>=50),t1,ly,v1,tY]
  .obtain⟨Au,o5,tY,OG,Jz⟩:=Vp n L (a+l/4*1) (a+l/4*2) (a+l/4*3) 0 (by omega) (by omega) (by omega) (by omega);have tY:u9 n [cw L,J ((a+l/4*1:Nat):Int),J ((a+l/4*2:Nat):Int),J ((a+l/4*3:Nat):Int),J 0]=some [J (Au:Int),J (o5:Int)]:=tY;refine⟨Au,o5,λk=>?_,by omega,by omega⟩;simp only[go_sem,yF ((l:Int)>=50),tY]
 by_cases w0:w=0;.subst w0;refine⟨p,1,?_,yx,oS,by omega⟩;simp only[w9,MD,go_sem,aO,bz,gM,kI,vw,s1,s2,gT,d8,aT];rfl
 have AK:((w:Int)==0)=false:=by simp;omega
 by_cases axG:w=12;.subst axG;refine⟨p,2,?_,yx,oS,by omega⟩;simp only[w9,MD,go_sem,aO,bz,gM,kI,vw,s1,s2,gT,d8,aT,AK];rfl
 have axH:((w:Int)==12)=false:=by simp;omega
 refine⟨p,0,?_,yx,oS,by omega⟩;simp only[w9,MD,go_sem,aO,bz,gM,kI,vw,s1,s2,gT,d8,aT,AK,axH];rfl
def AL(ma:List D->Option (List D))(n:Nat)(ls:List D):Option (List D⊕(List D⊕(List D))):=aa (ai false .gtr (I ls 0) (J 0)) λh4=>
 aa (bL h4 true (
 aa (ai false .sub (I ls 0) (J 1)) λlK=>
 aa (cj ((au (I ls 7))).length lK) λxc=>
 aa (((au (I ls 7)))[xc]?) λHv=>
 aa (a5 false 1 0 Hv) λj8=>
 aa (cj ((au (I ls 7))).length (I ls 6)) λHw=>
 aa (((au (I ls 7)))[Hw]?) λHx=>
 aa (a5 false 1 0 Hx) λg9=>
 aa (jq n [j8,g9]) λlb=>
 aa (dk .not lb) λhH=>
 some hH
)) λhH=>
 aa (bV h4 hH (ax false)) λm5=>
 aI m5 (
 aa (CC n [(I ls 0),(I ls 1),(I ls 6),(D.az 1 (au (I ls 7)))]) λcP=>
 some (.inl [(I cP 0),(I ls 1),(I ls 2),(I ls 3),(I ls 4),(D.az 1 (au (I cP 1)))])
) (
 aa (zG n [(I ls 0),(I ls 1),(I ls 6),(D.az 1 (au (I ls 7)))]) λgE=>
 aa (bs 0 (I gE 0)) λjd=>
 aa (bs 1 (I gE 0)) λjT=>
 aa (ai false .sub jd (I ls 0)) λld=>
 aa (ai false .sub (I ls 1) jd) λpP=>
 aa (ai false .quo (I ls 5) (J 8)) λpW=>
 aa (ai false .lss ld pP) λo3=>
 aa (
 aI o3 (
 aa (ai false .geq ld pW) λrK=>
 aa (ma [(I ls 0),jd,(I ls 2),(D.az 1 (au (I gE 1)))]) λh1=>
 aa (ai false .add jd (J 1)) λw4=>
 some (.inl [w4,(I ls 1),(I ls 2),rK,jT,(D.az 1 (au (I h1 1)))])
) (
 aa (ai false .geq pP pW) λnz=>
 aa (ai false .add jd (J 1)) λHs=>
 aa (ma [Hs,(I ls 1),(I ls 2),(D.az 1 (au (I gE 1)))]) λjM=>
 some (.inl [(I ls 0),jd,(I ls 2),nz,jT,(D.az 1 (au (I jM 1)))])
)
)<|a9 λls=>some (.inl [(I ls 0),(I ls 1),(I ls 2),(I ls 3),(I ls 4),(D.az 1 (au (I ls 5)))])
)
def Eb(ma:List D->Option (List D))(n:Nat)(ls:List D):Option (List D⊕(List D⊕(List D))):=aa (bL (I ls 3) true (
 some (I ls 4)
)) λgI=>
 aa (bV (I ls 3) gI (ax false)) λhj=>
 aa (bL hj true (
 aa (ai false .eql (I ls 7) (J 1)) λgy=>
 some gy
)) λgy=>
 aa (bV hj gy (ax false)) λfR=>
 aa (
 aI fR (
 aa (xb n [(I ls 0),(I ls 1),(D.az 1 (au (I ls 8)))]) λb6=>
 aI (I b6 0) (
 aY (
 aY (
 aY (
 some [(D.aZ []),(D.az 1 (au (I b6 1)))]
)
)
)
) (
 some (.inl [(I ls 0),(I ls 1),(I ls 2),(I ls 3),(I ls 4),(I ls 5),(I ls 6),(D.az 1 (au (I b6 1)))])
)
) (
 some (.inl [(I ls 0),(I ls 1),(I ls 2),(I ls 3),(I ls 4),(I ls 5),(I ls 6),(D.az 1 (au (I ls 8)))])
)
)<|a9 λls=>AL ma n ls
def AM(ma:List D->Option (List D))(n:Nat)(ls:List D):Option (List D⊕(List D⊕(List D))):=aa (w9 n [(D.az 1 (au (I ls 6))),(I ls 0),(I ls 1)]) λfu=>
 aD fu.flat<|
 aa (bs 0 fu) λjo=>
 aa (bs 1 fu) λfS=>
 aa (ai false .eql fS (J 2)) λdn=>
 aa (
 aI dn (
 aa (Cx n [(I ls 0),(I ls 1),(D.az 1 (au (I ls 6)))]) λa4=>
 aa (ai false .sub (I ls 1) (J 1)) λeR=>
 aa (ai false .sub jo (I ls 0)) λla=>
 aa (ai false .sub eR la) λgf=>
 some (.inl [(I ls 0),(I ls 1),(I ls 2),(I ls 3),(I ls 4),(I ls 5),gf,(J 1),(D.az 1 (au (I a4 1)))])
) (
 some (.inl [(I ls 0),(I ls 1),(I ls 2),(I ls 3),(I ls 4),(I ls 5),jo,fS,(D.az 1 (au (I ls 6)))])
)
)<|a9 λls=>Eb ma n ls
def OH(ma:List D->Option (List D))(n:Nat)(ls:List D):CH ma n ls=(
 aa (
 aa (ai false .sub (I ls 1) (I ls 0)) λbT=>
 aa (ai false .leq bT (J 12)) λcH=>
 aI cH (
 aa (Ct n [(I ls 0),(I ls 1),(D.az 1 (au (I ls 5)))]) λab=>
 aY (
 aY (
 some [(D.aZ []),(D.az 1 (au (I ab 1)))]
)
)
) (
 aa (ai false .eql (I ls 2) (J 0)) λdO=>
 aI dO (
 aa (Cw n [(I ls 0),(I ls 1),(D.az 1 (au (I ls 5)))]) λaf=>
 aY (
 aY (
 some [(D.aZ []),(D.az 1 (au (I af 1)))]
)
)
) (
 aa (dk .not (I ls 3)) λgm=>
 aa (
 aI gm (
 aa (zA n [(I ls 0),(I ls 1),(D.az 1 (au (I ls 5)))]) λaw=>
 aa (ai false .sub (I ls 2) (J 1)) λgd=>
 some (.inl [(I ls 0),(I ls 1),gd,(I ls 3),(I ls 4),bT,(D.az 1 (au (I aw 1)))])
) (
 some (.inl [(I ls 0),(I ls 1),(I ls 2),(I ls 3),(I ls 4),bT,(D.az 1 (au (I ls 5)))])
)
)<|a9 λls=>AM ma n ls
)
)
)<|a9 λls=>some (.inl [(I ls 0),(I ls 1),(I ls 2),(I ls 3),(I ls 4),(D.az 1 (au (I ls 5)))])
):=rfl
def Ec(a b:Nat)(L:List ByteArray)(x:Option (List D⊕(List D⊕(List D)))):Prop:=(∃bB,x=some (.inr (.inr [D.aZ [],cw bB]))/\Part a b L bB/\eE blt a b (gt bB))\/(∃(cB b' m:Nat)(u v:Bool)(bB:List ByteArray),x=some (.inl [J (cB:Int),J (b':Int),J (m:Int),ax u,ax v,cw bB])/\m<=1000/\Part a b L bB/\b'-cB<b-a/\∀ae fM,fM<=L.length->jX blt ae fM a b (gt L)->jX blt ae fM cB b' (gt bB))
def Ec.pre{a b:Nat}{L M:List ByteArray}{x:Option (List D⊕(List D⊕(List D)))}(h:Ec a b M x)(aT:Part a b L M):Ec a b L x:=by
 rcases h with⟨bB,ab,af,aw⟩|⟨cB,b',m,u,v,bB,ab,hm,af,aw,a4⟩;.exact .inl ⟨bB,ab,aT.trans af,aw⟩
 exact .inr ⟨cB,b',m,u,v,bB,ab,hm,aT.trans af,aw,λae fM aj bj=>a4 ae fM (by rw[aT.len];exact aj) (bj.part aT aj)⟩
section
variable{r:List D->Option (List D)}{n:Nat}{L:List ByteArray}{a b:Nat}
def JA(r:List D->Option (List D))(len W:Nat):Prop:=∀(M:List ByteArray)(a b m:Nat),m<=1000->M.length=len->a<=b->b<=M.length->b-a<W->qe a b M->∃cY,r [J (a:Int),J (b:Int),J (m:Int),cw M]=some [D.aZ [],cw cY]/\Part a b M cY/\eE blt a b (gt cY)
def ae8(av:JA r L.length (b-a))(fE:a+12<b)(aj:b<=L.length)(bR:L.length<1000000000)(aN:L.length+30<n)(nf:qe a b L)(m p:Nat)(hm:m<=1000)(u v:Bool)(aT:a<=p/\p<b):Ec a b L (AL r n [J (a:Int),J (b:Int),J (m:Int),ax u,ax v,J ((b-a:Nat):Int),J (p:Int),cw L]):=by
 have kD:p<L.length:=by omega
 have hr:=λ(bB:List ByteArray)(yA:Part a b L bB) ae fM (AN:fM<=L.length) (bj:jX blt ae fM a b (gt L))=>bj.part yA AN;by_cases he:0<a/\blt (gt L (a-1)) (gt L p)=false
 .obtain⟨ar,he⟩:=he;have fz:a-1<L.length:=by omega
  have aO:ai false .sub (J (a:Int)) (J 1)=some (J ((a-1:Nat):Int)):=ky (by omega) (by omega);obtain⟨jU,bB,dy,dg,eW,jj,lD,pz⟩:=axm n L a b p (by omega) aT aj bR (by omega);refine .inr ⟨jU,b,m,u,v,bB,?_,hm,dg,by omega,?_⟩;.simp only[AL,go_sem,yT ((a:Int)>0),en,ee,aO,c8 fz,c8 kD,cQ aC fz,cQ aC kD,eK,gX,iy,he,dy]
  intro ae fM AN bj;have gw:e2 (λx=>blt x (gt L p)=false) a b (gt L):=λk ab af=>kf.tr _ _ _ he (nf ar k ab af);exact(hr bB dg ae fM AN bj).eq (by omega) jj lD (gw.part dg aj) pz kf
 
 obtain⟨jU,d,bB,dy,dg,eW,jj,lD,pz⟩:=axh n L a b p (by omega) aT aj bR (by omega);have b2:=dg.len;have aO:ai false .sub (J (jU:Int)) (J (a:Int))=some (J ((jU-a:Nat):Int)):=qT (by omega) (by omega);have aX:ai false .sub (J (b:Int)) (J (jU:Int))=some (J ((b-jU:Nat):Int)):=qT (by omega) (by omega);have bQ:ai false .quo (J ((b-a:Nat):Int)) (J 8)=some (J (((b-a)/8:Nat):Int)):=Oy (k:=8) (by omega) (by omega) (by omega);have cO:ai false .add (J (jU:Int)) (J 1)=some (J ((jU+1:Nat):Int)):=b0 (by omega);have Vr:qe a b bB:=nf.part dg (xan _) (xan _) aj;have iV:∀(x y:Option (List D⊕(List D⊕(List D)))),aa (bL (ax (decide ((a:Int)>0))) true (aa (ai false .sub (J (a:Int)) (J 1)) λlK=>aa (cj (qa aC L).length lK) λxc=>aa ((qa aC L)[xc]?) λHv=>aa (a5 false 1 0 Hv) λj8=>aa (cj (qa aC L).length (J (p:Int))) λHw=>aa ((qa aC L)[Hw]?) λHx=>aa (a5 false 1 0 Hx) λg9=>aa (jq n [j8,g9]) λlb=>aa (dk .not lb) λhH=>some hH)) (λhH=>aa (bV (ax (decide ((a:Int)>0))) hH (ax false)) λm5=>aI m5 x y)=y:=by
  intro x y;by_cases ar:0<a
  .have OI:blt (gt L (a-1)) (gt L p)=true:=by
    cases bO:blt (gt L (a-1)) (gt L p)with|true=>rfl|false=>exact absurd ⟨ar,bO⟩ he
   have fz:a-1<L.length:=by omega
   have aO:ai false .sub (J (a:Int)) (J 1)=some (J ((a-1:Nat):Int)):=ky (by omega) (by omega);simp only[go_sem,yT ((a:Int)>0),en,ee,aO,c8 fz,c8 kD,cQ aC fz,cQ aC kD,eK,gX,iy,OI]
  simp only[go_sem,yF ((a:Int)>0),en,ee]
 by_cases cu:jU-a<b-jU
 .obtain⟨iG,e4,eh,jL⟩:=av bB a jU m hm b2 eW (by omega) (by omega) (λar q ab af=>Vr ar q ab (by omega));have m1:Part a b bB iG:=eh.mono (xan _) (by omega);refine .inr ⟨jU+1,b,m,decide (((jU-a:Nat):Int)>=(((b-a)/8:Nat):Int)),d,iG,?_,hm,dg.trans m1,by omega,?_⟩
  .simp only[AL,n5,pM,oW,eN,RC];rw[iV];simp only[go_sem,dy,aO,aX,bQ,yT (((jU-a:Nat):Int)<((b-jU:Nat):Int)),e4,cO]
  intro ae fM AN bj;have ab:=hr iG (dg.trans m1) ae fM AN bj;have em:gt iG jU=gt bB jU:=eh.p9 (.inr (xan _));refine ab.right eW jj jL ?_ ?_ kf
  .rw[em];exact lD.part eh (by omega)
  rw[em];exact pz.out eh (.inr (by omega))
 obtain⟨iG,e4,eh,jL⟩:=av bB (jU+1) b m hm b2 (by omega) (by omega) (by omega) (λ_ q ab af=>pz q ab af);have m1:Part a b bB iG:=eh.mono (by omega) (xan _);refine .inr ⟨a,jU,m,decide (((b-jU:Nat):Int)>=(((b-a)/8:Nat):Int)),d,iG,?_,hm,dg.trans m1,by omega,?_⟩
 .simp only[AL,n5,pM,oW,eN,RC];rw[iV];simp only[go_sem,dy,aO,aX,bQ,yF (((jU-a:Nat):Int)<((b-jU:Nat):Int)),e4,cO]
 intro ae fM AN bj;have ab:=hr iG (dg.trans m1) ae fM AN bj;have em:gt iG jU=gt bB jU:=eh.p9 (.inl (by omega));refine ab.left eW jj jL ?_ ?_ kf
 .rw[em];exact lD.out eh (.inl (by omega))
 rw[em];exact pz.part eh (by omega)
def ae9(av:JA r L.length (b-a))(fE:a+12<b)(aj:b<=L.length)(bR:L.length<1000000000)(aN:L.length+30<n)(nf:qe a b L)(m p h:Nat)(hm:m<=1000)(u v:Bool)(aT:a<=p/\p<b):Ec a b L (Eb r n [J (a:Int),J (b:Int),J (m:Int),ax u,ax v,J ((b-a:Nat):Int),J (p:Int),J (h:Int),cw L]):=by
 obtain⟨s,bB,bz,bA,cx⟩:=axq n L a b (by omega) aj bR (by omega) nf;have b2:=bA.len;have iV:Eb r n [J (a:Int),J (b:Int),J (m:Int),ax u,ax v,J ((b-a:Nat):Int),J (p:Int),J (h:Int),cw L]=(if(u&&(v&&((h:Int)==1)))=true then(if s=true then some (.inr (.inr [D.aZ [],cw bB]))else AL r n [J (a:Int),J (b:Int),J (m:Int),ax u,ax v,J ((b-a:Nat):Int),J (p:Int),cw bB])
    else AL r n [J (a:Int),J (b:Int),J (m:Int),ax u,ax v,J ((b-a:Nat):Int),J (p:Int),cw L]):=by
  cases u<;>cases v<;>cases bO:((h:Int)==1)<;>cases s<;>simp only[Eb,go_sem,en,ee,bO,bz]<;>rfl
 rw[iV];split
 .split;.rename_i aG;exact .inl ⟨bB,rfl,bA,cx aG⟩
  exact(ae8 (L:=bB) (by rw[b2];exact av) fE (by omega) (by omega) (by omega) (nf.part bA (xan _) (xan _) aj) m p hm u v aT).pre bA
 exact ae8 av fE aj bR aN nf m p hm u v aT
def axI(av:JA r L.length (b-a))(fE:a+12<b)(aj:b<=L.length)(bR:L.length<1000000000)(aN:L.length+30<n)(nf:qe a b L)(m:Nat)(hm:m<=1000)(u v:Bool):Ec a b L (AM r n [J (a:Int),J (b:Int),J (m:Int),ax u,ax v,J ((b-a:Nat):Int),cw L]):=by
 obtain⟨p,h,bU,bY,cv,dm⟩:=axF n L a b fE aj bR;have fl:(D.aZ [J (p:Int),J (h:Int)]).flat=true:=rfl;by_cases af:h=2
 .subst af;obtain⟨bB,bz,bA⟩:=aw6 n L a b (by omega) aj bR (by omega);have b2:=bA.len;have aO:ai false .sub (J (b:Int)) (J 1)=some (J ((b-1:Nat):Int)):=ky (by omega) (by omega);have aX:ai false .sub (J (p:Int)) (J (a:Int))=some (J ((p-a:Nat):Int)):=qT (by omega) (by omega);have bQ:ai false .sub (J ((b-1:Nat):Int)) (J ((p-a:Nat):Int))=some (J ((b-1-(p-a):Nat):Int)):=qT (by omega) (by omega);have z:(((2:Nat):Int)==2)=true:=rfl;have iV:AM r n [J (a:Int),J (b:Int),J (m:Int),ax u,ax v,J ((b-a:Nat):Int),cw L]=Eb r n [J (a:Int),J (b:Int),J (m:Int),ax u,ax v,J ((b-a:Nat):Int),J ((b-1-(p-a):Nat):Int),J 1,cw bB]:=by
   simp only[AM,go_sem,bU,fl,z,bz,aO,aX,bQ]
  rw[iV];exact(ae9 (L:=bB) (by rw[b2];exact av) fE (by omega) (by omega) (by omega) (nf.part bA (xan _) (xan _) aj) m _ 1 hm u v (by omega)).pre bA
 have z:((h:Int)==2)=false:=by simp;omega
 have iV:AM r n [J (a:Int),J (b:Int),J (m:Int),ax u,ax v,J ((b-a:Nat):Int),cw L]=Eb r n [J (a:Int),J (b:Int),J (m:Int),ax u,ax v,J ((b-a:Nat):Int),J (p:Int),J (h:Int),cw L]:=by simp only[AM,go_sem,bU,fl,z]
 rw[iV];exact ae9 av fE aj bR aN nf m p h hm u v ⟨bY,cv⟩
def axJ(av:JA r L.length (b-a))(fE:a<=b)(aj:b<=L.length)(bR:L.length<1000000000)(aN:L.length+30<n)(nf:qe a b L)(m:Nat)(hm:m<=1000)(u v:Bool):(∃bB,CH r n [J (a:Int),J (b:Int),J (m:Int),ax u,ax v,cw L]=some (.inr [D.aZ [],cw bB])/\Part a b L bB/\eE blt a b (gt bB))\/(∃(cB b' cF:Nat)(Vs kC:Bool)(bB:List ByteArray),CH r n [J (a:Int),J (b:Int),J (m:Int),ax u,ax v,cw L]=some (.inl [J (cB:Int),J (b':Int),J (cF:Int),ax Vs,ax kC,cw bB])/\cF<=1000/\Part a b L bB/\b'-cB<b-a/\∀ae fM,fM<=L.length->jX blt ae fM a b (gt L)->jX blt ae fM cB b' (gt bB)):=by
 have aO:ai false .sub (J (b:Int)) (J (a:Int))=some (J ((b-a:Nat):Int)):=qT fE (by omega);by_cases Jp:b-a<=12;.obtain⟨bB,bz,bA,cx⟩:=aw5 n L a b fE aj bR (by omega);refine .inl ⟨bB,?_,bA,cx⟩;simp only[OH,go_sem,aO,yT (((b-a:Nat):Int)<=12),bz]
 have d12:=yF (((b-a:Nat):Int)<=12);by_cases hd:m=0;.subst hd;obtain⟨bB,bz,bA,cx⟩:=axb n L a b (by omega) aj bR (by omega);refine .inl ⟨bB,?_,bA,cx⟩;have z:(((0:Nat):Int)==0)=true:=rfl;simp only[OH,go_sem,aO,d12,z,bz]
 have afa:((m:Int)==0)=false:=by simp;omega
 obtain⟨D8,gM,aW,a2,bb⟩:∃(D8:List ByteArray)(gM:Nat),CH r n [J (a:Int),J (b:Int),J (m:Int),ax u,ax v,cw L]=aa (AM r n [J (a:Int),J (b:Int),J (gM:Int),ax u,ax v,J ((b-a:Nat):Int),cw D8]) (a9 λls=>some (.inl [(I ls 0),(I ls 1),(I ls 2),(I ls 3),(I ls 4),(D.az 1 (au (I ls 5)))]))/\Part a b L D8/\gM<=1000:=by cases u with|true=>refine⟨L,m,?_,Part.refl _ _ _,hm⟩;simp only[OH,go_sem,aO,d12,afa]|false=>obtain⟨bB,bz,bA⟩:=axD n L a b (by omega) aj bR (by omega);have aX:ai false .sub (J (m:Int)) (J 1)=some (J ((m-1:Nat):Int)):=ky (by omega) (by omega);refine⟨bB,m-1,?_,bA,by omega⟩;simp only[OH,go_sem,aO,d12,afa,bz,aX]
 have b2:=a2.len;have e5:=(axI (L:=D8) (r:=r) (n:=n) (by rw[b2];exact av) (by omega) (by omega) (by omega) (by omega) (nf.part a2 (xan _) (xan _) aj) gM bb u v).pre a2;rw[aW];rcases e5 with⟨bB,ab,af,aw⟩|⟨cB,b',cF,Vs,kC,bB,ab,uM,af,aw,a4⟩
 .exact .inl ⟨bB,by rw[ab];simp only[go_sem],af,aw⟩
 exact .inr ⟨cB,b',cF,Vs,kC,bB,by rw[ab];simp only[go_sem],uM,af,aw,a4⟩
end
def afb:∀(n:Nat)(L:List ByteArray)(a b m:Nat),m<=1000->a<=b->b<=L.length->L.length<1000000000->(b-a)+L.length+40<n->qe a b L-> ∃bB,rT n [J (a:Int),J (b:Int),J (m:Int),cw L]=some [D.aZ [],cw bB]/\Part a b L bB/\eE blt a b (gt bB)
 |0,L,a,b,m,_,_,_,_,h,_=>absurd h (xay _)
 |n+1,L,a,b,m,hm,fE,aj,bR,aN,nf=>by
  have key:=kx (f:=CH (rT n) n) (S:=Nat×Nat×Nat×Bool×Bool×List ByteArray) (λs=>[J (s.1:Int),J (s.2.1:Int),J (s.2.2.1:Int),ax s.2.2.2.1,ax s.2.2.2.2.1,cw s.2.2.2.2.2]) (λs=>s.2.1-s.1) (λs=>s.2.2.1<=1000/\Part a b L s.2.2.2.2.2/\jX blt a b s.1 s.2.1 (gt s.2.2.2.2.2)) (λr=>∃bB,r=[D.aZ [],cw bB]/\Part a b L bB/\eE blt a b (gt bB)) ?_ n (a,b,m,true,true,L) ⟨hm,Part.refl _ _ _,jX.start fE (λar j ab af=>nf ar j ab af)⟩ (by simp only;omega);.obtain⟨r,ab,bB,rfl,af⟩:=key;refine⟨bB,?_,af⟩;simp only[rT,SU,go_sem,ab]
  rintro⟨cB,b',cF,u,v,M⟩ ⟨aW,a2,bb⟩;simp only at aW a2 bb⊢;have b2:=a2.len;obtain⟨bz,bA,cx⟩:=bb.le;have Vr:qe cB b' M:=λar j ab af=>bb.low ar j ab af;have av:JA (rT n) M.length (b'-cB):=λN x y k ab af aw a4 b6 cP=>afb n N x y k ab aw a4 (by omega) (by omega) cP;rcases axJ (L:=M) (n:=n) av bA (by omega) (by omega) (by omega) Vr cF aW u v with⟨bB,ab,af,aw⟩|⟨bc,hf,kI,kZ,v2,bB,ab,T0,af,aw,a4⟩
  .right;exact⟨_,ab,bB,rfl,a2.trans (af.mono bz cx),(bb.part af (by omega)).done aw⟩
  left;exact⟨(bc,hf,kI,kZ,v2,bB),ab,⟨T0,a2.trans (af.mono bz cx),a4 a b (by omega) bb⟩,aw⟩
set_option maxRecDepth 50000 in
def axK(n:Nat)(L:List ByteArray)(bR:L.length<1000000000)(aN:L.length+L.length+60<n): ∃bB,CI n [cw L]=some [D.aZ [],cw bB]/\Part 0 L.length L bB/\eE blt 0 L.length (gt bB):=by
 have go:∀m:Nat,m<=1000->rS n [lu L.length]=some (J m)->∃bB,CI n [cw L]=some [D.aZ [],cw bB]/\Part 0 L.length L bB/\eE blt 0 L.length (gt bB):=by intro m hm he;obtain⟨bB,bz,bA,cx⟩:=afb n L 0 L.length m hm (xai _) (xan _) bR (by omega) (λh=>absurd h (xbT _));have bz:rT n [J 0,J (L.length:Int),J (m:Int),cw L]=some [D.aZ [],cw bB]:=bz;refine⟨bB,?_,bA,cx⟩;simp only[CI,go_sem,gX,Vn (show L.length<4000000000000000000 by omega),he,bz]
 by_cases ar:L.length=0;.rw[ar]at go;have:=go 0 (by omega) (by exact rfl);rw[ar];exact this
 obtain⟨k,cD,dN,hv,rB⟩:=ae6 n (v:=L.length) (by omega) (by omega);exact go k (by omega) hv
end Go.Am
