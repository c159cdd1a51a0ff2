/- Laws, on data. No condition. -/
import Derived.Test.YthnecpgodmolaaaGreatDoorEngD
import Derived.Test.YthnecpgodmolaaaGreatDoorCode
import Derived.Test.YthnecpgodmolaaaGreatDoorEngS
set_option linter.all false
set_option linter.unnecessarySimpa false
namespace Go.Am
def ky{β S:Type}{f:List D->Option (List D⊕β)}(e3:S->List D)(Oq:S->Nat)(Inv:S->Prop)(Q:β->Prop) (step:∀s,Inv s->(∃s',f (e3 s)=some (.inl (e3 s'))/\Inv s'/\Oq s'<Oq s)\/(∃r,f (e3 s)=some (.inr r)/\Q r)): ∀n s,Inv s->Oq s<n->∃r,bp f n (e3 s)=some r/\Q r
 |0,s,_,h=>absurd h (xay _)
 |n+1,s,h,hm=>by
  rw[jN];rcases step s h with⟨s',ab,af,aw⟩|⟨r,ab,af⟩
  .rw[ab];exact ky e3 Oq Inv Q step n s' af (by omega)
  rw[ab];exact⟨r,rfl,af⟩
section
variable{α:Type}
structure Part(a b:Nat)(L bE:List α):Prop where
 len:bE.length=L.length
 out:∀i,i<a\/b<=i->bE[i]?=L[i]?
 vC:∀p:α->Bool,bE.countP p=L.countP p
theorem Part.refl(a b:Nat)(L:List α):Part a b L L:=⟨rfl,λ_ _=>rfl,λ_=>rfl⟩
def Part.trans{a b:Nat}{L M N:List α}(h:Part a b L M)(bD:Part a b M N):Part a b L N:=⟨bD.len.trans h.len,λi ah=>(bD.out i ah).trans (h.out i ah),λp=>(bD.vC p).trans (h.vC p)⟩
def Part.mono{a b cD b':Nat}{L M:List α}(h:Part a b L M)(aF:cD<=a)(aj:b<=b'):Part cD b' L M:=⟨h.len,λi ah=>h.out i (by omega),h.vC⟩
def eT(L:List α)(i j:Nat):List α:=match L[i]?,L[j]? with|some x,some y=>(L.set i y).set j x|_,_=>L
def axs{L:List α}{i j:Nat}{x y:α}(ah:L[i]?=some x)(aN:L[j]?=some y):(L.set i y).set j x=eT L i j:=by simp only[eT,ah,aN]
def Ji(L:List α)(i j:Nat):(eT L i j).length=L.length:=by unfold eT;split<;>simp
def afk{L:List α}{i j:Nat}(ah:i<L.length)(aN:j<L.length)(k:Nat):(eT L i j)[k]?=if k=j then L[i]? else if k=i then L[j]? else L[k]?:=by
 unfold eT;rw[xab ah,xab aN];simp only[List.getElem?_set,xaZ];by_cases ab:k=j;.subst ab;simp[aN]
 by_cases af:k=i;.subst af;rw[xaa (λh=>ab h.symm),xaa ab];simp[ah]
 rw[xaa (λh=>ab h.symm),xaa (λh=>af h.symm),xaa ab,xaa af]
def axt{L:List α}{i:Nat}:eT L i i=L:=by
 unfold eT;split
 .rename_i x y ab af;rw[ab]at af;cases af;apply xca;intro k;simp only[List.getElem?_set,xaZ];by_cases h:i=k;.subst h;rw[ab];simp[(xae.1 ab).1]
  simp[h]
 rfl
def Part.eT{a b i j:Nat}{L:List α}(ah:a<=i)(jB:i<b)(aN:a<=j)(q2:j<b)(aj:b<=L.length):Part a b L (eT L i j):=by
 refine⟨Ji L i j,?_,?_⟩;.intro k ak;rw[afk (by omega) (by omega),xaa (by omega),xaa (by omega)]
 intro p;by_cases gR:i=j;.subst gR;rw[axt]
 have ab:i<L.length:=by omega
 have af:j<L.length:=by omega
 unfold Am.eT;rw[xab ab,xab af];simp only;rw[List.countP_set (by simpa using af),List.countP_set ab];rw[List.getElem_set_ne gR];have aJ:1<=L.countP p\/p L[i]=false:=by cases h:p L[i]with|false=>exact .inr rfl|true=>exact .inl (List.countP_pos_iff.2 ⟨_,xaY ab,h⟩)
 have aZ:1<=L.countP p\/p L[j]=false:=by cases h:p L[j]with|false=>exact .inr rfl|true=>exact .inl (List.countP_pos_iff.2 ⟨_,xaY af,h⟩)
 cases aw:p L[i]<;>cases a5:p L[j]<;>simp_all<;>omega
def ud(P:α->Prop)(a b:Nat)(L:List α):Prop:=∀i x,a<=i->i<b->L[i]?=some x->P x
def ud.mono{P:α->Prop}{a b cD b':Nat}{L:List α}(h:ud P a b L)(aF:a<=cD)(aj:b'<=b):ud P cD b' L:=λi x ab af ag=>h i x (by omega) (by omega) ag
def ud.out{P:α->Prop}{a b c d:Nat}{L M:List α}(h:ud P c d L)(aU:Part a b L M)(aA:d<=a\/b<=c):ud P c d M:=λi x ab af ag=>h i x ab af (by rw[<-aU.out i (by omega)];exact ag)
def axu{p:α->Bool}{l:List α}(h:l.countP p=0):∀x∈l,p x=false:=by intro x ag;cases aU:p x with|false=>rfl|true=>have:=List.countP_pos_iff.2 ⟨x,ag,aU⟩;omega
open Classical in
def ud.part{P:α->Prop}{a b:Nat}{L M:List α}(h:ud P a b L)(aU:Part a b L M)(fp:a<=b):ud P a b M:=by
 intro i x ab af ag;have aJ:M.take a=L.take a:=by
  apply xca;intro k;rw[xaP,xaP];split;.rename_i ak;exact aU.out k (.inl ak)
  rfl
 have aZ:M.drop b=L.drop b:=by apply xca;intro k;rw[xaX,xaX];exact aU.out _ (.inr (by omega))
 have afl:∀(N:List α)(q:α->Bool),N.countP q=(N.take a).countP q+((N.drop a).take (b-a)).countP q+(N.drop b).countP q:=by
  intro N q
  conv=>lhs;rw[<-xbt a N,List.countP_append,<-xbt (b-a) (N.drop a),List.countP_append,List.drop_drop]
  rw[show a+(b-a)=b by omega];omega
 have ao:=aU.vC (λy=>!decide (P y));rw[afl M,afl L,aJ,aZ]at ao;have au:((L.drop a).take (b-a)).countP (λy=>!decide (P y))=0:=by
  rw[List.countP_eq_zero];intro y aP;obtain⟨k,ak⟩:=List.getElem?_of_mem aP;rw[xaP]at ak;split at ak;.rename_i cu;rw[xaX]at ak;simp[h (a+k) y (by omega) (by omega) ak]
  cases ak
 have aw:((M.drop a).take (b-a)).countP (λy=>!decide (P y))=0:=by omega
 have hm:x∈(M.drop a).take (b-a):=by refine xac (i:=i-a) ?_;rw[xaP,xad (by omega),xaX,show a+(i-a)=i by omega];exact ag
 have:=axu aw x hm;simpa using this
def Part.mem{a b:Nat}{L M:List α}(h:Part a b L M)[DecidableEq α](x:α):x∈M↔x∈L:=by
 have:=h.vC (λy=>y==x);have e:∀N:List α,x∈N↔0<N.countP (λy=>y==x):=by
  intro N;rw[List.countP_pos_iff];constructor;.intro h;exact⟨x,h,by simp⟩
  rintro⟨y,ab,af⟩;rw[<-eq_of_beq af];exact ab
 rw[e,e,this]
structure Jj(lt:α->α->Bool):Prop where
 Jk:∀x,lt x x=false
 AM:∀x y,lt x y=true->lt y x=false
 tr:∀x y z,lt y x=false->lt z y=false->lt z x=false
end
section
variable{α:Type}
def gt[Inhabited α](L:List α)(i:Nat):α:=L.getD i default
def DY[Inhabited α]{L:List α}{i:Nat}(h:i<L.length):L[i]?=some (gt L i):=by simp[gt,xaM,xab h]
def jV(f:Nat->α)(i j:Nat):Nat->α:=λk=>if k=j then f i else if k=i then f j else f k
def sl[Inhabited α]{L:List α}{i j:Nat}(ah:i<L.length)(aN:j<L.length):gt (eT L i j)=jV (gt L) i j:=by
 funext k
 simp only[gt,jV,xaM,afk ah aN];split<;>try split
 all_goals rfl
def Part.p3[Inhabited α]{a b:Nat}{L M:List α}(h:Part a b L M){i:Nat}(ah:i<a\/b<=i):gt M i=gt L i:=by simp only[gt,xaM,h.out i ah]
def e6(P:α->Prop)(a b:Nat)(f:Nat->α):Prop:=∀i,a<=i->i<b->P (f i)
def e6.part[Inhabited α]{P:α->Prop}{a b:Nat}{L M:List α}(h:e6 P a b (gt L))(aU:Part a b L M)(aj:b<=L.length):e6 P a b (gt M):=by
 intro i ab af;have aw:ud P a b L:=λk x cB dx ag=>by have:=h k cB dx;have e:=DY (L:=L) (i:=k) (by omega);rw[e]at ag;cases ag;exact this
 exact(aw.part aU (by omega)) i _ ab af (DY (by rw[aU.len];omega))
def e6.out[Inhabited α]{P:α->Prop}{a b c d:Nat}{L M:List α}(h:e6 P c d (gt L))(aU:Part a b L M)(aA:d<=a\/b<=c):e6 P c d (gt M):=by intro i ab af;rw[aU.p3 (by omega)];exact h i ab af
def e6.mono{P:α->Prop}{a b cD b':Nat}{f:Nat->α}(h:e6 P a b f)(aF:a<=cD)(aj:b'<=b):e6 P cD b' f:=λi ab af=>h i (by omega) (by omega)
def eF(lt:α->α->Bool)(a b:Nat)(f:Nat->α):Prop:=∀i j,a<=i->i<j->j<b->lt (f j) (f i)=false
def eF.out[Inhabited α]{lt:α->α->Bool}{a b c d:Nat}{L M:List α}(h:eF lt c d (gt L))(aU:Part a b L M)(aA:d<=a\/b<=c):eF lt c d (gt M):=by intro i j ab af aw;rw[aU.p3 (by omega),aU.p3 (by omega)];exact h i j ab af aw
def eF.mono{lt:α->α->Bool}{a b cD b':Nat}{f:Nat->α}(h:eF lt a b f)(aF:a<=cD)(aj:b'<=b):eF lt cD b' f:=λi j ab af aw=>h i j (by omega) af (by omega)
def xM{lt:α->α->Bool}{a b:Nat}{f:Nat->α}(h:b<=a+1):eF lt a b f:=λi j ab af aw=>by omega
def eF.join{lt:α->α->Bool}{a m b:Nat}{f:Nat->α}(ab:eF lt a m f)(af:eF lt m b f)(h:∀i j,a<=i->i<m->m<=j->j<b->lt (f j) (f i)=false):eF lt a b f:=by
 intro i j aV a2 bb;by_cases aN:j<m;.exact ab i j aV a2 aN
 by_cases ah:i<m;.exact h i j aV ah (by omega) bb
 exact af i j (by omega) a2 bb
variable{lt:α->α->Bool}(aG:Jj lt)
include aG
theorem eF.more{a i:Nat}{f:Nat->α}(h:eF lt a i f)(ah:a<i)(ar:lt (f i) (f (i-1))=false):eF lt a (i+1) f:=by
 intro p q ab af aw;by_cases bj:q<i;.exact h p q ab af bj
 have e:q=i:=by omega
 subst e;by_cases aU:p=q-1;.subst aU;exact ar
 exact aG.tr _ _ _ (h p (q-1) ab (by omega) (by omega)) ar
omit aG
def DZ(lt:α->α->Bool)(a j i:Nat)(f:Nat->α):Prop:=∀p q,a<=p->p<q->q<=i->q≠j->lt (f q) (f p)=false
theorem afm{a i:Nat}{f:Nat->α}(h:eF lt a i f):DZ lt a i i f:=λp q ab af aw a5=>h p q ab af (by omega)
include aG
theorem afn{a j i:Nat}{f:Nat->α}(h:DZ lt a j i f)(aF:a<j)(jd:j<=i)(ar:lt (f j) (f (j-1))=true):DZ lt a (j-1) i (jV f j (j-1)):=by
 intro p q ab af aw a5;have has:=aG.AM _ _ ar;simp only[jV];rw[xaa a5];by_cases bj:q=j
 .subst bj;rw[xad rfl];by_cases aU:p=q-1;.rw[xad aU];exact has
  rw[xaa aU,xaa (by omega)];exact h p (q-1) ab (by omega) (by omega) (by omega)
 rw[xaa bj];by_cases aU:p=j-1;.rw[xad aU];exact h j q (by omega) (by omega) aw bj
 rw[xaa aU];by_cases oG:p=j;.rw[xad oG];exact h (j-1) q (by omega) (by omega) aw bj
 rw[xaa oG];exact h p q ab af aw bj
theorem Ot{a j i:Nat}{f:Nat->α}(h:DZ lt a j i f)(axv:a<=j)(ar:j=a\/lt (f j) (f (j-1))=false):eF lt a (i+1) f:=by
 intro p q ab af aw;by_cases bj:q=j
 .subst bj;rcases ar with ar|ar
  .omega
  by_cases aU:p=q-1;.subst aU;exact ar
  exact aG.tr _ _ _ (h p (q-1) ab (by omega) (by omega) (by omega)) ar
 exact h p q ab af (by omega) bj
omit aG
def axw(lt:α->α->Bool)(z lo ah x:Nat)(f:Nat->α):Prop:=∀r c,lo<=r->r≠x->(c=2*r+1\/c=2*r+2)->c<ah->lt (f (z+r)) (f (z+c))=false
def Jl(lt:α->α->Bool)(z lo ah x:Nat)(f:Nat->α):Prop:=axw lt z lo ah x f/\∀r c,lo<=r->(x=2*r+1\/x=2*r+2)->(c=2*x+1\/c=2*x+2)->c<ah->lt (f (z+r)) (f (z+c))=false
def o7(lt:α->α->Bool)(z lo ah:Nat)(f:Nat->α):Prop:=∀r c,lo<=r->(c=2*r+1\/c=2*r+2)->c<ah->lt (f (z+r)) (f (z+c))=false
theorem axx{z lo ah:Nat}{f:Nat->α}(h:o7 lt z (lo+1) ah f):Jl lt z lo ah lo f:=⟨λr c ab af aw a5=>h r c (by omega) aw a5,λr c ab af aw a5=>by omega⟩
theorem Ou{z lo ah x:Nat}{f:Nat->α}(h:Jl lt z lo ah x f)(ag:∀c,(c=2*x+1\/c=2*x+2)->c<ah->lt (f (z+x)) (f (z+c))=false):o7 lt z lo ah f:=by
 intro r c ab af aw;by_cases av:r=x;.subst av;exact ag c af aw
 exact h.1 r c ab av af aw
include aG
theorem Vo{z lo ah x y:Nat}{f:Nat->α}(h:Jl lt z lo ah x f)(hH:lo<=x)(aP:y=2*x+1\/y=2*x+2)(axy:y<ah) (q4:∀c,(c=2*x+1\/c=2*x+2)->c<ah->lt (f (z+y)) (f (z+c))=false) (ar:lt (f (z+x)) (f (z+y))=true):Jl lt z lo ah y (jV f (z+x) (z+y)):=by
 have has:=aG.AM _ _ ar;have aBE:x<y:=by omega
 constructor
 .intro r c ab af aw a5;simp only[jV];rw[xaa (show¬z+r=z+y by omega)];by_cases av:r=x
  .subst av;rw[xad rfl];by_cases ao:c=y;.subst ao;rw[xad rfl];exact has
   rw[xaa (by omega),xaa (by omega)];exact q4 c aw a5
  rw[xaa (by omega)];by_cases ao:c=y;.omega
  rw[xaa (by omega)];by_cases pk:c=x;.subst pk;rw[xad rfl];exact h.2 r y ab aw aP axy
  rw[xaa (by omega)];exact h.1 r c ab av aw a5
 intro r c ab af aw a5;have av:r=x:=by omega
 subst av;simp only[jV];rw[xaa (show¬z+r=z+y by omega)];simp only[xaH];rw[xaa (by omega),xaa (by omega)];exact h.1 y c (by omega) (by omega) aw a5
theorem axz{z ah:Nat}{f:Nat->α}(h:o7 lt z 0 ah f):∀k,k<ah->lt (f z) (f (z+k))=false:=by
 intro k
 induction k using Nat.strongRecOn with
 |ind k ih=>
  intro ak;by_cases au:k=0;.subst au;exact aG.Jk _
  have ab:=ih ((k-1)/2) (by omega) (by omega);have af:=h ((k-1)/2) k (by omega) (by omega) ak;exact aG.tr _ _ _ af ab
omit aG
structure ue(lt:α->α->Bool)(z i ah:Nat)(f:Nat->α):Prop where
 h:o7 lt z 0 i f
 s:eF lt (z+i) (z+ah) f
 c:∀p q,z<=p->p<z+i->z+i<=q->q<z+ah->lt (f q) (f p)=false
theorem ue.start{z n:Nat}{f:Nat->α}(h:o7 lt z 0 n f):ue lt z n n f:=⟨h,xM (by omega),λp q ab af aw a5=>by omega⟩
include aG
theorem ue.swap{z i ah:Nat}{f:Nat->α}(h:ue lt z (i+1) ah f)(jB:i+1<=ah):o7 lt z 1 i (jV f z (z+i))/\eF lt (z+i) (z+ah) (jV f z (z+i))/\∀p q,z<=p->p<z+i->z+i<=q->q<z+ah->lt (jV f z (z+i) q) (jV f z (z+i) p)=false:=by
 have hm:=axz aG h.h;refine⟨?_,?_,?_⟩;.intro r c ab af aw;simp only[jV];rw[xaa (by omega),xaa (by omega),xaa (by omega),xaa (by omega)];exact h.h r c (by omega) af (by omega)
 .intro p q ab af aw;simp only[jV];rw[xaa (show¬q=z+i by omega),xaa (show¬q=z by omega)];by_cases aU:p=z+i;.rw[xad aU];exact h.c z q (by omega) (by omega) (by omega) aw
  rw[xaa aU,xaa (by omega)];exact h.s p q (by omega) af aw
 intro p q ab af aw a5;simp only[jV];rw[xaa (show¬p=z+i by omega)];by_cases bj:q=z+i
 .rw[xad bj];by_cases aU:p=z;.rw[xad aU];exact hm i (by omega)
  rw[xaa aU];have:=hm (p-z) (by omega)
  rwa [show z+(p-z)=p by omega]at this
 rw[xaa bj,xaa (by omega)];by_cases aU:p=z;.rw[xad aU];exact h.c (z+i) q (by omega) (by omega) (by omega) a5
 rw[xaa aU];exact h.c p q ab (by omega) (by omega) a5
omit aG
theorem ue.next[Inhabited α]{z i ah:Nat}{L M:List α}(aU:Part z (z+i) L M)(aj:z+ah<=L.length)(jB:i<=ah)(ab:o7 lt z 0 i (gt M))(af:eF lt (z+i) (z+ah) (gt L)) (aw:∀p q,z<=p->p<z+i->z+i<=q->q<z+ah->lt (gt L q) (gt L p)=false):ue lt z i ah (gt M):=by refine⟨ab,af.out aU (.inr (xan _)),?_⟩;intro p q aV a2 bb cS;rw[aU.p3 (i:=q) (.inr bb)];have:e6 (λx=>lt (gt L q) x=false) z (z+i) (gt M):=e6.part (λj cB dx=>aw j q cB dx bb cS) aU (by omega);exact this p aV a2
structure jW(lt:α->α->Bool)(ae fI a b:Nat)(f:Nat->α):Prop where
 le:ae<=a/\a<=b/\b<=fI
 l:eF lt ae a f
 r:eF lt b fI f
 lm:∀i j,ae<=i->i<a->a<=j->j<fI->lt (f j) (f i)=false
 vQ:∀i j,ae<=i->i<b->b<=j->j<fI->lt (f j) (f i)=false
 pre:0<ae->∀j,ae<=j->j<fI->lt (f j) (f (ae-1))=false
theorem jW.start{a b:Nat}{f:Nat->α}(h:a<=b)(aU:0<a->∀j,a<=j->j<b->lt (f j) (f (a-1))=false):jW lt a b a b f:=⟨⟨xan _,h,xan _⟩,xM (by omega),xM (by omega),λi j ab af=>by omega,λi j ab af aw a5=>by omega,aU⟩
theorem jW.done{ae fI a b:Nat}{f:Nat->α}(h:jW lt ae fI a b f)(aH:eF lt a b f):eF lt ae fI f:=by have ar:=h.le;refine eF.join h.l (eF.join aH h.r λi j aV a2 bb cS=>h.vQ i j (by omega) a2 bb cS) λi j aV a2 bb cS=>h.lm i j aV a2 bb cS
theorem jW.low{ae fI a b:Nat}{f:Nat->α}(h:jW lt ae fI a b f)(aF:0<a):∀j,a<=j->j<b->lt (f j) (f (a-1))=false:=by
 intro j ab af;have ar:=h.le;by_cases au:ae=a
 .subst au;exact h.pre aF j ab (by omega)
 exact h.lm (a-1) j (by omega) (by omega) ab (by omega)
theorem jW.part[Inhabited α]{ae fI a b:Nat}{L M:List α}(h:jW lt ae fI a b (gt L))(aU:Part a b L M)(aj:fI<=L.length):jW lt ae fI a b (gt M):=by
 have ar:=h.le;have axA:∀i,ae<=i->i<a->e6 (λx=>lt x (gt L i)=false) a b (gt M):=λi ab af=>e6.part (λj aw a5=>h.lm i j ab af aw (by omega)) aU (by omega);have axB:∀j,b<=j->j<fI->e6 (λx=>lt (gt L j) x=false) a b (gt M):=λj ab af=>e6.part (λi aw a5=>h.vQ i j (by omega) a5 ab af) aU (by omega);refine⟨h.le,h.l.out aU (.inl (xan _)),h.r.out aU (.inr (xan _)),?_,?_,?_⟩
 .intro i j ab af aw a5;rw[aU.p3 (i:=i) (.inl af)];by_cases aN:j<b;.exact axA i ab af j aw aN
  rw[aU.p3 (.inr (by omega))];exact h.lm i j ab af aw a5
 .intro i j ab af aw a5;rw[aU.p3 (i:=j) (.inr aw)];by_cases ah:a<=i;.exact axB j aw a5 i ah af
  rw[aU.p3 (.inl (by omega))];exact h.vQ i j ab af aw a5
 intro au j ab af;rw[aU.p3 (i:=ae-1) (.inl (by omega))];have:e6 (λx=>lt x (gt L (ae-1))=false) a b (gt M):=e6.part (λj aw a5=>h.pre au j (by omega) (by omega)) aU (by omega);by_cases aN:a<=j/\j<b
 .exact this j aN.1 aN.2
 rw[aU.p3 (by omega)];exact h.pre au j ab af
theorem jW.right{ae fI a b m:Nat}{f:Nat->α}(h:jW lt ae fI a b f)(ab:a<=m)(af:m<b)(aH:eF lt a m f)(ar:e6 (λx=>lt (f m) x=false) a m f)(av:e6 (λx=>lt x (f m)=false) (m+1) b f)(aG:Jj lt):jW lt ae fI (m+1) b f:=by
 have hle:=h.le;refine⟨⟨by omega,by omega,by omega⟩,?_,h.r,?_,λi j aV a2 bb cS=>h.vQ i j aV a2 bb cS,h.pre⟩
 .refine eF.join h.l (eF.join aH (xM (by omega)) ?_) ?_
  .intro i j aV a2 bb cS;have:j=m:=by omega
   subst this;exact ar i aV a2
  intro i j aV a2 bb cS;exact h.lm i j aV a2 bb (by omega)
 intro i j aV a2 bb cS;by_cases ah:i<a;.exact h.lm i j aV ah (by omega) cS
 by_cases aN:j<b
 .have q:=av j bb aN;by_cases axC:i=m;.subst axC;exact q
  exact aG.tr _ _ _ (ar i (by omega) (by omega)) q
 exact h.vQ i j aV (by omega) (by omega) cS
theorem jW.left{ae fI a b m:Nat}{f:Nat->α}(h:jW lt ae fI a b f)(ab:a<=m)(af:m<b)(aH:eF lt (m+1) b f)(ar:e6 (λx=>lt (f m) x=false) a m f)(av:e6 (λx=>lt x (f m)=false) (m+1) b f)(aG:Jj lt):jW lt ae fI a m f:=by
 have hle:=h.le;refine⟨⟨by omega,by omega,by omega⟩,h.l,?_,λi j aV a2 bb cS=>h.lm i j aV a2 bb cS,?_,h.pre⟩
 .refine eF.join (eF.join (xM (xan (m+1))) aH ?_) h.r ?_
  .intro i j aV a2 bb cS;have:i=m:=by omega
   subst this;exact av j bb cS
  intro i j aV a2 bb cS;exact h.vQ i j (by omega) a2 bb cS
 intro i j aV a2 bb cS;by_cases ah:i<a;.exact h.lm i j aV ah (by omega) cS
 by_cases aN:j<b
 .have q:=ar i (by omega) a2;by_cases UO:j=m;.subst UO;exact q
  exact aG.tr _ _ _ q (av j (by omega) aN)
 exact h.vQ i j aV (by omega) (by omega) cS
theorem jW.eq{ae fI a b m:Nat}{f:Nat->α}{p:α}(h:jW lt ae fI a b f)(ab:a<=m)(af:m<=b)(ar:e6 (λx=>lt p x=false) a m f)(aU:e6 (λx=>lt x p=false) a b f)(av:e6 (λx=>lt p x=true) m b f)(aG:Jj lt):jW lt ae fI m b f:=by
 have hle:=h.le;have fp:∀i j,a<=i->i<m->a<=j->j<b->lt (f j) (f i)=false:=λi j aV a2 bb cS=>aG.tr _ _ _ (ar i aV a2) (aU j bb cS);refine⟨⟨by omega,by omega,by omega⟩,?_,h.r,?_,λi j aV a2 bb cS=>h.vQ i j aV a2 bb cS,h.pre⟩
 .refine eF.join h.l (λi j aV a2 bb=>fp i j aV (by omega) (by omega) (by omega)) ?_;intro i j aV a2 bb cS;exact h.lm i j aV a2 bb (by omega)
 intro i j aV a2 bb cS;by_cases ah:i<a;.exact h.lm i j aV ah (by omega) cS
 by_cases aN:j<b;.exact fp i j (by omega) a2 (by omega) aN
 exact h.vQ i j aV (by omega) (by omega) cS
end
def jX:Jj blt where
 Jk:=mA
 AM x y h:=by cases af:blt y x with|false=>rfl|true=>have:=rC h af;rw[mA]at this;cases this
 tr x y z ab af:=by
  cases aw:blt z x with
  |false=>rfl
  |true=>
   rcases yU y x with h|h|h;.rw[ab]at h;cases h
   .subst h;rw[af]at aw;cases aw
   have:=rC aw h;rw[af]at this;cases this
def afo:∀{l m:List ByteArray},fN l->fN m->(∀x,x∈l↔x∈m)->l=m
 |[],[],_,_,_=>rfl|[],b::m,_,_,h=>by have:=(h b).2 (by simp);cases this
 |a::l,[],_,_,h=>by have:=(h a).1 (by simp);cases this
 |a::l,b::m,ab,af,h=>by
  have fp:a=b:=by
   have aF:=(h a).1 (by simp);have aj:=(h b).2 (by simp);rcases xak.1 aF with e|e
   .exact e
   rcases xak.1 aj with aZ|aZ;.exact aZ.symm
   have aV:=af.1 a e;have a2:=ab.1 b aZ;have:=rC aV a2;rw[mA]at this;cases this
  subst fp;have:=afo ab.2 af.2 λx=>by
   have ag:=h x;constructor
   .intro g;rcases xak.1 (ag.1 (xbR _ g))with e|e
    .subst e;have:=ab.1 x g;rw[mA]at this;cases this
    exact e
   intro g;rcases xak.1 (ag.2 (xbR _ g))with e|e
   .subst e;have:=af.1 x g;rw[mA]at this;cases this
   exact e
  rw[this]
def axD{s x:ByteArray}{l:List ByteArray}(h:fN l):x∈gr s l↔x=s\/x∈l:=by
 refine⟨LD,?_⟩;by_cases aH:s∈l
 .rw[LF h aH];rintro(rfl|af);.exact aH
  exact af
 obtain⟨a,b,ab,af,_⟩:=RO h aH;rw[af,ab];intro aw;simp only[xar,xak]at aw⊢;grind
def Jm:List ByteArray->Prop
 |[]=>True|a::r=>(∀x∈r,blt x a=false)/\Jm r
def afp{l:List ByteArray}(h:eF blt 0 l.length (gt l)):Jm l:=by
 induction l with
 |nil=>trivial
 |cons a r ih=>
  constructor
  .intro x ag;obtain⟨i,ah⟩:=List.getElem?_of_mem ag;have cu:=(xae.1 ah).1;have:=h 0 (i+1) (by omega) (by omega) (by simp;omega);have aJ:gt (a::r) 0=a:=rfl;have aZ:gt (a::r) (i+1)=x:=by simp[gt,xaM,ah]
   rw[aJ,aZ]at this;exact this
  refine ih λi j ab af aw=>?_;have:=h (i+1) (j+1) (by omega) (by omega) (by simp;omega);simpa[gt,xaM]using this
def dW:List ByteArray->List ByteArray
 |[]=>[]|[a]=>[a]|a::b::r=>if a=b then dW (b::r)else a::dW (b::r)
def Ov:∀(l:List ByteArray)(x:ByteArray),x∈dW l↔x∈l
 |[],x=>by simp[dW]|[a],x=>by simp[dW]
 |a::b::r,x=>by
  have ih:=Ov (b::r) x;simp only[dW];split;.rename_i h;subst h;rw[ih];simp
  rw[xak,ih,xak (a:=x) (b:=a)]
def Vp:∀{l:List ByteArray},Jm l->fN (dW l)
 |[],_=>trivial|[a],_=>⟨by simp,trivial⟩
 |a::b::r,h=>by
  have ih:=Vp h.2;simp only[dW];split;.exact ih
  rename_i fp;refine⟨?_,ih⟩;intro x ag;have ag:=(Ov _ _).1 ag;have g:=h.1 x ag;rcases yU a x with e|e|e
  .exact e
  ·
   subst e;rcases xak.1 ag with aZ|aZ
   .exact absurd aZ fp
   have aV:=h.1 b (by simp);have a2:=h.2.1 a aZ;rcases yU a b with bN|bN|bN
   .rw[a2]at bN;cases bN
   .exact absurd bN fp
   rw[aV]at bN;cases bN
  rw[g]at e;cases e
section
variable{α:Type}[Inhabited α](c:α->D)
def lM(L:List α):List (List D):=L.map λx=>[c x]
def c3{m i:Nat}(h:i<m):b9 m (J (i:Int))=some i:=by rw[oK,xad h]
theorem cM{L:List α}{i:Nat}(h:i<L.length):(lM c L)[i]?=some [c (gt L i)]:=by rw[lM,xaj,DY h];rfl
def mI(L:List α)(i:Nat)(v:α):(lM c L).set i [c v]=lM c (L.set i v):=by simp[lM,List.map_set]
theorem eu(x:D):a3 false 1 0 [x]=some x:=rfl
theorem mJ(w v:D):dF [w] 0 [v]=[v]:=rfl
def fR(L:List α):(lM c L).length=L.length:=by simp[lM]
def Ow{L:List α}{i:Nat}(h:i<L.length):bn 1 (D.ax 1 (lM c L)) (J (i:Int))=some [c (gt L i)]:=by rw[alJ (Int.natCast_nonneg i),Int.toNat_natCast];exact cM c h
def mK{L:List α}{i j:Nat}(ah:i<L.length)(aN:j<L.length):(L.set i (gt L j)).set j (gt L i)=eT L i j:=axs (DY ah) (DY aN)
end
section
variable{bt:Bool}{a b:Nat}
theorem qO(h:a+b<4000000000000000000):ai bt .add (J (a:Int)) (J (b:Int))=some (J ((a+b:Nat):Int)):=by rw[gy (by omega) (by omega)];rfl
def qP(h:b<=a)(bD:a<4000000000000000000):ai bt .sub (J (a:Int)) (J (b:Int))=some (J ((a-b:Nat):Int)):=by rw[my (by omega) (by omega)];congr 2;omega
def kd(h:1<=a)(bD:a<4000000000000000000):ai bt .sub (J (a:Int)) (J 1)=some (J ((a-1:Nat):Int)):=by rw[my (by omega) (by omega)];congr 2;omega
def Ox{k:Nat}(ak:0<k)(h:a<4000000000000000000)(bD:k<1000):ai bt .quo (J (a:Int)) (J (k:Int))=some (J ((a/k:Nat):Int)):=by
 have e:Int.tdiv (a:Int) (k:Int)=((a/k:Nat):Int):=by rw[Int.tdiv_eq_ediv_of_nonneg (by omega)];exact(Int.natCast_ediv a k).symm
 have bj:a/k<=a:=Nat.div_le_self a k;rw[Zu (by omega),e];generalize a/k=q at*;rw[wrap64 _ (by omega) (by omega)]
end
def iC(n:Nat)(x y:ByteArray):ju n [aC x,aC y]=some (ay (blt x y)):=by simp[ju,aaO,G4,aaN]
abbrev cq(L:List ByteArray):D:=D.ax 1 (lM aC L)
def axE(n:Nat)(bY:List ByteArray)(a i:Nat)(B:D)(p4:a<=i)(ah:i<bY.length)(bO:bY.length<1000000000)(aL:bY.length<n)(aH:eF blt a i (gt bY)): ∃bE,bp (Cw n) n [J (a:Int),B,J (i:Int),J (i:Int),cq bY]=some (.inl [J (a:Int),B,J (i:Int),cq bE])/\Part a (i+1) bY bE/\eF blt a (i+1) (gt bE):=by
 have key:=ky (f:=Cw n) (S:=Nat×List ByteArray) (λs=>[J (a:Int),B,J (i:Int),J (s.1:Int),cq s.2]) (λs=>s.1) (λs=>a<=s.1/\s.1<=i/\Part a (i+1) bY s.2/\DZ blt a s.1 i (gt s.2)) (λr=>∃bE,r= .inl [J (a:Int),B,J (i:Int),cq bE]/\Part a (i+1) bY bE/\eF blt a (i+1) (gt bE)) ?_ n (i,bY) ⟨p4,xan _,Part.refl _ _ _,afm aH⟩ (by simp only;omega);.obtain⟨r,ab,bE,rfl,af,aw⟩:=key;exact⟨bE,ab,af,aw⟩
 rintro⟨j,L⟩ ⟨aV,a2,bb,cS⟩;simp only at aV a2 bb cS⊢;have b5:=bb.len;by_cases aN:a=j
 .subst aN;right;refine⟨_,?_,L,rfl,bb,Ot jX cS (xan _) (.inl rfl)⟩;simp only[Cw,go_sem,yF ((a:Int)>(a:Int)),eb,dQ]
 have cN:j<L.length:=by omega
 have kX:j-1<L.length:=by omega
 have aJ:ai false .sub (J (j:Int)) (J 1)=some (J ((j-1:Nat):Int)):=kd (by omega) (by omega);by_cases aj:blt (gt L j) (gt L (j-1))=true
 .left;refine⟨(j-1,eT L j (j-1)),?_,⟨by omega,by omega,bb.trans (Part.eT (by omega) (by omega) (by omega) (by omega) (by omega)),?_⟩,by simp;omega⟩
  .simp only[Cw,go_sem,yT ((j:Int)>(a:Int)),eb,dQ,c3 cN,c3 kX,cM aC cN,cM aC kX,eu,aJ,iC,aj,mJ,mI,fR,xaZ];have bA:j-1<(L.set j (gt L (j-1))).length:=by simpa using kX
   simp only[cM aC bA,mJ,mI,eL,mK cN kX]
  rw[sl cN kX];exact afn jX cS (by omega) a2 aj
 right;have aj:blt (gt L j) (gt L (j-1))=false:=by simpa using aj
 refine⟨_,?_,L,rfl,bb,Ot jX cS aV (.inr aj)⟩;simp only[Cw,go_sem,yT ((j:Int)>(a:Int)),eb,dQ,c3 cN,c3 kX,cM aC cN,cM aC kX,eu,aJ,iC,aj,fR]
def axF(n:Nat)(bY:List ByteArray)(a b:Nat)(fp:a<=b)(aj:b<=bY.length)(bO:bY.length<1000000000)(aL:bY.length+1<n): ∃bE,Cx n [J (a:Int),J (b:Int),cq bY]=some [D.a1 [],cq bE]/\Part a b bY bE/\eF blt a b (gt bE):=by
 have key:=ky (f:=Mw n) (S:=Nat×List ByteArray) (λs=>[J (a:Int),J (b:Int),J (s.1:Int),cq s.2]) (λs=>b-s.1) (λs=>a+1<=s.1/\(s.1<=b\/s.1=a+1)/\Part a b bY s.2/\eF blt a s.1 (gt s.2)) (λr=>∃bE,r= .inl [cq bE]/\Part a b bY bE/\eF blt a b (gt bE)) ?_ n (a+1,bY) ⟨xan _,.inr rfl,Part.refl _ _ _,xM (xan _)⟩ (by simp only;omega);.obtain⟨r,ab,bE,rfl,af,aw⟩:=key;refine⟨bE,?_,af,aw⟩;have bJ:ai false .add (J (a:Int)) (J 1)=some (J ((a+1:Nat):Int)):=b1 (by omega);simp only[Cx,go_sem,bJ,ab]
 rintro⟨i,L⟩ ⟨aV,a2,bb,cS⟩;simp only at aV a2 bb cS⊢;have b5:=bb.len;by_cases ah:i<b
 .left;obtain⟨bE,ab,af,aw⟩:=axE n L a i (J (b:Int)) (by omega) (by omega) (by omega) (by omega) cS;have aJ:ai false .add (J (i:Int)) (J 1)=some (J ((i+1:Nat):Int)):=b1 (by omega);refine⟨(i+1,bE),?_,⟨by omega,.inl ah,bb.trans (af.mono (xan _) ah),aw⟩,by simp only;omega⟩;simp only[Mw,go_sem,yT ((i:Int)<(b:Int)),ab,aJ]
 right;refine⟨_,?_,L,rfl,bb,cS.mono (xan _) (by omega)⟩;simp only[Mw,go_sem,yF ((i:Int)<(b:Int))]
def axG(n:Nat)(bY:List ByteArray)(a b:Nat)(fp:a<b)(aj:b<=bY.length)(bO:bY.length<1000000000)(aL:bY.length+1<n): ∃bE,CB n [J (a:Int),J (b:Int),cq bY]=some [D.a1 [],cq bE]/\Part a b bY bE:=by
 have key:=ky (f:=MA n) (S:=Nat×Nat×List ByteArray) (λs=>[J (s.1:Int),J (s.2.1:Int),cq s.2.2]) (λs=>s.2.1+1-s.1) (λs=>a<=s.1/\s.1<=s.2.1+1/\s.2.1<b/\Part a b bY s.2.2) (λr=>∃bE,r= .inl [cq bE]/\Part a b bY bE) ?_ n (a,b-1,bY) ⟨xan _,by simp only;omega,by simp only;omega,Part.refl _ _ _⟩ (by simp only;omega);.obtain⟨r,ab,bE,rfl,af⟩:=key;refine⟨bE,?_,af⟩;have bJ:ai false .sub (J (b:Int)) (J 1)=some (J ((b-1:Nat):Int)):=kd (by omega) (by omega);simp only[CB,go_sem,bJ,ab]
 rintro⟨i,j,L⟩ ⟨aV,a2,bb,cS⟩;simp only at aV a2 bb cS⊢;have b5:=cS.len;by_cases ah:i<j
 .left;have cd:i<L.length:=by omega
  have cN:j<L.length:=by omega
  have AN:j<(L.set i (gt L j)).length:=by simpa using cN
  have aJ:ai false .add (J (i:Int)) (J 1)=some (J ((i+1:Nat):Int)):=b1 (by omega);have aZ:ai false .sub (J (j:Int)) (J 1)=some (J ((j-1:Nat):Int)):=kd (by omega) (by omega);refine⟨(i+1,j-1,eT L i j),?_,⟨by simp only;omega,by simp only;omega,by simp only;omega,cS.trans (Part.eT (by omega) (by omega) (by omega) (by omega) (by omega))⟩,by simp only;omega⟩;simp only[MA,go_sem,yT ((i:Int)<(j:Int)),c3 cd,c3 cN,cM aC cd,cM aC cN,eu,mJ,mI,fR,xaZ,aJ,aZ,cM aC AN,mK cd cN]
 right;refine⟨_,?_,L,rfl,cS⟩;simp only[MA,go_sem,yF ((i:Int)<(j:Int))]
theorem axH{bt:Bool}{a:Nat}(h:a<1000000000):ai bt .mul (J 2) (J (a:Int))=some (J ((2*a:Nat):Int)):=by rw[Lr (by omega) (by omega)];rfl
def afq(n:Nat)(bY:List ByteArray)(z lo ah:Nat)(hH:lo<=ah)(bC:z+ah<=bY.length)(bO:bY.length<1000000000)(aL:bY.length+1<n)(aU:o7 blt z (lo+1) ah (gt bY)): ∃bE,u9 n [J (lo:Int),J (ah:Int),J (z:Int),cq bY]=some [D.a1 [],cq bE]/\Part (z+lo) (z+ah) bY bE/\o7 blt z lo ah (gt bE):=by
 have key:=ky (f:=u7 n) (S:=Nat×List ByteArray) (λs=>[J (ah:Int),J (z:Int),J (s.1:Int),cq s.2]) (λs=>ah-s.1) (λs=>lo<=s.1/\s.1<=ah/\Part (z+lo) (z+ah) bY s.2/\Jl blt z lo ah s.1 (gt s.2)) (λr=>∃bE,(r= .inl [cq bE]\/r= .inr [D.a1 [],cq bE])/\Part (z+lo) (z+ah) bY bE/\o7 blt z lo ah (gt bE)) ?_ n (lo,bY) ⟨xan _,hH,Part.refl _ _ _,axx aU⟩ (by simp only;omega)
 .obtain⟨r,ab,bE,av,af,aw⟩:=key;refine⟨bE,?_,af,aw⟩;rcases av with rfl|rfl;.simp only[u9,go_sem,ab]
  simp only[u9,go_sem,ab]
 rintro⟨x,L⟩ ⟨aV,a2,bb,cS⟩;simp only at aV a2 bb cS⊢;have b5:=bb.len;have aJ:ai false .mul (J 2) (J (x:Int))=some (J ((2*x:Nat):Int)):=axH (by omega);have aZ:ai false .add (J ((2*x:Nat):Int)) (J 1)=some (J ((2*x+1:Nat):Int)):=b1 (by omega);have bN:ai false .add (J ((2*x+1:Nat):Int)) (J 1)=some (J ((2*x+2:Nat):Int)):=b1 (by omega);by_cases ao:ah<=2*x+1
 .right;refine⟨_,?_,L,.inl rfl,bb,Ou cS λc ab af=>by omega⟩;simp only[u7,go_sem,aJ,aZ,yT (((2*x+1:Nat):Int)>=(ah:Int))]
 have ag:z+x<L.length:=by omega
 have qQ:z+(2*x+1)<L.length:=by omega
 have an:ai false .add (J (z:Int)) (J ((2*x+1:Nat):Int))=some (J ((z+(2*x+1):Nat):Int)):=qO (by omega);have ba:ai false .add (J ((z+(2*x+1):Nat):Int)) (J 1)=some (J ((z+(2*x+2):Nat):Int)):=b1 (by omega);have b2:ai false .add (J (z:Int)) (J (x:Int))=some (J ((z+x:Nat):Int)):=qO (by omega);by_cases aH:2*x+2<ah
 .have iY:z+(2*x+2)<L.length:=by omega
  have aA:=yT (((2*x+2:Nat):Int)<(ah:Int));by_cases dP:blt (gt L (z+(2*x+1))) (gt L (z+(2*x+2)))=true
  .have q4:∀c,(c=2*x+1\/c=2*x+2)->c<ah->blt (gt L (z+(2*x+2))) (gt L (z+c))=false:=by
    rintro c (rfl|rfl) h;.exact jX.AM _ _ dP
    exact jX.Jk _
   have aP:z+(2*x+2)<L.length:=by omega
   have Jn:z+(2*x+2)<(L.set (z+x) (gt L (z+(2*x+2)))).length:=by simpa using aP
   have cK:ai false .add (J (z:Int)) (J ((2*x+2:Nat):Int))=some (J ((z+(2*x+2):Nat):Int)):=qO (by omega);by_cases aj:blt (gt L (z+x)) (gt L (z+(2*x+2)))=true
   .left;refine⟨(2*x+2,eT L (z+x) (z+(2*x+2))),?_,⟨by simp only;omega,by simp only;omega,bb.trans (Part.eT (by omega) (by omega) (by omega) (by omega) (by omega)),?_⟩,by simp only;omega⟩;.simp only[u7,go_sem,aJ,aZ,yF (((2*x+1:Nat):Int)>=(ah:Int)),bN,aA,c3 iY,cM aC iY,dP,eb,dQ,an,ba,b2,cK,c3 ag,c3 qQ,c3 aP,cM aC ag,cM aC qQ,cM aC aP,eu,mJ,mI,fR,xaZ,iC,aj,cM aC Jn,mK ag aP]
    rw[sl ag aP];exact Vo jX cS aV (by omega) (by omega) q4 aj
   right;have aj:blt (gt L (z+x)) (gt L (z+(2*x+2)))=false:=by simpa using aj
   refine⟨_,?_,L,.inr rfl,bb,Ou cS λc ab af=>jX.tr _ _ _ (q4 c ab af) aj⟩;simp only[u7,go_sem,aJ,aZ,yF (((2*x+1:Nat):Int)>=(ah:Int)),bN,aA,c3 iY,cM aC iY,dP,eb,dQ,an,ba,b2,cK,c3 ag,c3 qQ,c3 aP,cM aC ag,cM aC qQ,cM aC aP,eu,fR,iC,aj]
  have dP:blt (gt L (z+(2*x+1))) (gt L (z+(2*x+2)))=false:=by simpa using dP
  have q4:∀c,(c=2*x+1\/c=2*x+2)->c<ah->blt (gt L (z+(2*x+1))) (gt L (z+c))=false:=by
   rintro c (rfl|rfl) h;.exact jX.Jk _
   exact dP
  have aP:z+(2*x+1)<L.length:=by omega
  have Jn:z+(2*x+1)<(L.set (z+x) (gt L (z+(2*x+1)))).length:=by simpa using aP
  have cK:ai false .add (J (z:Int)) (J ((2*x+1:Nat):Int))=some (J ((z+(2*x+1):Nat):Int)):=qO (by omega);by_cases aj:blt (gt L (z+x)) (gt L (z+(2*x+1)))=true
  .left;refine⟨(2*x+1,eT L (z+x) (z+(2*x+1))),?_,⟨by simp only;omega,by simp only;omega,bb.trans (Part.eT (by omega) (by omega) (by omega) (by omega) (by omega)),?_⟩,by simp only;omega⟩;.simp only[u7,go_sem,aJ,aZ,yF (((2*x+1:Nat):Int)>=(ah:Int)),bN,aA,c3 iY,cM aC iY,dP,eb,dQ,an,ba,b2,cK,c3 ag,c3 qQ,c3 aP,cM aC ag,cM aC qQ,cM aC aP,eu,mJ,mI,fR,xaZ,iC,aj,cM aC Jn,mK ag aP]
   rw[sl ag aP];exact Vo jX cS aV (by omega) (by omega) q4 aj
  right;have aj:blt (gt L (z+x)) (gt L (z+(2*x+1)))=false:=by simpa using aj
  refine⟨_,?_,L,.inr rfl,bb,Ou cS λc ab af=>jX.tr _ _ _ (q4 c ab af) aj⟩;simp only[u7,go_sem,aJ,aZ,yF (((2*x+1:Nat):Int)>=(ah:Int)),bN,aA,c3 iY,cM aC iY,dP,eb,dQ,an,ba,b2,cK,c3 ag,c3 qQ,c3 aP,cM aC ag,cM aC qQ,cM aC aP,eu,fR,iC,aj]
 have aA:=yF (((2*x+2:Nat):Int)<(ah:Int));have q4:∀c,(c=2*x+1\/c=2*x+2)->c<ah->blt (gt L (z+(2*x+1))) (gt L (z+c))=false:=by
  rintro c (rfl|rfl) h;.exact jX.Jk _
  omega
 have aP:z+(2*x+1)<L.length:=by omega
 have Jn:z+(2*x+1)<(L.set (z+x) (gt L (z+(2*x+1)))).length:=by simpa using aP
 have cK:ai false .add (J (z:Int)) (J ((2*x+1:Nat):Int))=some (J ((z+(2*x+1):Nat):Int)):=qO (by omega);by_cases aj:blt (gt L (z+x)) (gt L (z+(2*x+1)))=true
 .left;refine⟨(2*x+1,eT L (z+x) (z+(2*x+1))),?_,⟨by simp only;omega,by simp only;omega,bb.trans (Part.eT (by omega) (by omega) (by omega) (by omega) (by omega)),?_⟩,by simp only;omega⟩;.simp only[u7,go_sem,aJ,aZ,yF (((2*x+1:Nat):Int)>=(ah:Int)),bN,aA,eb,dQ,an,ba,b2,cK,c3 ag,c3 qQ,c3 aP,cM aC ag,cM aC qQ,cM aC aP,eu,mJ,mI,fR,xaZ,iC,aj,cM aC Jn,mK ag aP]
  rw[sl ag aP];exact Vo jX cS aV (by omega) (by omega) q4 aj
 right;have aj:blt (gt L (z+x)) (gt L (z+(2*x+1)))=false:=by simpa using aj
 refine⟨_,?_,L,.inr rfl,bb,Ou cS λc ab af=>jX.tr _ _ _ (q4 c ab af) aj⟩;simp only[u7,go_sem,aJ,aZ,yF (((2*x+1:Nat):Int)>=(ah:Int)),bN,aA,eb,dQ,an,ba,b2,cK,c3 ag,c3 qQ,c3 aP,cM aC ag,cM aC qQ,cM aC aP,eu,fR,iC,aj]
def axI(n:Nat)(bY:List ByteArray)(z ah:Nat)(ab:1<=ah)(bC:z+ah<=bY.length)(bO:bY.length<1000000000)(aL:bY.length+1<n): ∃bE,bp (G5 n) n [J (z:Int),J 0,J (ah:Int),J (((ah-1)/2:Nat):Int),cq bY]=some (.inl [J (z:Int),J 0,J (ah:Int),cq bE])/\Part z (z+ah) bY bE/\o7 blt z 0 ah (gt bE):=by
 have key:=ky (f:=G5 n) (S:=Nat×List ByteArray) (λs=>[J (z:Int),J 0,J (ah:Int),J ((s.1:Int)-1),cq s.2]) (λs=>s.1) (λs=>s.1<=ah/\Part z (z+ah) bY s.2/\o7 blt z s.1 ah (gt s.2)) (λr=>∃bE,r= .inl [J (z:Int),J 0,J (ah:Int),cq bE]/\Part z (z+ah) bY bE/\o7 blt z 0 ah (gt bE)) ?_ n ((ah-1)/2+1,bY) ⟨by simp only;omega,Part.refl _ _ _,λr c ab af aw=>by omega⟩ (by simp only;omega)
 .obtain⟨r,ab,bE,rfl,af,aw⟩:=key;have e:((((ah-1)/2+1:Nat):Int)-1)=(((ah-1)/2:Nat):Int):=by omega
  simp only[e]at ab;exact⟨bE,ab,af,aw⟩
 rintro⟨k,L⟩ ⟨aV,a2,bb⟩;simp only at aV a2 bb⊢;have b5:=a2.len;cases k with
 |zero=>right;refine⟨_,?_,L,rfl,a2,bb⟩;simp only[G5,go_sem,yF ((((0:Nat):Int)-1)>=0)]
 |succ m=>
  left;obtain⟨bE,bA,bB,cz⟩:=afq n L z m ah (by omega) (by omega) (by omega) (by omega) bb;have e:(((m+1:Nat):Int)-1)=(m:Int):=by omega
  have aJ:ai false .sub (J (m:Int)) (J 1)=some (J ((m:Int)-1)):=my (by omega) (by omega);refine⟨(m,bE),?_,⟨by simp only;omega,a2.trans (bB.mono (by omega) (xan _)),cz⟩,by simp only;omega⟩;simp only[G5,go_sem,e,yT ((m:Int)>=0),bA,aJ]
def axJ(n:Nat)(bY:List ByteArray)(z ah:Nat)(bC:z+ah<=bY.length)(bO:bY.length<1000000000)(aL:bY.length+1<n)(aU:o7 blt z 0 ah (gt bY)): ∃bE,bp (G6 n) n [J (z:Int),J 0,J ((ah:Int)-1),cq bY]=some (.inl [cq bE])/\Part z (z+ah) bY bE/\eF blt z (z+ah) (gt bE):=by
 have key:=ky (f:=G6 n) (S:=Nat×List ByteArray) (λs=>[J (z:Int),J 0,J ((s.1:Int)-1),cq s.2]) (λs=>s.1) (λs=>s.1<=ah/\Part z (z+ah) bY s.2/\ue blt z s.1 ah (gt s.2)) (λr=>∃bE,r= .inl [cq bE]/\Part z (z+ah) bY bE/\eF blt z (z+ah) (gt bE)) ?_ n (ah,bY) ⟨xan _,Part.refl _ _ _,ue.start aU⟩ (by simp only;omega);.obtain⟨r,ab,bE,rfl,af,aw⟩:=key;exact⟨bE,ab,af,aw⟩
 rintro⟨k,L⟩ ⟨aV,a2,bb⟩;simp only at aV a2 bb⊢;have b5:=a2.len;cases k with
 |zero=>right;refine⟨_,?_,L,rfl,a2,by simpa using bb.s⟩;simp only[G6,go_sem,yF ((((0:Nat):Int)-1)>=0)]
 |succ m=>
  left;have AH:z<L.length:=by omega
  have Jo:z+m<L.length:=by omega
  obtain⟨s1,s2,gF⟩:=ue.swap jX bb aV;rw[<-sl AH Jo]at s1 s2 gF;have gu:=Ji L z (z+m);obtain⟨bE,bA,bB,cz⟩:=afq n (eT L z (z+m)) z 0 m (by omega) (by omega) (by omega) (by omega) s1;have bA:u9 n [J 0,J (m:Int),J (z:Int),cq (eT L z (z+m))]=some [D.a1 [],cq bE]:=bA;have e:(((m+1:Nat):Int)-1)=(m:Int):=by omega
  have aJ:ai false .sub (J (m:Int)) (J 1)=some (J ((m:Int)-1)):=my (by omega) (by omega);have aZ:ai false .add (J (z:Int)) (J (m:Int))=some (J ((z+m:Nat):Int)):=qO (by omega);have axK:z+m<(L.set z (gt L (z+m))).length:=by simpa using Jo
  refine⟨(m,bE),?_,⟨by simp only;omega,(a2.trans (Part.eT (xan _) (by omega) (by omega) (by omega) (by omega))).trans (bB.mono (by omega) (by omega)),ue.next (bB.mono (by omega) (xan _)) (by omega) (by omega) cz s2 gF⟩,by simp only;omega⟩;simp only[G6,go_sem,e,yT ((m:Int)>=0),aZ,c3 AH,c3 Jo,cM aC AH,cM aC Jo,eu,mJ,mI,fR,xaZ,cM aC axK,mK AH Jo,bA,aJ]
def axL(n:Nat)(bY:List ByteArray)(a b:Nat)(fp:a<b)(aj:b<=bY.length)(bO:bY.length<1000000000)(aL:bY.length+1<n): ∃bE,CA n [J (a:Int),J (b:Int),cq bY]=some [D.a1 [],cq bE]/\Part a b bY bE/\eF blt a b (gt bE):=by
 obtain⟨D0,dE,di,eY⟩:=axI n bY a (b-a) (by omega) (by omega) bO aL;have nI:=di.len;obtain⟨iO,bA,bB,cz⟩:=axJ n D0 a (b-a) (by omega) (by omega) (by omega) eY;have e:a+(b-a)=b:=by omega
 rw[e]at di bB cz;refine⟨iO,?_,di.trans bB,cz⟩;have aJ:ai false .sub (J (b:Int)) (J (a:Int))=some (J ((b-a:Nat):Int)):=qP (by omega) (by omega);have aZ:ai false .sub (J ((b-a:Nat):Int)) (J 1)=some (J ((b-a-1:Nat):Int)):=kd (by omega) (by omega);have bN:ai false .quo (J ((b-a-1:Nat):Int)) (J 2)=some (J (((b-a-1)/2:Nat):Int)):=Ox (k:=2) (by omega) (by omega) (by omega);have cO:(((b-a-1:Nat):Int))=((b-a:Nat):Int)-1:=by omega
 have eg:ai false .sub (J ((b-a:Nat):Int)) (J 1)=some (J (((b-a:Nat):Int)-1)):=by rw[aZ,cO]
 simp only[CA,go_sem,aJ,aZ,bN,dE];rw[cO,bA];rfl
def axM(n:Nat)(L:List ByteArray)(a i j:Nat)(p4:a<i)(gR:i<=j+1)(aN:j<L.length)(bO:L.length<1000000000)(aL:L.length+1<n): ∃cr:Nat,bp (CG n) n [J (a:Int),J (i:Int),J (j:Int),cq L]=some (.inl [J (a:Int),J (cr:Int),J (j:Int),cq L])/\i<=cr/\cr<=j+1/\e6 (λx=>blt x (gt L a)=true) i cr (gt L)/\(cr<=j->blt (gt L cr) (gt L a)=false):=by
 have key:=ky (f:=CG n) (S:=Nat) (λs=>[J (a:Int),J (s:Int),J (j:Int),cq L]) (λs=>j+1-s) (λs=>i<=s/\s<=j+1/\e6 (λx=>blt x (gt L a)=true) i s (gt L)) (λr=>∃cr:Nat,r= .inl [J (a:Int),J (cr:Int),J (j:Int),cq L]/\i<=cr/\cr<=j+1/\e6 (λx=>blt x (gt L a)=true) i cr (gt L)/\(cr<=j->blt (gt L cr) (gt L a)=false)) ?_ n i ⟨xan _,gR,λk ab af=>by omega⟩ (by omega);.obtain⟨r,ab,cr,rfl,af⟩:=key;exact⟨cr,ab,af⟩
 rintro s ⟨aV,a2,bb⟩;by_cases aH:s<=j
 .have gu:s<L.length:=by omega
  have fy:a<L.length:=by omega
  by_cases aj:blt (gt L s) (gt L a)=true
  .left;have aJ:ai false .add (J (s:Int)) (J 1)=some (J ((s+1:Nat):Int)):=b1 (by omega);refine⟨s+1,?_,⟨by omega,by omega,λk ab af=>?_⟩,by omega⟩
   .simp only[CG,go_sem,yT ((s:Int)<=(j:Int)),eb,dQ,c3 gu,c3 fy,cM aC gu,cM aC fy,eu,fR,iC,aj,aJ]
   by_cases ak:k=s;.subst ak;exact aj
   exact bb k ab (by omega)
  right;have aj:blt (gt L s) (gt L a)=false:=by simpa using aj
  refine⟨_,?_,s,rfl,aV,a2,bb,λ_=>aj⟩;simp only[CG,go_sem,yT ((s:Int)<=(j:Int)),eb,dQ,c3 gu,c3 fy,cM aC gu,cM aC fy,eu,fR,iC,aj]
 right;refine⟨_,?_,s,rfl,aV,a2,bb,λh=>absurd h aH⟩;simp only[CG,go_sem,yF ((s:Int)<=(j:Int)),eb,dQ]
def axN(n:Nat)(L:List ByteArray)(a i j:Nat)(p4:a<i)(gR:i<=j+1)(aN:j<L.length)(bO:L.length<1000000000)(aL:L.length+1<n): ∃cr:Nat,bp (CI n) n [J (a:Int),J (i:Int),J (j:Int),cq L]=some (.inl [J (a:Int),J (cr:Int),J (j:Int),cq L])/\i<=cr/\cr<=j+1/\e6 (λx=>blt x (gt L a)=true) i cr (gt L)/\(cr<=j->blt (gt L cr) (gt L a)=false):=by
 have key:=ky (f:=CI n) (S:=Nat) (λs=>[J (a:Int),J (s:Int),J (j:Int),cq L]) (λs=>j+1-s) (λs=>i<=s/\s<=j+1/\e6 (λx=>blt x (gt L a)=true) i s (gt L)) (λr=>∃cr:Nat,r= .inl [J (a:Int),J (cr:Int),J (j:Int),cq L]/\i<=cr/\cr<=j+1/\e6 (λx=>blt x (gt L a)=true) i cr (gt L)/\(cr<=j->blt (gt L cr) (gt L a)=false)) ?_ n i ⟨xan _,gR,λk ab af=>by omega⟩ (by omega);.obtain⟨r,ab,cr,rfl,af⟩:=key;exact⟨cr,ab,af⟩
 rintro s ⟨aV,a2,bb⟩;by_cases aH:s<=j
 .have gu:s<L.length:=by omega
  have fy:a<L.length:=by omega
  by_cases aj:blt (gt L s) (gt L a)=true
  .left;have aJ:ai false .add (J (s:Int)) (J 1)=some (J ((s+1:Nat):Int)):=b1 (by omega);refine⟨s+1,?_,⟨by omega,by omega,λk ab af=>?_⟩,by omega⟩
   .simp only[CI,go_sem,yT ((s:Int)<=(j:Int)),eb,dQ,c3 gu,c3 fy,cM aC gu,cM aC fy,eu,fR,iC,aj,aJ]
   by_cases ak:k=s;.subst ak;exact aj
   exact bb k ab (by omega)
  right;have aj:blt (gt L s) (gt L a)=false:=by simpa using aj
  refine⟨_,?_,s,rfl,aV,a2,bb,λ_=>aj⟩;simp only[CI,go_sem,yT ((s:Int)<=(j:Int)),eb,dQ,c3 gu,c3 fy,cM aC gu,cM aC fy,eu,fR,iC,aj]
 right;refine⟨_,?_,s,rfl,aV,a2,bb,λh=>absurd h aH⟩;simp only[CI,go_sem,yF ((s:Int)<=(j:Int)),eb,dQ]
def axO(n:Nat)(L:List ByteArray)(a i j:Nat)(p4:a<i)(gR:i<=j+1)(aN:j<L.length)(bO:L.length<1000000000)(aL:L.length+1<n): ∃dn:Nat,bp (CH n) n [J (a:Int),J (i:Int),J (j:Int),cq L]=some (.inl [J (a:Int),J (i:Int),J (dn:Int),cq L])/\i<=dn+1/\dn<=j/\e6 (λx=>blt x (gt L a)=false) (dn+1) (j+1) (gt L)/\(i<=dn->blt (gt L dn) (gt L a)=true):=by
 have key:=ky (f:=CH n) (S:=Nat) (λs=>[J (a:Int),J (i:Int),J (s:Int),cq L]) (λs=>s) (λs=>i<=s+1/\s<=j/\e6 (λx=>blt x (gt L a)=false) (s+1) (j+1) (gt L)) (λr=>∃dn:Nat,r= .inl [J (a:Int),J (i:Int),J (dn:Int),cq L]/\i<=dn+1/\dn<=j/\e6 (λx=>blt x (gt L a)=false) (dn+1) (j+1) (gt L)/\(i<=dn->blt (gt L dn) (gt L a)=true)) ?_ n j ⟨gR,xan _,λk ab af=>by omega⟩ (by omega);.obtain⟨r,ab,dn,rfl,af⟩:=key;exact⟨dn,ab,af⟩
 rintro s ⟨aV,a2,bb⟩;by_cases aH:i<=s
 .have gu:s<L.length:=by omega
  have fy:a<L.length:=by omega
  by_cases aj:blt (gt L s) (gt L a)=true;.right;refine⟨_,?_,s,rfl,aV,a2,bb,λ_=>aj⟩;simp only[CH,go_sem,yT ((i:Int)<=(s:Int)),eb,dQ,c3 gu,c3 fy,cM aC gu,cM aC fy,eu,fR,iC,aj]
  left;have aj:blt (gt L s) (gt L a)=false:=by simpa using aj
  have aJ:ai false .sub (J (s:Int)) (J 1)=some (J ((s-1:Nat):Int)):=kd (by omega) (by omega);refine⟨s-1,?_,⟨by omega,by omega,λk ab af=>?_⟩,by omega⟩;.simp only[CH,go_sem,yT ((i:Int)<=(s:Int)),eb,dQ,c3 gu,c3 fy,cM aC gu,cM aC fy,eu,fR,iC,aj,aJ]
  by_cases ak:k=s;.subst ak;exact aj
  exact bb k (by omega) af
 right;refine⟨_,?_,s,rfl,aV,a2,bb,λh=>absurd h aH⟩;simp only[CH,go_sem,yF ((i:Int)<=(s:Int)),eb,dQ]
def axP(n:Nat)(L:List ByteArray)(a i j:Nat)(p4:a<i)(gR:i<=j+1)(aN:j<L.length)(bO:L.length<1000000000)(aL:L.length+1<n): ∃dn:Nat,bp (CJ n) n [J (a:Int),J (i:Int),J (j:Int),cq L]=some (.inl [J (a:Int),J (i:Int),J (dn:Int),cq L])/\i<=dn+1/\dn<=j/\e6 (λx=>blt x (gt L a)=false) (dn+1) (j+1) (gt L)/\(i<=dn->blt (gt L dn) (gt L a)=true):=by
 have key:=ky (f:=CJ n) (S:=Nat) (λs=>[J (a:Int),J (i:Int),J (s:Int),cq L]) (λs=>s) (λs=>i<=s+1/\s<=j/\e6 (λx=>blt x (gt L a)=false) (s+1) (j+1) (gt L)) (λr=>∃dn:Nat,r= .inl [J (a:Int),J (i:Int),J (dn:Int),cq L]/\i<=dn+1/\dn<=j/\e6 (λx=>blt x (gt L a)=false) (dn+1) (j+1) (gt L)/\(i<=dn->blt (gt L dn) (gt L a)=true)) ?_ n j ⟨gR,xan _,λk ab af=>by omega⟩ (by omega);.obtain⟨r,ab,dn,rfl,af⟩:=key;exact⟨dn,ab,af⟩
 rintro s ⟨aV,a2,bb⟩;by_cases aH:i<=s
 .have gu:s<L.length:=by omega
  have fy:a<L.length:=by omega
  by_cases aj:blt (gt L s) (gt L a)=true;.right;refine⟨_,?_,s,rfl,aV,a2,bb,λ_=>aj⟩;simp only[CJ,go_sem,yT ((i:Int)<=(s:Int)),eb,dQ,c3 gu,c3 fy,cM aC gu,cM aC fy,eu,fR,iC,aj]
  left;have aj:blt (gt L s) (gt L a)=false:=by simpa using aj
  have aJ:ai false .sub (J (s:Int)) (J 1)=some (J ((s-1:Nat):Int)):=kd (by omega) (by omega);refine⟨s-1,?_,⟨by omega,by omega,λk ab af=>?_⟩,by omega⟩;.simp only[CJ,go_sem,yT ((i:Int)<=(s:Int)),eb,dQ,c3 gu,c3 fy,cM aC gu,cM aC fy,eu,fR,iC,aj,aJ]
  by_cases ak:k=s;.subst ak;exact aj
  exact bb k (by omega) af
 right;refine⟨_,?_,s,rfl,aV,a2,bb,λh=>absurd h aH⟩;simp only[CJ,go_sem,yF ((i:Int)<=(s:Int)),eb,dQ]
structure p5(bY:List ByteArray)(a b i j:Nat)(p:ByteArray)(L:List ByteArray):Prop where
 qR:a<i
 xN:i<=j+1
 qS:j<b
 uf:Part a b bY L
 pv:gt L a=p
 lo:e6 (λx=>blt x p=true) (a+1) i (gt L)
 ah:e6 (λx=>blt x p=false) (j+1) b (gt L)
def p5.step{bY L:List ByteArray}{a b i j cr dn:Nat}{p:ByteArray}(h:p5 bY a b i j p L)(ab:i<=cr)(af:cr<=j+1)(aw:e6 (λx=>blt x p=true) i cr (gt L))(a5:cr<=dn+1)(ca:dn<=j)(cP:e6 (λx=>blt x p=false) (dn+1) (j+1) (gt L)):p5 bY a b cr dn p L:=⟨by have:=h.qR;omega,a5,by have:=h.qS;omega,h.uf,h.pv,λk aV a2=>if ak:k<i then h.lo k aV ak else aw k (by omega) a2,λk aV a2=>if ak:j+1<=k then h.ah k ak a2 else cP k aV (by omega)⟩
def p5.swap{bY L:List ByteArray}{a b i j:Nat}{p:ByteArray}(h:p5 bY a b i j p L)(gR:i<=j)(ah:blt (gt L i) p=false)(aN:blt (gt L j) p=true)(aj:b<=L.length):p5 bY a b (i+1) (j-1) p (eT L i j):=by
 have aF:=h.qR;have AO:=h.qS;have cR:i≠j:=by rintro rfl;rw[ah]at aN;cases aN
 have e:=sl (L:=L) (i:=i) (j:=j) (by omega) (by omega);refine⟨by omega,by omega,by omega,h.uf.trans (Part.eT (by omega) (by omega) (by omega) (by omega) aj),?_,?_,?_⟩;.rw[e];simp only[jV];rw[xaa (by omega),xaa (by omega)];exact h.pv
 .intro k aV a2;rw[e];simp only[jV];rw[xaa (by omega)];by_cases ak:k=i;.rw[xad ak];exact aN
  rw[xaa ak];exact h.lo k aV (by omega)
 intro k aV a2;rw[e];simp only[jV];by_cases ak:k=j;.rw[xad ak];exact ah
 rw[xaa ak,xaa (by omega)];exact h.ah k (by omega) a2
def p5.fin{bY L:List ByteArray}{a b i j:Nat}{p:ByteArray}(h:p5 bY a b i j p L)(gR:j<i)(aj:b<=L.length):Part a b bY (eT L j a)/\a<=j/\j<b/\e6 (λx=>blt (gt (eT L j a) j) x=false) a j (gt (eT L j a))/\e6 (λx=>blt x (gt (eT L j a) j)=false) (j+1) b (gt (eT L j a)):=by
 have aF:=h.qR;have AO:=h.qS;have aBF:=h.xN;have e:=sl (L:=L) (i:=j) (j:=a) (by omega) (by omega);have afr:gt (eT L j a) j=p:=by
  rw[e];simp only[jV];by_cases Vq:j=a;.rw[xad Vq,Vq];exact h.pv
  rw[xaa Vq];simp only[xaH];exact h.pv
 refine⟨h.uf.trans (Part.eT (by omega) (by omega) (by omega) (by omega) aj),by omega,AO,?_,?_⟩
 .intro k aV a2;rw[afr,e];simp only[jV];by_cases ak:k=a;.rw[xad ak];exact jX.AM _ _ (h.lo j (by omega) (by omega))
  rw[xaa ak,xaa (by omega)];exact jX.AM _ _ (h.lo k (by omega) (by omega))
 intro k aV a2;rw[afr,e];simp only[jV];rw[xaa (by omega),xaa (by omega)];exact h.ah k aV a2
def axQ(n:Nat)(bY L:List ByteArray)(a b i j:Nat)(p:ByteArray)(h:p5 bY a b i j p L)(aj:b<=bY.length)(bO:bY.length<1000000000)(aL:bY.length+1<n): ∃(cr dn:Nat)(bE:List ByteArray),bp (He n) n [J (a:Int),J (i:Int),J (j:Int),cq L]=some (.inl [J (a:Int),J (dn:Int),cq bE])/\p5 bY a b cr dn p bE/\dn<cr:=by
 have key:=ky (f:=He n) (S:=Nat×Nat×List ByteArray) (λs=>[J (a:Int),J (s.1:Int),J (s.2.1:Int),cq s.2.2]) (λs=>s.2.1+1-s.1) (λs=>p5 bY a b s.1 s.2.1 p s.2.2) (λr=>∃(cr dn:Nat)(bE:List ByteArray),r= .inl [J (a:Int),J (dn:Int),cq bE]/\p5 bY a b cr dn p bE/\dn<cr) ?_ n (i,j,L) h (by have:=h.qS;simp only;omega);.obtain⟨r,ab,cr,dn,bE,rfl,af⟩:=key;exact⟨cr,dn,bE,ab,af⟩
 rintro⟨i,j,L⟩ g;simp only at g⊢;have b5:=g.uf.len;have p4:=g.qR;have AO:=g.qS;have gR:=g.xN;obtain⟨i1,dE,di,eY,jn,lu⟩:=axN n L a i j g.qR g.xN (by omega) (by omega) (by omega);obtain⟨hn,bA,bB,cz,ey,fk⟩:=axP n L a i1 j (by omega) eY (by omega) (by omega) (by omega);rw[g.pv]at jn lu ey fk;have lr:=g.step di eY jn bB cz ey;by_cases ao:i1<=hn
 .left;have cd:i1<L.length:=by omega
  have cN:hn<L.length:=by omega
  have AN:hn<(L.set i1 (gt L hn)).length:=by simpa using cN
  have aJ:ai false .add (J (i1:Int)) (J 1)=some (J ((i1+1:Nat):Int)):=b1 (by omega);have aZ:ai false .sub (J (hn:Int)) (J 1)=some (J ((hn-1:Nat):Int)):=kd (by omega) (by omega);refine⟨(i1+1,hn-1,eT L i1 hn),?_,lr.swap ao (lu (by omega)) (fk ao) (by omega),by simp only;omega⟩;simp only[He,go_sem,dE,bA,yF ((i1:Int)>(hn:Int)),c3 cd,c3 cN,cM aC cd,cM aC cN,eu,mJ,mI,fR,xaZ,cM aC AN,mK cd cN,aJ,aZ]
 right;refine⟨_,?_,i1,hn,L,rfl,lr,by omega⟩;simp only[He,go_sem,dE,bA,yT ((i1:Int)>(hn:Int))]
def axR(n:Nat)(bY:List ByteArray)(a b pv:Nat)(fp:a+1<b)(Jp:a<=pv/\pv<b)(aj:b<=bY.length)(bO:bY.length<1000000000)(aL:bY.length+1<n): ∃(m:Nat)(d:Bool)(bE:List ByteArray),zK n [J (a:Int),J (b:Int),J (pv:Int),cq bY]=some [D.a1 [J (m:Int),ay d],cq bE]/\Part a b bY bE/\a<=m/\m<b/\e6 (λx=>blt (gt bE m) x=false) a m (gt bE)/\e6 (λx=>blt x (gt bE m)=false) (m+1) b (gt bE):=by
 have fy:a<bY.length:=by omega
 have kD:pv<bY.length:=by omega
 have Oy:pv<(bY.set a (gt bY pv)).length:=by simpa using kD
 have nI:=Ji bY a pv;have mo:Part a b bY (eT bY a pv):=Part.eT (xan _) (by omega) Jp.1 Jp.2 aj;have aJ:ai false .add (J (a:Int)) (J 1)=some (J ((a+1:Nat):Int)):=b1 (by omega);have aZ:ai false .sub (J (b:Int)) (J 1)=some (J ((b-1:Nat):Int)):=kd (by omega) (by omega);have D1:=mK fy kD;generalize eT bY a pv=L at*;have g:p5 bY a b (a+1) (b-1) (gt L a) L:=⟨by omega,by omega,by omega,mo,rfl,λk ab af=>by omega,λk ab af=>by omega⟩;obtain⟨i1,dE,di,eY,jn,lu⟩:=axM n L a (a+1) (b-1) g.qR g.xN (by omega) (by omega) (by omega);obtain⟨hn,bA,bB,cz,ey,fk⟩:=axO n L a i1 (b-1) (by omega) eY (by omega) (by omega) (by omega);have lr:=g.step di eY jn bB cz ey;have Oz:a<L.length:=by omega
 have cN:hn<L.length:=by omega
 by_cases ao:i1<=hn
 .have cd:i1<L.length:=by omega
  have AN:hn<(L.set i1 (gt L hn)).length:=by simpa using cN
  have f1:ai false .add (J (i1:Int)) (J 1)=some (J ((i1+1:Nat):Int)):=b1 (by omega);have f2:ai false .sub (J (hn:Int)) (J 1)=some (J ((hn-1:Nat):Int)):=kd (by omega) (by omega);have a2:=lr.swap ao (lu (by omega)) (fk ao) (by omega);have axS:=mK cd cN;obtain⟨i2,OA,iO,e8,ef,jK⟩:=axQ n bY (eT L i1 hn) a b (i1+1) (hn-1) _ a2 aj bO aL;have qb:=ef.uf.len;have AO:=ef.qS;obtain⟨t1,t2,t3,t4,t5⟩:=ef.fin jK (by omega);have OB:a<iO.length:=by omega
  have I4:OA<iO.length:=by omega
  have AA:a<(iO.set OA (gt iO a)).length:=by simpa using OB
  refine⟨OA,false,_,?_,t1,t2,t3,t4,t5⟩;simp only[zK,go_sem,c3 fy,c3 kD,cM aC fy,cM aC kD,eu,mJ,mI,fR,xaZ,cM aC Oy,D1,aJ,aZ,dE,bA,yF ((i1:Int)>(hn:Int)),c3 cd,c3 cN,cM aC cd,cM aC cN,cM aC AN,axS,f1,f2,e8,c3 OB,c3 I4,cM aC OB,cM aC I4,cM aC AA,mK I4 OB]
 obtain⟨t1,t2,t3,t4,t5⟩:=lr.fin (by omega) (by omega);have AA:a<(L.set hn (gt L a)).length:=by simpa using Oz
 refine⟨hn,true,_,?_,t1,t2,t3,t4,t5⟩;simp only[zK,go_sem,c3 fy,c3 kD,cM aC fy,cM aC kD,eu,mJ,mI,fR,xaZ,cM aC Oy,D1,aJ,aZ,dE,bA,yT ((i1:Int)>(hn:Int)),c3 Oz,c3 cN,cM aC Oz,cM aC cN,cM aC AA,mK cN Oz]
def axT(n:Nat)(L:List ByteArray)(a i j:Nat)(p4:a<i)(gR:i<=j+1)(aN:j<L.length)(bO:L.length<1000000000)(aL:L.length+1<n): ∃cr:Nat,bp (CD n) n [J (a:Int),J (i:Int),J (j:Int),cq L]=some (.inl [J (a:Int),J (cr:Int),J (j:Int),cq L])/\i<=cr/\cr<=j+1/\e6 (λx=>blt (gt L a) x=false) i cr (gt L)/\(cr<=j->blt (gt L a) (gt L cr)=true):=by
 have key:=ky (f:=CD n) (S:=Nat) (λs=>[J (a:Int),J (s:Int),J (j:Int),cq L]) (λs=>j+1-s) (λs=>i<=s/\s<=j+1/\e6 (λx=>blt (gt L a) x=false) i s (gt L)) (λr=>∃cr:Nat,r= .inl [J (a:Int),J (cr:Int),J (j:Int),cq L]/\i<=cr/\cr<=j+1/\e6 (λx=>blt (gt L a) x=false) i cr (gt L)/\(cr<=j->blt (gt L a) (gt L cr)=true)) ?_ n i ⟨xan _,gR,λk ab af=>by omega⟩ (by omega);.obtain⟨r,ab,cr,rfl,af⟩:=key;exact⟨cr,ab,af⟩
 rintro s ⟨aV,a2,bb⟩;by_cases aH:s<=j
 .have gu:s<L.length:=by omega
  have fy:a<L.length:=by omega
  by_cases aj:blt (gt L a) (gt L s)=true;.right;refine⟨_,?_,s,rfl,aV,a2,bb,λ_=>aj⟩;simp only[CD,go_sem,yT ((s:Int)<=(j:Int)),eb,dQ,c3 gu,c3 fy,cM aC gu,cM aC fy,eu,fR,iC,aj]
  left;have aj:blt (gt L a) (gt L s)=false:=by simpa using aj
  have aJ:ai false .add (J (s:Int)) (J 1)=some (J ((s+1:Nat):Int)):=b1 (by omega);refine⟨s+1,?_,⟨by omega,by omega,λk ab af=>?_⟩,by omega⟩;.simp only[CD,go_sem,yT ((s:Int)<=(j:Int)),eb,dQ,c3 gu,c3 fy,cM aC gu,cM aC fy,eu,fR,iC,aj,aJ]
  by_cases ak:k=s;.subst ak;exact aj
  exact bb k ab (by omega)
 right;refine⟨_,?_,s,rfl,aV,a2,bb,λh=>absurd h aH⟩;simp only[CD,go_sem,yF ((s:Int)<=(j:Int)),eb,dQ]
def axU(n:Nat)(L:List ByteArray)(a i j:Nat)(p4:a<i)(gR:i<=j+1)(aN:j<L.length)(bO:L.length<1000000000)(aL:L.length+1<n): ∃dn:Nat,bp (CE n) n [J (a:Int),J (i:Int),J (j:Int),cq L]=some (.inl [J (a:Int),J (i:Int),J (dn:Int),cq L])/\i<=dn+1/\dn<=j/\e6 (λx=>blt (gt L a) x=true) (dn+1) (j+1) (gt L)/\(i<=dn->blt (gt L a) (gt L dn)=false):=by
 have key:=ky (f:=CE n) (S:=Nat) (λs=>[J (a:Int),J (i:Int),J (s:Int),cq L]) (λs=>s) (λs=>i<=s+1/\s<=j/\e6 (λx=>blt (gt L a) x=true) (s+1) (j+1) (gt L)) (λr=>∃dn:Nat,r= .inl [J (a:Int),J (i:Int),J (dn:Int),cq L]/\i<=dn+1/\dn<=j/\e6 (λx=>blt (gt L a) x=true) (dn+1) (j+1) (gt L)/\(i<=dn->blt (gt L a) (gt L dn)=false)) ?_ n j ⟨gR,xan _,λk ab af=>by omega⟩ (by omega);.obtain⟨r,ab,dn,rfl,af⟩:=key;exact⟨dn,ab,af⟩
 rintro s ⟨aV,a2,bb⟩;by_cases aH:i<=s
 .have gu:s<L.length:=by omega
  have fy:a<L.length:=by omega
  by_cases aj:blt (gt L a) (gt L s)=true
  .left;have aJ:ai false .sub (J (s:Int)) (J 1)=some (J ((s-1:Nat):Int)):=kd (by omega) (by omega);refine⟨s-1,?_,⟨by omega,by omega,λk ab af=>?_⟩,by omega⟩
   .simp only[CE,go_sem,yT ((i:Int)<=(s:Int)),eb,dQ,c3 gu,c3 fy,cM aC gu,cM aC fy,eu,fR,iC,aj,aJ]
   by_cases ak:k=s;.subst ak;exact aj
   exact bb k (by omega) af
  right;have aj:blt (gt L a) (gt L s)=false:=by simpa using aj
  refine⟨_,?_,s,rfl,aV,a2,bb,λ_=>aj⟩;simp only[CE,go_sem,yT ((i:Int)<=(s:Int)),eb,dQ,c3 gu,c3 fy,cM aC gu,cM aC fy,eu,fR,iC,aj]
 right;refine⟨_,?_,s,rfl,aV,a2,bb,λh=>absurd h aH⟩;simp only[CE,go_sem,yF ((i:Int)<=(s:Int)),eb,dQ]
structure sm(bY:List ByteArray)(a b i j:Nat)(p:ByteArray)(L:List ByteArray):Prop where
 qR:a<i
 xN:i<=j+1
 qS:j<b
 uf:Part a b bY L
 pv:gt L a=p
 lo:e6 (λx=>blt p x=false) (a+1) i (gt L)
 ah:e6 (λx=>blt p x=true) (j+1) b (gt L)
def sm.step{bY L:List ByteArray}{a b i j cr dn:Nat}{p:ByteArray}(h:sm bY a b i j p L)(ab:i<=cr)(af:cr<=j+1)(aw:e6 (λx=>blt p x=false) i cr (gt L))(a5:cr<=dn+1)(ca:dn<=j)(cP:e6 (λx=>blt p x=true) (dn+1) (j+1) (gt L)):sm bY a b cr dn p L:=⟨by have:=h.qR;omega,a5,by have:=h.qS;omega,h.uf,h.pv,λk aV a2=>if ak:k<i then h.lo k aV ak else aw k (by omega) a2,λk aV a2=>if ak:j+1<=k then h.ah k ak a2 else cP k aV (by omega)⟩
def sm.swap{bY L:List ByteArray}{a b i j:Nat}{p:ByteArray}(h:sm bY a b i j p L)(gR:i<=j)(ah:blt p (gt L i)=true)(aN:blt p (gt L j)=false)(aj:b<=L.length):sm bY a b (i+1) (j-1) p (eT L i j):=by
 have aF:=h.qR;have AO:=h.qS;have cR:i≠j:=by rintro rfl;rw[ah]at aN;cases aN
 have e:=sl (L:=L) (i:=i) (j:=j) (by omega) (by omega);refine⟨by omega,by omega,by omega,h.uf.trans (Part.eT (by omega) (by omega) (by omega) (by omega) aj),?_,?_,?_⟩;.rw[e];simp only[jV];rw[xaa (by omega),xaa (by omega)];exact h.pv
 .intro k aV a2;rw[e];simp only[jV];rw[xaa (by omega)];by_cases ak:k=i;.rw[xad ak];exact aN
  rw[xaa ak];exact h.lo k aV (by omega)
 intro k aV a2;rw[e];simp only[jV];by_cases ak:k=j;.rw[xad ak];exact ah
 rw[xaa ak,xaa (by omega)];exact h.ah k (by omega) a2
def axV(n:Nat)(bY L:List ByteArray)(a b i j:Nat)(p:ByteArray)(h:sm bY a b i j p L)(aj:b<=bY.length)(bO:bY.length<1000000000)(aL:bY.length+1<n): ∃(cr dn:Nat)(bE:List ByteArray),bp (Hc n) n [J (a:Int),J (i:Int),J (j:Int),cq L]=some (.inl [J (cr:Int),cq bE])/\sm bY a b cr dn p bE/\dn<cr:=by
 have key:=ky (f:=Hc n) (S:=Nat×Nat×List ByteArray) (λs=>[J (a:Int),J (s.1:Int),J (s.2.1:Int),cq s.2.2]) (λs=>s.2.1+1-s.1) (λs=>sm bY a b s.1 s.2.1 p s.2.2) (λr=>∃(cr dn:Nat)(bE:List ByteArray),r= .inl [J (cr:Int),cq bE]/\sm bY a b cr dn p bE/\dn<cr) ?_ n (i,j,L) h (by have:=h.qS;simp only;omega);.obtain⟨r,ab,cr,dn,bE,rfl,af⟩:=key;exact⟨cr,dn,bE,ab,af⟩
 rintro⟨i,j,L⟩ g;simp only at g⊢;have b5:=g.uf.len;have p4:=g.qR;have AO:=g.qS;have gR:=g.xN;obtain⟨i1,dE,di,eY,jn,lu⟩:=axT n L a i j g.qR g.xN (by omega) (by omega) (by omega);obtain⟨hn,bA,bB,cz,ey,fk⟩:=axU n L a i1 j (by omega) eY (by omega) (by omega) (by omega);rw[g.pv]at jn lu ey fk;have lr:=g.step di eY jn bB cz ey;by_cases ao:i1<=hn
 .left;have cd:i1<L.length:=by omega
  have cN:hn<L.length:=by omega
  have AN:hn<(L.set i1 (gt L hn)).length:=by simpa using cN
  have aJ:ai false .add (J (i1:Int)) (J 1)=some (J ((i1+1:Nat):Int)):=b1 (by omega);have aZ:ai false .sub (J (hn:Int)) (J 1)=some (J ((hn-1:Nat):Int)):=kd (by omega) (by omega);refine⟨(i1+1,hn-1,eT L i1 hn),?_,lr.swap ao (lu (by omega)) (fk ao) (by omega),by simp only;omega⟩;simp only[Hc,go_sem,dE,bA,yF ((i1:Int)>(hn:Int)),c3 cd,c3 cN,cM aC cd,cM aC cN,eu,mJ,mI,fR,xaZ,cM aC AN,mK cd cN,aJ,aZ]
 right;refine⟨_,?_,i1,hn,L,rfl,lr,by omega⟩;simp only[Hc,go_sem,dE,bA,yT ((i1:Int)>(hn:Int))]
def axW(n:Nat)(bY:List ByteArray)(a b pv:Nat)(fp:a+1<b)(Jp:a<=pv/\pv<b)(aj:b<=bY.length)(bO:bY.length<1000000000)(aL:bY.length+1<n): ∃(m:Nat)(bE:List ByteArray),CF n [J (a:Int),J (b:Int),J (pv:Int),cq bY]=some [J (m:Int),cq bE]/\Part a b bY bE/\a<m/\m<=b/\e6 (λx=>blt (gt bY pv) x=false) a m (gt bE)/\e6 (λx=>blt (gt bY pv) x=true) m b (gt bE):=by
 have fy:a<bY.length:=by omega
 have kD:pv<bY.length:=by omega
 have Oy:pv<(bY.set a (gt bY pv)).length:=by simpa using kD
 have nI:=Ji bY a pv;have mo:Part a b bY (eT bY a pv):=Part.eT (xan _) (by omega) Jp.1 Jp.2 aj;have aJ:ai false .add (J (a:Int)) (J 1)=some (J ((a+1:Nat):Int)):=b1 (by omega);have aZ:ai false .sub (J (b:Int)) (J 1)=some (J ((b-1:Nat):Int)):=kd (by omega) (by omega);have D1:=mK fy kD;have U4:gt (eT bY a pv) a=gt bY pv:=by
  rw[sl fy kD];simp only[jV];by_cases h:a=pv;.rw[xad h,h]
  rw[xaa h];simp
 generalize eT bY a pv=L at*;have g:sm bY a b (a+1) (b-1) (gt bY pv) L:=⟨by omega,by omega,by omega,mo,U4,λk ab af=>by omega,λk ab af=>by omega⟩;obtain⟨i2,OA,iO,e8,ef,jK⟩:=axV n bY L a b (a+1) (b-1) _ g aj bO aL;have p4:=ef.qR;have gR:=ef.xN;have AO:=ef.qS;refine⟨i2,iO,?_,ef.uf,p4,by omega,?_,ef.ah.mono (by omega) (xan _)⟩
 .simp only[CF,go_sem,c3 fy,c3 kD,cM aC fy,cM aC kD,eu,mJ,mI,fR,xaZ,cM aC Oy,D1,aJ,aZ,e8]
 intro k ab af;by_cases ak:k=a;.subst ak;rw[ef.pv];exact mA _
 exact ef.lo k (by omega) af
def axX(n:Nat)(L:List ByteArray)(a b i:Nat)(K:D)(p4:a<i)(js:i<=b)(aj:b<=L.length)(bO:L.length<1000000000)(aL:L.length+1<n)(aH:eF blt a i (gt L)): ∃cr:Nat,bp (CC n) n [J (a:Int),J (b:Int),J (i:Int),K,cq L]=some (.inl [J (a:Int),J (b:Int),J (cr:Int),K,cq L])/\i<=cr/\cr<=b/\eF blt a cr (gt L):=by
 have key:=ky (f:=CC n) (S:=Nat) (λs=>[J (a:Int),J (b:Int),J (s:Int),K,cq L]) (λs=>b-s) (λs=>i<=s/\s<=b/\eF blt a s (gt L)) (λr=>∃cr:Nat,r= .inl [J (a:Int),J (b:Int),J (cr:Int),K,cq L]/\i<=cr/\cr<=b/\eF blt a cr (gt L)) ?_ n i ⟨xan _,js,aH⟩ (by omega);.obtain⟨r,ab,cr,rfl,af⟩:=key;exact⟨cr,ab,af⟩
 rintro s ⟨aV,a2,bb⟩;by_cases aBG:s<b
 .have gu:s<L.length:=by omega
  have OC:s-1<L.length:=by omega
  have bJ:ai false .sub (J (s:Int)) (J 1)=some (J ((s-1:Nat):Int)):=kd (by omega) (by omega);by_cases aj:blt (gt L s) (gt L (s-1))=true;.right;refine⟨_,?_,s,rfl,aV,a2,bb⟩;simp only[CC,go_sem,yT ((s:Int)<(b:Int)),eb,dQ,c3 gu,c3 OC,cM aC gu,cM aC OC,eu,fR,iC,aj,bJ]
  left;have aj:blt (gt L s) (gt L (s-1))=false:=by simpa using aj
  have aJ:ai false .add (J (s:Int)) (J 1)=some (J ((s+1:Nat):Int)):=b1 (by omega);refine⟨s+1,?_,⟨by omega,by omega,bb.more jX (by omega) aj⟩,by omega⟩;simp only[CC,go_sem,yT ((s:Int)<(b:Int)),eb,dQ,c3 gu,c3 OC,cM aC gu,cM aC OC,eu,fR,iC,aj,bJ,aJ]
 right;refine⟨_,?_,s,rfl,aV,a2,bb⟩;simp only[CC,go_sem,yF ((s:Int)<(b:Int)),eb,dQ]
def p6(a b:Nat)(L:List ByteArray):Prop:=0<a->∀q,a<=q->q<b->blt (gt L q) (gt L (a-1))=false
def p6.part{a b c d:Nat}{L M:List ByteArray}(h:p6 a b L)(aU:Part c d L M)(ao:a<=c)(aA:d<=b)(aj:b<=L.length):p6 a b M:=by intro au q ab af;rw[aU.p3 (i:=a-1) (.inl (by omega))];exact e6.part (P:=λx=>blt x (gt L (a-1))=false) (λq ab af=>h au q ab af) (aU.mono ao aA) aj q ab af
def axY(n:Nat)(bY:List ByteArray)(a b i:Nat)(B K:D)(p4:a<i)(js:i<b)(aj:b<=bY.length)(bO:bY.length<1000000000)(aL:bY.length+1<n)(aH:eF blt a (i-1) (gt bY))(nc:p6 a b bY): ∃bE:List ByteArray,bp (zE n) n [J (a:Int),B,J (i:Int),K,J ((i-1:Nat):Int),cq bY]=some (.inl [J (a:Int),B,J (i:Int),K,cq bE])/\Part a i bY bE/\eF blt a i (gt bE):=by
 have key:=ky (f:=zE n) (S:=Nat×List ByteArray) (λs=>[J (a:Int),B,J (i:Int),K,J (s.1:Int),cq s.2]) (λs=>s.1) (λs=>a<=s.1/\s.1<=i-1/\Part a i bY s.2/\DZ blt a s.1 (i-1) (gt s.2)) (λr=>∃bE:List ByteArray,r= .inl [J (a:Int),B,J (i:Int),K,cq bE]/\Part a i bY bE/\eF blt a i (gt bE)) ?_ n (i-1,bY) ⟨by simp only;omega,xan _,Part.refl _ _ _,afm aH⟩ (by simp only;omega);.obtain⟨r,ab,bE,rfl,af⟩:=key;exact⟨bE,ab,af⟩
 rintro⟨j,L⟩ ⟨aV,a2,bb,cS⟩;simp only at aV a2 bb cS⊢;have b5:=bb.len;have afs:i-1+1=i:=by omega
 by_cases aeX:1<=j
 .have cN:j<L.length:=by omega
  have kX:j-1<L.length:=by omega
  have aJ:ai false .sub (J (j:Int)) (J 1)=some (J ((j-1:Nat):Int)):=kd (by omega) (by omega);by_cases kY:blt (gt L j) (gt L (j-1))=true
  .have axv:a≠j:=by
    rintro rfl;have:=(nc.part bb (xan _) (by omega) aj) (by omega) a (xan _) (by omega);rw[kY]at this;cases this
   left;have bA:j-1<(L.set j (gt L (j-1))).length:=by simpa using kX
   refine⟨(j-1,eT L j (j-1)),?_,⟨by simp only;omega,by simp only;omega,bb.trans (Part.eT (by omega) (by omega) (by omega) (by omega) (by omega)),?_⟩,by simp only;omega⟩;.simp only[zE,go_sem,yT ((j:Int)>=1),c3 cN,c3 kX,cM aC cN,cM aC kX,eu,aJ,iC,kY,mJ,mI,fR,xaZ,cM aC bA,mK cN kX]
   rw[sl cN kX];exact afn jX cS (by omega) a2 kY
  right;have kY:blt (gt L j) (gt L (j-1))=false:=by simpa using kY
  refine⟨_,?_,L,rfl,bb,by rw[<-afs];exact Ot jX cS aV (.inr kY)⟩;simp only[zE,go_sem,yT ((j:Int)>=1),c3 cN,c3 kX,cM aC cN,cM aC kX,eu,aJ,iC,kY,fR]
 right;refine⟨_,?_,L,rfl,bb,by rw[<-afs];exact Ot jX cS aV (.inl (by omega))⟩;simp only[zE,go_sem,yF ((j:Int)>=1)]
def axZ(n:Nat)(bY:List ByteArray)(i b:Nat)(A K:D)(js:i<b)(aj:b<=bY.length)(bO:bY.length<1000000000)(aL:bY.length+1<n): ∃bE:List ByteArray,bp (zF n) n [A,J (b:Int),J (i:Int),K,J ((i+1:Nat):Int),cq bY]=some (.inl [A,J (b:Int),J (i:Int),K,cq bE])/\Part i b bY bE:=by
 have key:=ky (f:=zF n) (S:=Nat×List ByteArray) (λs=>[A,J (b:Int),J (i:Int),K,J (s.1:Int),cq s.2]) (λs=>b-s.1) (λs=>i+1<=s.1/\s.1<=b/\Part i b bY s.2) (λr=>∃bE:List ByteArray,r= .inl [A,J (b:Int),J (i:Int),K,cq bE]/\Part i b bY bE) ?_ n (i+1,bY) ⟨xan _,js,Part.refl _ _ _⟩ (by simp only;omega);.obtain⟨r,ab,bE,rfl,af⟩:=key;exact⟨bE,ab,af⟩
 rintro⟨j,L⟩ ⟨aV,a2,bb⟩;simp only at aV a2 bb⊢;have b5:=bb.len;by_cases aeX:j<b
 .have cN:j<L.length:=by omega
  have kX:j-1<L.length:=by omega
  have aJ:ai false .sub (J (j:Int)) (J 1)=some (J ((j-1:Nat):Int)):=kd (by omega) (by omega);have aZ:ai false .add (J (j:Int)) (J 1)=some (J ((j+1:Nat):Int)):=b1 (by omega);by_cases kY:blt (gt L j) (gt L (j-1))=true
  .left;have bA:j-1<(L.set j (gt L (j-1))).length:=by simpa using kX
   refine⟨(j+1,eT L j (j-1)),?_,⟨by simp only;omega,by simp only;omega,bb.trans (Part.eT (by omega) (by omega) (by omega) (by omega) (by omega))⟩,by simp only;omega⟩;simp only[zF,go_sem,yT ((j:Int)<(b:Int)),c3 cN,c3 kX,cM aC cN,cM aC kX,eu,aJ,aZ,iC,kY,mJ,mI,fR,xaZ,cM aC bA,mK cN kX]
  right;have kY:blt (gt L j) (gt L (j-1))=false:=by simpa using kY
  refine⟨_,?_,L,rfl,bb⟩;simp only[zF,go_sem,yT ((j:Int)<(b:Int)),c3 cN,c3 kX,cM aC cN,cM aC kX,eu,aJ,iC,kY,fR]
 right;refine⟨_,?_,L,rfl,bb⟩;simp only[zF,go_sem,yF ((j:Int)<(b:Int))]
def ax0(n:Nat)(bY:List ByteArray)(a b:Nat)(fp:a<b)(aj:b<=bY.length)(bO:bY.length<1000000000)(aL:bY.length+20<n)(nc:p6 a b bY): ∃(r:Bool)(bE:List ByteArray),xi n [J (a:Int),J (b:Int),cq bY]=some [ay r,cq bE]/\Part a b bY bE/\(r=true->eF blt a b (gt bE)):=by
 have key:=ky (f:=zH n) (S:=Nat×Nat×List ByteArray) (λs=>[J (a:Int),J (b:Int),J (s.1:Int),J (s.2.1:Int),cq s.2.2]) (λs=>5-s.2.1) (λs=>a<s.1/\s.1<=b/\s.2.1<=5/\Part a b bY s.2.2/\eF blt a s.1 (gt s.2.2)) (λr=>∃bE:List ByteArray,(r= .inl [cq bE]\/r= .inr [ay false,cq bE]\/(r= .inr [ay true,cq bE]/\eF blt a b (gt bE)))/\Part a b bY bE) ?_ n (a+1,0,bY) ⟨by simp only;omega,fp,by simp only;omega,Part.refl _ _ _,xM (xan _)⟩ (by simp only;omega)
 .obtain⟨r,ab,bE,av,af⟩:=key;have bJ:ai false .add (J (a:Int)) (J 1)=some (J ((a+1:Nat):Int)):=b1 (by omega);have ab:bp (zH n) n [J (a:Int),J (b:Int),J ((a+1:Nat):Int),J 0,cq bY]=some r:=ab;rcases av with rfl|rfl|⟨rfl,aw⟩
  .exact⟨false,bE,by simp only[xi,go_sem,bJ,ab],af,λh=>by cases h⟩
  .exact⟨false,bE,by simp only[xi,go_sem,bJ,ab],af,λh=>by cases h⟩
  exact⟨true,bE,by simp only[xi,go_sem,bJ,ab],af,λ_=>aw⟩
 rintro⟨i,k,L⟩ ⟨aV,a2,bb,cS,hr⟩;simp only at aV a2 bb cS hr⊢;have b5:=cS.len;by_cases ak:k<5
 .have Vr:=yT ((k:Int)<5);obtain⟨cr,dE,di,eY,jn⟩:=axX n L a b i (J (k:Int)) aV a2 (by omega) (by omega) (by omega) hr;have oo:ai false .add (J (k:Int)) (J 1)=some (J ((k+1:Nat):Int)):=b1 (by omega);have sn:ai false .sub (J (b:Int)) (J (a:Int))=some (J ((b-a:Nat):Int)):=qP (by omega) (by omega);by_cases js:cr=b
  .right;refine⟨_,?_,L,.inr (.inr ⟨rfl,by rw[<-js];exact jn⟩),cS⟩;simp only[zH,go_sem,Vr,dE,js,beq_self_eq_true]
  have bj:((cr:Int)==(b:Int))=false:=by simp;omega
  by_cases ax1:b-a<50;.right;refine⟨_,?_,L,.inr (.inl rfl),cS⟩;simp only[zH,go_sem,Vr,dE,bj,sn,yT (((b-a:Nat):Int)<50)]
  left;have ax2:=yF (((b-a:Nat):Int)<50);have aJ:ai false .sub (J (cr:Int)) (J 1)=some (J ((cr-1:Nat):Int)):=kd (by omega) (by omega);have aZ:ai false .sub (J (cr:Int)) (J (a:Int))=some (J ((cr-a:Nat):Int)):=qP (by omega) (by omega);have bN:ai false .sub (J (b:Int)) (J (cr:Int))=some (J ((b-cr:Nat):Int)):=qP (by omega) (by omega);have cO:ai false .add (J (cr:Int)) (J 1)=some (J ((cr+1:Nat):Int)):=b1 (by omega);have cd:cr<L.length:=by omega
  have Jq:cr-1<L.length:=by omega
  have bA:cr-1<(L.set cr (gt L (cr-1))).length:=by simpa using Jq
  have D1:=mK cd Jq;have aft:Part a b L (eT L cr (cr-1)):=Part.eT (by omega) (by omega) (by omega) (by omega) (by omega);have nI:=Ji L cr (cr-1);have J9:eF blt a (cr-1) (gt (eT L cr (cr-1))):=by intro p q ab af aw;rw[sl cd Jq];simp only[jV];rw[xaa (by omega),xaa (by omega),xaa (by omega),xaa (by omega)];exact jn p q ab af (by omega)
  obtain⟨iO,e8,ef,jK⟩:∃iO:List ByteArray,aa (aE (ay (decide (((cr-a:Nat):Int)>=2))) (aa (ai false .sub (J (cr:Int)) (J 1)) λhR=>aa (bp (zE n) n [J (a:Int),J (b:Int),J (cr:Int),J (k:Int),hR,cq (eT L cr (cr-1))]) (a9 λls=>some (Sum.inl [I ls 0,I ls 1,I ls 2,I ls 3,D.ax 1 (aq (I ls 4))]))) (some (.inl [J (a:Int),J (b:Int),J (cr:Int),J (k:Int),cq (eT L cr (cr-1))]))) some=some (Sum.inl (β:=List D⊕(List D⊕(List D⊕List D))) [J (a:Int),J (b:Int),J (cr:Int),J (k:Int),cq iO])/\Part a cr (eT L cr (cr-1)) iO/\eF blt a cr (gt iO):=by
   by_cases af:2<=cr-a;.obtain⟨iO,t1,t2,t3⟩:=axY n (eT L cr (cr-1)) a b cr (J (b:Int)) (J (k:Int)) (by omega) (by omega) (by omega) (by omega) (by omega) J9 ((nc.part cS (xan _) (xan _) aj).part aft (xan _) (xan _) (by omega));refine⟨iO,?_,t2,t3⟩;simp only[go_sem,yT (((cr-a:Nat):Int)>=2),aJ,t1]
   refine⟨_,?_,Part.refl _ _ _,xM (by omega)⟩;simp only[go_sem,yF (((cr-a:Nat):Int)>=2)]
  have qb:=ef.len;obtain⟨AP,s1,s2⟩:∃AP:List ByteArray,aa (aE (ay (decide (((b-cr:Nat):Int)>=2))) (aa (ai false .add (J (cr:Int)) (J 1)) λkq=>aa (bp (zF n) n [J (a:Int),J (b:Int),J (cr:Int),J (k:Int),kq,cq iO]) (a9 λls=>some (Sum.inl [I ls 0,I ls 1,I ls 2,I ls 3,D.ax 1 (aq (I ls 4))]))) (some (.inl [J (a:Int),J (b:Int),J (cr:Int),J (k:Int),cq iO]))) some=some (Sum.inl (β:=List D⊕(List D⊕(List D⊕List D))) [J (a:Int),J (b:Int),J (cr:Int),J (k:Int),cq AP])/\Part cr b iO AP:=by
   by_cases af:2<=b-cr;.obtain⟨AP,t1,t2⟩:=axZ n iO cr b (J (a:Int)) (J (k:Int)) (by omega) (by omega) (by omega) (by omega);refine⟨AP,?_,t2⟩;simp only[go_sem,yT (((b-cr:Nat):Int)>=2),cO,t1]
   refine⟨_,?_,Part.refl _ _ _⟩;simp only[go_sem,yF (((b-cr:Nat):Int)>=2)]
  have gF:eF blt a cr (gt AP):=jK.out s2 (.inl (xan _));have hA:∀{ek:Type}{x:Option ek},aa x some=x:=λ{ek x}=>by cases x<;>rfl
  rw[hA]at e8 s1;refine⟨(cr,k+1,AP),?_,⟨by simp only;omega,by simp only;omega,by simp only;omega,((cS.trans aft).trans (ef.mono (xan _) (by omega))).trans (s2.mono (by omega) (xan _)),gF⟩,by simp only;omega⟩;simp only[zH,go_sem,Vr,dE,bj,sn,ax2,aJ,c3 cd,c3 Jq,cM aC cd,cM aC Jq,eu,mJ,mI,fR,xaZ,cM aC bA,D1,aZ,bN];rw[l0]at e8 s1;rw[aJ,eL]at e8;rw[cO,eL]at s1;rw[e8];simp only[go_sem,bN,cO];rw[s1];simp only[go_sem,oo]
 right;refine⟨_,?_,L,.inl rfl,cS⟩;simp only[zH,go_sem,yF ((k:Int)<5)]
def Vs:ByteArray:=⟨#[0,1,2,2,3,3,3,3,4,4,4,4,4,4,4,4,5,5,5,5,5,5,5,5,5,5,5,5,5,5,5,5,6,6,6,6,6,6,6,6,6,6,6,6,6,6,6,6,6,6,6,6,6,6,6,6,6,6,6,6,6,6,6,6,7,7,7,7,7,7,7,7,7,7,7,7,7,7,7,7,7,7,7,7,7,7,7,7,7,7,7,7,7,7,7,7,7,7,7,7,7,7,7,7,7,7,7,7,7,7,7,7,7,7,7,7,7,7,7,7,7,7,7,7,7,7,7,7,8,8,8,8,8,8,8,8,8,8,8,8,8,8,8,8,8,8,8,8,8,8,8,8,8,8,8,8,8,8,8,8,8,8,8,8,8,8,8,8,8,8,8,8,8,8,8,8,8,8,8,8,8,8,8,8,8,8,8,8,8,8,8,8,8,8,8,8,8,8,8,8,8,8,8,8,8,8,8,8,8,8,8,8,8,8,8,8,8,8,8,8,8,8,8,8,8,8,8,8,8,8,8,8,8,8,8,8,8,8,8,8,8,8,8,8,8,8,8,8,8,8,8,8,8,8,8,8]⟩
def afu(x:Nat):Bool:=match nU (aC Vs) (.val (.int .u8 x))with|some (.val (.int .u8 t))=>decide (0<=t/\t<=8/\(1<=x->1<=t/\2^t.toNat<=2*x))|_=>false
def ax3:∀x:_root_.Fin 256,afu x.val=true:=by decide+kernel
def ax4{x:Nat}(h:x<256):∃t:Nat,nU (aC Vs) (.val (.int .u8 x))=some (.val (.int .u8 t))/\t<=8/\(1<=x->1<=t/\2^t<=2*x):=by
 have:=ax3 ⟨x,h⟩;unfold afu at this;simp only at this;split at this;.rename_i t aM;have:=xba this;obtain⟨m,rfl⟩:∃m:Nat,t=(m:Int):=⟨t.toNat,by omega⟩;exact⟨m,aM,by omega,λh=>⟨by have:=this.2.2 h;omega,by have:=(this.2.2 h).2;simpa using this⟩⟩
 cases this
abbrev lj(n:Nat):D:= .val (.int .u64 n)
theorem OD{bt:Bool}{a b:Int}:ai bt .geq (.val (.int .u64 a)) (.val (.int .u64 b))=some (ay (decide (a>=b))):=rfl
theorem afv{bt:Bool}{a:Nat}:ai bt .shr (lj a) (.val (.int .u64 16))=some (lj (a/65536)):=by show some (D.val (.int .u64 ((a:Int).fdiv 65536)))=_;rw[Int.fdiv_eq_ediv_of_nonneg _ (by omega)];rfl
theorem Vt{bt:Bool}{a:Nat}:ai bt .shr (lj a) (.val (.int .u64 8))=some (lj (a/256)):=by show some (D.val (.int .u64 ((a:Int).fdiv 256)))=_;rw[Int.fdiv_eq_ediv_of_nonneg _ (by omega)];rfl
def ax5{a:Nat}(h:a<256):km .u8 (lj a)=some (.val (.int .u8 a)):=by
 show some (D.val (.int .u8 (IntKind.u8.wrap a)))=_
 congr 3
 simp[IntKind.wrap,IntKind.bits,show IntKind.u8.signed=false from rfl,show IntKind.u64.signed=false from rfl]
 try omega
theorem ax6{a:Nat}(h:a<256):km .i64 (.val (.int .u8 a))=some (J a):=by show some (D.val (.int .i64 (IntKind.i64.wrap a)))=_;rw[wrap64 _ (by omega) (by omega)];rfl
def Vu{a:Nat}(h:a<4000000000000000000):km .u64 (J (a:Int))=some (lj a):=by
 show some (D.val (.int .u64 (IntKind.u64.wrap a)))=_
 congr 3
 simp[IntKind.wrap,IntKind.bits,show IntKind.u8.signed=false from rfl,show IntKind.u64.signed=false from rfl]
 try omega
set_option maxRecDepth 20000 in
def afw(n:Nat){v:Nat}(ab:1<=v)(af:v<4294967296):∃k:Nat,k<=40/\1<=k/\rQ n [lj v]=some (J k)/\2^k<=2*v:=by
 have s0:decide ((v:Int)>=4294967296)=false:=xaE (by omega);have jG:∀{x y:Nat},x+y<1000->ai false .add (J (x:Int)) (J (y:Int))=some (J ((x+y:Nat):Int)):=λh=>qO (by omega);have ha:ai false .add (J 0) (J 16)=some (J 16):=rfl;have ee:ai false .add (J 0) (J 8)=some (J 8):=rfl;have jU:ai false .add (J 16) (J 8)=some (J 24):=rfl;have tail:∀(x s:Nat),x<256->1<=x->s<=24->2^s*x<=v->∃k:Nat,k<=40/\1<=k/\(aa (km .u8 (lj x)) λbQ=>aa (nU (aC Vs) bQ) λcG=>aa (km .i64 cG) λcy=>aa (ai false .add (J (s:Int)) cy) λc7=>some c7)=some (J k)/\2^k<=2*v:=by
  intro x s ag Nl aH hle;obtain⟨t,t1,t2,t3⟩:=ax4 ag;obtain⟨t4,t5⟩:=t3 Nl;refine⟨s+t,by omega,by omega,?_,?_⟩;.simp only[ax5 ag,eL,t1,ax6 (show t<256 by omega),jG (show s+t<1000 by omega)]
  rw[Nat.pow_add]
  calc 2^s*2^t<=2^s*(2*x):=Nat.mul_le_mul_left _ t5
   _=2*(2^s*x):=by rw[Nat.mul_left_comm]
   _<=2*v:=by omega
 by_cases bP:65536<=v
 .have s1:decide ((v:Int)>=65536)=true:=xat (by omega);by_cases b6:256<=v/65536;.have s2:decide (((v/65536:Nat):Int)>=256)=true:=xat (by omega);obtain⟨k,cB,dx,g5,pD⟩:=tail (v/65536/256) 24 (by omega) (by omega) (by omega) (by omega);refine⟨k,cB,dx,?_,pD⟩;simp only[rQ,G3,zC,G2,go_sem,OD,s0,s1,s2,afv,Vt,ha,jU];exact congrArg (λo=>aa o λcx=>some cx) g5
  have s2:decide (((v/65536:Nat):Int)>=256)=false:=xaE (by omega);obtain⟨k,cB,dx,g5,pD⟩:=tail (v/65536) 16 (by omega) (by omega) (by omega) (by omega);refine⟨k,cB,dx,?_,pD⟩;simp only[rQ,G3,zC,G2,go_sem,OD,s0,s1,s2,afv,Vt,ha,jU];exact congrArg (λo=>aa o λcx=>some cx) g5
 have s1:decide ((v:Int)>=65536)=false:=xaE (by omega);by_cases b6:256<=v;.have s2:decide ((v:Int)>=256)=true:=xat (by omega);obtain⟨k,cB,dx,g5,pD⟩:=tail (v/256) 8 (by omega) (by omega) (by omega) (by omega);refine⟨k,cB,dx,?_,pD⟩;simp only[rQ,G3,zC,G2,go_sem,OD,s0,s1,s2,Vt,ee];exact congrArg (λo=>aa o λcx=>some cx) g5
 have s2:decide ((v:Int)>=256)=false:=xaE (by omega);obtain⟨k,cB,dx,g5,pD⟩:=tail v 0 (by omega) ab (by omega) (by omega);refine⟨k,cB,dx,?_,pD⟩;simp only[rQ,G3,zC,G2,go_sem,OD,s0,s1,s2];exact congrArg (λo=>aa o λcx=>some cx) g5
theorem ax7(n:Nat)(v:Int):∃w:Int,My n [.val (.int .u64 v)]=some [.val (.int .u64 w),.val (.int .u64 w)]:=⟨_,rfl⟩
def ax8(bt:Bool)(w:Int)(m:Nat)(hm:m<4000000000000000000):∃r:Nat,r<=m/\ai bt .and (.val (.int .u64 w)) (lj m)=some (lj r):=by
 refine⟨(BitVec.ofInt 64 w&&&BitVec.ofInt 64 (m:Int)).toNat,?_,?_⟩;.rw[BitVec.toNat_and];refine xbZ Nat.and_le_right ?_;rw[BitVec.toNat_ofInt];omega
 show some (D.val (.int .u64 (IntKind.u64.wrap ((BitVec.ofInt 64 w&&&BitVec.ofInt 64 (m:Int)).toNat:Int))))=_;have cu:=(BitVec.ofInt 64 w&&&BitVec.ofInt 64 (m:Int)).isLt;generalize (BitVec.ofInt 64 w&&&BitVec.ofInt 64 (m:Int)).toNat=r at*
 congr 3
 simp[IntKind.wrap,IntKind.bits,show IntKind.u64.signed=false from rfl];omega
def ax9{bt:Bool}{m:Nat}(h:1<=m)(bD:m<4000000000000000000):ai bt .sub (lj m) (.val (.int .u64 1))=some (lj (m-1)):=by
 show some (D.val (.int .u64 (IntKind.u64.wrap ((m:Int)-1))))=_
 congr 3
 simp[IntKind.wrap,IntKind.bits,show IntKind.u64.signed=false from rfl];omega
theorem aya{a:Nat}(h:a<4000000000000000000):km .i64 (lj a)=some (J a):=by show some (D.val (.int .i64 (IntKind.i64.wrap a)))=_;rw[wrap64 _ (by omega) (by omega)];rfl
def ayb(bt:Bool){k:Nat}(h:k<=40):ai bt .shl (.val (.int .u64 1)) (J (k:Int))=some (lj (2^k)):=by
 have ab:¬(k:Int)<0:=by omega
 simp only[ai,J,xaa ab,nS];have af:min (k:Int).toNat IntKind.u64.bits=k:=by simp[IntKind.bits];omega
 rw[af];have aw:2^k<=2^40:=Nat.pow_le_pow_right (by omega) h;have a5:((1:Int)*2^k)=((2^k:Nat):Int):=by simp
 rw[a5];generalize 2^k=q at*
 congr 3
 simp[IntKind.wrap,IntKind.bits,show IntKind.u64.signed=false from rfl];omega
def ayc(n:Nat){v:Nat}(ab:1<=v)(af:v<4294967296):∃m:Nat,1<=m/\m<=2*v/\G7 n [J (v:Int)]=some (lj m):=by obtain⟨k,cB,dx,g5,pD⟩:=afw n ab af;refine⟨2^k,Nat.one_le_two_pow,pD,?_⟩;simp only[G7,aaR,go_sem,Vu (show v<4000000000000000000 by omega),g5,ayb false cB]
def OE{bt:Bool}{a c:Nat}(h:a<1000000000)(bD:c<=100):ai bt .mul (J (a:Int)) (J (c:Int))=some (J ((a*c:Nat):Int)):=by have af:a*c<=1000000000*100:=Nat.mul_le_mul (by omega) bD;have e:(a:Int)*(c:Int)=((a*c:Nat):Int):=(Int.natCast_mul a c).symm;rw[Lr (by omega) (by omega),e]
def ayd(n:Nat)(bY:List ByteArray)(a b:Nat)(fp:a<b)(aj:b<=bY.length)(bO:bY.length<1000000000)(aL:bY.length+20<n): ∃bE,zD n [J (a:Int),J (b:Int),cq bY]=some [D.a1 [],cq bE]/\Part a b bY bE:=by
 have aJ:ai false .sub (J (b:Int)) (J (a:Int))=some (J ((b-a:Nat):Int)):=qP (by omega) (by omega);by_cases hZ:b-a<8;.refine⟨bY,?_,Part.refl _ _ _⟩;simp only[zD,go_sem,aJ,yF (((b-a:Nat):Int)>=8)]
 generalize ar:b-a=l at*;have aye:=yT (((l:Nat):Int)>=8);obtain⟨m,gx,kk,r4⟩:=ayc n (v:=l) (by omega) (by omega);have bA:ai false .quo (J (l:Int)) (J 4)=some (J ((l/4:Nat):Int)):=Ox (k:=4) (by omega) (by omega) (by omega);have bB:ai false .mul (J ((l/4:Nat):Int)) (J 2)=some (J ((l/4*2:Nat):Int)):=OE (c:=2) (by omega) (by omega);have cz:ai false .add (J (a:Int)) (J ((l/4*2:Nat):Int))=some (J ((a+l/4*2:Nat):Int)):=qO (by omega);have ey:ai false .sub (J ((a+l/4*2:Nat):Int)) (J 1)=some (J ((a+l/4*2-1:Nat):Int)):=kd (by omega) (by omega);have fk:ai false .add (J ((a+l/4*2:Nat):Int)) (J 1)=some (J ((a+l/4*2+1:Nat):Int)):=b1 (by omega);have key:=ky (f:=G8 n) (S:=Nat×List ByteArray×Int) (λs=>[J (a:Int),J (l:Int),lj m,J (s.1:Int),cq s.2.1,.val (.int .u64 s.2.2)]) (λs=>a+l/4*2+2-s.1) (λs=>a<=s.1/\Part a b bY s.2.1) (λr=>∃bE,r= .inl [cq bE]/\Part a b bY bE) ?_ n (a+l/4*2-1,bY,(l:Int)) ⟨by simp only;omega,Part.refl _ _ _⟩ (by simp only;omega)
 .obtain⟨r,ab,bE,rfl,af⟩:=key;refine⟨bE,?_,af⟩;have one:bu (lj l)=true:=rfl;simp only[zD,go_sem,aJ,aye,Vu (show l<4000000000000000000 by omega),one,r4,bA,bB,cz,ey,ab]
 rintro⟨x,L,v⟩ ⟨aV,a2⟩;simp only at aV a2⊢;have b5:=a2.len;by_cases ag:x<=a+l/4*2+1
 .left;obtain⟨w,gk⟩:=ax7 n v;obtain⟨r,e8,ef⟩:=ax8 false w (m-1) (by omega);have hv:ai false .sub (lj m) (.val (.int .u64 1))=some (lj (m-1)):=ax9 gx (by omega);have jK:km .i64 (lj r)=some (J r):=aya (by omega);obtain⟨o,gb,kI⟩:∃o:Nat,o<l/\(r<l/\o=r\/¬r<l/\o=r-l):=by
   by_cases h:r<l;.exact⟨r,h,.inl ⟨h,rfl⟩⟩
   exact⟨r-l,by omega,.inr ⟨h,rfl⟩⟩
  have s1:ai false .add (J (a:Int)) (J (o:Int))=some (J ((a+o:Nat):Int)):=qO (by omega);have sH:a+o<L.length:=by omega
  have lp:x<L.length:=by omega
  have afx:a+o<(L.set x (gt L (a+o))).length:=by simpa using sH
  have s2:ai false .add (J (x:Int)) (J 1)=some (J ((x+1:Nat):Int)):=b1 (by omega);refine⟨(x+1,eT L x (a+o),w),?_,⟨by simp only;omega,a2.trans (Part.eT (by omega) (by omega) (by omega) (by omega) (by omega))⟩,by simp only;omega⟩;rcases kI with⟨kI,rfl⟩|⟨kI,rfl⟩
  .simp only[G8,go_sem,bA,bB,cz,fk,yT ((x:Int)<=((a+l/4*2+1:Nat):Int)),gk,hv,ef,jK,yF ((o:Int)>=(l:Int)),s1,c3 sH,c3 lp,cM aC sH,cM aC lp,eu,mJ,mI,fR,xaZ,cM aC afx,mK lp sH,s2]
  have gF:ai false .sub (J (r:Int)) (J (l:Int))=some (J ((r-l:Nat):Int)):=qP (by omega) (by omega);simp only[G8,go_sem,bA,bB,cz,fk,yT ((x:Int)<=((a+l/4*2+1:Nat):Int)),gk,hv,ef,jK,yT ((r:Int)>=(l:Int)),gF,s1,c3 sH,c3 lp,cM aC sH,cM aC lp,eu,mJ,mI,fR,xaZ,cM aC afx,mK lp sH,s2]
 right;refine⟨_,?_,L,rfl,a2⟩;simp only[G8,go_sem,bA,bB,cz,fk,yF ((x:Int)<=((a+l/4*2+1:Nat):Int))]
def Vv(n:Nat)(L:List ByteArray)(i j s:Nat)(ah:i<L.length)(aN:j<L.length)(aH:s<1000): ∃x y w:Nat,tA n [cq L,J (i:Int),J (j:Int),J (s:Int)]=some [D.a1 [J (x:Int),J (y:Int)],J (w:Int)]/\(x=i\/x=j)/\(y=i\/y=j)/\w<=s+1:=by
 have aJ:ai false .add (J (s:Int)) (J 1)=some (J ((s+1:Nat):Int)):=b1 (by omega);by_cases h:blt (gt L j) (gt L i)=true;.refine⟨j,i,s+1,?_,.inr rfl,.inl rfl,xan _⟩;simp only[tA,go_sem,Ow aC ah,Ow aC aN,eu,iC,h,aJ]
 have h:blt (gt L j) (gt L i)=false:=by simpa using h
 refine⟨i,j,s,?_,.inl rfl,.inr rfl,by omega⟩;simp only[tA,go_sem,Ow aC ah,Ow aC aN,eu,iC,h]
def Vw(n:Nat)(L:List ByteArray)(i j k s:Nat)(ah:i<L.length)(aN:j<L.length)(ak:k<L.length)(aH:s<900): ∃x w:Nat,vc n [cq L,J (i:Int),J (j:Int),J (k:Int),J (s:Int)]=some [J (x:Int),J (w:Int)]/\(x=i\/x=j\/x=k)/\w<=s+3:=by obtain⟨cW,xO,gk,dE,di,eY,jn⟩:=Vv n L i j s ah aN (by omega);obtain⟨kR,afy,hv,bA,bB,cz,ey⟩:=Vv n L xO k gk (by rcases eY with rfl|rfl<;>assumption) ak (by omega);obtain⟨vI,Vx,k8,e8,ef,jK,KG⟩:=Vv n L cW kR hv (by rcases di with rfl|rfl<;>assumption) (by rcases bB with rfl|rfl<;>(try assumption);rcases eY with rfl|rfl<;>assumption) (by omega);refine⟨Vx,k8,?_,by omega,by omega⟩;simp only[vc,go_sem,dE,bA,e8]
def Vy(n:Nat)(L:List ByteArray)(i s:Nat)(ab:1<=i)(ah:i+1<L.length)(bO:L.length<1000000000)(aH:s<900): ∃x w:Nat,pP n [cq L,J (i:Int),J (s:Int)]=some [J (x:Int),J (w:Int)]/\(i<=x+1/\x<=i+1)/\w<=s+3:=by obtain⟨x,w,dE,di,eY⟩:=Vw n L (i-1) i (i+1) s (by omega) (by omega) ah aH;have aJ:ai false .sub (J (i:Int)) (J 1)=some (J ((i-1:Nat):Int)):=kd (by omega) (by omega);have aZ:ai false .add (J (i:Int)) (J 1)=some (J ((i+1:Nat):Int)):=b1 (by omega);refine⟨x,w,?_,by omega,eY⟩;simp only[pP,go_sem,aJ,aZ,dE]
def ayf(n:Nat)(L:List ByteArray)(a b:Nat)(fp:a+12<b)(aj:b<=L.length)(bO:L.length<1000000000): ∃p h:Nat,xf n [cq L,J (a:Int),J (b:Int)]=some (D.a1 [J (p:Int),J (h:Int)])/\a<=p/\p<b/\h<=2:=by
 have aJ:ai false .sub (J (b:Int)) (J (a:Int))=some (J ((b-a:Nat):Int)):=qP (by omega) (by omega);generalize ar:b-a=l at*;have bA:ai false .quo (J (l:Int)) (J 4)=some (J ((l/4:Nat):Int)):=Ox (k:=4) (by omega) (by omega) (by omega);have gx:ai false .mul (J ((l/4:Nat):Int)) (J 1)=some (J ((l/4*1:Nat):Int)):=OE (c:=1) (by omega) (by omega);have kk:ai false .mul (J ((l/4:Nat):Int)) (J 2)=some (J ((l/4*2:Nat):Int)):=OE (c:=2) (by omega) (by omega);have r4:ai false .mul (J ((l/4:Nat):Int)) (J 3)=some (J ((l/4*3:Nat):Int)):=OE (c:=3) (by omega) (by omega);have s1:ai false .add (J (a:Int)) (J ((l/4*1:Nat):Int))=some (J ((a+l/4*1:Nat):Int)):=qO (by omega);have s2:ai false .add (J (a:Int)) (J ((l/4*2:Nat):Int))=some (J ((a+l/4*2:Nat):Int)):=qO (by omega);have gF:ai false .add (J (a:Int)) (J ((l/4*3:Nat):Int))=some (J ((a+l/4*3:Nat):Int)):=qO (by omega);have d8:=yT ((l:Int)>=8);obtain⟨p,w,aU,yA,oG⟩:∃p w:Nat,(∀(k:List D->Option D),aa (aa (if decide ((l:Int)>=50)=true then aa (pP n [cq L,J ((a+l/4*1:Nat):Int),J 0]) λab=>aa (pP n [cq L,J ((a+l/4*2:Nat):Int),(I ab 1)]) λaf=>aa (pP n [cq L,J ((a+l/4*3:Nat):Int),(I af 1)]) λaw=>some (Sum.inl [cq L,(I ab 0),(I af 0),(I aw 0),(I aw 1)])
    else some (Sum.inl [cq L,J ((a+l/4*1:Nat):Int),J ((a+l/4*2:Nat):Int),J ((a+l/4*3:Nat):Int),J 0])) (a9 λls=>aa (vc n [(I ls 0),(I ls 1),(I ls 2),(I ls 3),(I ls 4)]) λa5=>some (Sum.inl [(I a5 0),(I a5 1)]))) (a9 k)=k [J (p:Int),J (w:Int)])/\a<=p/\p<b:=by
  by_cases ax1:50<=l;.obtain⟨cW,gk,t1,t2,t3⟩:=Vy n L (a+l/4*1) 0 (by omega) (by omega) bO (by omega);obtain⟨kR,hv,qa,pc,aBH⟩:=Vy n L (a+l/4*2) gk (by omega) (by omega) bO (by omega);obtain⟨vI,k8,v1,v2,BK⟩:=Vy n L (a+l/4*3) hv (by omega) (by omega) bO (by omega);obtain⟨qL,qA,xO,afy,Vx⟩:=Vw n L cW kR vI k8 (by omega) (by omega) (by omega) (by omega);have t1:pP n [cq L,J ((a+l/4*1:Nat):Int),J 0]=some [J (cW:Int),J (gk:Int)]:=t1;refine⟨qL,qA,λk=>?_,by omega,by omega⟩;simp only[go_sem,yT ((l:Int)>=50),t1,qa,v1,xO]
  .obtain⟨qL,qA,xO,afy,Vx⟩:=Vw n L (a+l/4*1) (a+l/4*2) (a+l/4*3) 0 (by omega) (by omega) (by omega) (by omega);have xO:vc n [cq L,J ((a+l/4*1:Nat):Int),J ((a+l/4*2:Nat):Int),J ((a+l/4*3:Nat):Int),J 0]=some [J (qL:Int),J (qA:Int)]:=xO;refine⟨qL,qA,λk=>?_,by omega,by omega⟩;simp only[go_sem,yF ((l:Int)>=50),xO]
 by_cases w0:w=0;.subst w0;refine⟨p,1,?_,yA,oG,by omega⟩;simp only[xf,Mz,go_sem,aJ,bA,gx,kk,r4,s1,s2,gF,d8,aU];rfl
 have so:((w:Int)==0)=false:=by simp;omega
 by_cases ayg:w=12;.subst ayg;refine⟨p,2,?_,yA,oG,by omega⟩;simp only[xf,Mz,go_sem,aJ,bA,gx,kk,r4,s1,s2,gF,d8,aU,so];rfl
 have ayh:((w:Int)==12)=false:=by simp;omega
 refine⟨p,0,?_,yA,oG,by omega⟩;simp only[xf,Mz,go_sem,aJ,bA,gx,kk,r4,s1,s2,gF,d8,aU,so,ayh];rfl
def AQ(l3:List D->Option (List D))(n:Nat)(ls:List D):Option (List D⊕(List D⊕(List D))):=aa (ai false .gtr (I ls 0) (J 0)) λiy=>
 aa (bL iy true (
 aa (ai false .sub (I ls 0) (J 1)) λkK=>
 aa (b9 ((aq (I ls 7))).length kK) λxj=>
 aa (((aq (I ls 7)))[xj]?) λHg=>
 aa (a3 false 1 0 Hg) λkN=>
 aa (b9 ((aq (I ls 7))).length (I ls 6)) λHh=>
 aa (((aq (I ls 7)))[Hh]?) λHi=>
 aa (a3 false 1 0 Hi) λhQ=>
 aa (ju n [kN,hQ]) λmC=>
 aa (dp .not mC) λhJ=>
 some hJ
)) λhJ=>
 aa (bZ iy hJ (ay false)) λl1=>
 aE l1 (
 aa (CF n [(I ls 0),(I ls 1),(I ls 6),(D.ax 1 (aq (I ls 7)))]) λcP=>
 some (.inl [(I cP 0),(I ls 1),(I ls 2),(I ls 3),(I ls 4),(D.ax 1 (aq (I cP 1)))])
) (
 aa (zK n [(I ls 0),(I ls 1),(I ls 6),(D.ax 1 (aq (I ls 7)))]) λgE=>
 aa (br 0 (I gE 0)) λkq=>
 aa (br 1 (I gE 0)) λkQ=>
 aa (ai false .sub kq (I ls 0)) λm3=>
 aa (ai false .sub (I ls 1) kq) λpJ=>
 aa (ai false .quo (I ls 5) (J 8)) λpQ=>
 aa (ai false .lss m3 pJ) λtq=>
 aa (
 aE tq (
 aa (ai false .geq m3 pQ) λrJ=>
 aa (l3 [(I ls 0),kq,(I ls 2),(D.ax 1 (aq (I gE 1)))]) λhZ=>
 aa (ai false .add kq (J 1)) λxb=>
 some (.inl [xb,(I ls 1),(I ls 2),rJ,kQ,(D.ax 1 (aq (I hZ 1)))])
) (
 aa (ai false .geq pJ pQ) λoQ=>
 aa (ai false .add kq (J 1)) λHd=>
 aa (l3 [Hd,(I ls 1),(I ls 2),(D.ax 1 (aq (I gE 1)))]) λjL=>
 some (.inl [(I ls 0),kq,(I ls 2),oQ,kQ,(D.ax 1 (aq (I jL 1)))])
)
)<|a9 λls=>some (.inl [(I ls 0),(I ls 1),(I ls 2),(I ls 3),(I ls 4),(D.ax 1 (aq (I ls 5)))])
)
def D2(l3:List D->Option (List D))(n:Nat)(ls:List D):Option (List D⊕(List D⊕(List D))):=aa (bL (I ls 3) true (
 some (I ls 4)
)) λhR=>
 aa (bZ (I ls 3) hR (ay false)) λhI=>
 aa (bL hI true (
 aa (ai false .eql (I ls 7) (J 1)) λgY=>
 some gY
)) λgY=>
 aa (bZ hI gY (ay false)) λh8=>
 aa (
 aE h8 (
 aa (xi n [(I ls 0),(I ls 1),(D.ax 1 (aq (I ls 8)))]) λca=>
 aE (I ca 0) (
 a0 (
 a0 (
 a0 (
 some [(D.a1 []),(D.ax 1 (aq (I ca 1)))]
)
)
)
) (
 some (.inl [(I ls 0),(I ls 1),(I ls 2),(I ls 3),(I ls 4),(I ls 5),(I ls 6),(D.ax 1 (aq (I ca 1)))])
)
) (
 some (.inl [(I ls 0),(I ls 1),(I ls 2),(I ls 3),(I ls 4),(I ls 5),(I ls 6),(D.ax 1 (aq (I ls 8)))])
)
)<|a9 λls=>AQ l3 n ls
def AR(l3:List D->Option (List D))(n:Nat)(ls:List D):Option (List D⊕(List D⊕(List D))):=aa (xf n [(D.ax 1 (aq (I ls 6))),(I ls 0),(I ls 1)]) λft=>
 aB ft.flat<|
 aa (br 0 ft) λgp=>
 aa (br 1 ft) λfJ=>
 aa (ai false .eql fJ (J 2)) λeW=>
 aa (
 aE eW (
 aa (CB n [(I ls 0),(I ls 1),(D.ax 1 (aq (I ls 6)))]) λa5=>
 aa (ai false .sub (I ls 1) (J 1)) λfH=>
 aa (ai false .sub gp (I ls 0)) λk7=>
 aa (ai false .sub fH k7) λgh=>
 some (.inl [(I ls 0),(I ls 1),(I ls 2),(I ls 3),(I ls 4),(I ls 5),gh,(J 1),(D.ax 1 (aq (I a5 1)))])
) (
 some (.inl [(I ls 0),(I ls 1),(I ls 2),(I ls 3),(I ls 4),(I ls 5),gp,fJ,(D.ax 1 (aq (I ls 6)))])
)
)<|a9 λls=>D2 l3 n ls
def OF(l3:List D->Option (List D))(n:Nat)(ls:List D):CK l3 n ls=(
 aa (
 aa (ai false .sub (I ls 1) (I ls 0)) λbQ=>
 aa (ai false .leq bQ (J 12)) λcy=>
 aE cy (
 aa (Cx n [(I ls 0),(I ls 1),(D.ax 1 (aq (I ls 5)))]) λab=>
 a0 (
 a0 (
 some [(D.a1 []),(D.ax 1 (aq (I ab 1)))]
)
)
) (
 aa (ai false .eql (I ls 2) (J 0)) λdG=>
 aE dG (
 aa (CA n [(I ls 0),(I ls 1),(D.ax 1 (aq (I ls 5)))]) λaf=>
 a0 (
 a0 (
 some [(D.a1 []),(D.ax 1 (aq (I af 1)))]
)
)
) (
 aa (dp .not (I ls 3)) λfc=>
 aa (
 aE fc (
 aa (zD n [(I ls 0),(I ls 1),(D.ax 1 (aq (I ls 5)))]) λaw=>
 aa (ai false .sub (I ls 2) (J 1)) λgg=>
 some (.inl [(I ls 0),(I ls 1),gg,(I ls 3),(I ls 4),bQ,(D.ax 1 (aq (I aw 1)))])
) (
 some (.inl [(I ls 0),(I ls 1),(I ls 2),(I ls 3),(I ls 4),bQ,(D.ax 1 (aq (I ls 5)))])
)
)<|a9 λls=>AR l3 n ls
)
)
)<|a9 λls=>some (.inl [(I ls 0),(I ls 1),(I ls 2),(I ls 3),(I ls 4),(D.ax 1 (aq (I ls 5)))])
):=rfl
def D3(a b:Nat)(L:List ByteArray)(x:Option (List D⊕(List D⊕(List D)))):Prop:=(∃bE,x=some (.inr (.inr [D.a1 [],cq bE]))/\Part a b L bE/\eF blt a b (gt bE))\/(∃(cD b' m:Nat)(u v:Bool)(bE:List ByteArray),x=some (.inl [J (cD:Int),J (b':Int),J (m:Int),ay u,ay v,cq bE])/\m<=1000/\Part a b L bE/\b'-cD<b-a/\∀ae fI,fI<=L.length->jW blt ae fI a b (gt L)->jW blt ae fI cD b' (gt bE))
def D3.pre{a b:Nat}{L M:List ByteArray}{x:Option (List D⊕(List D⊕(List D)))}(h:D3 a b M x)(aU:Part a b L M):D3 a b L x:=by
 rcases h with⟨bE,ab,af,aw⟩|⟨cD,b',m,u,v,bE,ab,hm,af,aw,a5⟩;.exact .inl ⟨bE,ab,aU.trans af,aw⟩
 exact .inr ⟨cD,b',m,u,v,bE,ab,hm,aU.trans af,aw,λae fI aj bj=>a5 ae fI (by rw[aU.len];exact aj) (bj.part aU aj)⟩
section
variable{r:List D->Option (List D)}{n:Nat}{L:List ByteArray}{a b:Nat}
def Jr(r:List D->Option (List D))(len W:Nat):Prop:=∀(M:List ByteArray)(a b m:Nat),m<=1000->M.length=len->a<=b->b<=M.length->b-a<W->p6 a b M->∃cY,r [J (a:Int),J (b:Int),J (m:Int),cq M]=some [D.a1 [],cq cY]/\Part a b M cY/\eF blt a b (gt cY)
def afz(av:Jr r L.length (b-a))(fp:a+12<b)(aj:b<=L.length)(bO:L.length<1000000000)(aL:L.length+30<n)(nc:p6 a b L)(m p:Nat)(hm:m<=1000)(u v:Bool)(aU:a<=p/\p<b):D3 a b L (AQ r n [J (a:Int),J (b:Int),J (m:Int),ay u,ay v,J ((b-a:Nat):Int),J (p:Int),cq L]):=by
 have kD:p<L.length:=by omega
 have hp:=λ(bE:List ByteArray)(yD:Part a b L bE) ae fI (AS:fI<=L.length) (bj:jW blt ae fI a b (gt L))=>bj.part yD AS;by_cases he:0<a/\blt (gt L (a-1)) (gt L p)=false
 .obtain⟨au,he⟩:=he;have fy:a-1<L.length:=by omega
  have aJ:ai false .sub (J (a:Int)) (J 1)=some (J ((a-1:Nat):Int)):=kd (by omega) (by omega);obtain⟨jR,bE,dE,di,eY,jn,lu,pr⟩:=axW n L a b p (by omega) aU aj bO (by omega);refine .inr ⟨jR,b,m,u,v,bE,?_,hm,di,by omega,?_⟩;.simp only[AQ,go_sem,yT ((a:Int)>0),eb,dQ,aJ,c3 fy,c3 kD,cM aC fy,cM aC kD,eu,fR,iC,he,dE]
  intro ae fI AS bj;have gB:e6 (λx=>blt x (gt L p)=false) a b (gt L):=λk ab af=>jX.tr _ _ _ he (nc au k ab af);exact(hp bE di ae fI AS bj).eq (by omega) jn lu (gB.part di aj) pr jX
 
 obtain⟨jR,d,bE,dE,di,eY,jn,lu,pr⟩:=axR n L a b p (by omega) aU aj bO (by omega);have b5:=di.len;have aJ:ai false .sub (J (jR:Int)) (J (a:Int))=some (J ((jR-a:Nat):Int)):=qP (by omega) (by omega);have aZ:ai false .sub (J (b:Int)) (J (jR:Int))=some (J ((b-jR:Nat):Int)):=qP (by omega) (by omega);have bN:ai false .quo (J ((b-a:Nat):Int)) (J 8)=some (J (((b-a)/8:Nat):Int)):=Ox (k:=8) (by omega) (by omega) (by omega);have cO:ai false .add (J (jR:Int)) (J 1)=some (J ((jR+1:Nat):Int)):=b1 (by omega);have Vz:p6 a b bE:=nc.part di (xan _) (xan _) aj;have jb:∀(x y:Option (List D⊕(List D⊕(List D)))),aa (bL (ay (decide ((a:Int)>0))) true (aa (ai false .sub (J (a:Int)) (J 1)) λkK=>aa (b9 (lM aC L).length kK) λxj=>aa ((lM aC L)[xj]?) λHg=>aa (a3 false 1 0 Hg) λkN=>aa (b9 (lM aC L).length (J (p:Int))) λHh=>aa ((lM aC L)[Hh]?) λHi=>aa (a3 false 1 0 Hi) λhQ=>aa (ju n [kN,hQ]) λmC=>aa (dp .not mC) λhJ=>some hJ)) (λhJ=>aa (bZ (ay (decide ((a:Int)>0))) hJ (ay false)) λl1=>aE l1 x y)=y:=by
  intro x y;by_cases au:0<a
  .have ayi:blt (gt L (a-1)) (gt L p)=true:=by
    cases bI:blt (gt L (a-1)) (gt L p)with|true=>rfl|false=>exact absurd ⟨au,bI⟩ he
   have fy:a-1<L.length:=by omega
   have aJ:ai false .sub (J (a:Int)) (J 1)=some (J ((a-1:Nat):Int)):=kd (by omega) (by omega);simp only[go_sem,yT ((a:Int)>0),eb,dQ,aJ,c3 fy,c3 kD,cM aC fy,cM aC kD,eu,fR,iC,ayi]
  simp only[go_sem,yF ((a:Int)>0),eb,dQ]
 by_cases cu:jR-a<b-jR
 .obtain⟨iO,e8,ef,jK⟩:=av bE a jR m hm b5 eY (by omega) (by omega) (λau q ab af=>Vz au q ab (by omega));have mY:Part a b bE iO:=ef.mono (xan _) (by omega);refine .inr ⟨jR+1,b,m,decide (((jR-a:Nat):Int)>=(((b-a)/8:Nat):Int)),d,iO,?_,hm,di.trans mY,by omega,?_⟩
  .simp only[AQ,n1,pE,oL,eL,Rz];rw[jb];simp only[go_sem,dE,aJ,aZ,bN,yT (((jR-a:Nat):Int)<((b-jR:Nat):Int)),e8,cO]
  intro ae fI AS bj;have ab:=hp iO (di.trans mY) ae fI AS bj;have em:gt iO jR=gt bE jR:=ef.p3 (.inr (xan _));refine ab.right eY jn jK ?_ ?_ jX
  .rw[em];exact lu.part ef (by omega)
  rw[em];exact pr.out ef (.inr (by omega))
 obtain⟨iO,e8,ef,jK⟩:=av bE (jR+1) b m hm b5 (by omega) (by omega) (by omega) (λ_ q ab af=>pr q ab af);have mY:Part a b bE iO:=ef.mono (by omega) (xan _);refine .inr ⟨a,jR,m,decide (((b-jR:Nat):Int)>=(((b-a)/8:Nat):Int)),d,iO,?_,hm,di.trans mY,by omega,?_⟩
 .simp only[AQ,n1,pE,oL,eL,Rz];rw[jb];simp only[go_sem,dE,aJ,aZ,bN,yF (((jR-a:Nat):Int)<((b-jR:Nat):Int)),e8,cO]
 intro ae fI AS bj;have ab:=hp iO (di.trans mY) ae fI AS bj;have em:gt iO jR=gt bE jR:=ef.p3 (.inl (by omega));refine ab.left eY jn jK ?_ ?_ jX
 .rw[em];exact lu.out ef (.inl (by omega))
 rw[em];exact pr.part ef (by omega)
def afA(av:Jr r L.length (b-a))(fp:a+12<b)(aj:b<=L.length)(bO:L.length<1000000000)(aL:L.length+30<n)(nc:p6 a b L)(m p h:Nat)(hm:m<=1000)(u v:Bool)(aU:a<=p/\p<b):D3 a b L (D2 r n [J (a:Int),J (b:Int),J (m:Int),ay u,ay v,J ((b-a:Nat):Int),J (p:Int),J (h:Int),cq L]):=by
 obtain⟨s,bE,bA,bB,cz⟩:=ax0 n L a b (by omega) aj bO (by omega) nc;have b5:=bB.len;have jb:D2 r n [J (a:Int),J (b:Int),J (m:Int),ay u,ay v,J ((b-a:Nat):Int),J (p:Int),J (h:Int),cq L]=(if(u&&(v&&((h:Int)==1)))=true then(if s=true then some (.inr (.inr [D.a1 [],cq bE]))else AQ r n [J (a:Int),J (b:Int),J (m:Int),ay u,ay v,J ((b-a:Nat):Int),J (p:Int),cq bE])
    else AQ r n [J (a:Int),J (b:Int),J (m:Int),ay u,ay v,J ((b-a:Nat):Int),J (p:Int),cq L]):=by
  cases u<;>cases v<;>cases bI:((h:Int)==1)<;>cases s<;>simp only[D2,go_sem,eb,dQ,bI,bA]<;>rfl
 rw[jb];split
 .split;.rename_i aH;exact .inl ⟨bE,rfl,bB,cz aH⟩
  exact(afz (L:=bE) (by rw[b5];exact av) fp (by omega) (by omega) (by omega) (nc.part bB (xan _) (xan _) aj) m p hm u v aU).pre bB
 exact afz av fp aj bO aL nc m p hm u v aU
def ayj(av:Jr r L.length (b-a))(fp:a+12<b)(aj:b<=L.length)(bO:L.length<1000000000)(aL:L.length+30<n)(nc:p6 a b L)(m:Nat)(hm:m<=1000)(u v:Bool):D3 a b L (AR r n [J (a:Int),J (b:Int),J (m:Int),ay u,ay v,J ((b-a:Nat):Int),cq L]):=by
 obtain⟨p,h,bP,b6,cA,dC⟩:=ayf n L a b fp aj bO;have oh:(D.a1 [J (p:Int),J (h:Int)]).flat=true:=rfl;by_cases af:h=2
 .subst af;obtain⟨bE,bA,bB⟩:=axG n L a b (by omega) aj bO (by omega);have b5:=bB.len;have aJ:ai false .sub (J (b:Int)) (J 1)=some (J ((b-1:Nat):Int)):=kd (by omega) (by omega);have aZ:ai false .sub (J (p:Int)) (J (a:Int))=some (J ((p-a:Nat):Int)):=qP (by omega) (by omega);have bN:ai false .sub (J ((b-1:Nat):Int)) (J ((p-a:Nat):Int))=some (J ((b-1-(p-a):Nat):Int)):=qP (by omega) (by omega);have z:(((2:Nat):Int)==2)=true:=rfl;have jb:AR r n [J (a:Int),J (b:Int),J (m:Int),ay u,ay v,J ((b-a:Nat):Int),cq L]=D2 r n [J (a:Int),J (b:Int),J (m:Int),ay u,ay v,J ((b-a:Nat):Int),J ((b-1-(p-a):Nat):Int),J 1,cq bE]:=by
   simp only[AR,go_sem,bP,oh,z,bA,aJ,aZ,bN]
  rw[jb];exact(afA (L:=bE) (by rw[b5];exact av) fp (by omega) (by omega) (by omega) (nc.part bB (xan _) (xan _) aj) m _ 1 hm u v (by omega)).pre bB
 have z:((h:Int)==2)=false:=by simp;omega
 have jb:AR r n [J (a:Int),J (b:Int),J (m:Int),ay u,ay v,J ((b-a:Nat):Int),cq L]=D2 r n [J (a:Int),J (b:Int),J (m:Int),ay u,ay v,J ((b-a:Nat):Int),J (p:Int),J (h:Int),cq L]:=by simp only[AR,go_sem,bP,oh,z]
 rw[jb];exact afA av fp aj bO aL nc m p h hm u v ⟨b6,cA⟩
def ayk(av:Jr r L.length (b-a))(fp:a<=b)(aj:b<=L.length)(bO:L.length<1000000000)(aL:L.length+30<n)(nc:p6 a b L)(m:Nat)(hm:m<=1000)(u v:Bool):(∃bE,CK r n [J (a:Int),J (b:Int),J (m:Int),ay u,ay v,cq L]=some (.inr [D.a1 [],cq bE])/\Part a b L bE/\eF blt a b (gt bE))\/(∃(cD b' cI:Nat)(VA kC:Bool)(bE:List ByteArray),CK r n [J (a:Int),J (b:Int),J (m:Int),ay u,ay v,cq L]=some (.inl [J (cD:Int),J (b':Int),J (cI:Int),ay VA,ay kC,cq bE])/\cI<=1000/\Part a b L bE/\b'-cD<b-a/\∀ae fI,fI<=L.length->jW blt ae fI a b (gt L)->jW blt ae fI cD b' (gt bE)):=by
 have aJ:ai false .sub (J (b:Int)) (J (a:Int))=some (J ((b-a:Nat):Int)):=qP fp (by omega);by_cases Jh:b-a<=12;.obtain⟨bE,bA,bB,cz⟩:=axF n L a b fp aj bO (by omega);refine .inl ⟨bE,?_,bB,cz⟩;simp only[OF,go_sem,aJ,yT (((b-a:Nat):Int)<=12),bA]
 have d12:=yF (((b-a:Nat):Int)<=12);by_cases hd:m=0;.subst hd;obtain⟨bE,bA,bB,cz⟩:=axL n L a b (by omega) aj bO (by omega);refine .inl ⟨bE,?_,bB,cz⟩;have z:(((0:Nat):Int)==0)=true:=rfl;simp only[OF,go_sem,aJ,d12,z,bA]
 have afB:((m:Int)==0)=false:=by simp;omega
 obtain⟨D0,gx,aV,a2,bb⟩:∃(D0:List ByteArray)(gx:Nat),CK r n [J (a:Int),J (b:Int),J (m:Int),ay u,ay v,cq L]=aa (AR r n [J (a:Int),J (b:Int),J (gx:Int),ay u,ay v,J ((b-a:Nat):Int),cq D0]) (a9 λls=>some (.inl [(I ls 0),(I ls 1),(I ls 2),(I ls 3),(I ls 4),(D.ax 1 (aq (I ls 5)))]))/\Part a b L D0/\gx<=1000:=by cases u with|true=>refine⟨L,m,?_,Part.refl _ _ _,hm⟩;simp only[OF,go_sem,aJ,d12,afB]|false=>obtain⟨bE,bA,bB⟩:=ayd n L a b (by omega) aj bO (by omega);have aZ:ai false .sub (J (m:Int)) (J 1)=some (J ((m-1:Nat):Int)):=kd (by omega) (by omega);refine⟨bE,m-1,?_,bB,by omega⟩;simp only[OF,go_sem,aJ,d12,afB,bA,aZ]
 have b5:=a2.len;have ff:=(ayj (L:=D0) (r:=r) (n:=n) (by rw[b5];exact av) (by omega) (by omega) (by omega) (by omega) (nc.part a2 (xan _) (xan _) aj) gx bb u v).pre a2;rw[aV];rcases ff with⟨bE,ab,af,aw⟩|⟨cD,b',cI,VA,kC,bE,ab,uP,af,aw,a5⟩
 .exact .inl ⟨bE,by rw[ab];simp only[go_sem],af,aw⟩
 exact .inr ⟨cD,b',cI,VA,kC,bE,by rw[ab];simp only[go_sem],uP,af,aw,a5⟩
end
def afC:∀(n:Nat)(L:List ByteArray)(a b m:Nat),m<=1000->a<=b->b<=L.length->L.length<1000000000->(b-a)+L.length+40<n->p6 a b L-> ∃bE,rS n [J (a:Int),J (b:Int),J (m:Int),cq L]=some [D.a1 [],cq bE]/\Part a b L bE/\eF blt a b (gt bE)
 |0,L,a,b,m,_,_,_,_,h,_=>absurd h (xay _)
 |n+1,L,a,b,m,hm,fp,aj,bO,aL,nc=>by
  have key:=ky (f:=CK (rS n) n) (S:=Nat×Nat×Nat×Bool×Bool×List ByteArray) (λs=>[J (s.1:Int),J (s.2.1:Int),J (s.2.2.1:Int),ay s.2.2.2.1,ay s.2.2.2.2.1,cq s.2.2.2.2.2]) (λs=>s.2.1-s.1) (λs=>s.2.2.1<=1000/\Part a b L s.2.2.2.2.2/\jW blt a b s.1 s.2.1 (gt s.2.2.2.2.2)) (λr=>∃bE,r=[D.a1 [],cq bE]/\Part a b L bE/\eF blt a b (gt bE)) ?_ n (a,b,m,true,true,L) ⟨hm,Part.refl _ _ _,jW.start fp (λau j ab af=>nc au j ab af)⟩ (by simp only;omega);.obtain⟨r,ab,bE,rfl,af⟩:=key;refine⟨bE,?_,af⟩;simp only[rS,SS,go_sem,ab]
  rintro⟨cD,b',cI,u,v,M⟩ ⟨aV,a2,bb⟩;simp only at aV a2 bb⊢;have b5:=a2.len;obtain⟨bA,bB,cz⟩:=bb.le;have Vz:p6 cD b' M:=λau j ab af=>bb.low au j ab af;have av:Jr (rS n) M.length (b'-cD):=λN x y k ab af aw a5 ca cP=>afC n N x y k ab aw a5 (by omega) (by omega) cP;rcases ayk (L:=M) (n:=n) av bB (by omega) (by omega) (by omega) Vz cI aV u v with⟨bE,ab,af,aw⟩|⟨ba,gw,kk,pc,v2,bE,ab,T8,af,aw,a5⟩
  .right;exact⟨_,ab,bE,rfl,a2.trans (af.mono bA cz),(bb.part af (by omega)).done aw⟩
  left;exact⟨(ba,gw,kk,pc,v2,bE),ab,⟨T8,a2.trans (af.mono bA cz),a5 a b (by omega) bb⟩,aw⟩
set_option maxRecDepth 50000 in
def afD(n:Nat)(L:List ByteArray)(bO:L.length<1000000000)(aL:L.length+L.length+60<n): ∃bE,xk n [cq L]=some [D.a1 [],cq bE]/\Part 0 L.length L bE/\eF blt 0 L.length (gt bE):=by
 have go:∀m:Nat,m<=1000->rQ n [lj L.length]=some (J m)->∃bE,xk n [cq L]=some [D.a1 [],cq bE]/\Part 0 L.length L bE/\eF blt 0 L.length (gt bE):=by intro m hm he;obtain⟨bE,bA,bB,cz⟩:=afC n L 0 L.length m hm (xai _) (xan _) bO (by omega) (λh=>absurd h (xbV _));have bA:rS n [J 0,J (L.length:Int),J (m:Int),cq L]=some [D.a1 [],cq bE]:=bA;refine⟨bE,?_,bB,cz⟩;simp only[xk,go_sem,fR,Vu (show L.length<4000000000000000000 by omega),he,bA]
 by_cases au:L.length=0;.rw[au]at go;have:=go 0 (by omega) (by exact rfl);rw[au];exact this
 obtain⟨k,cB,dx,g5,pD⟩:=afw n (v:=L.length) (by omega) (by omega);exact go k (by omega) g5
def mb(s:ByteArray)(l:List ByteArray):List ByteArray:=l.takeWhile λx=>blt x s
def mc(s:ByteArray)(l:List ByteArray):List ByteArray:=l.dropWhile λx=>blt x s
def afE{s:ByteArray}:∀{l:List ByteArray},fN l->mb s l++[s]++(mc s l).filter (λx=>!decide (x=s))=gr s l
 |[],_=>by simp[mb,mc,gr]
 |x::r,h=>by
  have ih:=afE h.2 (s:=s);rw[gr];cases aj:blt x s with
  |true=>
   have cR:¬x=s:=by rintro rfl;rw[mA]at aj;cases aj
   have Nh:¬blt s x=true:=by intro g;have:=jX.AM _ _ g;rw[aj]at this;cases this
   have aJ:mb s (x::r)=x::mb s r:=by simp[mb,aj]
   have aZ:mc s (x::r)=mc s r:=by simp[mc,aj]
   rw[xaa cR,xaa Nh,aJ,aZ,<-ih];simp
  |false=>
   have aJ:mb s (x::r)=[]:=by simp[mb,aj]
   have aZ:mc s (x::r)=x::r:=by simp[mc,aj]
   rw[aJ,aZ];by_cases ag:x=s
   .subst ag;have bd:r.filter (λy=>!decide (y=x))=r:=by
     rw[List.filter_eq_self];intro y aP;have:=h.1 y aP;have cR:¬y=x:=by rintro rfl;rw[mA]at this;cases this
     simp[cR]
    simp[bd]
   have aH:blt s x=true:=by
    rcases yU s x with g|g|g;.exact g
    .exact absurd g.symm ag
    rw[aj]at g;cases g
   have bd:(x::r).filter (λy=>!decide (y=s))=x::r:=by
    rw[List.filter_eq_self];intro y aP;have cu:blt s y=true:=by
     rcases xak.1 aP with rfl|aP;.exact aH
     exact rC aH (h.1 y aP)
    have cR:¬y=s:=by rintro rfl;rw[mA]at cu;cases cu
    simp[cR]
   rw[xaa ag,xad aH,bd];rfl
def afF(s:ByteArray)(l:List ByteArray):mb s l++mc s l=l:=List.takeWhile_append_dropWhile
end Go.Am
