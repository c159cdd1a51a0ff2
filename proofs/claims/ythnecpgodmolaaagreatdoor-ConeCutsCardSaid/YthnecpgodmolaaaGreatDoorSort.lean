/- Laws, on data. No condition. -/
import Derived.Test.YthnecpgodmolaaaGreatDoorEngD
import Derived.Test.YthnecpgodmolaaaGreatDoorCode
import Derived.Test.YthnecpgodmolaaaGreatDoorEngS
set_option linter.all false
set_option linter.unnecessarySimpa false
namespace Go.Am
def kL{β S:Type}{f:List D->Option (List D⊕β)}(eO:S->List D)(NJ:S->Nat)(Inv:S->Prop)(Q:β->Prop) (step:∀s,Inv s->(∃s',f (eO s)=some (.inl (eO s'))/\Inv s'/\NJ s'<NJ s)\/(∃r,f (eO s)=some (.inr r)/\Q r)): ∀n s,Inv s->NJ s<n->∃r,bp f n (eO s)=some r/\Q r
 |0,s,_,h=>absurd h (xaA _)
 |n+1,s,h,hm=>by
  rw[jG];rcases step s h with⟨s',ab,af,aw⟩|⟨r,ab,af⟩
  .rw[ab];exact kL eO NJ Inv Q step n s' af (by omega)
  rw[ab];exact⟨r,rfl,af⟩
section
variable{α:Type}
structure Part(a b:Nat)(L bA:List α):Prop where
 len:bA.length=L.length
 out:∀i,i<a\/b<=i->bA[i]?=L[i]?
 u6:∀p:α->Bool,bA.countP p=L.countP p
theorem Part.refl(a b:Nat)(L:List α):Part a b L L:=⟨rfl,λ_ _=>rfl,λ_=>rfl⟩
def Part.trans{a b:Nat}{L M N:List α}(h:Part a b L M)(bz:Part a b M N):Part a b L N:=⟨bz.len.trans h.len,λi ah=>(bz.out i ah).trans (h.out i ah),λp=>(bz.u6 p).trans (h.u6 p)⟩
def Part.mono{a b cC b':Nat}{L M:List α}(h:Part a b L M)(aI:cC<=a)(aj:b<=b'):Part cC b' L M:=⟨h.len,λi ah=>h.out i (by omega),h.u6⟩
def eI(L:List α)(i j:Nat):List α:=match L[i]?,L[j]? with|some x,some y=>(L.set i y).set j x|_,_=>L
def avZ{L:List α}{i j:Nat}{x y:α}(ah:L[i]?=some x)(aN:L[j]?=some y):(L.set i y).set j x=eI L i j:=by simp only[eI,ah,aN]
def ID(L:List α)(i j:Nat):(eI L i j).length=L.length:=by unfold eI;split<;>simp
def aee{L:List α}{i j:Nat}(ah:i<L.length)(aN:j<L.length)(k:Nat):(eI L i j)[k]?=if k=j then L[i]? else if k=i then L[j]? else L[k]?:=by
 unfold eI;rw[xaa ah,xaa aN];simp only[List.getElem?_set,xaZ];by_cases ab:k=j;.subst ab;simp[aN]
 by_cases af:k=i;.subst af;rw[xab (λh=>ab h.symm),xab ab];simp[ah]
 rw[xab (λh=>ab h.symm),xab (λh=>af h.symm),xab ab,xab af]
def av0{L:List α}{i:Nat}:eI L i i=L:=by
 unfold eI;split
 .rename_i x y ab af;rw[ab]at af;cases af;apply xbY;intro k;simp only[List.getElem?_set,xaZ];by_cases h:i=k;.subst h;rw[ab];simp[(xae.1 ab).1]
  simp[h]
 rfl
def Part.eI{a b i j:Nat}{L:List α}(ah:a<=i)(jv:i<b)(aN:a<=j)(qF:j<b)(aj:b<=L.length):Part a b L (eI L i j):=by
 refine⟨ID L i j,?_,?_⟩;.intro k ak;rw[aee (by omega) (by omega),xab (by omega),xab (by omega)]
 intro p;by_cases gF:i=j;.subst gF;rw[av0]
 have ab:i<L.length:=by omega
 have af:j<L.length:=by omega
 unfold Am.eI;rw[xaa ab,xaa af];simp only;rw[List.countP_set (by simpa using af),List.countP_set ab];rw[List.getElem_set_ne gF];have aK:1<=L.countP p\/p L[i]=false:=by cases h:p L[i]with|false=>exact .inr rfl|true=>exact .inl (List.countP_pos_iff.2 ⟨_,xaX ab,h⟩)
 have aY:1<=L.countP p\/p L[j]=false:=by cases h:p L[j]with|false=>exact .inr rfl|true=>exact .inl (List.countP_pos_iff.2 ⟨_,xaX af,h⟩)
 cases aw:p L[i]<;>cases a4:p L[j]<;>simp_all<;>omega
def tA(P:α->Prop)(a b:Nat)(L:List α):Prop:=∀i x,a<=i->i<b->L[i]?=some x->P x
def tA.mono{P:α->Prop}{a b cC b':Nat}{L:List α}(h:tA P a b L)(aI:a<=cC)(aj:b'<=b):tA P cC b' L:=λi x ab af ag=>h i x (by omega) (by omega) ag
def tA.out{P:α->Prop}{a b c d:Nat}{L M:List α}(h:tA P c d L)(aT:Part a b L M)(aA:d<=a\/b<=c):tA P c d M:=λi x ab af ag=>h i x ab af (by rw[<-aT.out i (by omega)];exact ag)
def av1{p:α->Bool}{l:List α}(h:l.countP p=0):∀x∈l,p x=false:=by intro x ag;cases aT:p x with|false=>rfl|true=>have:=List.countP_pos_iff.2 ⟨x,ag,aT⟩;omega
open Classical in
def tA.part{P:α->Prop}{a b:Nat}{L M:List α}(h:tA P a b L)(aT:Part a b L M)(fv:a<=b):tA P a b M:=by
 intro i x ab af ag;have aK:M.take a=L.take a:=by
  apply xbY;intro k;rw[xaN,xaN];split;.rename_i ak;exact aT.out k (.inl ak)
  rfl
 have aY:M.drop b=L.drop b:=by apply xbY;intro k;rw[xaV,xaV];exact aT.out _ (.inr (by omega))
 have aef:∀(N:List α)(q:α->Bool),N.countP q=(N.take a).countP q+((N.drop a).take (b-a)).countP q+(N.drop b).countP q:=by
  intro N q
  conv=>lhs;rw[<-xbs a N,List.countP_append,<-xbs (b-a) (N.drop a),List.countP_append,List.drop_drop]
  rw[show a+(b-a)=b by omega];omega
 have an:=aT.u6 (λy=>!decide (P y));rw[aef M,aef L,aK,aY]at an;have au:((L.drop a).take (b-a)).countP (λy=>!decide (P y))=0:=by
  rw[List.countP_eq_zero];intro y aP;obtain⟨k,ak⟩:=List.getElem?_of_mem aP;rw[xaN]at ak;split at ak;.rename_i cr;rw[xaV]at ak;simp[h (a+k) y (by omega) (by omega) ak]
  cases ak
 have aw:((M.drop a).take (b-a)).countP (λy=>!decide (P y))=0:=by omega
 have hm:x∈(M.drop a).take (b-a):=by refine xac (i:=i-a) ?_;rw[xaN,xad (by omega),xaV,show a+(i-a)=i by omega];exact ag
 have:=av1 aw x hm;simpa using this
def Part.mem{a b:Nat}{L M:List α}(h:Part a b L M)[DecidableEq α](x:α):x∈M↔x∈L:=by
 have:=h.u6 (λy=>y==x);have e:∀N:List α,x∈N↔0<N.countP (λy=>y==x):=by
  intro N;rw[List.countP_pos_iff];constructor;.intro h;exact⟨x,h,by simp⟩
  rintro⟨y,ab,af⟩;rw[<-eq_of_beq af];exact ab
 rw[e,e,this]
structure IE(lt:α->α->Bool):Prop where
 IF:∀x,lt x x=false
 Af:∀x y,lt x y=true->lt y x=false
 tr:∀x y z,lt y x=false->lt z y=false->lt z x=false
end
section
variable{α:Type}
def gt[Inhabited α](L:List α)(i:Nat):α:=L.getD i default
def IG[Inhabited α]{L:List α}{i:Nat}(h:i<L.length):L[i]?=some (gt L i):=by simp[gt,xaQ,xaa h]
def jN(f:Nat->α)(i j:Nat):Nat->α:=λk=>if k=j then f i else if k=i then f j else f k
def rW[Inhabited α]{L:List α}{i j:Nat}(ah:i<L.length)(aN:j<L.length):gt (eI L i j)=jN (gt L) i j:=by
 funext k
 simp only[gt,jN,xaQ,aee ah aN];split<;>try split
 all_goals rfl
def Part.pL[Inhabited α]{a b:Nat}{L M:List α}(h:Part a b L M){i:Nat}(ah:i<a\/b<=i):gt M i=gt L i:=by simp only[gt,xaQ,h.out i ah]
def eR(P:α->Prop)(a b:Nat)(f:Nat->α):Prop:=∀i,a<=i->i<b->P (f i)
def eR.part[Inhabited α]{P:α->Prop}{a b:Nat}{L M:List α}(h:eR P a b (gt L))(aT:Part a b L M)(aj:b<=L.length):eR P a b (gt M):=by
 intro i ab af;have aw:tA P a b L:=λk x cB dx ag=>by have:=h k cB dx;have e:=IG (L:=L) (i:=k) (by omega);rw[e]at ag;cases ag;exact this
 exact(aw.part aT (by omega)) i _ ab af (IG (by rw[aT.len];omega))
def eR.out[Inhabited α]{P:α->Prop}{a b c d:Nat}{L M:List α}(h:eR P c d (gt L))(aT:Part a b L M)(aA:d<=a\/b<=c):eR P c d (gt M):=by intro i ab af;rw[aT.pL (by omega)];exact h i ab af
def eR.mono{P:α->Prop}{a b cC b':Nat}{f:Nat->α}(h:eR P a b f)(aI:a<=cC)(aj:b'<=b):eR P cC b' f:=λi ab af=>h i (by omega) (by omega)
def ew(lt:α->α->Bool)(a b:Nat)(f:Nat->α):Prop:=∀i j,a<=i->i<j->j<b->lt (f j) (f i)=false
def ew.out[Inhabited α]{lt:α->α->Bool}{a b c d:Nat}{L M:List α}(h:ew lt c d (gt L))(aT:Part a b L M)(aA:d<=a\/b<=c):ew lt c d (gt M):=by intro i j ab af aw;rw[aT.pL (by omega),aT.pL (by omega)];exact h i j ab af aw
def ew.mono{lt:α->α->Bool}{a b cC b':Nat}{f:Nat->α}(h:ew lt a b f)(aI:a<=cC)(aj:b'<=b):ew lt cC b' f:=λi j ab af aw=>h i j (by omega) af (by omega)
def xh{lt:α->α->Bool}{a b:Nat}{f:Nat->α}(h:b<=a+1):ew lt a b f:=λi j ab af aw=>by omega
def ew.join{lt:α->α->Bool}{a m b:Nat}{f:Nat->α}(ab:ew lt a m f)(af:ew lt m b f)(h:∀i j,a<=i->i<m->m<=j->j<b->lt (f j) (f i)=false):ew lt a b f:=by
 intro i j aV a2 bc;by_cases aN:j<m;.exact ab i j aV a2 aN
 by_cases ah:i<m;.exact h i j aV ah (by omega) bc
 exact af i j (by omega) a2 bc
variable{lt:α->α->Bool}(aF:IE lt)
include aF
theorem ew.more{a i:Nat}{f:Nat->α}(h:ew lt a i f)(ah:a<i)(aq:lt (f i) (f (i-1))=false):ew lt a (i+1) f:=by
 intro p q ab af aw;by_cases bk:q<i;.exact h p q ab af bk
 have e:q=i:=by omega
 subst e;by_cases aT:p=q-1;.subst aT;exact aq
 exact aF.tr _ _ _ (h p (q-1) ab (by omega) (by omega)) aq
omit aF
def Dv(lt:α->α->Bool)(a j i:Nat)(f:Nat->α):Prop:=∀p q,a<=p->p<q->q<=i->q≠j->lt (f q) (f p)=false
theorem aeg{a i:Nat}{f:Nat->α}(h:ew lt a i f):Dv lt a i i f:=λp q ab af aw a4=>h p q ab af (by omega)
include aF
theorem aeh{a j i:Nat}{f:Nat->α}(h:Dv lt a j i f)(aI:a<j)(iZ:j<=i)(aq:lt (f j) (f (j-1))=true):Dv lt a (j-1) i (jN f j (j-1)):=by
 intro p q ab af aw a4;have has:=aF.Af _ _ aq;simp only[jN];rw[xab a4];by_cases bk:q=j
 .subst bk;rw[xad rfl];by_cases aT:p=q-1;.rw[xad aT];exact has
  rw[xab aT,xab (by omega)];exact h p (q-1) ab (by omega) (by omega) (by omega)
 rw[xab bk];by_cases aT:p=j-1;.rw[xad aT];exact h j q (by omega) (by omega) aw bk
 rw[xab aT];by_cases ou:p=j;.rw[xad ou];exact h (j-1) q (by omega) (by omega) aw bk
 rw[xab ou];exact h p q ab af aw bk
theorem NK{a j i:Nat}{f:Nat->α}(h:Dv lt a j i f)(av2:a<=j)(aq:j=a\/lt (f j) (f (j-1))=false):ew lt a (i+1) f:=by
 intro p q ab af aw;by_cases bk:q=j
 .subst bk;rcases aq with aq|aq
  .omega
  by_cases aT:p=q-1;.subst aT;exact aq
  exact aF.tr _ _ _ (h p (q-1) ab (by omega) (by omega) (by omega)) aq
 exact h p q ab af (by omega) bk
omit aF
def av3(lt:α->α->Bool)(z lo ah x:Nat)(f:Nat->α):Prop:=∀r c,lo<=r->r≠x->(c=2*r+1\/c=2*r+2)->c<ah->lt (f (z+r)) (f (z+c))=false
def IH(lt:α->α->Bool)(z lo ah x:Nat)(f:Nat->α):Prop:=av3 lt z lo ah x f/\∀r c,lo<=r->(x=2*r+1\/x=2*r+2)->(c=2*x+1\/c=2*x+2)->c<ah->lt (f (z+r)) (f (z+c))=false
def oS(lt:α->α->Bool)(z lo ah:Nat)(f:Nat->α):Prop:=∀r c,lo<=r->(c=2*r+1\/c=2*r+2)->c<ah->lt (f (z+r)) (f (z+c))=false
theorem av4{z lo ah:Nat}{f:Nat->α}(h:oS lt z (lo+1) ah f):IH lt z lo ah lo f:=⟨λr c ab af aw a4=>h r c (by omega) aw a4,λr c ab af aw a4=>by omega⟩
theorem NL{z lo ah x:Nat}{f:Nat->α}(h:IH lt z lo ah x f)(ag:∀c,(c=2*x+1\/c=2*x+2)->c<ah->lt (f (z+x)) (f (z+c))=false):oS lt z lo ah f:=by
 intro r c ab af aw;by_cases av:r=x;.subst av;exact ag c af aw
 exact h.1 r c ab av af aw
include aF
theorem Uy{z lo ah x y:Nat}{f:Nat->α}(h:IH lt z lo ah x f)(hA:lo<=x)(aP:y=2*x+1\/y=2*x+2)(av5:y<ah) (qH:∀c,(c=2*x+1\/c=2*x+2)->c<ah->lt (f (z+y)) (f (z+c))=false) (aq:lt (f (z+x)) (f (z+y))=true):IH lt z lo ah y (jN f (z+x) (z+y)):=by
 have has:=aF.Af _ _ aq;have aAl:x<y:=by omega
 constructor
 .intro r c ab af aw a4;simp only[jN];rw[xab (show¬z+r=z+y by omega)];by_cases av:r=x
  .subst av;rw[xad rfl];by_cases an:c=y;.subst an;rw[xad rfl];exact has
   rw[xab (by omega),xab (by omega)];exact qH c aw a4
  rw[xab (by omega)];by_cases an:c=y;.omega
  rw[xab (by omega)];by_cases o2:c=x;.subst o2;rw[xad rfl];exact h.2 r y ab aw aP av5
  rw[xab (by omega)];exact h.1 r c ab av aw a4
 intro r c ab af aw a4;have av:r=x:=by omega
 subst av;simp only[jN];rw[xab (show¬z+r=z+y by omega)];simp only[xaD];rw[xab (by omega),xab (by omega)];exact h.1 y c (by omega) (by omega) aw a4
theorem av6{z ah:Nat}{f:Nat->α}(h:oS lt z 0 ah f):∀k,k<ah->lt (f z) (f (z+k))=false:=by
 intro k
 induction k using Nat.strongRecOn with
 |ind k ih=>
  intro ak;by_cases au:k=0;.subst au;exact aF.IF _
  have ab:=ih ((k-1)/2) (by omega) (by omega);have af:=h ((k-1)/2) k (by omega) (by omega) ak;exact aF.tr _ _ _ af ab
omit aF
structure tB(lt:α->α->Bool)(z i ah:Nat)(f:Nat->α):Prop where
 h:oS lt z 0 i f
 s:ew lt (z+i) (z+ah) f
 c:∀p q,z<=p->p<z+i->z+i<=q->q<z+ah->lt (f q) (f p)=false
theorem tB.start{z n:Nat}{f:Nat->α}(h:oS lt z 0 n f):tB lt z n n f:=⟨h,xh (by omega),λp q ab af aw a4=>by omega⟩
include aF
theorem tB.swap{z i ah:Nat}{f:Nat->α}(h:tB lt z (i+1) ah f)(jv:i+1<=ah):oS lt z 1 i (jN f z (z+i))/\ew lt (z+i) (z+ah) (jN f z (z+i))/\∀p q,z<=p->p<z+i->z+i<=q->q<z+ah->lt (jN f z (z+i) q) (jN f z (z+i) p)=false:=by
 have hm:=av6 aF h.h;refine⟨?_,?_,?_⟩;.intro r c ab af aw;simp only[jN];rw[xab (by omega),xab (by omega),xab (by omega),xab (by omega)];exact h.h r c (by omega) af (by omega)
 .intro p q ab af aw;simp only[jN];rw[xab (show¬q=z+i by omega),xab (show¬q=z by omega)];by_cases aT:p=z+i;.rw[xad aT];exact h.c z q (by omega) (by omega) (by omega) aw
  rw[xab aT,xab (by omega)];exact h.s p q (by omega) af aw
 intro p q ab af aw a4;simp only[jN];rw[xab (show¬p=z+i by omega)];by_cases bk:q=z+i
 .rw[xad bk];by_cases aT:p=z;.rw[xad aT];exact hm i (by omega)
  rw[xab aT];have:=hm (p-z) (by omega)
  rwa [show z+(p-z)=p by omega]at this
 rw[xab bk,xab (by omega)];by_cases aT:p=z;.rw[xad aT];exact h.c (z+i) q (by omega) (by omega) (by omega) a4
 rw[xab aT];exact h.c p q ab (by omega) (by omega) a4
omit aF
theorem tB.next[Inhabited α]{z i ah:Nat}{L M:List α}(aT:Part z (z+i) L M)(aj:z+ah<=L.length)(jv:i<=ah)(ab:oS lt z 0 i (gt M))(af:ew lt (z+i) (z+ah) (gt L)) (aw:∀p q,z<=p->p<z+i->z+i<=q->q<z+ah->lt (gt L q) (gt L p)=false):tB lt z i ah (gt M):=by refine⟨ab,af.out aT (.inr (xan _)),?_⟩;intro p q aV a2 bc cV;rw[aT.pL (i:=q) (.inr bc)];have:eR (λx=>lt (gt L q) x=false) z (z+i) (gt M):=eR.part (λj cB dx=>aw j q cB dx bc cV) aT (by omega);exact this p aV a2
structure jO(lt:α->α->Bool)(ae fF a b:Nat)(f:Nat->α):Prop where
 le:ae<=a/\a<=b/\b<=fF
 l:ew lt ae a f
 r:ew lt b fF f
 lm:∀i j,ae<=i->i<a->a<=j->j<fF->lt (f j) (f i)=false
 vm:∀i j,ae<=i->i<b->b<=j->j<fF->lt (f j) (f i)=false
 pre:0<ae->∀j,ae<=j->j<fF->lt (f j) (f (ae-1))=false
theorem jO.start{a b:Nat}{f:Nat->α}(h:a<=b)(aT:0<a->∀j,a<=j->j<b->lt (f j) (f (a-1))=false):jO lt a b a b f:=⟨⟨xan _,h,xan _⟩,xh (by omega),xh (by omega),λi j ab af=>by omega,λi j ab af aw a4=>by omega,aT⟩
theorem jO.done{ae fF a b:Nat}{f:Nat->α}(h:jO lt ae fF a b f)(aH:ew lt a b f):ew lt ae fF f:=by have aq:=h.le;refine ew.join h.l (ew.join aH h.r λi j aV a2 bc cV=>h.vm i j (by omega) a2 bc cV) λi j aV a2 bc cV=>h.lm i j aV a2 bc cV
theorem jO.low{ae fF a b:Nat}{f:Nat->α}(h:jO lt ae fF a b f)(aI:0<a):∀j,a<=j->j<b->lt (f j) (f (a-1))=false:=by
 intro j ab af;have aq:=h.le;by_cases au:ae=a
 .subst au;exact h.pre aI j ab (by omega)
 exact h.lm (a-1) j (by omega) (by omega) ab (by omega)
theorem jO.part[Inhabited α]{ae fF a b:Nat}{L M:List α}(h:jO lt ae fF a b (gt L))(aT:Part a b L M)(aj:fF<=L.length):jO lt ae fF a b (gt M):=by
 have aq:=h.le;have av7:∀i,ae<=i->i<a->eR (λx=>lt x (gt L i)=false) a b (gt M):=λi ab af=>eR.part (λj aw a4=>h.lm i j ab af aw (by omega)) aT (by omega);have av8:∀j,b<=j->j<fF->eR (λx=>lt (gt L j) x=false) a b (gt M):=λj ab af=>eR.part (λi aw a4=>h.vm i j (by omega) a4 ab af) aT (by omega);refine⟨h.le,h.l.out aT (.inl (xan _)),h.r.out aT (.inr (xan _)),?_,?_,?_⟩
 .intro i j ab af aw a4;rw[aT.pL (i:=i) (.inl af)];by_cases aN:j<b;.exact av7 i ab af j aw aN
  rw[aT.pL (.inr (by omega))];exact h.lm i j ab af aw a4
 .intro i j ab af aw a4;rw[aT.pL (i:=j) (.inr aw)];by_cases ah:a<=i;.exact av8 j aw a4 i ah af
  rw[aT.pL (.inl (by omega))];exact h.vm i j ab af aw a4
 intro au j ab af;rw[aT.pL (i:=ae-1) (.inl (by omega))];have:eR (λx=>lt x (gt L (ae-1))=false) a b (gt M):=eR.part (λj aw a4=>h.pre au j (by omega) (by omega)) aT (by omega);by_cases aN:a<=j/\j<b
 .exact this j aN.1 aN.2
 rw[aT.pL (by omega)];exact h.pre au j ab af
theorem jO.right{ae fF a b m:Nat}{f:Nat->α}(h:jO lt ae fF a b f)(ab:a<=m)(af:m<b)(aH:ew lt a m f)(aq:eR (λx=>lt (f m) x=false) a m f)(av:eR (λx=>lt x (f m)=false) (m+1) b f)(aF:IE lt):jO lt ae fF (m+1) b f:=by
 have hle:=h.le;refine⟨⟨by omega,by omega,by omega⟩,?_,h.r,?_,λi j aV a2 bc cV=>h.vm i j aV a2 bc cV,h.pre⟩
 .refine ew.join h.l (ew.join aH (xh (by omega)) ?_) ?_
  .intro i j aV a2 bc cV;have:j=m:=by omega
   subst this;exact aq i aV a2
  intro i j aV a2 bc cV;exact h.lm i j aV a2 bc (by omega)
 intro i j aV a2 bc cV;by_cases ah:i<a;.exact h.lm i j aV ah (by omega) cV
 by_cases aN:j<b
 .have q:=av j bc aN;by_cases av9:i=m;.subst av9;exact q
  exact aF.tr _ _ _ (aq i (by omega) (by omega)) q
 exact h.vm i j aV (by omega) (by omega) cV
theorem jO.left{ae fF a b m:Nat}{f:Nat->α}(h:jO lt ae fF a b f)(ab:a<=m)(af:m<b)(aH:ew lt (m+1) b f)(aq:eR (λx=>lt (f m) x=false) a m f)(av:eR (λx=>lt x (f m)=false) (m+1) b f)(aF:IE lt):jO lt ae fF a m f:=by
 have hle:=h.le;refine⟨⟨by omega,by omega,by omega⟩,h.l,?_,λi j aV a2 bc cV=>h.lm i j aV a2 bc cV,?_,h.pre⟩
 .refine ew.join (ew.join (xh (xan (m+1))) aH ?_) h.r ?_
  .intro i j aV a2 bc cV;have:i=m:=by omega
   subst this;exact av j bc cV
  intro i j aV a2 bc cV;exact h.vm i j (by omega) a2 bc cV
 intro i j aV a2 bc cV;by_cases ah:i<a;.exact h.lm i j aV ah (by omega) cV
 by_cases aN:j<b
 .have q:=aq i (by omega) a2;by_cases T0:j=m;.subst T0;exact q
  exact aF.tr _ _ _ q (av j (by omega) aN)
 exact h.vm i j aV (by omega) (by omega) cV
theorem jO.eq{ae fF a b m:Nat}{f:Nat->α}{p:α}(h:jO lt ae fF a b f)(ab:a<=m)(af:m<=b)(aq:eR (λx=>lt p x=false) a m f)(aT:eR (λx=>lt x p=false) a b f)(av:eR (λx=>lt p x=true) m b f)(aF:IE lt):jO lt ae fF m b f:=by
 have hle:=h.le;have fv:∀i j,a<=i->i<m->a<=j->j<b->lt (f j) (f i)=false:=λi j aV a2 bc cV=>aF.tr _ _ _ (aq i aV a2) (aT j bc cV);refine⟨⟨by omega,by omega,by omega⟩,?_,h.r,?_,λi j aV a2 bc cV=>h.vm i j aV a2 bc cV,h.pre⟩
 .refine ew.join h.l (λi j aV a2 bc=>fv i j aV (by omega) (by omega) (by omega)) ?_;intro i j aV a2 bc cV;exact h.lm i j aV a2 bc (by omega)
 intro i j aV a2 bc cV;by_cases ah:i<a;.exact h.lm i j aV ah (by omega) cV
 by_cases aN:j<b;.exact fv i j (by omega) a2 (by omega) aN
 exact h.vm i j aV (by omega) (by omega) cV
end
def jP:IE blt where
 IF:=mq
 Af x y h:=by cases af:blt y x with|false=>rfl|true=>have:=q6 h af;rw[mq]at this;cases this
 tr x y z ab af:=by
  cases aw:blt z x with
  |false=>rfl
  |true=>
   rcases yr y x with h|h|h;.rw[ab]at h;cases h
   .subst h;rw[af]at aw;cases aw
   have:=q6 aw h;rw[af]at this;cases this
def aei:∀{l m:List ByteArray},hl l->hl m->(∀x,x∈l↔x∈m)->l=m
 |[],[],_,_,_=>rfl|[],b::m,_,_,h=>by have:=(h b).2 (by simp);cases this
 |a::l,[],_,_,h=>by have:=(h a).1 (by simp);cases this
 |a::l,b::m,ab,af,h=>by
  have fv:a=b:=by
   have aI:=(h a).1 (by simp);have aj:=(h b).2 (by simp);rcases xak.1 aI with e|e
   .exact e
   rcases xak.1 aj with aY|aY;.exact aY.symm
   have aV:=af.1 a e;have a2:=ab.1 b aY;have:=q6 aV a2;rw[mq]at this;cases this
  subst fv;have:=aei ab.2 af.2 λx=>by
   have ag:=h x;constructor
   .intro g;rcases xak.1 (ag.1 (xbW _ g))with e|e
    .subst e;have:=ab.1 x g;rw[mq]at this;cases this
    exact e
   intro g;rcases xak.1 (ag.2 (xbW _ g))with e|e
   .subst e;have:=af.1 x g;rw[mq]at this;cases this
   exact e
  rw[this]
def awa{s x:ByteArray}{l:List ByteArray}(h:hl l):x∈gu s l↔x=s\/x∈l:=by
 refine⟨KW,?_⟩;by_cases aH:s∈l
 .rw[KX h aH];rintro(rfl|af);.exact aH
  exact af
 obtain⟨a,b,ab,af,_⟩:=Q2 h aH;rw[af,ab];intro aw;simp only[xaq,xak]at aw⊢;grind
def NM:List ByteArray->Prop
 |[]=>True|a::r=>(∀x∈r,blt x a=false)/\NM r
def awb{l:List ByteArray}(h:ew blt 0 l.length (gt l)):NM l:=by
 induction l with
 |nil=>trivial
 |cons a r ih=>
  constructor
  .intro x ag;obtain⟨i,ah⟩:=List.getElem?_of_mem ag;have cr:=(xae.1 ah).1;have:=h 0 (i+1) (by omega) (by omega) (by simp;omega);have aK:gt (a::r) 0=a:=rfl;have aY:gt (a::r) (i+1)=x:=by simp[gt,xaQ,ah]
   rw[aK,aY]at this;exact this
  refine ih λi j ab af aw=>?_;have:=h (i+1) (j+1) (by omega) (by omega) (by simp;omega);simpa[gt,xaQ]using this
def np:List ByteArray->List ByteArray
 |[]=>[]|[a]=>[a]|a::b::r=>if a=b then np (b::r)else a::np (b::r)
def Uz:∀(l:List ByteArray)(x:ByteArray),x∈np l↔x∈l
 |[],x=>by simp[np]|[a],x=>by simp[np]
 |a::b::r,x=>by
  have ih:=Uz (b::r) x;simp only[np];split;.rename_i h;subst h;rw[ih];simp
  rw[xak,ih,xak (a:=x) (b:=a)]
def aej:∀{l:List ByteArray},NM l->hl (np l)
 |[],_=>trivial|[a],_=>⟨by simp,trivial⟩
 |a::b::r,h=>by
  have ih:=aej h.2;simp only[np];split;.exact ih
  rename_i fv;refine⟨?_,ih⟩;intro x ag;have ag:=(Uz _ _).1 ag;have g:=h.1 x ag;rcases yr a x with e|e|e
  .exact e
  ·
   subst e;rcases xak.1 ag with aY|aY
   .exact absurd aY fv
   have aV:=h.1 b (by simp);have a2:=h.2.1 a aY;rcases yr a b with bN|bN|bN
   .rw[a2]at bN;cases bN
   .exact absurd bN fv
   rw[aV]at bN;cases bN
  rw[g]at e;cases e
section
variable{α:Type}[Inhabited α](c:α->D)
def pM(L:List α):List (List D):=L.map λx=>[c x]
def c7{m i:Nat}(h:i<m):cd m (J (i:Int))=some i:=by rw[ox,xad h]
theorem cQ{L:List α}{i:Nat}(h:i<L.length):(pM c L)[i]?=some [c (gt L i)]:=by rw[pM,xaj,IG h];rfl
def mZ(L:List α)(i:Nat)(v:α):(pM c L).set i [c v]=pM c (L.set i v):=by simp[pM,List.map_set]
theorem eC(x:D):a3 false 1 0 [x]=some x:=rfl
theorem m0(w v:D):dD [w] 0 [v]=[v]:=rfl
def gN(L:List α):(pM c L).length=L.length:=by simp[pM]
def NN{L:List α}{i:Nat}(h:i<L.length):bo 1 (D.ax 1 (pM c L)) (J (i:Int))=some [c (gt L i)]:=by rw[ako (Int.natCast_nonneg i),Int.toNat_natCast];exact cQ c h
def mB{L:List α}{i j:Nat}(ah:i<L.length)(aN:j<L.length):(L.set i (gt L j)).set j (gt L i)=eI L i j:=avZ (IG ah) (IG aN)
end
section
variable{bt:Bool}{a b:Nat}
theorem qv(h:a+b<4000000000000000000):ai bt .add (J (a:Int)) (J (b:Int))=some (J ((a+b:Nat):Int)):=by rw[gj (by omega) (by omega)];rfl
def qw(h:b<=a)(bz:a<4000000000000000000):ai bt .sub (J (a:Int)) (J (b:Int))=some (J ((a-b:Nat):Int)):=by rw[mm (by omega) (by omega)];congr 2;omega
def kM(h:1<=a)(bz:a<4000000000000000000):ai bt .sub (J (a:Int)) (J 1)=some (J ((a-1:Nat):Int)):=by rw[mm (by omega) (by omega)];congr 2;omega
def NO{k:Nat}(ak:0<k)(h:a<4000000000000000000)(bz:k<1000):ai bt .quo (J (a:Int)) (J (k:Int))=some (J ((a/k:Nat):Int)):=by
 have e:Int.tdiv (a:Int) (k:Int)=((a/k:Nat):Int):=by rw[Int.tdiv_eq_ediv_of_nonneg (by omega)];exact(Int.natCast_ediv a k).symm
 have bk:a/k<=a:=Nat.div_le_self a k;rw[Yr (by omega),e];generalize a/k=q at*;rw[wrap64 _ (by omega) (by omega)]
end
def iv(n:Nat)(x y:ByteArray):jn n [aB x,aB y]=some (ay (blt x y)):=by simp[jn,ZK,GA,ZJ]
abbrev cw(L:List ByteArray):D:=D.ax 1 (pM aB L)
def awc(n:Nat)(bV:List ByteArray)(a i:Nat)(B:D)(pN:a<=i)(ah:i<bV.length)(bP:bV.length<1000000000)(aL:bV.length<n)(aH:ew blt a i (gt bV)): ∃bA,bp (B0 n) n [J (a:Int),B,J (i:Int),J (i:Int),cw bV]=some (.inl [J (a:Int),B,J (i:Int),cw bA])/\Part a (i+1) bV bA/\ew blt a (i+1) (gt bA):=by
 have key:=kL (f:=B0 n) (S:=Nat×List ByteArray) (λs=>[J (a:Int),B,J (i:Int),J (s.1:Int),cw s.2]) (λs=>s.1) (λs=>a<=s.1/\s.1<=i/\Part a (i+1) bV s.2/\Dv blt a s.1 i (gt s.2)) (λr=>∃bA,r= .inl [J (a:Int),B,J (i:Int),cw bA]/\Part a (i+1) bV bA/\ew blt a (i+1) (gt bA)) ?_ n (i,bV) ⟨pN,xan _,Part.refl _ _ _,aeg aH⟩ (by simp only;omega);.obtain⟨r,ab,bA,rfl,af,aw⟩:=key;exact⟨bA,ab,af,aw⟩
 rintro⟨j,L⟩ ⟨aV,a2,bc,cV⟩;simp only at aV a2 bc cV⊢;have b5:=bc.len;by_cases aN:a=j
 .subst aN;right;refine⟨_,?_,L,rfl,bc,NK jP cV (xan _) (.inl rfl)⟩;simp only[B0,go_sem,yF ((a:Int)>(a:Int)),ef,dY]
 have cL:j<L.length:=by omega
 have kN:j-1<L.length:=by omega
 have aK:ai false .sub (J (j:Int)) (J 1)=some (J ((j-1:Nat):Int)):=kM (by omega) (by omega);by_cases aj:blt (gt L j) (gt L (j-1))=true
 .left;refine⟨(j-1,eI L j (j-1)),?_,⟨by omega,by omega,bc.trans (Part.eI (by omega) (by omega) (by omega) (by omega) (by omega)),?_⟩,by simp;omega⟩
  .simp only[B0,go_sem,yT ((j:Int)>(a:Int)),ef,dY,c7 cL,c7 kN,cQ aB cL,cQ aB kN,eC,aK,iv,aj,m0,mZ,gN,xaZ];have bC:j-1<(L.set j (gt L (j-1))).length:=by simpa using kN
   simp only[cQ aB bC,m0,mZ,eF,mB cL kN]
  rw[rW cL kN];exact aeh jP cV (by omega) a2 aj
 right;have aj:blt (gt L j) (gt L (j-1))=false:=by simpa using aj
 refine⟨_,?_,L,rfl,bc,NK jP cV aV (.inr aj)⟩;simp only[B0,go_sem,yT ((j:Int)>(a:Int)),ef,dY,c7 cL,c7 kN,cQ aB cL,cQ aB kN,eC,aK,iv,aj,gN]
def awd(n:Nat)(bV:List ByteArray)(a b:Nat)(fv:a<=b)(aj:b<=bV.length)(bP:bV.length<1000000000)(aL:bV.length+1<n): ∃bA,B1 n [J (a:Int),J (b:Int),cw bV]=some [D.a1 [],cw bA]/\Part a b bV bA/\ew blt a b (gt bA):=by
 have key:=kL (f:=LP n) (S:=Nat×List ByteArray) (λs=>[J (a:Int),J (b:Int),J (s.1:Int),cw s.2]) (λs=>b-s.1) (λs=>a+1<=s.1/\(s.1<=b\/s.1=a+1)/\Part a b bV s.2/\ew blt a s.1 (gt s.2)) (λr=>∃bA,r= .inl [cw bA]/\Part a b bV bA/\ew blt a b (gt bA)) ?_ n (a+1,bV) ⟨xan _,.inr rfl,Part.refl _ _ _,xh (xan _)⟩ (by simp only;omega);.obtain⟨r,ab,bA,rfl,af,aw⟩:=key;refine⟨bA,?_,af,aw⟩;have bH:ai false .add (J (a:Int)) (J 1)=some (J ((a+1:Nat):Int)):=b2 (by omega);simp only[B1,go_sem,bH,ab]
 rintro⟨i,L⟩ ⟨aV,a2,bc,cV⟩;simp only at aV a2 bc cV⊢;have b5:=bc.len;by_cases ah:i<b
 .left;obtain⟨bA,ab,af,aw⟩:=awc n L a i (J (b:Int)) (by omega) (by omega) (by omega) (by omega) cV;have aK:ai false .add (J (i:Int)) (J 1)=some (J ((i+1:Nat):Int)):=b2 (by omega);refine⟨(i+1,bA),?_,⟨by omega,.inl ah,bc.trans (af.mono (xan _) ah),aw⟩,by simp only;omega⟩;simp only[LP,go_sem,yT ((i:Int)<(b:Int)),ab,aK]
 right;refine⟨_,?_,L,rfl,bc,cV.mono (xan _) (by omega)⟩;simp only[LP,go_sem,yF ((i:Int)<(b:Int))]
def awe(n:Nat)(bV:List ByteArray)(a b:Nat)(fv:a<b)(aj:b<=bV.length)(bP:bV.length<1000000000)(aL:bV.length+1<n): ∃bA,B5 n [J (a:Int),J (b:Int),cw bV]=some [D.a1 [],cw bA]/\Part a b bV bA:=by
 have key:=kL (f:=LU n) (S:=Nat×Nat×List ByteArray) (λs=>[J (s.1:Int),J (s.2.1:Int),cw s.2.2]) (λs=>s.2.1+1-s.1) (λs=>a<=s.1/\s.1<=s.2.1+1/\s.2.1<b/\Part a b bV s.2.2) (λr=>∃bA,r= .inl [cw bA]/\Part a b bV bA) ?_ n (a,b-1,bV) ⟨xan _,by simp only;omega,by simp only;omega,Part.refl _ _ _⟩ (by simp only;omega);.obtain⟨r,ab,bA,rfl,af⟩:=key;refine⟨bA,?_,af⟩;have bH:ai false .sub (J (b:Int)) (J 1)=some (J ((b-1:Nat):Int)):=kM (by omega) (by omega);simp only[B5,go_sem,bH,ab]
 rintro⟨i,j,L⟩ ⟨aV,a2,bc,cV⟩;simp only at aV a2 bc cV⊢;have b5:=cV.len;by_cases ah:i<j
 .left;have cj:i<L.length:=by omega
  have cL:j<L.length:=by omega
  have Ag:j<(L.set i (gt L j)).length:=by simpa using cL
  have aK:ai false .add (J (i:Int)) (J 1)=some (J ((i+1:Nat):Int)):=b2 (by omega);have aY:ai false .sub (J (j:Int)) (J 1)=some (J ((j-1:Nat):Int)):=kM (by omega) (by omega);refine⟨(i+1,j-1,eI L i j),?_,⟨by simp only;omega,by simp only;omega,by simp only;omega,cV.trans (Part.eI (by omega) (by omega) (by omega) (by omega) (by omega))⟩,by simp only;omega⟩;simp only[LU,go_sem,yT ((i:Int)<(j:Int)),c7 cj,c7 cL,cQ aB cj,cQ aB cL,eC,m0,mZ,gN,xaZ,aK,aY,cQ aB Ag,mB cj cL]
 right;refine⟨_,?_,L,rfl,cV⟩;simp only[LU,go_sem,yF ((i:Int)<(j:Int))]
theorem awf{bt:Bool}{a:Nat}(h:a<1000000000):ai bt .mul (J 2) (J (a:Int))=some (J ((2*a:Nat):Int)):=by rw[KL (by omega) (by omega)];rfl
def aek(n:Nat)(bV:List ByteArray)(z lo ah:Nat)(hA:lo<=ah)(bx:z+ah<=bV.length)(bP:bV.length<1000000000)(aL:bV.length+1<n)(aT:oS blt z (lo+1) ah (gt bV)): ∃bA,uH n [J (lo:Int),J (ah:Int),J (z:Int),cw bV]=some [D.a1 [],cw bA]/\Part (z+lo) (z+ah) bV bA/\oS blt z lo ah (gt bA):=by
 have key:=kL (f:=uG n) (S:=Nat×List ByteArray) (λs=>[J (ah:Int),J (z:Int),J (s.1:Int),cw s.2]) (λs=>ah-s.1) (λs=>lo<=s.1/\s.1<=ah/\Part (z+lo) (z+ah) bV s.2/\IH blt z lo ah s.1 (gt s.2)) (λr=>∃bA,(r= .inl [cw bA]\/r= .inr [D.a1 [],cw bA])/\Part (z+lo) (z+ah) bV bA/\oS blt z lo ah (gt bA)) ?_ n (lo,bV) ⟨xan _,hA,Part.refl _ _ _,av4 aT⟩ (by simp only;omega)
 .obtain⟨r,ab,bA,av,af,aw⟩:=key;refine⟨bA,?_,af,aw⟩;rcases av with rfl|rfl;.simp only[uH,go_sem,ab]
  simp only[uH,go_sem,ab]
 rintro⟨x,L⟩ ⟨aV,a2,bc,cV⟩;simp only at aV a2 bc cV⊢;have b5:=bc.len;have aK:ai false .mul (J 2) (J (x:Int))=some (J ((2*x:Nat):Int)):=awf (by omega);have aY:ai false .add (J ((2*x:Nat):Int)) (J 1)=some (J ((2*x+1:Nat):Int)):=b2 (by omega);have bN:ai false .add (J ((2*x+1:Nat):Int)) (J 1)=some (J ((2*x+2:Nat):Int)):=b2 (by omega);by_cases an:ah<=2*x+1
 .right;refine⟨_,?_,L,.inl rfl,bc,NL cV λc ab af=>by omega⟩;simp only[uG,go_sem,aK,aY,yT (((2*x+1:Nat):Int)>=(ah:Int))]
 have ag:z+x<L.length:=by omega
 have qx:z+(2*x+1)<L.length:=by omega
 have ao:ai false .add (J (z:Int)) (J ((2*x+1:Nat):Int))=some (J ((z+(2*x+1):Nat):Int)):=qv (by omega);have ba:ai false .add (J ((z+(2*x+1):Nat):Int)) (J 1)=some (J ((z+(2*x+2):Nat):Int)):=b2 (by omega);have b6:ai false .add (J (z:Int)) (J (x:Int))=some (J ((z+x:Nat):Int)):=qv (by omega);by_cases aH:2*x+2<ah
 .have iU:z+(2*x+2)<L.length:=by omega
  have aA:=yT (((2*x+2:Nat):Int)<(ah:Int));by_cases eT:blt (gt L (z+(2*x+1))) (gt L (z+(2*x+2)))=true
  .have qH:∀c,(c=2*x+1\/c=2*x+2)->c<ah->blt (gt L (z+(2*x+2))) (gt L (z+c))=false:=by
    rintro c (rfl|rfl) h;.exact jP.Af _ _ eT
    exact jP.IF _
   have aP:z+(2*x+2)<L.length:=by omega
   have II:z+(2*x+2)<(L.set (z+x) (gt L (z+(2*x+2)))).length:=by simpa using aP
   have cJ:ai false .add (J (z:Int)) (J ((2*x+2:Nat):Int))=some (J ((z+(2*x+2):Nat):Int)):=qv (by omega);by_cases aj:blt (gt L (z+x)) (gt L (z+(2*x+2)))=true
   .left;refine⟨(2*x+2,eI L (z+x) (z+(2*x+2))),?_,⟨by simp only;omega,by simp only;omega,bc.trans (Part.eI (by omega) (by omega) (by omega) (by omega) (by omega)),?_⟩,by simp only;omega⟩;.simp only[uG,go_sem,aK,aY,yF (((2*x+1:Nat):Int)>=(ah:Int)),bN,aA,c7 iU,cQ aB iU,eT,ef,dY,ao,ba,b6,cJ,c7 ag,c7 qx,c7 aP,cQ aB ag,cQ aB qx,cQ aB aP,eC,m0,mZ,gN,xaZ,iv,aj,cQ aB II,mB ag aP]
    rw[rW ag aP];exact Uy jP cV aV (by omega) (by omega) qH aj
   right;have aj:blt (gt L (z+x)) (gt L (z+(2*x+2)))=false:=by simpa using aj
   refine⟨_,?_,L,.inr rfl,bc,NL cV λc ab af=>jP.tr _ _ _ (qH c ab af) aj⟩;simp only[uG,go_sem,aK,aY,yF (((2*x+1:Nat):Int)>=(ah:Int)),bN,aA,c7 iU,cQ aB iU,eT,ef,dY,ao,ba,b6,cJ,c7 ag,c7 qx,c7 aP,cQ aB ag,cQ aB qx,cQ aB aP,eC,gN,iv,aj]
  have eT:blt (gt L (z+(2*x+1))) (gt L (z+(2*x+2)))=false:=by simpa using eT
  have qH:∀c,(c=2*x+1\/c=2*x+2)->c<ah->blt (gt L (z+(2*x+1))) (gt L (z+c))=false:=by
   rintro c (rfl|rfl) h;.exact jP.IF _
   exact eT
  have aP:z+(2*x+1)<L.length:=by omega
  have II:z+(2*x+1)<(L.set (z+x) (gt L (z+(2*x+1)))).length:=by simpa using aP
  have cJ:ai false .add (J (z:Int)) (J ((2*x+1:Nat):Int))=some (J ((z+(2*x+1):Nat):Int)):=qv (by omega);by_cases aj:blt (gt L (z+x)) (gt L (z+(2*x+1)))=true
  .left;refine⟨(2*x+1,eI L (z+x) (z+(2*x+1))),?_,⟨by simp only;omega,by simp only;omega,bc.trans (Part.eI (by omega) (by omega) (by omega) (by omega) (by omega)),?_⟩,by simp only;omega⟩;.simp only[uG,go_sem,aK,aY,yF (((2*x+1:Nat):Int)>=(ah:Int)),bN,aA,c7 iU,cQ aB iU,eT,ef,dY,ao,ba,b6,cJ,c7 ag,c7 qx,c7 aP,cQ aB ag,cQ aB qx,cQ aB aP,eC,m0,mZ,gN,xaZ,iv,aj,cQ aB II,mB ag aP]
   rw[rW ag aP];exact Uy jP cV aV (by omega) (by omega) qH aj
  right;have aj:blt (gt L (z+x)) (gt L (z+(2*x+1)))=false:=by simpa using aj
  refine⟨_,?_,L,.inr rfl,bc,NL cV λc ab af=>jP.tr _ _ _ (qH c ab af) aj⟩;simp only[uG,go_sem,aK,aY,yF (((2*x+1:Nat):Int)>=(ah:Int)),bN,aA,c7 iU,cQ aB iU,eT,ef,dY,ao,ba,b6,cJ,c7 ag,c7 qx,c7 aP,cQ aB ag,cQ aB qx,cQ aB aP,eC,gN,iv,aj]
 have aA:=yF (((2*x+2:Nat):Int)<(ah:Int));have qH:∀c,(c=2*x+1\/c=2*x+2)->c<ah->blt (gt L (z+(2*x+1))) (gt L (z+c))=false:=by
  rintro c (rfl|rfl) h;.exact jP.IF _
  omega
 have aP:z+(2*x+1)<L.length:=by omega
 have II:z+(2*x+1)<(L.set (z+x) (gt L (z+(2*x+1)))).length:=by simpa using aP
 have cJ:ai false .add (J (z:Int)) (J ((2*x+1:Nat):Int))=some (J ((z+(2*x+1):Nat):Int)):=qv (by omega);by_cases aj:blt (gt L (z+x)) (gt L (z+(2*x+1)))=true
 .left;refine⟨(2*x+1,eI L (z+x) (z+(2*x+1))),?_,⟨by simp only;omega,by simp only;omega,bc.trans (Part.eI (by omega) (by omega) (by omega) (by omega) (by omega)),?_⟩,by simp only;omega⟩;.simp only[uG,go_sem,aK,aY,yF (((2*x+1:Nat):Int)>=(ah:Int)),bN,aA,ef,dY,ao,ba,b6,cJ,c7 ag,c7 qx,c7 aP,cQ aB ag,cQ aB qx,cQ aB aP,eC,m0,mZ,gN,xaZ,iv,aj,cQ aB II,mB ag aP]
  rw[rW ag aP];exact Uy jP cV aV (by omega) (by omega) qH aj
 right;have aj:blt (gt L (z+x)) (gt L (z+(2*x+1)))=false:=by simpa using aj
 refine⟨_,?_,L,.inr rfl,bc,NL cV λc ab af=>jP.tr _ _ _ (qH c ab af) aj⟩;simp only[uG,go_sem,aK,aY,yF (((2*x+1:Nat):Int)>=(ah:Int)),bN,aA,ef,dY,ao,ba,b6,cJ,c7 ag,c7 qx,c7 aP,cQ aB ag,cQ aB qx,cQ aB aP,eC,gN,iv,aj]
def awg(n:Nat)(bV:List ByteArray)(z ah:Nat)(ab:1<=ah)(bx:z+ah<=bV.length)(bP:bV.length<1000000000)(aL:bV.length+1<n): ∃bA,bp (GB n) n [J (z:Int),J 0,J (ah:Int),J (((ah-1)/2:Nat):Int),cw bV]=some (.inl [J (z:Int),J 0,J (ah:Int),cw bA])/\Part z (z+ah) bV bA/\oS blt z 0 ah (gt bA):=by
 have key:=kL (f:=GB n) (S:=Nat×List ByteArray) (λs=>[J (z:Int),J 0,J (ah:Int),J ((s.1:Int)-1),cw s.2]) (λs=>s.1) (λs=>s.1<=ah/\Part z (z+ah) bV s.2/\oS blt z s.1 ah (gt s.2)) (λr=>∃bA,r= .inl [J (z:Int),J 0,J (ah:Int),cw bA]/\Part z (z+ah) bV bA/\oS blt z 0 ah (gt bA)) ?_ n ((ah-1)/2+1,bV) ⟨by simp only;omega,Part.refl _ _ _,λr c ab af aw=>by omega⟩ (by simp only;omega)
 .obtain⟨r,ab,bA,rfl,af,aw⟩:=key;have e:((((ah-1)/2+1:Nat):Int)-1)=(((ah-1)/2:Nat):Int):=by omega
  simp only[e]at ab;exact⟨bA,ab,af,aw⟩
 rintro⟨k,L⟩ ⟨aV,a2,bc⟩;simp only at aV a2 bc⊢;have b5:=a2.len;cases k with
 |zero=>right;refine⟨_,?_,L,rfl,a2,bc⟩;simp only[GB,go_sem,yF ((((0:Nat):Int)-1)>=0)]
 |succ m=>
  left;obtain⟨bA,bC,bD,cy⟩:=aek n L z m ah (by omega) (by omega) (by omega) (by omega) bc;have e:(((m+1:Nat):Int)-1)=(m:Int):=by omega
  have aK:ai false .sub (J (m:Int)) (J 1)=some (J ((m:Int)-1)):=mm (by omega) (by omega);refine⟨(m,bA),?_,⟨by simp only;omega,a2.trans (bD.mono (by omega) (xan _)),cy⟩,by simp only;omega⟩;simp only[GB,go_sem,e,yT ((m:Int)>=0),bC,aK]
def awh(n:Nat)(bV:List ByteArray)(z ah:Nat)(bx:z+ah<=bV.length)(bP:bV.length<1000000000)(aL:bV.length+1<n)(aT:oS blt z 0 ah (gt bV)): ∃bA,bp (GC n) n [J (z:Int),J 0,J ((ah:Int)-1),cw bV]=some (.inl [cw bA])/\Part z (z+ah) bV bA/\ew blt z (z+ah) (gt bA):=by
 have key:=kL (f:=GC n) (S:=Nat×List ByteArray) (λs=>[J (z:Int),J 0,J ((s.1:Int)-1),cw s.2]) (λs=>s.1) (λs=>s.1<=ah/\Part z (z+ah) bV s.2/\tB blt z s.1 ah (gt s.2)) (λr=>∃bA,r= .inl [cw bA]/\Part z (z+ah) bV bA/\ew blt z (z+ah) (gt bA)) ?_ n (ah,bV) ⟨xan _,Part.refl _ _ _,tB.start aT⟩ (by simp only;omega);.obtain⟨r,ab,bA,rfl,af,aw⟩:=key;exact⟨bA,ab,af,aw⟩
 rintro⟨k,L⟩ ⟨aV,a2,bc⟩;simp only at aV a2 bc⊢;have b5:=a2.len;cases k with
 |zero=>right;refine⟨_,?_,L,rfl,a2,by simpa using bc.s⟩;simp only[GC,go_sem,yF ((((0:Nat):Int)-1)>=0)]
 |succ m=>
  left;have Ab:z<L.length:=by omega
  have IJ:z+m<L.length:=by omega
  obtain⟨s1,s2,gH⟩:=tB.swap jP bc aV;rw[<-rW Ab IJ]at s1 s2 gH;have gh:=ID L z (z+m);obtain⟨bA,bC,bD,cy⟩:=aek n (eI L z (z+m)) z 0 m (by omega) (by omega) (by omega) (by omega) s1;have bC:uH n [J 0,J (m:Int),J (z:Int),cw (eI L z (z+m))]=some [D.a1 [],cw bA]:=bC;have e:(((m+1:Nat):Int)-1)=(m:Int):=by omega
  have aK:ai false .sub (J (m:Int)) (J 1)=some (J ((m:Int)-1)):=mm (by omega) (by omega);have aY:ai false .add (J (z:Int)) (J (m:Int))=some (J ((z+m:Nat):Int)):=qv (by omega);have awi:z+m<(L.set z (gt L (z+m))).length:=by simpa using IJ
  refine⟨(m,bA),?_,⟨by simp only;omega,(a2.trans (Part.eI (xan _) (by omega) (by omega) (by omega) (by omega))).trans (bD.mono (by omega) (by omega)),tB.next (bD.mono (by omega) (xan _)) (by omega) (by omega) cy s2 gH⟩,by simp only;omega⟩;simp only[GC,go_sem,e,yT ((m:Int)>=0),aY,c7 Ab,c7 IJ,cQ aB Ab,cQ aB IJ,eC,m0,mZ,gN,xaZ,cQ aB awi,mB Ab IJ,bC,aK]
def awj(n:Nat)(bV:List ByteArray)(a b:Nat)(fv:a<b)(aj:b<=bV.length)(bP:bV.length<1000000000)(aL:bV.length+1<n): ∃bA,B4 n [J (a:Int),J (b:Int),cw bV]=some [D.a1 [],cw bA]/\Part a b bV bA/\ew blt a b (gt bA):=by
 obtain⟨Dw,dz,dh,eK⟩:=awg n bV a (b-a) (by omega) (by omega) bP aL;have nt:=dh.len;obtain⟨iJ,bC,bD,cy⟩:=awh n Dw a (b-a) (by omega) (by omega) (by omega) eK;have e:a+(b-a)=b:=by omega
 rw[e]at dh bD cy;refine⟨iJ,?_,dh.trans bD,cy⟩;have aK:ai false .sub (J (b:Int)) (J (a:Int))=some (J ((b-a:Nat):Int)):=qw (by omega) (by omega);have aY:ai false .sub (J ((b-a:Nat):Int)) (J 1)=some (J ((b-a-1:Nat):Int)):=kM (by omega) (by omega);have bN:ai false .quo (J ((b-a-1:Nat):Int)) (J 2)=some (J (((b-a-1)/2:Nat):Int)):=NO (k:=2) (by omega) (by omega) (by omega);have cN:(((b-a-1:Nat):Int))=((b-a:Nat):Int)-1:=by omega
 have eb:ai false .sub (J ((b-a:Nat):Int)) (J 1)=some (J (((b-a:Nat):Int)-1)):=by rw[aY,cN]
 simp only[B4,go_sem,aK,aY,bN,dz];rw[cN,bC];rfl
def awk(n:Nat)(L:List ByteArray)(a i j:Nat)(pN:a<i)(gF:i<=j+1)(aN:j<L.length)(bP:L.length<1000000000)(aL:L.length+1<n): ∃cl:Nat,bp (Cb n) n [J (a:Int),J (i:Int),J (j:Int),cw L]=some (.inl [J (a:Int),J (cl:Int),J (j:Int),cw L])/\i<=cl/\cl<=j+1/\eR (λx=>blt x (gt L a)=true) i cl (gt L)/\(cl<=j->blt (gt L cl) (gt L a)=false):=by
 have key:=kL (f:=Cb n) (S:=Nat) (λs=>[J (a:Int),J (s:Int),J (j:Int),cw L]) (λs=>j+1-s) (λs=>i<=s/\s<=j+1/\eR (λx=>blt x (gt L a)=true) i s (gt L)) (λr=>∃cl:Nat,r= .inl [J (a:Int),J (cl:Int),J (j:Int),cw L]/\i<=cl/\cl<=j+1/\eR (λx=>blt x (gt L a)=true) i cl (gt L)/\(cl<=j->blt (gt L cl) (gt L a)=false)) ?_ n i ⟨xan _,gF,λk ab af=>by omega⟩ (by omega);.obtain⟨r,ab,cl,rfl,af⟩:=key;exact⟨cl,ab,af⟩
 rintro s ⟨aV,a2,bc⟩;by_cases aH:s<=j
 .have gh:s<L.length:=by omega
  have fs:a<L.length:=by omega
  by_cases aj:blt (gt L s) (gt L a)=true
  .left;have aK:ai false .add (J (s:Int)) (J 1)=some (J ((s+1:Nat):Int)):=b2 (by omega);refine⟨s+1,?_,⟨by omega,by omega,λk ab af=>?_⟩,by omega⟩
   .simp only[Cb,go_sem,yT ((s:Int)<=(j:Int)),ef,dY,c7 gh,c7 fs,cQ aB gh,cQ aB fs,eC,gN,iv,aj,aK]
   by_cases ak:k=s;.subst ak;exact aj
   exact bc k ab (by omega)
  right;have aj:blt (gt L s) (gt L a)=false:=by simpa using aj
  refine⟨_,?_,s,rfl,aV,a2,bc,λ_=>aj⟩;simp only[Cb,go_sem,yT ((s:Int)<=(j:Int)),ef,dY,c7 gh,c7 fs,cQ aB gh,cQ aB fs,eC,gN,iv,aj]
 right;refine⟨_,?_,s,rfl,aV,a2,bc,λh=>absurd h aH⟩;simp only[Cb,go_sem,yF ((s:Int)<=(j:Int)),ef,dY]
def awl(n:Nat)(L:List ByteArray)(a i j:Nat)(pN:a<i)(gF:i<=j+1)(aN:j<L.length)(bP:L.length<1000000000)(aL:L.length+1<n): ∃cl:Nat,bp (Cd n) n [J (a:Int),J (i:Int),J (j:Int),cw L]=some (.inl [J (a:Int),J (cl:Int),J (j:Int),cw L])/\i<=cl/\cl<=j+1/\eR (λx=>blt x (gt L a)=true) i cl (gt L)/\(cl<=j->blt (gt L cl) (gt L a)=false):=by
 have key:=kL (f:=Cd n) (S:=Nat) (λs=>[J (a:Int),J (s:Int),J (j:Int),cw L]) (λs=>j+1-s) (λs=>i<=s/\s<=j+1/\eR (λx=>blt x (gt L a)=true) i s (gt L)) (λr=>∃cl:Nat,r= .inl [J (a:Int),J (cl:Int),J (j:Int),cw L]/\i<=cl/\cl<=j+1/\eR (λx=>blt x (gt L a)=true) i cl (gt L)/\(cl<=j->blt (gt L cl) (gt L a)=false)) ?_ n i ⟨xan _,gF,λk ab af=>by omega⟩ (by omega);.obtain⟨r,ab,cl,rfl,af⟩:=key;exact⟨cl,ab,af⟩
 rintro s ⟨aV,a2,bc⟩;by_cases aH:s<=j
 .have gh:s<L.length:=by omega
  have fs:a<L.length:=by omega
  by_cases aj:blt (gt L s) (gt L a)=true
  .left;have aK:ai false .add (J (s:Int)) (J 1)=some (J ((s+1:Nat):Int)):=b2 (by omega);refine⟨s+1,?_,⟨by omega,by omega,λk ab af=>?_⟩,by omega⟩
   .simp only[Cd,go_sem,yT ((s:Int)<=(j:Int)),ef,dY,c7 gh,c7 fs,cQ aB gh,cQ aB fs,eC,gN,iv,aj,aK]
   by_cases ak:k=s;.subst ak;exact aj
   exact bc k ab (by omega)
  right;have aj:blt (gt L s) (gt L a)=false:=by simpa using aj
  refine⟨_,?_,s,rfl,aV,a2,bc,λ_=>aj⟩;simp only[Cd,go_sem,yT ((s:Int)<=(j:Int)),ef,dY,c7 gh,c7 fs,cQ aB gh,cQ aB fs,eC,gN,iv,aj]
 right;refine⟨_,?_,s,rfl,aV,a2,bc,λh=>absurd h aH⟩;simp only[Cd,go_sem,yF ((s:Int)<=(j:Int)),ef,dY]
def awm(n:Nat)(L:List ByteArray)(a i j:Nat)(pN:a<i)(gF:i<=j+1)(aN:j<L.length)(bP:L.length<1000000000)(aL:L.length+1<n): ∃dk:Nat,bp (Cc n) n [J (a:Int),J (i:Int),J (j:Int),cw L]=some (.inl [J (a:Int),J (i:Int),J (dk:Int),cw L])/\i<=dk+1/\dk<=j/\eR (λx=>blt x (gt L a)=false) (dk+1) (j+1) (gt L)/\(i<=dk->blt (gt L dk) (gt L a)=true):=by
 have key:=kL (f:=Cc n) (S:=Nat) (λs=>[J (a:Int),J (i:Int),J (s:Int),cw L]) (λs=>s) (λs=>i<=s+1/\s<=j/\eR (λx=>blt x (gt L a)=false) (s+1) (j+1) (gt L)) (λr=>∃dk:Nat,r= .inl [J (a:Int),J (i:Int),J (dk:Int),cw L]/\i<=dk+1/\dk<=j/\eR (λx=>blt x (gt L a)=false) (dk+1) (j+1) (gt L)/\(i<=dk->blt (gt L dk) (gt L a)=true)) ?_ n j ⟨gF,xan _,λk ab af=>by omega⟩ (by omega);.obtain⟨r,ab,dk,rfl,af⟩:=key;exact⟨dk,ab,af⟩
 rintro s ⟨aV,a2,bc⟩;by_cases aH:i<=s
 .have gh:s<L.length:=by omega
  have fs:a<L.length:=by omega
  by_cases aj:blt (gt L s) (gt L a)=true;.right;refine⟨_,?_,s,rfl,aV,a2,bc,λ_=>aj⟩;simp only[Cc,go_sem,yT ((i:Int)<=(s:Int)),ef,dY,c7 gh,c7 fs,cQ aB gh,cQ aB fs,eC,gN,iv,aj]
  left;have aj:blt (gt L s) (gt L a)=false:=by simpa using aj
  have aK:ai false .sub (J (s:Int)) (J 1)=some (J ((s-1:Nat):Int)):=kM (by omega) (by omega);refine⟨s-1,?_,⟨by omega,by omega,λk ab af=>?_⟩,by omega⟩;.simp only[Cc,go_sem,yT ((i:Int)<=(s:Int)),ef,dY,c7 gh,c7 fs,cQ aB gh,cQ aB fs,eC,gN,iv,aj,aK]
  by_cases ak:k=s;.subst ak;exact aj
  exact bc k (by omega) af
 right;refine⟨_,?_,s,rfl,aV,a2,bc,λh=>absurd h aH⟩;simp only[Cc,go_sem,yF ((i:Int)<=(s:Int)),ef,dY]
def awn(n:Nat)(L:List ByteArray)(a i j:Nat)(pN:a<i)(gF:i<=j+1)(aN:j<L.length)(bP:L.length<1000000000)(aL:L.length+1<n): ∃dk:Nat,bp (Ce n) n [J (a:Int),J (i:Int),J (j:Int),cw L]=some (.inl [J (a:Int),J (i:Int),J (dk:Int),cw L])/\i<=dk+1/\dk<=j/\eR (λx=>blt x (gt L a)=false) (dk+1) (j+1) (gt L)/\(i<=dk->blt (gt L dk) (gt L a)=true):=by
 have key:=kL (f:=Ce n) (S:=Nat) (λs=>[J (a:Int),J (i:Int),J (s:Int),cw L]) (λs=>s) (λs=>i<=s+1/\s<=j/\eR (λx=>blt x (gt L a)=false) (s+1) (j+1) (gt L)) (λr=>∃dk:Nat,r= .inl [J (a:Int),J (i:Int),J (dk:Int),cw L]/\i<=dk+1/\dk<=j/\eR (λx=>blt x (gt L a)=false) (dk+1) (j+1) (gt L)/\(i<=dk->blt (gt L dk) (gt L a)=true)) ?_ n j ⟨gF,xan _,λk ab af=>by omega⟩ (by omega);.obtain⟨r,ab,dk,rfl,af⟩:=key;exact⟨dk,ab,af⟩
 rintro s ⟨aV,a2,bc⟩;by_cases aH:i<=s
 .have gh:s<L.length:=by omega
  have fs:a<L.length:=by omega
  by_cases aj:blt (gt L s) (gt L a)=true;.right;refine⟨_,?_,s,rfl,aV,a2,bc,λ_=>aj⟩;simp only[Ce,go_sem,yT ((i:Int)<=(s:Int)),ef,dY,c7 gh,c7 fs,cQ aB gh,cQ aB fs,eC,gN,iv,aj]
  left;have aj:blt (gt L s) (gt L a)=false:=by simpa using aj
  have aK:ai false .sub (J (s:Int)) (J 1)=some (J ((s-1:Nat):Int)):=kM (by omega) (by omega);refine⟨s-1,?_,⟨by omega,by omega,λk ab af=>?_⟩,by omega⟩;.simp only[Ce,go_sem,yT ((i:Int)<=(s:Int)),ef,dY,c7 gh,c7 fs,cQ aB gh,cQ aB fs,eC,gN,iv,aj,aK]
  by_cases ak:k=s;.subst ak;exact aj
  exact bc k (by omega) af
 right;refine⟨_,?_,s,rfl,aV,a2,bc,λh=>absurd h aH⟩;simp only[Ce,go_sem,yF ((i:Int)<=(s:Int)),ef,dY]
structure pO(bV:List ByteArray)(a b i j:Nat)(p:ByteArray)(L:List ByteArray):Prop where
 qy:a<i
 xi:i<=j+1
 qz:j<b
 tC:Part a b bV L
 pv:gt L a=p
 lo:eR (λx=>blt x p=true) (a+1) i (gt L)
 ah:eR (λx=>blt x p=false) (j+1) b (gt L)
def pO.step{bV L:List ByteArray}{a b i j cl dk:Nat}{p:ByteArray}(h:pO bV a b i j p L)(ab:i<=cl)(af:cl<=j+1)(aw:eR (λx=>blt x p=true) i cl (gt L))(a4:cl<=dk+1)(b7:dk<=j)(cO:eR (λx=>blt x p=false) (dk+1) (j+1) (gt L)):pO bV a b cl dk p L:=⟨by have:=h.qy;omega,a4,by have:=h.qz;omega,h.tC,h.pv,λk aV a2=>if ak:k<i then h.lo k aV ak else aw k (by omega) a2,λk aV a2=>if ak:j+1<=k then h.ah k ak a2 else cO k aV (by omega)⟩
def pO.swap{bV L:List ByteArray}{a b i j:Nat}{p:ByteArray}(h:pO bV a b i j p L)(gF:i<=j)(ah:blt (gt L i) p=false)(aN:blt (gt L j) p=true)(aj:b<=L.length):pO bV a b (i+1) (j-1) p (eI L i j):=by
 have aI:=h.qy;have Ah:=h.qz;have cP:i≠j:=by rintro rfl;rw[ah]at aN;cases aN
 have e:=rW (L:=L) (i:=i) (j:=j) (by omega) (by omega);refine⟨by omega,by omega,by omega,h.tC.trans (Part.eI (by omega) (by omega) (by omega) (by omega) aj),?_,?_,?_⟩;.rw[e];simp only[jN];rw[xab (by omega),xab (by omega)];exact h.pv
 .intro k aV a2;rw[e];simp only[jN];rw[xab (by omega)];by_cases ak:k=i;.rw[xad ak];exact aN
  rw[xab ak];exact h.lo k aV (by omega)
 intro k aV a2;rw[e];simp only[jN];by_cases ak:k=j;.rw[xad ak];exact ah
 rw[xab ak,xab (by omega)];exact h.ah k (by omega) a2
def pO.fin{bV L:List ByteArray}{a b i j:Nat}{p:ByteArray}(h:pO bV a b i j p L)(gF:j<i)(aj:b<=L.length):Part a b bV (eI L j a)/\a<=j/\j<b/\eR (λx=>blt (gt (eI L j a) j) x=false) a j (gt (eI L j a))/\eR (λx=>blt x (gt (eI L j a) j)=false) (j+1) b (gt (eI L j a)):=by
 have aI:=h.qy;have Ah:=h.qz;have aAm:=h.xi;have e:=rW (L:=L) (i:=j) (j:=a) (by omega) (by omega);have ael:gt (eI L j a) j=p:=by
  rw[e];simp only[jN];by_cases UA:j=a;.rw[xad UA,UA];exact h.pv
  rw[xab UA];simp only[xaD];exact h.pv
 refine⟨h.tC.trans (Part.eI (by omega) (by omega) (by omega) (by omega) aj),by omega,Ah,?_,?_⟩
 .intro k aV a2;rw[ael,e];simp only[jN];by_cases ak:k=a;.rw[xad ak];exact jP.Af _ _ (h.lo j (by omega) (by omega))
  rw[xab ak,xab (by omega)];exact jP.Af _ _ (h.lo k (by omega) (by omega))
 intro k aV a2;rw[ael,e];simp only[jN];rw[xab (by omega),xab (by omega)];exact h.ah k aV a2
def awo(n:Nat)(bV L:List ByteArray)(a b i j:Nat)(p:ByteArray)(h:pO bV a b i j p L)(aj:b<=bV.length)(bP:bV.length<1000000000)(aL:bV.length+1<n): ∃(cl dk:Nat)(bA:List ByteArray),bp (GL n) n [J (a:Int),J (i:Int),J (j:Int),cw L]=some (.inl [J (a:Int),J (dk:Int),cw bA])/\pO bV a b cl dk p bA/\dk<cl:=by
 have key:=kL (f:=GL n) (S:=Nat×Nat×List ByteArray) (λs=>[J (a:Int),J (s.1:Int),J (s.2.1:Int),cw s.2.2]) (λs=>s.2.1+1-s.1) (λs=>pO bV a b s.1 s.2.1 p s.2.2) (λr=>∃(cl dk:Nat)(bA:List ByteArray),r= .inl [J (a:Int),J (dk:Int),cw bA]/\pO bV a b cl dk p bA/\dk<cl) ?_ n (i,j,L) h (by have:=h.qz;simp only;omega);.obtain⟨r,ab,cl,dk,bA,rfl,af⟩:=key;exact⟨cl,dk,bA,ab,af⟩
 rintro⟨i,j,L⟩ g;simp only at g⊢;have b5:=g.tC.len;have pN:=g.qy;have Ah:=g.qz;have gF:=g.xi;obtain⟨i1,dz,dh,eK,ji,lh⟩:=awl n L a i j g.qy g.xi (by omega) (by omega) (by omega);obtain⟨hf,bC,bD,cy,ey,fm⟩:=awn n L a i1 j (by omega) eK (by omega) (by omega) (by omega);rw[g.pv]at ji lh ey fm;have lg:=g.step dh eK ji bD cy ey;by_cases an:i1<=hf
 .left;have cj:i1<L.length:=by omega
  have cL:hf<L.length:=by omega
  have Ag:hf<(L.set i1 (gt L hf)).length:=by simpa using cL
  have aK:ai false .add (J (i1:Int)) (J 1)=some (J ((i1+1:Nat):Int)):=b2 (by omega);have aY:ai false .sub (J (hf:Int)) (J 1)=some (J ((hf-1:Nat):Int)):=kM (by omega) (by omega);refine⟨(i1+1,hf-1,eI L i1 hf),?_,lg.swap an (lh (by omega)) (fm an) (by omega),by simp only;omega⟩;simp only[GL,go_sem,dz,bC,yF ((i1:Int)>(hf:Int)),c7 cj,c7 cL,cQ aB cj,cQ aB cL,eC,m0,mZ,gN,xaZ,cQ aB Ag,mB cj cL,aK,aY]
 right;refine⟨_,?_,i1,hf,L,rfl,lg,by omega⟩;simp only[GL,go_sem,dz,bC,yT ((i1:Int)>(hf:Int))]
def awp(n:Nat)(bV:List ByteArray)(a b pv:Nat)(fv:a+1<b)(IK:a<=pv/\pv<b)(aj:b<=bV.length)(bP:bV.length<1000000000)(aL:bV.length+1<n): ∃(m:Nat)(d:Bool)(bA:List ByteArray),zh n [J (a:Int),J (b:Int),J (pv:Int),cw bV]=some [D.a1 [J (m:Int),ay d],cw bA]/\Part a b bV bA/\a<=m/\m<b/\eR (λx=>blt (gt bA m) x=false) a m (gt bA)/\eR (λx=>blt x (gt bA m)=false) (m+1) b (gt bA):=by
 have fs:a<bV.length:=by omega
 have kp:pv<bV.length:=by omega
 have NP:pv<(bV.set a (gt bV pv)).length:=by simpa using kp
 have nt:=ID bV a pv;have mb:Part a b bV (eI bV a pv):=Part.eI (xan _) (by omega) IK.1 IK.2 aj;have aK:ai false .add (J (a:Int)) (J 1)=some (J ((a+1:Nat):Int)):=b2 (by omega);have aY:ai false .sub (J (b:Int)) (J 1)=some (J ((b-1:Nat):Int)):=kM (by omega) (by omega);have Dx:=mB fs kp;generalize eI bV a pv=L at*;have g:pO bV a b (a+1) (b-1) (gt L a) L:=⟨by omega,by omega,by omega,mb,rfl,λk ab af=>by omega,λk ab af=>by omega⟩;obtain⟨i1,dz,dh,eK,ji,lh⟩:=awk n L a (a+1) (b-1) g.qy g.xi (by omega) (by omega) (by omega);obtain⟨hf,bC,bD,cy,ey,fm⟩:=awm n L a i1 (b-1) (by omega) eK (by omega) (by omega) (by omega);have lg:=g.step dh eK ji bD cy ey;have NQ:a<L.length:=by omega
 have cL:hf<L.length:=by omega
 by_cases an:i1<=hf
 .have cj:i1<L.length:=by omega
  have Ag:hf<(L.set i1 (gt L hf)).length:=by simpa using cL
  have f1:ai false .add (J (i1:Int)) (J 1)=some (J ((i1+1:Nat):Int)):=b2 (by omega);have f2:ai false .sub (J (hf:Int)) (J 1)=some (J ((hf-1:Nat):Int)):=kM (by omega) (by omega);have a2:=lg.swap an (lh (by omega)) (fm an) (by omega);have awq:=mB cj cL;obtain⟨i2,NR,iJ,eJ,dX,ja⟩:=awo n bV (eI L i1 hf) a b (i1+1) (hf-1) _ a2 aj bP aL;have pT:=dX.tC.len;have Ah:=dX.qz;obtain⟨t1,t2,t3,t4,t5⟩:=dX.fin ja (by omega);have NS:a<iJ.length:=by omega
  have Ip:NR<iJ.length:=by omega
  have z5:a<(iJ.set NR (gt iJ a)).length:=by simpa using NS
  refine⟨NR,false,_,?_,t1,t2,t3,t4,t5⟩;simp only[zh,go_sem,c7 fs,c7 kp,cQ aB fs,cQ aB kp,eC,m0,mZ,gN,xaZ,cQ aB NP,Dx,aK,aY,dz,bC,yF ((i1:Int)>(hf:Int)),c7 cj,c7 cL,cQ aB cj,cQ aB cL,cQ aB Ag,awq,f1,f2,eJ,c7 NS,c7 Ip,cQ aB NS,cQ aB Ip,cQ aB z5,mB Ip NS]
 obtain⟨t1,t2,t3,t4,t5⟩:=lg.fin (by omega) (by omega);have z5:a<(L.set hf (gt L a)).length:=by simpa using NQ
 refine⟨hf,true,_,?_,t1,t2,t3,t4,t5⟩;simp only[zh,go_sem,c7 fs,c7 kp,cQ aB fs,cQ aB kp,eC,m0,mZ,gN,xaZ,cQ aB NP,Dx,aK,aY,dz,bC,yT ((i1:Int)>(hf:Int)),c7 NQ,c7 cL,cQ aB NQ,cQ aB cL,cQ aB z5,mB cL NQ]
def awr(n:Nat)(L:List ByteArray)(a i j:Nat)(pN:a<i)(gF:i<=j+1)(aN:j<L.length)(bP:L.length<1000000000)(aL:L.length+1<n): ∃cl:Nat,bp (B8 n) n [J (a:Int),J (i:Int),J (j:Int),cw L]=some (.inl [J (a:Int),J (cl:Int),J (j:Int),cw L])/\i<=cl/\cl<=j+1/\eR (λx=>blt (gt L a) x=false) i cl (gt L)/\(cl<=j->blt (gt L a) (gt L cl)=true):=by
 have key:=kL (f:=B8 n) (S:=Nat) (λs=>[J (a:Int),J (s:Int),J (j:Int),cw L]) (λs=>j+1-s) (λs=>i<=s/\s<=j+1/\eR (λx=>blt (gt L a) x=false) i s (gt L)) (λr=>∃cl:Nat,r= .inl [J (a:Int),J (cl:Int),J (j:Int),cw L]/\i<=cl/\cl<=j+1/\eR (λx=>blt (gt L a) x=false) i cl (gt L)/\(cl<=j->blt (gt L a) (gt L cl)=true)) ?_ n i ⟨xan _,gF,λk ab af=>by omega⟩ (by omega);.obtain⟨r,ab,cl,rfl,af⟩:=key;exact⟨cl,ab,af⟩
 rintro s ⟨aV,a2,bc⟩;by_cases aH:s<=j
 .have gh:s<L.length:=by omega
  have fs:a<L.length:=by omega
  by_cases aj:blt (gt L a) (gt L s)=true;.right;refine⟨_,?_,s,rfl,aV,a2,bc,λ_=>aj⟩;simp only[B8,go_sem,yT ((s:Int)<=(j:Int)),ef,dY,c7 gh,c7 fs,cQ aB gh,cQ aB fs,eC,gN,iv,aj]
  left;have aj:blt (gt L a) (gt L s)=false:=by simpa using aj
  have aK:ai false .add (J (s:Int)) (J 1)=some (J ((s+1:Nat):Int)):=b2 (by omega);refine⟨s+1,?_,⟨by omega,by omega,λk ab af=>?_⟩,by omega⟩;.simp only[B8,go_sem,yT ((s:Int)<=(j:Int)),ef,dY,c7 gh,c7 fs,cQ aB gh,cQ aB fs,eC,gN,iv,aj,aK]
  by_cases ak:k=s;.subst ak;exact aj
  exact bc k ab (by omega)
 right;refine⟨_,?_,s,rfl,aV,a2,bc,λh=>absurd h aH⟩;simp only[B8,go_sem,yF ((s:Int)<=(j:Int)),ef,dY]
def aws(n:Nat)(L:List ByteArray)(a i j:Nat)(pN:a<i)(gF:i<=j+1)(aN:j<L.length)(bP:L.length<1000000000)(aL:L.length+1<n): ∃dk:Nat,bp (B9 n) n [J (a:Int),J (i:Int),J (j:Int),cw L]=some (.inl [J (a:Int),J (i:Int),J (dk:Int),cw L])/\i<=dk+1/\dk<=j/\eR (λx=>blt (gt L a) x=true) (dk+1) (j+1) (gt L)/\(i<=dk->blt (gt L a) (gt L dk)=false):=by
 have key:=kL (f:=B9 n) (S:=Nat) (λs=>[J (a:Int),J (i:Int),J (s:Int),cw L]) (λs=>s) (λs=>i<=s+1/\s<=j/\eR (λx=>blt (gt L a) x=true) (s+1) (j+1) (gt L)) (λr=>∃dk:Nat,r= .inl [J (a:Int),J (i:Int),J (dk:Int),cw L]/\i<=dk+1/\dk<=j/\eR (λx=>blt (gt L a) x=true) (dk+1) (j+1) (gt L)/\(i<=dk->blt (gt L a) (gt L dk)=false)) ?_ n j ⟨gF,xan _,λk ab af=>by omega⟩ (by omega);.obtain⟨r,ab,dk,rfl,af⟩:=key;exact⟨dk,ab,af⟩
 rintro s ⟨aV,a2,bc⟩;by_cases aH:i<=s
 .have gh:s<L.length:=by omega
  have fs:a<L.length:=by omega
  by_cases aj:blt (gt L a) (gt L s)=true
  .left;have aK:ai false .sub (J (s:Int)) (J 1)=some (J ((s-1:Nat):Int)):=kM (by omega) (by omega);refine⟨s-1,?_,⟨by omega,by omega,λk ab af=>?_⟩,by omega⟩
   .simp only[B9,go_sem,yT ((i:Int)<=(s:Int)),ef,dY,c7 gh,c7 fs,cQ aB gh,cQ aB fs,eC,gN,iv,aj,aK]
   by_cases ak:k=s;.subst ak;exact aj
   exact bc k (by omega) af
  right;have aj:blt (gt L a) (gt L s)=false:=by simpa using aj
  refine⟨_,?_,s,rfl,aV,a2,bc,λ_=>aj⟩;simp only[B9,go_sem,yT ((i:Int)<=(s:Int)),ef,dY,c7 gh,c7 fs,cQ aB gh,cQ aB fs,eC,gN,iv,aj]
 right;refine⟨_,?_,s,rfl,aV,a2,bc,λh=>absurd h aH⟩;simp only[B9,go_sem,yF ((i:Int)<=(s:Int)),ef,dY]
structure rX(bV:List ByteArray)(a b i j:Nat)(p:ByteArray)(L:List ByteArray):Prop where
 qy:a<i
 xi:i<=j+1
 qz:j<b
 tC:Part a b bV L
 pv:gt L a=p
 lo:eR (λx=>blt p x=false) (a+1) i (gt L)
 ah:eR (λx=>blt p x=true) (j+1) b (gt L)
def rX.step{bV L:List ByteArray}{a b i j cl dk:Nat}{p:ByteArray}(h:rX bV a b i j p L)(ab:i<=cl)(af:cl<=j+1)(aw:eR (λx=>blt p x=false) i cl (gt L))(a4:cl<=dk+1)(b7:dk<=j)(cO:eR (λx=>blt p x=true) (dk+1) (j+1) (gt L)):rX bV a b cl dk p L:=⟨by have:=h.qy;omega,a4,by have:=h.qz;omega,h.tC,h.pv,λk aV a2=>if ak:k<i then h.lo k aV ak else aw k (by omega) a2,λk aV a2=>if ak:j+1<=k then h.ah k ak a2 else cO k aV (by omega)⟩
def rX.swap{bV L:List ByteArray}{a b i j:Nat}{p:ByteArray}(h:rX bV a b i j p L)(gF:i<=j)(ah:blt p (gt L i)=true)(aN:blt p (gt L j)=false)(aj:b<=L.length):rX bV a b (i+1) (j-1) p (eI L i j):=by
 have aI:=h.qy;have Ah:=h.qz;have cP:i≠j:=by rintro rfl;rw[ah]at aN;cases aN
 have e:=rW (L:=L) (i:=i) (j:=j) (by omega) (by omega);refine⟨by omega,by omega,by omega,h.tC.trans (Part.eI (by omega) (by omega) (by omega) (by omega) aj),?_,?_,?_⟩;.rw[e];simp only[jN];rw[xab (by omega),xab (by omega)];exact h.pv
 .intro k aV a2;rw[e];simp only[jN];rw[xab (by omega)];by_cases ak:k=i;.rw[xad ak];exact aN
  rw[xab ak];exact h.lo k aV (by omega)
 intro k aV a2;rw[e];simp only[jN];by_cases ak:k=j;.rw[xad ak];exact ah
 rw[xab ak,xab (by omega)];exact h.ah k (by omega) a2
def awt(n:Nat)(bV L:List ByteArray)(a b i j:Nat)(p:ByteArray)(h:rX bV a b i j p L)(aj:b<=bV.length)(bP:bV.length<1000000000)(aL:bV.length+1<n): ∃(cl dk:Nat)(bA:List ByteArray),bp (GJ n) n [J (a:Int),J (i:Int),J (j:Int),cw L]=some (.inl [J (cl:Int),cw bA])/\rX bV a b cl dk p bA/\dk<cl:=by
 have key:=kL (f:=GJ n) (S:=Nat×Nat×List ByteArray) (λs=>[J (a:Int),J (s.1:Int),J (s.2.1:Int),cw s.2.2]) (λs=>s.2.1+1-s.1) (λs=>rX bV a b s.1 s.2.1 p s.2.2) (λr=>∃(cl dk:Nat)(bA:List ByteArray),r= .inl [J (cl:Int),cw bA]/\rX bV a b cl dk p bA/\dk<cl) ?_ n (i,j,L) h (by have:=h.qz;simp only;omega);.obtain⟨r,ab,cl,dk,bA,rfl,af⟩:=key;exact⟨cl,dk,bA,ab,af⟩
 rintro⟨i,j,L⟩ g;simp only at g⊢;have b5:=g.tC.len;have pN:=g.qy;have Ah:=g.qz;have gF:=g.xi;obtain⟨i1,dz,dh,eK,ji,lh⟩:=awr n L a i j g.qy g.xi (by omega) (by omega) (by omega);obtain⟨hf,bC,bD,cy,ey,fm⟩:=aws n L a i1 j (by omega) eK (by omega) (by omega) (by omega);rw[g.pv]at ji lh ey fm;have lg:=g.step dh eK ji bD cy ey;by_cases an:i1<=hf
 .left;have cj:i1<L.length:=by omega
  have cL:hf<L.length:=by omega
  have Ag:hf<(L.set i1 (gt L hf)).length:=by simpa using cL
  have aK:ai false .add (J (i1:Int)) (J 1)=some (J ((i1+1:Nat):Int)):=b2 (by omega);have aY:ai false .sub (J (hf:Int)) (J 1)=some (J ((hf-1:Nat):Int)):=kM (by omega) (by omega);refine⟨(i1+1,hf-1,eI L i1 hf),?_,lg.swap an (lh (by omega)) (fm an) (by omega),by simp only;omega⟩;simp only[GJ,go_sem,dz,bC,yF ((i1:Int)>(hf:Int)),c7 cj,c7 cL,cQ aB cj,cQ aB cL,eC,m0,mZ,gN,xaZ,cQ aB Ag,mB cj cL,aK,aY]
 right;refine⟨_,?_,i1,hf,L,rfl,lg,by omega⟩;simp only[GJ,go_sem,dz,bC,yT ((i1:Int)>(hf:Int))]
def awu(n:Nat)(bV:List ByteArray)(a b pv:Nat)(fv:a+1<b)(IK:a<=pv/\pv<b)(aj:b<=bV.length)(bP:bV.length<1000000000)(aL:bV.length+1<n): ∃(m:Nat)(bA:List ByteArray),Ca n [J (a:Int),J (b:Int),J (pv:Int),cw bV]=some [J (m:Int),cw bA]/\Part a b bV bA/\a<m/\m<=b/\eR (λx=>blt (gt bV pv) x=false) a m (gt bA)/\eR (λx=>blt (gt bV pv) x=true) m b (gt bA):=by
 have fs:a<bV.length:=by omega
 have kp:pv<bV.length:=by omega
 have NP:pv<(bV.set a (gt bV pv)).length:=by simpa using kp
 have nt:=ID bV a pv;have mb:Part a b bV (eI bV a pv):=Part.eI (xan _) (by omega) IK.1 IK.2 aj;have aK:ai false .add (J (a:Int)) (J 1)=some (J ((a+1:Nat):Int)):=b2 (by omega);have aY:ai false .sub (J (b:Int)) (J 1)=some (J ((b-1:Nat):Int)):=kM (by omega) (by omega);have Dx:=mB fs kp;have Ue:gt (eI bV a pv) a=gt bV pv:=by
  rw[rW fs kp];simp only[jN];by_cases h:a=pv;.rw[xad h,h]
  rw[xab h];simp
 generalize eI bV a pv=L at*;have g:rX bV a b (a+1) (b-1) (gt bV pv) L:=⟨by omega,by omega,by omega,mb,Ue,λk ab af=>by omega,λk ab af=>by omega⟩;obtain⟨i2,NR,iJ,eJ,dX,ja⟩:=awt n bV L a b (a+1) (b-1) _ g aj bP aL;have pN:=dX.qy;have gF:=dX.xi;have Ah:=dX.qz;refine⟨i2,iJ,?_,dX.tC,pN,by omega,?_,dX.ah.mono (by omega) (xan _)⟩
 .simp only[Ca,go_sem,c7 fs,c7 kp,cQ aB fs,cQ aB kp,eC,m0,mZ,gN,xaZ,cQ aB NP,Dx,aK,aY,eJ]
 intro k ab af;by_cases ak:k=a;.subst ak;rw[dX.pv];exact mq _
 exact dX.lo k (by omega) af
def awv(n:Nat)(L:List ByteArray)(a b i:Nat)(K:D)(pN:a<i)(jl:i<=b)(aj:b<=L.length)(bP:L.length<1000000000)(aL:L.length+1<n)(aH:ew blt a i (gt L)): ∃cl:Nat,bp (B6 n) n [J (a:Int),J (b:Int),J (i:Int),K,cw L]=some (.inl [J (a:Int),J (b:Int),J (cl:Int),K,cw L])/\i<=cl/\cl<=b/\ew blt a cl (gt L):=by
 have key:=kL (f:=B6 n) (S:=Nat) (λs=>[J (a:Int),J (b:Int),J (s:Int),K,cw L]) (λs=>b-s) (λs=>i<=s/\s<=b/\ew blt a s (gt L)) (λr=>∃cl:Nat,r= .inl [J (a:Int),J (b:Int),J (cl:Int),K,cw L]/\i<=cl/\cl<=b/\ew blt a cl (gt L)) ?_ n i ⟨xan _,jl,aH⟩ (by omega);.obtain⟨r,ab,cl,rfl,af⟩:=key;exact⟨cl,ab,af⟩
 rintro s ⟨aV,a2,bc⟩;by_cases aAn:s<b
 .have gh:s<L.length:=by omega
  have NT:s-1<L.length:=by omega
  have bH:ai false .sub (J (s:Int)) (J 1)=some (J ((s-1:Nat):Int)):=kM (by omega) (by omega);by_cases aj:blt (gt L s) (gt L (s-1))=true;.right;refine⟨_,?_,s,rfl,aV,a2,bc⟩;simp only[B6,go_sem,yT ((s:Int)<(b:Int)),ef,dY,c7 gh,c7 NT,cQ aB gh,cQ aB NT,eC,gN,iv,aj,bH]
  left;have aj:blt (gt L s) (gt L (s-1))=false:=by simpa using aj
  have aK:ai false .add (J (s:Int)) (J 1)=some (J ((s+1:Nat):Int)):=b2 (by omega);refine⟨s+1,?_,⟨by omega,by omega,bc.more jP (by omega) aj⟩,by omega⟩;simp only[B6,go_sem,yT ((s:Int)<(b:Int)),ef,dY,c7 gh,c7 NT,cQ aB gh,cQ aB NT,eC,gN,iv,aj,bH,aK]
 right;refine⟨_,?_,s,rfl,aV,a2,bc⟩;simp only[B6,go_sem,yF ((s:Int)<(b:Int)),ef,dY]
def pP(a b:Nat)(L:List ByteArray):Prop:=0<a->∀q,a<=q->q<b->blt (gt L q) (gt L (a-1))=false
def pP.part{a b c d:Nat}{L M:List ByteArray}(h:pP a b L)(aT:Part c d L M)(an:a<=c)(aA:d<=b)(aj:b<=L.length):pP a b M:=by intro au q ab af;rw[aT.pL (i:=a-1) (.inl (by omega))];exact eR.part (P:=λx=>blt x (gt L (a-1))=false) (λq ab af=>h au q ab af) (aT.mono an aA) aj q ab af
def aww(n:Nat)(bV:List ByteArray)(a b i:Nat)(B K:D)(pN:a<i)(jl:i<b)(aj:b<=bV.length)(bP:bV.length<1000000000)(aL:bV.length+1<n)(aH:ew blt a (i-1) (gt bV))(m1:pP a b bV): ∃bA:List ByteArray,bp (zb n) n [J (a:Int),B,J (i:Int),K,J ((i-1:Nat):Int),cw bV]=some (.inl [J (a:Int),B,J (i:Int),K,cw bA])/\Part a i bV bA/\ew blt a i (gt bA):=by
 have key:=kL (f:=zb n) (S:=Nat×List ByteArray) (λs=>[J (a:Int),B,J (i:Int),K,J (s.1:Int),cw s.2]) (λs=>s.1) (λs=>a<=s.1/\s.1<=i-1/\Part a i bV s.2/\Dv blt a s.1 (i-1) (gt s.2)) (λr=>∃bA:List ByteArray,r= .inl [J (a:Int),B,J (i:Int),K,cw bA]/\Part a i bV bA/\ew blt a i (gt bA)) ?_ n (i-1,bV) ⟨by simp only;omega,xan _,Part.refl _ _ _,aeg aH⟩ (by simp only;omega);.obtain⟨r,ab,bA,rfl,af⟩:=key;exact⟨bA,ab,af⟩
 rintro⟨j,L⟩ ⟨aV,a2,bc,cV⟩;simp only at aV a2 bc cV⊢;have b5:=bc.len;have aem:i-1+1=i:=by omega
 by_cases adR:1<=j
 .have cL:j<L.length:=by omega
  have kN:j-1<L.length:=by omega
  have aK:ai false .sub (J (j:Int)) (J 1)=some (J ((j-1:Nat):Int)):=kM (by omega) (by omega);by_cases j6:blt (gt L j) (gt L (j-1))=true
  .have av2:a≠j:=by
    rintro rfl;have:=(m1.part bc (xan _) (by omega) aj) (by omega) a (xan _) (by omega);rw[j6]at this;cases this
   left;have bC:j-1<(L.set j (gt L (j-1))).length:=by simpa using kN
   refine⟨(j-1,eI L j (j-1)),?_,⟨by simp only;omega,by simp only;omega,bc.trans (Part.eI (by omega) (by omega) (by omega) (by omega) (by omega)),?_⟩,by simp only;omega⟩;.simp only[zb,go_sem,yT ((j:Int)>=1),c7 cL,c7 kN,cQ aB cL,cQ aB kN,eC,aK,iv,j6,m0,mZ,gN,xaZ,cQ aB bC,mB cL kN]
   rw[rW cL kN];exact aeh jP cV (by omega) a2 j6
  right;have j6:blt (gt L j) (gt L (j-1))=false:=by simpa using j6
  refine⟨_,?_,L,rfl,bc,by rw[<-aem];exact NK jP cV aV (.inr j6)⟩;simp only[zb,go_sem,yT ((j:Int)>=1),c7 cL,c7 kN,cQ aB cL,cQ aB kN,eC,aK,iv,j6,gN]
 right;refine⟨_,?_,L,rfl,bc,by rw[<-aem];exact NK jP cV aV (.inl (by omega))⟩;simp only[zb,go_sem,yF ((j:Int)>=1)]
def awx(n:Nat)(bV:List ByteArray)(i b:Nat)(A K:D)(jl:i<b)(aj:b<=bV.length)(bP:bV.length<1000000000)(aL:bV.length+1<n): ∃bA:List ByteArray,bp (zc n) n [A,J (b:Int),J (i:Int),K,J ((i+1:Nat):Int),cw bV]=some (.inl [A,J (b:Int),J (i:Int),K,cw bA])/\Part i b bV bA:=by
 have key:=kL (f:=zc n) (S:=Nat×List ByteArray) (λs=>[A,J (b:Int),J (i:Int),K,J (s.1:Int),cw s.2]) (λs=>b-s.1) (λs=>i+1<=s.1/\s.1<=b/\Part i b bV s.2) (λr=>∃bA:List ByteArray,r= .inl [A,J (b:Int),J (i:Int),K,cw bA]/\Part i b bV bA) ?_ n (i+1,bV) ⟨xan _,jl,Part.refl _ _ _⟩ (by simp only;omega);.obtain⟨r,ab,bA,rfl,af⟩:=key;exact⟨bA,ab,af⟩
 rintro⟨j,L⟩ ⟨aV,a2,bc⟩;simp only at aV a2 bc⊢;have b5:=bc.len;by_cases adR:j<b
 .have cL:j<L.length:=by omega
  have kN:j-1<L.length:=by omega
  have aK:ai false .sub (J (j:Int)) (J 1)=some (J ((j-1:Nat):Int)):=kM (by omega) (by omega);have aY:ai false .add (J (j:Int)) (J 1)=some (J ((j+1:Nat):Int)):=b2 (by omega);by_cases j6:blt (gt L j) (gt L (j-1))=true
  .left;have bC:j-1<(L.set j (gt L (j-1))).length:=by simpa using kN
   refine⟨(j+1,eI L j (j-1)),?_,⟨by simp only;omega,by simp only;omega,bc.trans (Part.eI (by omega) (by omega) (by omega) (by omega) (by omega))⟩,by simp only;omega⟩;simp only[zc,go_sem,yT ((j:Int)<(b:Int)),c7 cL,c7 kN,cQ aB cL,cQ aB kN,eC,aK,aY,iv,j6,m0,mZ,gN,xaZ,cQ aB bC,mB cL kN]
  right;have j6:blt (gt L j) (gt L (j-1))=false:=by simpa using j6
  refine⟨_,?_,L,rfl,bc⟩;simp only[zc,go_sem,yT ((j:Int)<(b:Int)),c7 cL,c7 kN,cQ aB cL,cQ aB kN,eC,aK,iv,j6,gN]
 right;refine⟨_,?_,L,rfl,bc⟩;simp only[zc,go_sem,yF ((j:Int)<(b:Int))]
def awy(n:Nat)(bV:List ByteArray)(a b:Nat)(fv:a<b)(aj:b<=bV.length)(bP:bV.length<1000000000)(aL:bV.length+20<n)(m1:pP a b bV): ∃(r:Bool)(bA:List ByteArray),wL n [J (a:Int),J (b:Int),cw bV]=some [ay r,cw bA]/\Part a b bV bA/\(r=true->ew blt a b (gt bA)):=by
 have key:=kL (f:=ze n) (S:=Nat×Nat×List ByteArray) (λs=>[J (a:Int),J (b:Int),J (s.1:Int),J (s.2.1:Int),cw s.2.2]) (λs=>5-s.2.1) (λs=>a<s.1/\s.1<=b/\s.2.1<=5/\Part a b bV s.2.2/\ew blt a s.1 (gt s.2.2)) (λr=>∃bA:List ByteArray,(r= .inl [cw bA]\/r= .inr [ay false,cw bA]\/(r= .inr [ay true,cw bA]/\ew blt a b (gt bA)))/\Part a b bV bA) ?_ n (a+1,0,bV) ⟨by simp only;omega,fv,by simp only;omega,Part.refl _ _ _,xh (xan _)⟩ (by simp only;omega)
 .obtain⟨r,ab,bA,av,af⟩:=key;have bH:ai false .add (J (a:Int)) (J 1)=some (J ((a+1:Nat):Int)):=b2 (by omega);have ab:bp (ze n) n [J (a:Int),J (b:Int),J ((a+1:Nat):Int),J 0,cw bV]=some r:=ab;rcases av with rfl|rfl|⟨rfl,aw⟩
  .exact⟨false,bA,by simp only[wL,go_sem,bH,ab],af,λh=>by cases h⟩
  .exact⟨false,bA,by simp only[wL,go_sem,bH,ab],af,λh=>by cases h⟩
  exact⟨true,bA,by simp only[wL,go_sem,bH,ab],af,λ_=>aw⟩
 rintro⟨i,k,L⟩ ⟨aV,a2,bc,cV,hS⟩;simp only at aV a2 bc cV hS⊢;have b5:=cV.len;by_cases ak:k<5
 .have UB:=yT ((k:Int)<5);obtain⟨cl,dz,dh,eK,ji⟩:=awv n L a b i (J (k:Int)) aV a2 (by omega) (by omega) (by omega) hS;have n9:ai false .add (J (k:Int)) (J 1)=some (J ((k+1:Nat):Int)):=b2 (by omega);have aen:ai false .sub (J (b:Int)) (J (a:Int))=some (J ((b-a:Nat):Int)):=qw (by omega) (by omega);by_cases jl:cl=b
  .right;refine⟨_,?_,L,.inr (.inr ⟨rfl,by rw[<-jl];exact ji⟩),cV⟩;simp only[ze,go_sem,UB,dz,jl,beq_self_eq_true]
  have bk:((cl:Int)==(b:Int))=false:=by simp;omega
  by_cases awz:b-a<50;.right;refine⟨_,?_,L,.inr (.inl rfl),cV⟩;simp only[ze,go_sem,UB,dz,bk,aen,yT (((b-a:Nat):Int)<50)]
  left;have awA:=yF (((b-a:Nat):Int)<50);have aK:ai false .sub (J (cl:Int)) (J 1)=some (J ((cl-1:Nat):Int)):=kM (by omega) (by omega);have aY:ai false .sub (J (cl:Int)) (J (a:Int))=some (J ((cl-a:Nat):Int)):=qw (by omega) (by omega);have bN:ai false .sub (J (b:Int)) (J (cl:Int))=some (J ((b-cl:Nat):Int)):=qw (by omega) (by omega);have cN:ai false .add (J (cl:Int)) (J 1)=some (J ((cl+1:Nat):Int)):=b2 (by omega);have cj:cl<L.length:=by omega
  have IL:cl-1<L.length:=by omega
  have bC:cl-1<(L.set cl (gt L (cl-1))).length:=by simpa using IL
  have Dx:=mB cj IL;have aeo:Part a b L (eI L cl (cl-1)):=Part.eI (by omega) (by omega) (by omega) (by omega) (by omega);have nt:=ID L cl (cl-1);have Jt:ew blt a (cl-1) (gt (eI L cl (cl-1))):=by intro p q ab af aw;rw[rW cj IL];simp only[jN];rw[xab (by omega),xab (by omega),xab (by omega),xab (by omega)];exact ji p q ab af (by omega)
  obtain⟨iJ,eJ,dX,ja⟩:∃iJ:List ByteArray,aa (aE (ay (decide (((cl-a:Nat):Int)>=2))) (aa (ai false .sub (J (cl:Int)) (J 1)) λhJ=>aa (bp (zb n) n [J (a:Int),J (b:Int),J (cl:Int),J (k:Int),hJ,cw (eI L cl (cl-1))]) (a9 λls=>some (Sum.inl [I ls 0,I ls 1,I ls 2,I ls 3,D.ax 1 (ar (I ls 4))]))) (some (.inl [J (a:Int),J (b:Int),J (cl:Int),J (k:Int),cw (eI L cl (cl-1))]))) some=some (Sum.inl (β:=List D⊕(List D⊕(List D⊕List D))) [J (a:Int),J (b:Int),J (cl:Int),J (k:Int),cw iJ])/\Part a cl (eI L cl (cl-1)) iJ/\ew blt a cl (gt iJ):=by
   by_cases af:2<=cl-a;.obtain⟨iJ,t1,t2,t3⟩:=aww n (eI L cl (cl-1)) a b cl (J (b:Int)) (J (k:Int)) (by omega) (by omega) (by omega) (by omega) (by omega) Jt ((m1.part cV (xan _) (xan _) aj).part aeo (xan _) (xan _) (by omega));refine⟨iJ,?_,t2,t3⟩;simp only[go_sem,yT (((cl-a:Nat):Int)>=2),aK,t1]
   refine⟨_,?_,Part.refl _ _ _,xh (by omega)⟩;simp only[go_sem,yF (((cl-a:Nat):Int)>=2)]
  have pT:=dX.len;obtain⟨Ai,s1,s2⟩:∃Ai:List ByteArray,aa (aE (ay (decide (((b-cl:Nat):Int)>=2))) (aa (ai false .add (J (cl:Int)) (J 1)) λkf=>aa (bp (zc n) n [J (a:Int),J (b:Int),J (cl:Int),J (k:Int),kf,cw iJ]) (a9 λls=>some (Sum.inl [I ls 0,I ls 1,I ls 2,I ls 3,D.ax 1 (ar (I ls 4))]))) (some (.inl [J (a:Int),J (b:Int),J (cl:Int),J (k:Int),cw iJ]))) some=some (Sum.inl (β:=List D⊕(List D⊕(List D⊕List D))) [J (a:Int),J (b:Int),J (cl:Int),J (k:Int),cw Ai])/\Part cl b iJ Ai:=by
   by_cases af:2<=b-cl;.obtain⟨Ai,t1,t2⟩:=awx n iJ cl b (J (a:Int)) (J (k:Int)) (by omega) (by omega) (by omega) (by omega);refine⟨Ai,?_,t2⟩;simp only[go_sem,yT (((b-cl:Nat):Int)>=2),cN,t1]
   refine⟨_,?_,Part.refl _ _ _⟩;simp only[go_sem,yF (((b-cl:Nat):Int)>=2)]
  have gH:ew blt a cl (gt Ai):=ja.out s2 (.inl (xan _));have hr:∀{ee:Type}{x:Option ee},aa x some=x:=λ{ee x}=>by cases x<;>rfl
  rw[hr]at eJ s1;refine⟨(cl,k+1,Ai),?_,⟨by simp only;omega,by simp only;omega,by simp only;omega,((cV.trans aeo).trans (dX.mono (xan _) (by omega))).trans (s2.mono (by omega) (xan _)),gH⟩,by simp only;omega⟩;simp only[ze,go_sem,UB,dz,bk,aen,awA,aK,c7 cj,c7 IL,cQ aB cj,cQ aB IL,eC,m0,mZ,gN,xaZ,cQ aB bC,Dx,aY,bN];rw[lR]at eJ s1;rw[aK,eF]at eJ;rw[cN,eF]at s1;rw[eJ];simp only[go_sem,bN,cN];rw[s1];simp only[go_sem,n9]
 right;refine⟨_,?_,L,.inl rfl,cV⟩;simp only[ze,go_sem,yF ((k:Int)<5)]
def UC:ByteArray:=⟨#[0,1,2,2,3,3,3,3,4,4,4,4,4,4,4,4,5,5,5,5,5,5,5,5,5,5,5,5,5,5,5,5,6,6,6,6,6,6,6,6,6,6,6,6,6,6,6,6,6,6,6,6,6,6,6,6,6,6,6,6,6,6,6,6,7,7,7,7,7,7,7,7,7,7,7,7,7,7,7,7,7,7,7,7,7,7,7,7,7,7,7,7,7,7,7,7,7,7,7,7,7,7,7,7,7,7,7,7,7,7,7,7,7,7,7,7,7,7,7,7,7,7,7,7,7,7,7,7,8,8,8,8,8,8,8,8,8,8,8,8,8,8,8,8,8,8,8,8,8,8,8,8,8,8,8,8,8,8,8,8,8,8,8,8,8,8,8,8,8,8,8,8,8,8,8,8,8,8,8,8,8,8,8,8,8,8,8,8,8,8,8,8,8,8,8,8,8,8,8,8,8,8,8,8,8,8,8,8,8,8,8,8,8,8,8,8,8,8,8,8,8,8,8,8,8,8,8,8,8,8,8,8,8,8,8,8,8,8,8,8,8,8,8,8,8,8,8,8,8,8,8,8,8,8,8,8]⟩
def aep(x:Nat):Bool:=match nH (aB UC) (.val (.int .u8 x))with|some (.val (.int .u8 t))=>decide (0<=t/\t<=8/\(1<=x->1<=t/\2^t.toNat<=2*x))|_=>false
def awB:∀x:_root_.Fin 256,aep x.val=true:=by decide+kernel
def awC{x:Nat}(h:x<256):∃t:Nat,nH (aB UC) (.val (.int .u8 x))=some (.val (.int .u8 t))/\t<=8/\(1<=x->1<=t/\2^t<=2*x):=by
 have:=awB ⟨x,h⟩;unfold aep at this;simp only at this;split at this;.rename_i t aM;have:=xaW this;obtain⟨m,rfl⟩:∃m:Nat,t=(m:Int):=⟨t.toNat,by omega⟩;exact⟨m,aM,by omega,λh=>⟨by have:=this.2.2 h;omega,by have:=(this.2.2 h).2;simpa using this⟩⟩
 cases this
abbrev k8(n:Nat):D:= .val (.int .u64 n)
theorem NU{bt:Bool}{a b:Int}:ai bt .geq (.val (.int .u64 a)) (.val (.int .u64 b))=some (ay (decide (a>=b))):=rfl
theorem aeq{bt:Bool}{a:Nat}:ai bt .shr (k8 a) (.val (.int .u64 16))=some (k8 (a/65536)):=by show some (D.val (.int .u64 ((a:Int).fdiv 65536)))=_;rw[Int.fdiv_eq_ediv_of_nonneg _ (by omega)];rfl
theorem UD{bt:Bool}{a:Nat}:ai bt .shr (k8 a) (.val (.int .u64 8))=some (k8 (a/256)):=by show some (D.val (.int .u64 ((a:Int).fdiv 256)))=_;rw[Int.fdiv_eq_ediv_of_nonneg _ (by omega)];rfl
def awD{a:Nat}(h:a<256):ka .u8 (k8 a)=some (.val (.int .u8 a)):=by
 show some (D.val (.int .u8 (IntKind.u8.wrap a)))=_
 congr 3
 simp[IntKind.wrap,IntKind.bits,show IntKind.u8.signed=false from rfl,show IntKind.u64.signed=false from rfl]
 try omega
theorem awE{a:Nat}(h:a<256):ka .i64 (.val (.int .u8 a))=some (J a):=by show some (D.val (.int .i64 (IntKind.i64.wrap a)))=_;rw[wrap64 _ (by omega) (by omega)];rfl
def UE{a:Nat}(h:a<4000000000000000000):ka .u64 (J (a:Int))=some (k8 a):=by
 show some (D.val (.int .u64 (IntKind.u64.wrap a)))=_
 congr 3
 simp[IntKind.wrap,IntKind.bits,show IntKind.u8.signed=false from rfl,show IntKind.u64.signed=false from rfl]
 try omega
set_option maxRecDepth 20000 in
def aer(n:Nat){v:Nat}(ab:1<=v)(af:v<4294967296):∃k:Nat,k<=40/\1<=k/\rp n [k8 v]=some (J k)/\2^k<=2*v:=by
 have s0:decide ((v:Int)>=4294967296)=false:=xaF (by omega);have jA:∀{x y:Nat},x+y<1000->ai false .add (J (x:Int)) (J (y:Int))=some (J ((x+y:Nat):Int)):=λh=>qv (by omega);have g3:ai false .add (J 0) (J 16)=some (J 16):=rfl;have ea:ai false .add (J 0) (J 8)=some (J 8):=rfl;have jM:ai false .add (J 16) (J 8)=some (J 24):=rfl;have tail:∀(x s:Nat),x<256->1<=x->s<=24->2^s*x<=v->∃k:Nat,k<=40/\1<=k/\(aa (ka .u8 (k8 x)) λbO=>aa (nH (aB UC) bO) λcx=>aa (ka .i64 cx) λcH=>aa (ai false .add (J (s:Int)) cH) λdc=>some dc)=some (J k)/\2^k<=2*v:=by
  intro x s ag MC aH hle;obtain⟨t,t1,t2,t3⟩:=awC ag;obtain⟨t4,t5⟩:=t3 MC;refine⟨s+t,by omega,by omega,?_,?_⟩;.simp only[awD ag,eF,t1,awE (show t<256 by omega),jA (show s+t<1000 by omega)]
  rw[Nat.pow_add]
  calc 2^s*2^t<=2^s*(2*x):=Nat.mul_le_mul_left _ t5
   _=2*(2^s*x):=by rw[Nat.mul_left_comm]
   _<=2*v:=by omega
 by_cases bU:65536<=v
 .have s1:decide ((v:Int)>=65536)=true:=xaw (by omega);by_cases b9:256<=v/65536;.have s2:decide (((v/65536:Nat):Int)>=256)=true:=xaw (by omega);obtain⟨k,cB,dx,gZ,ph⟩:=tail (v/65536/256) 24 (by omega) (by omega) (by omega) (by omega);refine⟨k,cB,dx,?_,ph⟩;simp only[rp,Gz,y9,Gy,go_sem,NU,s0,s1,s2,aeq,UD,g3,jM];exact congrArg (λo=>aa o λcv=>some cv) gZ
  have s2:decide (((v/65536:Nat):Int)>=256)=false:=xaF (by omega);obtain⟨k,cB,dx,gZ,ph⟩:=tail (v/65536) 16 (by omega) (by omega) (by omega) (by omega);refine⟨k,cB,dx,?_,ph⟩;simp only[rp,Gz,y9,Gy,go_sem,NU,s0,s1,s2,aeq,UD,g3,jM];exact congrArg (λo=>aa o λcv=>some cv) gZ
 have s1:decide ((v:Int)>=65536)=false:=xaF (by omega);by_cases b9:256<=v;.have s2:decide ((v:Int)>=256)=true:=xaw (by omega);obtain⟨k,cB,dx,gZ,ph⟩:=tail (v/256) 8 (by omega) (by omega) (by omega) (by omega);refine⟨k,cB,dx,?_,ph⟩;simp only[rp,Gz,y9,Gy,go_sem,NU,s0,s1,s2,UD,ea];exact congrArg (λo=>aa o λcv=>some cv) gZ
 have s2:decide ((v:Int)>=256)=false:=xaF (by omega);obtain⟨k,cB,dx,gZ,ph⟩:=tail v 0 (by omega) ab (by omega) (by omega);refine⟨k,cB,dx,?_,ph⟩;simp only[rp,Gz,y9,Gy,go_sem,NU,s0,s1,s2];exact congrArg (λo=>aa o λcv=>some cv) gZ
theorem awF(n:Nat)(v:Int):∃w:Int,LR n [.val (.int .u64 v)]=some [.val (.int .u64 w),.val (.int .u64 w)]:=⟨_,rfl⟩
def awG(bt:Bool)(w:Int)(m:Nat)(hm:m<4000000000000000000):∃r:Nat,r<=m/\ai bt .and (.val (.int .u64 w)) (k8 m)=some (k8 r):=by
 refine⟨(BitVec.ofInt 64 w&&&BitVec.ofInt 64 (m:Int)).toNat,?_,?_⟩;.rw[BitVec.toNat_and];refine xbV Nat.and_le_right ?_;rw[BitVec.toNat_ofInt];omega
 show some (D.val (.int .u64 (IntKind.u64.wrap ((BitVec.ofInt 64 w&&&BitVec.ofInt 64 (m:Int)).toNat:Int))))=_;have cr:=(BitVec.ofInt 64 w&&&BitVec.ofInt 64 (m:Int)).isLt;generalize (BitVec.ofInt 64 w&&&BitVec.ofInt 64 (m:Int)).toNat=r at*
 congr 3
 simp[IntKind.wrap,IntKind.bits,show IntKind.u64.signed=false from rfl];omega
def awH{bt:Bool}{m:Nat}(h:1<=m)(bz:m<4000000000000000000):ai bt .sub (k8 m) (.val (.int .u64 1))=some (k8 (m-1)):=by
 show some (D.val (.int .u64 (IntKind.u64.wrap ((m:Int)-1))))=_
 congr 3
 simp[IntKind.wrap,IntKind.bits,show IntKind.u64.signed=false from rfl];omega
theorem awI{a:Nat}(h:a<4000000000000000000):ka .i64 (k8 a)=some (J a):=by show some (D.val (.int .i64 (IntKind.i64.wrap a)))=_;rw[wrap64 _ (by omega) (by omega)];rfl
def awJ(bt:Bool){k:Nat}(h:k<=40):ai bt .shl (.val (.int .u64 1)) (J (k:Int))=some (k8 (2^k)):=by
 have ab:¬(k:Int)<0:=by omega
 simp only[ai,J,xab ab,nF];have af:min (k:Int).toNat IntKind.u64.bits=k:=by simp[IntKind.bits];omega
 rw[af];have aw:2^k<=2^40:=Nat.pow_le_pow_right (by omega) h;have a4:((1:Int)*2^k)=((2^k:Nat):Int):=by simp
 rw[a4];generalize 2^k=q at*
 congr 3
 simp[IntKind.wrap,IntKind.bits,show IntKind.u64.signed=false from rfl];omega
def awK(n:Nat){v:Nat}(ab:1<=v)(af:v<4294967296):∃m:Nat,1<=m/\m<=2*v/\GD n [J (v:Int)]=some (k8 m):=by obtain⟨k,cB,dx,gZ,ph⟩:=aer n ab af;refine⟨2^k,Nat.one_le_two_pow,ph,?_⟩;simp only[GD,ZN,go_sem,UE (show v<4000000000000000000 by omega),gZ,awJ false cB]
def NV{bt:Bool}{a c:Nat}(h:a<1000000000)(bz:c<=100):ai bt .mul (J (a:Int)) (J (c:Int))=some (J ((a*c:Nat):Int)):=by have af:a*c<=1000000000*100:=Nat.mul_le_mul (by omega) bz;have e:(a:Int)*(c:Int)=((a*c:Nat):Int):=(Int.natCast_mul a c).symm;rw[KL (by omega) (by omega),e]
def awL(n:Nat)(bV:List ByteArray)(a b:Nat)(fv:a<b)(aj:b<=bV.length)(bP:bV.length<1000000000)(aL:bV.length+20<n): ∃bA,za n [J (a:Int),J (b:Int),cw bV]=some [D.a1 [],cw bA]/\Part a b bV bA:=by
 have aK:ai false .sub (J (b:Int)) (J (a:Int))=some (J ((b-a:Nat):Int)):=qw (by omega) (by omega);by_cases hT:b-a<8;.refine⟨bV,?_,Part.refl _ _ _⟩;simp only[za,go_sem,aK,yF (((b-a:Nat):Int)>=8)]
 generalize aq:b-a=l at*;have awM:=yT (((l:Nat):Int)>=8);obtain⟨m,gA,ku,u2⟩:=awK n (v:=l) (by omega) (by omega);have bC:ai false .quo (J (l:Int)) (J 4)=some (J ((l/4:Nat):Int)):=NO (k:=4) (by omega) (by omega) (by omega);have bD:ai false .mul (J ((l/4:Nat):Int)) (J 2)=some (J ((l/4*2:Nat):Int)):=NV (c:=2) (by omega) (by omega);have cy:ai false .add (J (a:Int)) (J ((l/4*2:Nat):Int))=some (J ((a+l/4*2:Nat):Int)):=qv (by omega);have ey:ai false .sub (J ((a+l/4*2:Nat):Int)) (J 1)=some (J ((a+l/4*2-1:Nat):Int)):=kM (by omega) (by omega);have fm:ai false .add (J ((a+l/4*2:Nat):Int)) (J 1)=some (J ((a+l/4*2+1:Nat):Int)):=b2 (by omega);have key:=kL (f:=GF n) (S:=Nat×List ByteArray×Int) (λs=>[J (a:Int),J (l:Int),k8 m,J (s.1:Int),cw s.2.1,.val (.int .u64 s.2.2)]) (λs=>a+l/4*2+2-s.1) (λs=>a<=s.1/\Part a b bV s.2.1) (λr=>∃bA,r= .inl [cw bA]/\Part a b bV bA) ?_ n (a+l/4*2-1,bV,(l:Int)) ⟨by simp only;omega,Part.refl _ _ _⟩ (by simp only;omega)
 .obtain⟨r,ab,bA,rfl,af⟩:=key;refine⟨bA,?_,af⟩;have one:bE (k8 l)=true:=rfl;simp only[za,go_sem,aK,awM,UE (show l<4000000000000000000 by omega),one,u2,bC,bD,cy,ey,ab]
 rintro⟨x,L,v⟩ ⟨aV,a2⟩;simp only at aV a2⊢;have b5:=a2.len;by_cases ag:x<=a+l/4*2+1
 .left;obtain⟨w,ga⟩:=awF n v;obtain⟨r,eJ,dX⟩:=awG false w (m-1) (by omega);have hK:ai false .sub (k8 m) (.val (.int .u64 1))=some (k8 (m-1)):=awH gA (by omega);have ja:ka .i64 (k8 r)=some (J r):=awI (by omega);obtain⟨o,gG,mf⟩:∃o:Nat,o<l/\(r<l/\o=r\/¬r<l/\o=r-l):=by
   by_cases h:r<l;.exact⟨r,h,.inl ⟨h,rfl⟩⟩
   exact⟨r-l,by omega,.inr ⟨h,rfl⟩⟩
  have s1:ai false .add (J (a:Int)) (J (o:Int))=some (J ((a+o:Nat):Int)):=qv (by omega);have sd:a+o<L.length:=by omega
  have ld:x<L.length:=by omega
  have aes:a+o<(L.set x (gt L (a+o))).length:=by simpa using sd
  have s2:ai false .add (J (x:Int)) (J 1)=some (J ((x+1:Nat):Int)):=b2 (by omega);refine⟨(x+1,eI L x (a+o),w),?_,⟨by simp only;omega,a2.trans (Part.eI (by omega) (by omega) (by omega) (by omega) (by omega))⟩,by simp only;omega⟩;rcases mf with⟨mf,rfl⟩|⟨mf,rfl⟩
  .simp only[GF,go_sem,bC,bD,cy,fm,yT ((x:Int)<=((a+l/4*2+1:Nat):Int)),ga,hK,dX,ja,yF ((o:Int)>=(l:Int)),s1,c7 sd,c7 ld,cQ aB sd,cQ aB ld,eC,m0,mZ,gN,xaZ,cQ aB aes,mB ld sd,s2]
  have gH:ai false .sub (J (r:Int)) (J (l:Int))=some (J ((r-l:Nat):Int)):=qw (by omega) (by omega);simp only[GF,go_sem,bC,bD,cy,fm,yT ((x:Int)<=((a+l/4*2+1:Nat):Int)),ga,hK,dX,ja,yT ((r:Int)>=(l:Int)),gH,s1,c7 sd,c7 ld,cQ aB sd,cQ aB ld,eC,m0,mZ,gN,xaZ,cQ aB aes,mB ld sd,s2]
 right;refine⟨_,?_,L,rfl,a2⟩;simp only[GF,go_sem,bC,bD,cy,fm,yF ((x:Int)<=((a+l/4*2+1:Nat):Int))]
def UF(n:Nat)(L:List ByteArray)(i j s:Nat)(ah:i<L.length)(aN:j<L.length)(aH:s<1000): ∃x y w:Nat,sV n [cw L,J (i:Int),J (j:Int),J (s:Int)]=some [D.a1 [J (x:Int),J (y:Int)],J (w:Int)]/\(x=i\/x=j)/\(y=i\/y=j)/\w<=s+1:=by
 have aK:ai false .add (J (s:Int)) (J 1)=some (J ((s+1:Nat):Int)):=b2 (by omega);by_cases h:blt (gt L j) (gt L i)=true;.refine⟨j,i,s+1,?_,.inr rfl,.inl rfl,xan _⟩;simp only[sV,go_sem,NN aB ah,NN aB aN,eC,iv,h,aK]
 have h:blt (gt L j) (gt L i)=false:=by simpa using h
 refine⟨i,j,s,?_,.inl rfl,.inr rfl,by omega⟩;simp only[sV,go_sem,NN aB ah,NN aB aN,eC,iv,h]
def UG(n:Nat)(L:List ByteArray)(i j k s:Nat)(ah:i<L.length)(aN:j<L.length)(ak:k<L.length)(aH:s<900): ∃x w:Nat,uJ n [cw L,J (i:Int),J (j:Int),J (k:Int),J (s:Int)]=some [J (x:Int),J (w:Int)]/\(x=i\/x=j\/x=k)/\w<=s+3:=by obtain⟨c0,xj,ga,dz,dh,eK,ji⟩:=UF n L i j s ah aN (by omega);obtain⟨nV,aet,hK,bC,bD,cy,ey⟩:=UF n L xj k ga (by rcases eK with rfl|rfl<;>assumption) ak (by omega);obtain⟨M1,UH,kY,eJ,dX,ja,J0⟩:=UF n L c0 nV hK (by rcases dh with rfl|rfl<;>assumption) (by rcases bD with rfl|rfl<;>(try assumption);rcases eK with rfl|rfl<;>assumption) (by omega);refine⟨UH,kY,?_,by omega,by omega⟩;simp only[uJ,go_sem,dz,bC,eJ]
def UI(n:Nat)(L:List ByteArray)(i s:Nat)(ab:1<=i)(ah:i+1<L.length)(bP:L.length<1000000000)(aH:s<900): ∃x w:Nat,px n [cw L,J (i:Int),J (s:Int)]=some [J (x:Int),J (w:Int)]/\(i<=x+1/\x<=i+1)/\w<=s+3:=by obtain⟨x,w,dz,dh,eK⟩:=UG n L (i-1) i (i+1) s (by omega) (by omega) ah aH;have aK:ai false .sub (J (i:Int)) (J 1)=some (J ((i-1:Nat):Int)):=kM (by omega) (by omega);have aY:ai false .add (J (i:Int)) (J 1)=some (J ((i+1:Nat):Int)):=b2 (by omega);refine⟨x,w,?_,by omega,eK⟩;simp only[px,go_sem,aK,aY,dz]
def awN(n:Nat)(L:List ByteArray)(a b:Nat)(fv:a+12<b)(aj:b<=L.length)(bP:L.length<1000000000): ∃p h:Nat,wJ n [cw L,J (a:Int),J (b:Int)]=some (D.a1 [J (p:Int),J (h:Int)])/\a<=p/\p<b/\h<=2:=by
 have aK:ai false .sub (J (b:Int)) (J (a:Int))=some (J ((b-a:Nat):Int)):=qw (by omega) (by omega);generalize aq:b-a=l at*;have bC:ai false .quo (J (l:Int)) (J 4)=some (J ((l/4:Nat):Int)):=NO (k:=4) (by omega) (by omega) (by omega);have gA:ai false .mul (J ((l/4:Nat):Int)) (J 1)=some (J ((l/4*1:Nat):Int)):=NV (c:=1) (by omega) (by omega);have ku:ai false .mul (J ((l/4:Nat):Int)) (J 2)=some (J ((l/4*2:Nat):Int)):=NV (c:=2) (by omega) (by omega);have u2:ai false .mul (J ((l/4:Nat):Int)) (J 3)=some (J ((l/4*3:Nat):Int)):=NV (c:=3) (by omega) (by omega);have s1:ai false .add (J (a:Int)) (J ((l/4*1:Nat):Int))=some (J ((a+l/4*1:Nat):Int)):=qv (by omega);have s2:ai false .add (J (a:Int)) (J ((l/4*2:Nat):Int))=some (J ((a+l/4*2:Nat):Int)):=qv (by omega);have gH:ai false .add (J (a:Int)) (J ((l/4*3:Nat):Int))=some (J ((a+l/4*3:Nat):Int)):=qv (by omega);have d8:=yT ((l:Int)>=8);obtain⟨p,w,aT,x7,ou⟩:∃p w:Nat,(∀(k:List D->Option D),aa (aa (if decide ((l:Int)>=50)=true then aa (px n [cw L,J ((a+l/4*1:Nat):Int),J 0]) λab=>aa (px n [cw L,J ((a+l/4*2:Nat):Int),(I ab 1)]) λaf=>aa (px n [cw L,J ((a+l/4*3:Nat):Int),(I af 1)]) λaw=>some (Sum.inl [cw L,(I ab 0),(I af 0),(I aw 0),(I aw 1)])
    else some (Sum.inl [cw L,J ((a+l/4*1:Nat):Int),J ((a+l/4*2:Nat):Int),J ((a+l/4*3:Nat):Int),J 0])) (a9 λls=>aa (uJ n [(I ls 0),(I ls 1),(I ls 2),(I ls 3),(I ls 4)]) λa4=>some (Sum.inl [(I a4 0),(I a4 1)]))) (a9 k)=k [J (p:Int),J (w:Int)])/\a<=p/\p<b:=by
  by_cases awz:50<=l;.obtain⟨c0,ga,t1,t2,t3⟩:=UI n L (a+l/4*1) 0 (by omega) (by omega) bP (by omega);obtain⟨nV,hK,pS,oW,aAo⟩:=UI n L (a+l/4*2) ga (by omega) (by omega) bP (by omega);obtain⟨M1,kY,v1,v2,Be⟩:=UI n L (a+l/4*3) hK (by omega) (by omega) bP (by omega);obtain⟨z3,qh,xj,aet,UH⟩:=UG n L c0 nV M1 kY (by omega) (by omega) (by omega) (by omega);have t1:px n [cw L,J ((a+l/4*1:Nat):Int),J 0]=some [J (c0:Int),J (ga:Int)]:=t1;refine⟨z3,qh,λk=>?_,by omega,by omega⟩;simp only[go_sem,yT ((l:Int)>=50),t1,pS,v1,xj]
  .obtain⟨z3,qh,xj,aet,UH⟩:=UG n L (a+l/4*1) (a+l/4*2) (a+l/4*3) 0 (by omega) (by omega) (by omega) (by omega);have xj:uJ n [cw L,J ((a+l/4*1:Nat):Int),J ((a+l/4*2:Nat):Int),J ((a+l/4*3:Nat):Int),J 0]=some [J (z3:Int),J (qh:Int)]:=xj;refine⟨z3,qh,λk=>?_,by omega,by omega⟩;simp only[go_sem,yF ((l:Int)>=50),xj]
 by_cases w0:w=0;.subst w0;refine⟨p,1,?_,x7,ou,by omega⟩;simp only[wJ,LS,go_sem,aK,bC,gA,ku,u2,s1,s2,gH,d8,aT];rfl
 have xk:((w:Int)==0)=false:=by simp;omega
 by_cases awO:w=12;.subst awO;refine⟨p,2,?_,x7,ou,by omega⟩;simp only[wJ,LS,go_sem,aK,bC,gA,ku,u2,s1,s2,gH,d8,aT,xk];rfl
 have awP:((w:Int)==12)=false:=by simp;omega
 refine⟨p,0,?_,x7,ou,by omega⟩;simp only[wJ,LS,go_sem,aK,bC,gA,ku,u2,s1,s2,gH,d8,aT,xk,awP];rfl
def Aj(lV:List D->Option (List D))(n:Nat)(ls:List D):Option (List D⊕(List D⊕(List D))):=aa (ai false .gtr (I ls 0) (J 0)) λil=>
 aa (bL il true (
 aa (ai false .sub (I ls 0) (J 1)) λky=>
 aa (cd ((ar (I ls 7))).length ky) λwM=>
 aa (((ar (I ls 7)))[wM]?) λGN=>
 aa (a3 false 1 0 GN) λkB=>
 aa (cd ((ar (I ls 7))).length (I ls 6)) λGO=>
 aa (((ar (I ls 7)))[GO]?) λGP=>
 aa (a3 false 1 0 GP) λhI=>
 aa (jn n [kB,hI]) λmu=>
 aa (dp .not mu) λhC=>
 some hC
)) λhC=>
 aa (bW il hC (ay false)) λlT=>
 aE lT (
 aa (Ca n [(I ls 0),(I ls 1),(I ls 6),(D.ax 1 (ar (I ls 7)))]) λcO=>
 some (.inl [(I cO 0),(I ls 1),(I ls 2),(I ls 3),(I ls 4),(D.ax 1 (ar (I cO 1)))])
) (
 aa (zh n [(I ls 0),(I ls 1),(I ls 6),(D.ax 1 (ar (I ls 7)))]) λgp=>
 aa (bu 0 (I gp 0)) λkf=>
 aa (bu 1 (I gp 0)) λkE=>
 aa (ai false .sub kf (I ls 0)) λmU=>
 aa (ai false .sub (I ls 1) kf) λpq=>
 aa (ai false .quo (I ls 5) (J 8)) λpy=>
 aa (ai false .lss mU pq) λsR=>
 aa (
 aE sR (
 aa (ai false .geq mU py) λrf=>
 aa (lV [(I ls 0),kf,(I ls 2),(D.ax 1 (ar (I gp 1)))]) λhT=>
 aa (ai false .add kf (J 1)) λwE=>
 some (.inl [wE,(I ls 1),(I ls 2),rf,kE,(D.ax 1 (ar (I hT 1)))])
) (
 aa (ai false .geq pq py) λoD=>
 aa (ai false .add kf (J 1)) λGK=>
 aa (lV [GK,(I ls 1),(I ls 2),(D.ax 1 (ar (I gp 1)))]) λjE=>
 some (.inl [(I ls 0),kf,(I ls 2),oD,kE,(D.ax 1 (ar (I jE 1)))])
)
)<|a9 λls=>some (.inl [(I ls 0),(I ls 1),(I ls 2),(I ls 3),(I ls 4),(D.ax 1 (ar (I ls 5)))])
)
def Dy(lV:List D->Option (List D))(n:Nat)(ls:List D):Option (List D⊕(List D⊕(List D))):=aa (bL (I ls 3) true (
 some (I ls 4)
)) λhJ=>
 aa (bW (I ls 3) hJ (ay false)) λhB=>
 aa (bL hB true (
 aa (ai false .eql (I ls 7) (J 1)) λgQ=>
 some gQ
)) λgQ=>
 aa (bW hB gQ (ay false)) λh1=>
 aa (
 aE h1 (
 aa (wL n [(I ls 0),(I ls 1),(D.ax 1 (ar (I ls 8)))]) λb7=>
 aE (I b7 0) (
 aX (
 aX (
 aX (
 some [(D.a1 []),(D.ax 1 (ar (I b7 1)))]
)
)
)
) (
 some (.inl [(I ls 0),(I ls 1),(I ls 2),(I ls 3),(I ls 4),(I ls 5),(I ls 6),(D.ax 1 (ar (I b7 1)))])
)
) (
 some (.inl [(I ls 0),(I ls 1),(I ls 2),(I ls 3),(I ls 4),(I ls 5),(I ls 6),(D.ax 1 (ar (I ls 8)))])
)
)<|a9 λls=>Aj lV n ls
def Ak(lV:List D->Option (List D))(n:Nat)(ls:List D):Option (List D⊕(List D⊕(List D))):=aa (wJ n [(D.ax 1 (ar (I ls 6))),(I ls 0),(I ls 1)]) λfj=>
 aD fj.flat<|
 aa (bu 0 fj) λiR=>
 aa (bu 1 fj) λfu=>
 aa (ai false .eql fu (J 2)) λe6=>
 aa (
 aE e6 (
 aa (B5 n [(I ls 0),(I ls 1),(D.ax 1 (ar (I ls 6)))]) λa4=>
 aa (ai false .sub (I ls 1) (J 1)) λfC=>
 aa (ai false .sub iR (I ls 0)) λkX=>
 aa (ai false .sub fC kX) λfX=>
 some (.inl [(I ls 0),(I ls 1),(I ls 2),(I ls 3),(I ls 4),(I ls 5),fX,(J 1),(D.ax 1 (ar (I a4 1)))])
) (
 some (.inl [(I ls 0),(I ls 1),(I ls 2),(I ls 3),(I ls 4),(I ls 5),iR,fu,(D.ax 1 (ar (I ls 6)))])
)
)<|a9 λls=>Dy lV n ls
def NW(lV:List D->Option (List D))(n:Nat)(ls:List D):Cf lV n ls=(
 aa (
 aa (ai false .sub (I ls 1) (I ls 0)) λbO=>
 aa (ai false .leq bO (J 12)) λcH=>
 aE cH (
 aa (B1 n [(I ls 0),(I ls 1),(D.ax 1 (ar (I ls 5)))]) λab=>
 aX (
 aX (
 some [(D.a1 []),(D.ax 1 (ar (I ab 1)))]
)
)
) (
 aa (ai false .eql (I ls 2) (J 0)) λdG=>
 aE dG (
 aa (B4 n [(I ls 0),(I ls 1),(D.ax 1 (ar (I ls 5)))]) λaf=>
 aX (
 aX (
 some [(D.a1 []),(D.ax 1 (ar (I af 1)))]
)
)
) (
 aa (dp .not (I ls 3)) λfE=>
 aa (
 aE fE (
 aa (za n [(I ls 0),(I ls 1),(D.ax 1 (ar (I ls 5)))]) λaw=>
 aa (ai false .sub (I ls 2) (J 1)) λgg=>
 some (.inl [(I ls 0),(I ls 1),gg,(I ls 3),(I ls 4),bO,(D.ax 1 (ar (I aw 1)))])
) (
 some (.inl [(I ls 0),(I ls 1),(I ls 2),(I ls 3),(I ls 4),bO,(D.ax 1 (ar (I ls 5)))])
)
)<|a9 λls=>Ak lV n ls
)
)
)<|a9 λls=>some (.inl [(I ls 0),(I ls 1),(I ls 2),(I ls 3),(I ls 4),(D.ax 1 (ar (I ls 5)))])
):=rfl
def Dz(a b:Nat)(L:List ByteArray)(x:Option (List D⊕(List D⊕(List D)))):Prop:=(∃bA,x=some (.inr (.inr [D.a1 [],cw bA]))/\Part a b L bA/\ew blt a b (gt bA))\/(∃(cC b' m:Nat)(u v:Bool)(bA:List ByteArray),x=some (.inl [J (cC:Int),J (b':Int),J (m:Int),ay u,ay v,cw bA])/\m<=1000/\Part a b L bA/\b'-cC<b-a/\∀ae fF,fF<=L.length->jO blt ae fF a b (gt L)->jO blt ae fF cC b' (gt bA))
def Dz.pre{a b:Nat}{L M:List ByteArray}{x:Option (List D⊕(List D⊕(List D)))}(h:Dz a b M x)(aT:Part a b L M):Dz a b L x:=by
 rcases h with⟨bA,ab,af,aw⟩|⟨cC,b',m,u,v,bA,ab,hm,af,aw,a4⟩;.exact .inl ⟨bA,ab,aT.trans af,aw⟩
 exact .inr ⟨cC,b',m,u,v,bA,ab,hm,aT.trans af,aw,λae fF aj bk=>a4 ae fF (by rw[aT.len];exact aj) (bk.part aT aj)⟩
section
variable{r:List D->Option (List D)}{n:Nat}{L:List ByteArray}{a b:Nat}
def IM(r:List D->Option (List D))(len W:Nat):Prop:=∀(M:List ByteArray)(a b m:Nat),m<=1000->M.length=len->a<=b->b<=M.length->b-a<W->pP a b M->∃cW,r [J (a:Int),J (b:Int),J (m:Int),cw M]=some [D.a1 [],cw cW]/\Part a b M cW/\ew blt a b (gt cW)
def aeu(av:IM r L.length (b-a))(fv:a+12<b)(aj:b<=L.length)(bP:L.length<1000000000)(aL:L.length+30<n)(m1:pP a b L)(m p:Nat)(hm:m<=1000)(u v:Bool)(aT:a<=p/\p<b):Dz a b L (Aj r n [J (a:Int),J (b:Int),J (m:Int),ay u,ay v,J ((b-a:Nat):Int),J (p:Int),cw L]):=by
 have kp:p<L.length:=by omega
 have hh:=λ(bA:List ByteArray)(ya:Part a b L bA) ae fF (Al:fF<=L.length) (bk:jO blt ae fF a b (gt L))=>bk.part ya Al;by_cases he:0<a/\blt (gt L (a-1)) (gt L p)=false
 .obtain⟨au,he⟩:=he;have fs:a-1<L.length:=by omega
  have aK:ai false .sub (J (a:Int)) (J 1)=some (J ((a-1:Nat):Int)):=kM (by omega) (by omega);obtain⟨jJ,bA,dz,dh,eK,ji,lh,o6⟩:=awu n L a b p (by omega) aT aj bP (by omega);refine .inr ⟨jJ,b,m,u,v,bA,?_,hm,dh,by omega,?_⟩;.simp only[Aj,go_sem,yT ((a:Int)>0),ef,dY,aK,c7 fs,c7 kp,cQ aB fs,cQ aB kp,eC,gN,iv,he,dz]
  intro ae fF Al bk;have gl:eR (λx=>blt x (gt L p)=false) a b (gt L):=λk ab af=>jP.tr _ _ _ he (m1 au k ab af);exact(hh bA dh ae fF Al bk).eq (by omega) ji lh (gl.part dh aj) o6 jP
 
 obtain⟨jJ,d,bA,dz,dh,eK,ji,lh,o6⟩:=awp n L a b p (by omega) aT aj bP (by omega);have b5:=dh.len;have aK:ai false .sub (J (jJ:Int)) (J (a:Int))=some (J ((jJ-a:Nat):Int)):=qw (by omega) (by omega);have aY:ai false .sub (J (b:Int)) (J (jJ:Int))=some (J ((b-jJ:Nat):Int)):=qw (by omega) (by omega);have bN:ai false .quo (J ((b-a:Nat):Int)) (J 8)=some (J (((b-a)/8:Nat):Int)):=NO (k:=8) (by omega) (by omega) (by omega);have cN:ai false .add (J (jJ:Int)) (J 1)=some (J ((jJ+1:Nat):Int)):=b2 (by omega);have UJ:pP a b bA:=m1.part dh (xan _) (xan _) aj;have iX:∀(x y:Option (List D⊕(List D⊕(List D)))),aa (bL (ay (decide ((a:Int)>0))) true (aa (ai false .sub (J (a:Int)) (J 1)) λky=>aa (cd (pM aB L).length ky) λwM=>aa ((pM aB L)[wM]?) λGN=>aa (a3 false 1 0 GN) λkB=>aa (cd (pM aB L).length (J (p:Int))) λGO=>aa ((pM aB L)[GO]?) λGP=>aa (a3 false 1 0 GP) λhI=>aa (jn n [kB,hI]) λmu=>aa (dp .not mu) λhC=>some hC)) (λhC=>aa (bW (ay (decide ((a:Int)>0))) hC (ay false)) λlT=>aE lT x y)=y:=by
  intro x y;by_cases au:0<a
  .have awQ:blt (gt L (a-1)) (gt L p)=true:=by
    cases bJ:blt (gt L (a-1)) (gt L p)with|true=>rfl|false=>exact absurd ⟨au,bJ⟩ he
   have fs:a-1<L.length:=by omega
   have aK:ai false .sub (J (a:Int)) (J 1)=some (J ((a-1:Nat):Int)):=kM (by omega) (by omega);simp only[go_sem,yT ((a:Int)>0),ef,dY,aK,c7 fs,c7 kp,cQ aB fs,cQ aB kp,eC,gN,iv,awQ]
  simp only[go_sem,yF ((a:Int)>0),ef,dY]
 by_cases cr:jJ-a<b-jJ
 .obtain⟨iJ,eJ,dX,ja⟩:=av bA a jJ m hm b5 eK (by omega) (by omega) (λau q ab af=>UJ au q ab (by omega));have mQ:Part a b bA iJ:=dX.mono (xan _) (by omega);refine .inr ⟨jJ+1,b,m,decide (((jJ-a:Nat):Int)>=(((b-a)/8:Nat):Int)),d,iJ,?_,hm,dh.trans mQ,by omega,?_⟩
  .simp only[Aj,nO,pj,oy,eF,EX];rw[iX];simp only[go_sem,dz,aK,aY,bN,yT (((jJ-a:Nat):Int)<((b-jJ:Nat):Int)),eJ,cN]
  intro ae fF Al bk;have ab:=hh iJ (dh.trans mQ) ae fF Al bk;have em:gt iJ jJ=gt bA jJ:=dX.pL (.inr (xan _));refine ab.right eK ji ja ?_ ?_ jP
  .rw[em];exact lh.part dX (by omega)
  rw[em];exact o6.out dX (.inr (by omega))
 obtain⟨iJ,eJ,dX,ja⟩:=av bA (jJ+1) b m hm b5 (by omega) (by omega) (by omega) (λ_ q ab af=>o6 q ab af);have mQ:Part a b bA iJ:=dX.mono (by omega) (xan _);refine .inr ⟨a,jJ,m,decide (((b-jJ:Nat):Int)>=(((b-a)/8:Nat):Int)),d,iJ,?_,hm,dh.trans mQ,by omega,?_⟩
 .simp only[Aj,nO,pj,oy,eF,EX];rw[iX];simp only[go_sem,dz,aK,aY,bN,yF (((jJ-a:Nat):Int)<((b-jJ:Nat):Int)),eJ,cN]
 intro ae fF Al bk;have ab:=hh iJ (dh.trans mQ) ae fF Al bk;have em:gt iJ jJ=gt bA jJ:=dX.pL (.inl (by omega));refine ab.left eK ji ja ?_ ?_ jP
 .rw[em];exact lh.out dX (.inl (by omega))
 rw[em];exact o6.part dX (by omega)
def aev(av:IM r L.length (b-a))(fv:a+12<b)(aj:b<=L.length)(bP:L.length<1000000000)(aL:L.length+30<n)(m1:pP a b L)(m p h:Nat)(hm:m<=1000)(u v:Bool)(aT:a<=p/\p<b):Dz a b L (Dy r n [J (a:Int),J (b:Int),J (m:Int),ay u,ay v,J ((b-a:Nat):Int),J (p:Int),J (h:Int),cw L]):=by
 obtain⟨s,bA,bC,bD,cy⟩:=awy n L a b (by omega) aj bP (by omega) m1;have b5:=bD.len;have iX:Dy r n [J (a:Int),J (b:Int),J (m:Int),ay u,ay v,J ((b-a:Nat):Int),J (p:Int),J (h:Int),cw L]=(if(u&&(v&&((h:Int)==1)))=true then(if s=true then some (.inr (.inr [D.a1 [],cw bA]))else Aj r n [J (a:Int),J (b:Int),J (m:Int),ay u,ay v,J ((b-a:Nat):Int),J (p:Int),cw bA])
    else Aj r n [J (a:Int),J (b:Int),J (m:Int),ay u,ay v,J ((b-a:Nat):Int),J (p:Int),cw L]):=by
  cases u<;>cases v<;>cases bJ:((h:Int)==1)<;>cases s<;>simp only[Dy,go_sem,ef,dY,bJ,bC]<;>rfl
 rw[iX];split
 .split;.rename_i aH;exact .inl ⟨bA,rfl,bD,cy aH⟩
  exact(aeu (L:=bA) (by rw[b5];exact av) fv (by omega) (by omega) (by omega) (m1.part bD (xan _) (xan _) aj) m p hm u v aT).pre bD
 exact aeu av fv aj bP aL m1 m p hm u v aT
def awR(av:IM r L.length (b-a))(fv:a+12<b)(aj:b<=L.length)(bP:L.length<1000000000)(aL:L.length+30<n)(m1:pP a b L)(m:Nat)(hm:m<=1000)(u v:Bool):Dz a b L (Ak r n [J (a:Int),J (b:Int),J (m:Int),ay u,ay v,J ((b-a:Nat):Int),cw L]):=by
 obtain⟨p,h,bU,b9,cE,dy⟩:=awN n L a b fv aj bP;have n4:(D.a1 [J (p:Int),J (h:Int)]).flat=true:=rfl;by_cases af:h=2
 .subst af;obtain⟨bA,bC,bD⟩:=awe n L a b (by omega) aj bP (by omega);have b5:=bD.len;have aK:ai false .sub (J (b:Int)) (J 1)=some (J ((b-1:Nat):Int)):=kM (by omega) (by omega);have aY:ai false .sub (J (p:Int)) (J (a:Int))=some (J ((p-a:Nat):Int)):=qw (by omega) (by omega);have bN:ai false .sub (J ((b-1:Nat):Int)) (J ((p-a:Nat):Int))=some (J ((b-1-(p-a):Nat):Int)):=qw (by omega) (by omega);have z:(((2:Nat):Int)==2)=true:=rfl;have iX:Ak r n [J (a:Int),J (b:Int),J (m:Int),ay u,ay v,J ((b-a:Nat):Int),cw L]=Dy r n [J (a:Int),J (b:Int),J (m:Int),ay u,ay v,J ((b-a:Nat):Int),J ((b-1-(p-a):Nat):Int),J 1,cw bA]:=by
   simp only[Ak,go_sem,bU,n4,z,bC,aK,aY,bN]
  rw[iX];exact(aev (L:=bA) (by rw[b5];exact av) fv (by omega) (by omega) (by omega) (m1.part bD (xan _) (xan _) aj) m _ 1 hm u v (by omega)).pre bD
 have z:((h:Int)==2)=false:=by simp;omega
 have iX:Ak r n [J (a:Int),J (b:Int),J (m:Int),ay u,ay v,J ((b-a:Nat):Int),cw L]=Dy r n [J (a:Int),J (b:Int),J (m:Int),ay u,ay v,J ((b-a:Nat):Int),J (p:Int),J (h:Int),cw L]:=by simp only[Ak,go_sem,bU,n4,z]
 rw[iX];exact aev av fv aj bP aL m1 m p h hm u v ⟨b9,cE⟩
def awS(av:IM r L.length (b-a))(fv:a<=b)(aj:b<=L.length)(bP:L.length<1000000000)(aL:L.length+30<n)(m1:pP a b L)(m:Nat)(hm:m<=1000)(u v:Bool):(∃bA,Cf r n [J (a:Int),J (b:Int),J (m:Int),ay u,ay v,cw L]=some (.inr [D.a1 [],cw bA])/\Part a b L bA/\ew blt a b (gt bA))\/(∃(cC b' cI:Nat)(UK ko:Bool)(bA:List ByteArray),Cf r n [J (a:Int),J (b:Int),J (m:Int),ay u,ay v,cw L]=some (.inl [J (cC:Int),J (b':Int),J (cI:Int),ay UK,ay ko,cw bA])/\cI<=1000/\Part a b L bA/\b'-cC<b-a/\∀ae fF,fF<=L.length->jO blt ae fF a b (gt L)->jO blt ae fF cC b' (gt bA)):=by
 have aK:ai false .sub (J (b:Int)) (J (a:Int))=some (J ((b-a:Nat):Int)):=qw fv (by omega);by_cases IC:b-a<=12;.obtain⟨bA,bC,bD,cy⟩:=awd n L a b fv aj bP (by omega);refine .inl ⟨bA,?_,bD,cy⟩;simp only[NW,go_sem,aK,yT (((b-a:Nat):Int)<=12),bC]
 have d12:=yF (((b-a:Nat):Int)<=12);by_cases g6:m=0;.subst g6;obtain⟨bA,bC,bD,cy⟩:=awj n L a b (by omega) aj bP (by omega);refine .inl ⟨bA,?_,bD,cy⟩;have z:(((0:Nat):Int)==0)=true:=rfl;simp only[NW,go_sem,aK,d12,z,bC]
 have aew:((m:Int)==0)=false:=by simp;omega
 obtain⟨Dw,gA,aV,a2,bc⟩:∃(Dw:List ByteArray)(gA:Nat),Cf r n [J (a:Int),J (b:Int),J (m:Int),ay u,ay v,cw L]=aa (Ak r n [J (a:Int),J (b:Int),J (gA:Int),ay u,ay v,J ((b-a:Nat):Int),cw Dw]) (a9 λls=>some (.inl [(I ls 0),(I ls 1),(I ls 2),(I ls 3),(I ls 4),(D.ax 1 (ar (I ls 5)))]))/\Part a b L Dw/\gA<=1000:=by cases u with|true=>refine⟨L,m,?_,Part.refl _ _ _,hm⟩;simp only[NW,go_sem,aK,d12,aew]|false=>obtain⟨bA,bC,bD⟩:=awL n L a b (by omega) aj bP (by omega);have aY:ai false .sub (J (m:Int)) (J 1)=some (J ((m-1:Nat):Int)):=kM (by omega) (by omega);refine⟨bA,m-1,?_,bD,by omega⟩;simp only[NW,go_sem,aK,d12,aew,bC,aY]
 have b5:=a2.len;have fa:=(awR (L:=Dw) (r:=r) (n:=n) (by rw[b5];exact av) (by omega) (by omega) (by omega) (by omega) (m1.part a2 (xan _) (xan _) aj) gA bc u v).pre a2;rw[aV];rcases fa with⟨bA,ab,af,aw⟩|⟨cC,b',cI,UK,ko,bA,ab,uk,af,aw,a4⟩
 .exact .inl ⟨bA,by rw[ab];simp only[go_sem],af,aw⟩
 exact .inr ⟨cC,b',cI,UK,ko,bA,by rw[ab];simp only[go_sem],uk,af,aw,a4⟩
end
def aex:∀(n:Nat)(L:List ByteArray)(a b m:Nat),m<=1000->a<=b->b<=L.length->L.length<1000000000->(b-a)+L.length+40<n->pP a b L-> ∃bA,rr n [J (a:Int),J (b:Int),J (m:Int),cw L]=some [D.a1 [],cw bA]/\Part a b L bA/\ew blt a b (gt bA)
 |0,L,a,b,m,_,_,_,_,h,_=>absurd h (xaA _)
 |n+1,L,a,b,m,hm,fv,aj,bP,aL,m1=>by
  have key:=kL (f:=Cf (rr n) n) (S:=Nat×Nat×Nat×Bool×Bool×List ByteArray) (λs=>[J (s.1:Int),J (s.2.1:Int),J (s.2.2.1:Int),ay s.2.2.2.1,ay s.2.2.2.2.1,cw s.2.2.2.2.2]) (λs=>s.2.1-s.1) (λs=>s.2.2.1<=1000/\Part a b L s.2.2.2.2.2/\jO blt a b s.1 s.2.1 (gt s.2.2.2.2.2)) (λr=>∃bA,r=[D.a1 [],cw bA]/\Part a b L bA/\ew blt a b (gt bA)) ?_ n (a,b,m,true,true,L) ⟨hm,Part.refl _ _ _,jO.start fv (λau j ab af=>m1 au j ab af)⟩ (by simp only;omega);.obtain⟨r,ab,bA,rfl,af⟩:=key;refine⟨bA,?_,af⟩;simp only[rr,R8,go_sem,ab]
  rintro⟨cC,b',cI,u,v,M⟩ ⟨aV,a2,bc⟩;simp only at aV a2 bc⊢;have b5:=a2.len;obtain⟨bC,bD,cy⟩:=bc.le;have UJ:pP cC b' M:=λau j ab af=>bc.low au j ab af;have av:IM (rr n) M.length (b'-cC):=λN x y k ab af aw a4 b7 cO=>aex n N x y k ab aw a4 (by omega) (by omega) cO;rcases awS (L:=M) (n:=n) av bD (by omega) (by omega) (by omega) UJ cI aV u v with⟨bA,ab,af,aw⟩|⟨ba,hs,ku,oW,v2,bA,ab,Th,af,aw,a4⟩
  .right;exact⟨_,ab,bA,rfl,a2.trans (af.mono bC cy),(bc.part af (by omega)).done aw⟩
  left;exact⟨(ba,hs,ku,oW,v2,bA),ab,⟨Th,a2.trans (af.mono bC cy),a4 a b (by omega) bc⟩,aw⟩
set_option maxRecDepth 50000 in
def awT(n:Nat)(L:List ByteArray)(bP:L.length<1000000000)(aL:L.length+L.length+60<n): ∃bA,Cg n [cw L]=some [D.a1 [],cw bA]/\Part 0 L.length L bA/\ew blt 0 L.length (gt bA):=by
 have go:∀m:Nat,m<=1000->rp n [k8 L.length]=some (J m)->∃bA,Cg n [cw L]=some [D.a1 [],cw bA]/\Part 0 L.length L bA/\ew blt 0 L.length (gt bA):=by intro m hm he;obtain⟨bA,bC,bD,cy⟩:=aex n L 0 L.length m hm (xai _) (xan _) bP (by omega) (λh=>absurd h (xbR _));have bC:rr n [J 0,J (L.length:Int),J (m:Int),cw L]=some [D.a1 [],cw bA]:=bC;refine⟨bA,?_,bD,cy⟩;simp only[Cg,go_sem,gN,UE (show L.length<4000000000000000000 by omega),he,bC]
 by_cases au:L.length=0;.rw[au]at go;have:=go 0 (by omega) (by exact rfl);rw[au];exact this
 obtain⟨k,cB,dx,gZ,ph⟩:=aer n (v:=L.length) (by omega) (by omega);exact go k (by omega) gZ
def gx(s:ByteArray)(l:List ByteArray):List ByteArray:=l.takeWhile λx=>blt x s
def iw(s:ByteArray)(l:List ByteArray):List ByteArray:=l.dropWhile λx=>blt x s
def aey{s:ByteArray}:∀{l:List ByteArray},hl l->gx s l++[s]++(iw s l).filter (λx=>!decide (x=s))=gu s l
 |[],_=>by simp[gx,iw,gu]
 |x::r,h=>by
  have ih:=aey h.2 (s:=s);rw[gu];cases aj:blt x s with
  |true=>
   have cP:¬x=s:=by rintro rfl;rw[mq]at aj;cases aj
   have Tk:¬blt s x=true:=by intro g;have:=jP.Af _ _ g;rw[aj]at this;cases this
   have aK:gx s (x::r)=x::gx s r:=by simp[gx,aj]
   have aY:iw s (x::r)=iw s r:=by simp[iw,aj]
   rw[xab cP,xab Tk,aK,aY,<-ih];simp
  |false=>
   have aK:gx s (x::r)=[]:=by simp[gx,aj]
   have aY:iw s (x::r)=x::r:=by simp[iw,aj]
   rw[aK,aY];by_cases ag:x=s
   .subst ag;have bd:r.filter (λy=>!decide (y=x))=r:=by
     rw[List.filter_eq_self];intro y aP;have:=h.1 y aP;have cP:¬y=x:=by rintro rfl;rw[mq]at this;cases this
     simp[cP]
    simp[bd]
   have aH:blt s x=true:=by
    rcases yr s x with g|g|g;.exact g
    .exact absurd g.symm ag
    rw[aj]at g;cases g
   have bd:(x::r).filter (λy=>!decide (y=s))=x::r:=by
    rw[List.filter_eq_self];intro y aP;have cr:blt s y=true:=by
     rcases xak.1 aP with rfl|aP;.exact aH
     exact q6 aH (h.1 y aP)
    have cP:¬y=s:=by rintro rfl;rw[mq]at cr;cases cr
    simp[cP]
   rw[xab ag,xad aH,bd];rfl
def IN(s:ByteArray)(l:List ByteArray):gx s l++iw s l=l:=List.takeWhile_append_dropWhile
end Go.Am
