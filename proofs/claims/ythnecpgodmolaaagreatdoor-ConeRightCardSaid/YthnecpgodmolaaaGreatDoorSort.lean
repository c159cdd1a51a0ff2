/- Laws, on data. No condition. -/
import Derived.Test.YthnecpgodmolaaaGreatDoorEngD
import Derived.Test.YthnecpgodmolaaaGreatDoorCode
import Derived.Test.YthnecpgodmolaaaGreatDoorEngS
set_option linter.all false
set_option linter.unnecessarySimpa false
namespace Go.Am
def k8{β S:Type}{f:List D->Option (List D⊕β)}(eQ:S->List D)(NQ:S->Nat)(Inv:S->Prop)(Q:β->Prop) (step:∀s,Inv s->(∃s',f (eQ s)=some (.inl (eQ s'))/\Inv s'/\NQ s'<NQ s)\/(∃r,f (eQ s)=some (.inr r)/\Q r)): ∀n s,Inv s->NQ s<n->∃r,bp f n (eQ s)=some r/\Q r
 |0,s,_,h=>absurd h (xay _)
 |n+1,s,h,hm=>by
  rw[jH];rcases step s h with⟨s',ab,af,aw⟩|⟨r,ab,af⟩
  .rw[ab];exact k8 eQ NQ Inv Q step n s' af (by omega)
  rw[ab];exact⟨r,rfl,af⟩
section
variable{α:Type}
structure Part(a b:Nat)(L bB:List α):Prop where
 len:bB.length=L.length
 out:∀i,i<a\/b<=i->bB[i]?=L[i]?
 vc:∀p:α->Bool,bB.countP p=L.countP p
theorem Part.refl(a b:Nat)(L:List α):Part a b L L:=⟨rfl,λ_ _=>rfl,λ_=>rfl⟩
def Part.trans{a b:Nat}{L M N:List α}(h:Part a b L M)(bx:Part a b M N):Part a b L N:=⟨bx.len.trans h.len,λi ah=>(bx.out i ah).trans (h.out i ah),λp=>(bx.vc p).trans (h.vc p)⟩
def Part.mono{a b cB b':Nat}{L M:List α}(h:Part a b L M)(aE:cB<=a)(aj:b<=b'):Part cB b' L M:=⟨h.len,λi ah=>h.out i (by omega),h.vc⟩
def eL(L:List α)(i j:Nat):List α:=match L[i]?,L[j]? with|some x,some y=>(L.set i y).set j x|_,_=>L
def av5{L:List α}{i j:Nat}{x y:α}(ah:L[i]?=some x)(aN:L[j]?=some y):(L.set i y).set j x=eL L i j:=by simp only[eL,ah,aN]
def IN(L:List α)(i j:Nat):(eL L i j).length=L.length:=by unfold eL;split<;>simp
def aer{L:List α}{i j:Nat}(ah:i<L.length)(aN:j<L.length)(k:Nat):(eL L i j)[k]?=if k=j then L[i]? else if k=i then L[j]? else L[k]?:=by
 unfold eL;rw[xab ah,xab aN];simp only[List.getElem?_set,xaY];by_cases ab:k=j;.subst ab;simp[aN]
 by_cases af:k=i;.subst af;rw[xac (λh=>ab h.symm),xac ab];simp[ah]
 rw[xac (λh=>ab h.symm),xac (λh=>af h.symm),xac ab,xac af]
def av6{L:List α}{i:Nat}:eL L i i=L:=by
 unfold eL;split
 .rename_i x y ab af;rw[ab]at af;cases af;apply xbY;intro k;simp only[List.getElem?_set,xaY];by_cases h:i=k;.subst h;rw[ab];simp[(xae.1 ab).1]
  simp[h]
 rfl
def Part.eL{a b i j:Nat}{L:List α}(ah:a<=i)(ju:i<b)(aN:a<=j)(qN:j<b)(aj:b<=L.length):Part a b L (eL L i j):=by
 refine⟨IN L i j,?_,?_⟩;.intro k ak;rw[aer (by omega) (by omega),xac (by omega),xac (by omega)]
 intro p;by_cases gK:i=j;.subst gK;rw[av6]
 have ab:i<L.length:=by omega
 have af:j<L.length:=by omega
 unfold Am.eL;rw[xab ab,xab af];simp only;rw[List.countP_set (by simpa using af),List.countP_set ab];rw[List.getElem_set_ne gK];have aL:1<=L.countP p\/p L[i]=false:=by cases h:p L[i]with|false=>exact .inr rfl|true=>exact .inl (List.countP_pos_iff.2 ⟨_,xaX ab,h⟩)
 have aX:1<=L.countP p\/p L[j]=false:=by cases h:p L[j]with|false=>exact .inr rfl|true=>exact .inl (List.countP_pos_iff.2 ⟨_,xaX af,h⟩)
 cases aw:p L[i]<;>cases a4:p L[j]<;>simp_all<;>omega
def tE(P:α->Prop)(a b:Nat)(L:List α):Prop:=∀i x,a<=i->i<b->L[i]?=some x->P x
def tE.mono{P:α->Prop}{a b cB b':Nat}{L:List α}(h:tE P a b L)(aE:a<=cB)(aj:b'<=b):tE P cB b' L:=λi x ab af ag=>h i x (by omega) (by omega) ag
def tE.out{P:α->Prop}{a b c d:Nat}{L M:List α}(h:tE P c d L)(aU:Part a b L M)(aB:d<=a\/b<=c):tE P c d M:=λi x ab af ag=>h i x ab af (by rw[<-aU.out i (by omega)];exact ag)
def av7{p:α->Bool}{l:List α}(h:l.countP p=0):∀x∈l,p x=false:=by intro x ag;cases aU:p x with|false=>rfl|true=>have:=List.countP_pos_iff.2 ⟨x,ag,aU⟩;omega
open Classical in
def tE.part{P:α->Prop}{a b:Nat}{L M:List α}(h:tE P a b L)(aU:Part a b L M)(fG:a<=b):tE P a b M:=by
 intro i x ab af ag;have aL:M.take a=L.take a:=by
  apply xbY;intro k;rw[xaM,xaM];split;.rename_i ak;exact aU.out k (.inl ak)
  rfl
 have aX:M.drop b=L.drop b:=by apply xbY;intro k;rw[xaW,xaW];exact aU.out _ (.inr (by omega))
 have aes:∀(N:List α)(q:α->Bool),N.countP q=(N.take a).countP q+((N.drop a).take (b-a)).countP q+(N.drop b).countP q:=by
  intro N q
  conv=>lhs;rw[<-xbu a N,List.countP_append,<-xbu (b-a) (N.drop a),List.countP_append,List.drop_drop]
  rw[show a+(b-a)=b by omega];omega
 have ao:=aU.vc (λy=>!decide (P y));rw[aes M,aes L,aL,aX]at ao;have au:((L.drop a).take (b-a)).countP (λy=>!decide (P y))=0:=by
  rw[List.countP_eq_zero];intro y aQ;obtain⟨k,ak⟩:=List.getElem?_of_mem aQ;rw[xaM]at ak;split at ak;.rename_i cv;rw[xaW]at ak;simp[h (a+k) y (by omega) (by omega) ak]
  cases ak
 have aw:((M.drop a).take (b-a)).countP (λy=>!decide (P y))=0:=by omega
 have hm:x∈(M.drop a).take (b-a):=by refine xaa (i:=i-a) ?_;rw[xaM,xad (by omega),xaW,show a+(i-a)=i by omega];exact ag
 have:=av7 aw x hm;simpa using this
def Part.mem{a b:Nat}{L M:List α}(h:Part a b L M)[DecidableEq α](x:α):x∈M↔x∈L:=by
 have:=h.vc (λy=>y==x);have e:∀N:List α,x∈N↔0<N.countP (λy=>y==x):=by
  intro N;rw[List.countP_pos_iff];constructor;.intro h;exact⟨x,h,by simp⟩
  rintro⟨y,ab,af⟩;rw[<-eq_of_beq af];exact ab
 rw[e,e,this]
structure IP(lt:α->α->Bool):Prop where
 IQ:∀x,lt x x=false
 Dt:∀x y,lt x y=true->lt y x=false
 tr:∀x y z,lt y x=false->lt z y=false->lt z x=false
end
section
variable{α:Type}
def gt[Inhabited α](L:List α)(i:Nat):α:=L.getD i default
def IS[Inhabited α]{L:List α}{i:Nat}(h:i<L.length):L[i]?=some (gt L i):=by simp[gt,xaP,xab h]
def jO(f:Nat->α)(i j:Nat):Nat->α:=λk=>if k=j then f i else if k=i then f j else f k
def r2[Inhabited α]{L:List α}{i j:Nat}(ah:i<L.length)(aN:j<L.length):gt (eL L i j)=jO (gt L) i j:=by
 funext k
 simp only[gt,jO,xaP,aer ah aN];split<;>try split
 all_goals rfl
def Part.pR[Inhabited α]{a b:Nat}{L M:List α}(h:Part a b L M){i:Nat}(ah:i<a\/b<=i):gt M i=gt L i:=by simp only[gt,xaP,h.out i ah]
def eV(P:α->Prop)(a b:Nat)(f:Nat->α):Prop:=∀i,a<=i->i<b->P (f i)
def eV.part[Inhabited α]{P:α->Prop}{a b:Nat}{L M:List α}(h:eV P a b (gt L))(aU:Part a b L M)(aj:b<=L.length):eV P a b (gt M):=by
 intro i ab af;have aw:tE P a b L:=λk x cE dz ag=>by have:=h k cE dz;have e:=IS (L:=L) (i:=k) (by omega);rw[e]at ag;cases ag;exact this
 exact(aw.part aU (by omega)) i _ ab af (IS (by rw[aU.len];omega))
def eV.out[Inhabited α]{P:α->Prop}{a b c d:Nat}{L M:List α}(h:eV P c d (gt L))(aU:Part a b L M)(aB:d<=a\/b<=c):eV P c d (gt M):=by intro i ab af;rw[aU.pR (by omega)];exact h i ab af
def eV.mono{P:α->Prop}{a b cB b':Nat}{f:Nat->α}(h:eV P a b f)(aE:a<=cB)(aj:b'<=b):eV P cB b' f:=λi ab af=>h i (by omega) (by omega)
def ez(lt:α->α->Bool)(a b:Nat)(f:Nat->α):Prop:=∀i j,a<=i->i<j->j<b->lt (f j) (f i)=false
def ez.out[Inhabited α]{lt:α->α->Bool}{a b c d:Nat}{L M:List α}(h:ez lt c d (gt L))(aU:Part a b L M)(aB:d<=a\/b<=c):ez lt c d (gt M):=by intro i j ab af aw;rw[aU.pR (by omega),aU.pR (by omega)];exact h i j ab af aw
def ez.mono{lt:α->α->Bool}{a b cB b':Nat}{f:Nat->α}(h:ez lt a b f)(aE:a<=cB)(aj:b'<=b):ez lt cB b' f:=λi j ab af aw=>h i j (by omega) af (by omega)
def xl{lt:α->α->Bool}{a b:Nat}{f:Nat->α}(h:b<=a+1):ez lt a b f:=λi j ab af aw=>by omega
def ez.join{lt:α->α->Bool}{a m b:Nat}{f:Nat->α}(ab:ez lt a m f)(af:ez lt m b f)(h:∀i j,a<=i->i<m->m<=j->j<b->lt (f j) (f i)=false):ez lt a b f:=by
 intro i j aW a2 bc;by_cases aN:j<m;.exact ab i j aW a2 aN
 by_cases ah:i<m;.exact h i j aW ah (by omega) bc
 exact af i j (by omega) a2 bc
variable{lt:α->α->Bool}(aF:IP lt)
include aF
theorem ez.more{a i:Nat}{f:Nat->α}(h:ez lt a i f)(ah:a<i)(aq:lt (f i) (f (i-1))=false):ez lt a (i+1) f:=by
 intro p q ab af aw;by_cases bg:q<i;.exact h p q ab af bg
 have e:q=i:=by omega
 subst e;by_cases aU:p=q-1;.subst aU;exact aq
 exact aF.tr _ _ _ (h p (q-1) ab (by omega) (by omega)) aq
omit aF
def Du(lt:α->α->Bool)(a j i:Nat)(f:Nat->α):Prop:=∀p q,a<=p->p<q->q<=i->q≠j->lt (f q) (f p)=false
theorem aet{a i:Nat}{f:Nat->α}(h:ez lt a i f):Du lt a i i f:=λp q ab af aw a4=>h p q ab af (by omega)
include aF
theorem aeu{a j i:Nat}{f:Nat->α}(h:Du lt a j i f)(aE:a<j)(iY:j<=i)(aq:lt (f j) (f (j-1))=true):Du lt a (j-1) i (jO f j (j-1)):=by
 intro p q ab af aw a4;have has:=aF.Dt _ _ aq;simp only[jO];rw[xac a4];by_cases bg:q=j
 .subst bg;rw[xad rfl];by_cases aU:p=q-1;.rw[xad aU];exact has
  rw[xac aU,xac (by omega)];exact h p (q-1) ab (by omega) (by omega) (by omega)
 rw[xac bg];by_cases aU:p=j-1;.rw[xad aU];exact h j q (by omega) (by omega) aw bg
 rw[xac aU];by_cases oy:p=j;.rw[xad oy];exact h (j-1) q (by omega) (by omega) aw bg
 rw[xac oy];exact h p q ab af aw bg
theorem NR{a j i:Nat}{f:Nat->α}(h:Du lt a j i f)(av8:a<=j)(aq:j=a\/lt (f j) (f (j-1))=false):ez lt a (i+1) f:=by
 intro p q ab af aw;by_cases bg:q=j
 .subst bg;rcases aq with aq|aq
  .omega
  by_cases aU:p=q-1;.subst aU;exact aq
  exact aF.tr _ _ _ (h p (q-1) ab (by omega) (by omega) (by omega)) aq
 exact h p q ab af (by omega) bg
omit aF
def av9(lt:α->α->Bool)(z lo ah x:Nat)(f:Nat->α):Prop:=∀r c,lo<=r->r≠x->(c=2*r+1\/c=2*r+2)->c<ah->lt (f (z+r)) (f (z+c))=false
def IT(lt:α->α->Bool)(z lo ah x:Nat)(f:Nat->α):Prop:=av9 lt z lo ah x f/\∀r c,lo<=r->(x=2*r+1\/x=2*r+2)->(c=2*x+1\/c=2*x+2)->c<ah->lt (f (z+r)) (f (z+c))=false
def oW(lt:α->α->Bool)(z lo ah:Nat)(f:Nat->α):Prop:=∀r c,lo<=r->(c=2*r+1\/c=2*r+2)->c<ah->lt (f (z+r)) (f (z+c))=false
theorem awa{z lo ah:Nat}{f:Nat->α}(h:oW lt z (lo+1) ah f):IT lt z lo ah lo f:=⟨λr c ab af aw a4=>h r c (by omega) aw a4,λr c ab af aw a4=>by omega⟩
theorem NS{z lo ah x:Nat}{f:Nat->α}(h:IT lt z lo ah x f)(ag:∀c,(c=2*x+1\/c=2*x+2)->c<ah->lt (f (z+x)) (f (z+c))=false):oW lt z lo ah f:=by
 intro r c ab af aw;by_cases av:r=x;.subst av;exact ag c af aw
 exact h.1 r c ab av af aw
include aF
theorem UG{z lo ah x y:Nat}{f:Nat->α}(h:IT lt z lo ah x f)(hC:lo<=x)(aQ:y=2*x+1\/y=2*x+2)(awb:y<ah) (qP:∀c,(c=2*x+1\/c=2*x+2)->c<ah->lt (f (z+y)) (f (z+c))=false) (aq:lt (f (z+x)) (f (z+y))=true):IT lt z lo ah y (jO f (z+x) (z+y)):=by
 have has:=aF.Dt _ _ aq;have aAg:x<y:=by omega
 constructor
 .intro r c ab af aw a4;simp only[jO];rw[xac (show¬z+r=z+y by omega)];by_cases av:r=x
  .subst av;rw[xad rfl];by_cases ao:c=y;.subst ao;rw[xad rfl];exact has
   rw[xac (by omega),xac (by omega)];exact qP c aw a4
  rw[xac (by omega)];by_cases ao:c=y;.omega
  rw[xac (by omega)];by_cases o5:c=x;.subst o5;rw[xad rfl];exact h.2 r y ab aw aQ awb
  rw[xac (by omega)];exact h.1 r c ab av aw a4
 intro r c ab af aw a4;have av:r=x:=by omega
 subst av;simp only[jO];rw[xac (show¬z+r=z+y by omega)];simp only[xaD];rw[xac (by omega),xac (by omega)];exact h.1 y c (by omega) (by omega) aw a4
theorem awc{z ah:Nat}{f:Nat->α}(h:oW lt z 0 ah f):∀k,k<ah->lt (f z) (f (z+k))=false:=by
 intro k
 induction k using Nat.strongRecOn with
 |ind k ih=>
  intro ak;by_cases au:k=0;.subst au;exact aF.IQ _
  have ab:=ih ((k-1)/2) (by omega) (by omega);have af:=h ((k-1)/2) k (by omega) (by omega) ak;exact aF.tr _ _ _ af ab
omit aF
structure tF(lt:α->α->Bool)(z i ah:Nat)(f:Nat->α):Prop where
 h:oW lt z 0 i f
 s:ez lt (z+i) (z+ah) f
 c:∀p q,z<=p->p<z+i->z+i<=q->q<z+ah->lt (f q) (f p)=false
theorem tF.start{z n:Nat}{f:Nat->α}(h:oW lt z 0 n f):tF lt z n n f:=⟨h,xl (by omega),λp q ab af aw a4=>by omega⟩
include aF
theorem tF.swap{z i ah:Nat}{f:Nat->α}(h:tF lt z (i+1) ah f)(ju:i+1<=ah):oW lt z 1 i (jO f z (z+i))/\ez lt (z+i) (z+ah) (jO f z (z+i))/\∀p q,z<=p->p<z+i->z+i<=q->q<z+ah->lt (jO f z (z+i) q) (jO f z (z+i) p)=false:=by
 have hm:=awc aF h.h;refine⟨?_,?_,?_⟩;.intro r c ab af aw;simp only[jO];rw[xac (by omega),xac (by omega),xac (by omega),xac (by omega)];exact h.h r c (by omega) af (by omega)
 .intro p q ab af aw;simp only[jO];rw[xac (show¬q=z+i by omega),xac (show¬q=z by omega)];by_cases aU:p=z+i;.rw[xad aU];exact h.c z q (by omega) (by omega) (by omega) aw
  rw[xac aU,xac (by omega)];exact h.s p q (by omega) af aw
 intro p q ab af aw a4;simp only[jO];rw[xac (show¬p=z+i by omega)];by_cases bg:q=z+i
 .rw[xad bg];by_cases aU:p=z;.rw[xad aU];exact hm i (by omega)
  rw[xac aU];have:=hm (p-z) (by omega)
  rwa [show z+(p-z)=p by omega]at this
 rw[xac bg,xac (by omega)];by_cases aU:p=z;.rw[xad aU];exact h.c (z+i) q (by omega) (by omega) (by omega) a4
 rw[xac aU];exact h.c p q ab (by omega) (by omega) a4
omit aF
theorem tF.next[Inhabited α]{z i ah:Nat}{L M:List α}(aU:Part z (z+i) L M)(aj:z+ah<=L.length)(ju:i<=ah)(ab:oW lt z 0 i (gt M))(af:ez lt (z+i) (z+ah) (gt L)) (aw:∀p q,z<=p->p<z+i->z+i<=q->q<z+ah->lt (gt L q) (gt L p)=false):tF lt z i ah (gt M):=by refine⟨ab,af.out aU (.inr (xal _)),?_⟩;intro p q aW a2 bc cV;rw[aU.pR (i:=q) (.inr bc)];have:eV (λx=>lt (gt L q) x=false) z (z+i) (gt M):=eV.part (λj cE dz=>aw j q cE dz bc cV) aU (by omega);exact this p aW a2
structure jP(lt:α->α->Bool)(ae fI a b:Nat)(f:Nat->α):Prop where
 le:ae<=a/\a<=b/\b<=fI
 l:ez lt ae a f
 r:ez lt b fI f
 lm:∀i j,ae<=i->i<a->a<=j->j<fI->lt (f j) (f i)=false
 vq:∀i j,ae<=i->i<b->b<=j->j<fI->lt (f j) (f i)=false
 pre:0<ae->∀j,ae<=j->j<fI->lt (f j) (f (ae-1))=false
theorem jP.start{a b:Nat}{f:Nat->α}(h:a<=b)(aU:0<a->∀j,a<=j->j<b->lt (f j) (f (a-1))=false):jP lt a b a b f:=⟨⟨xal _,h,xal _⟩,xl (by omega),xl (by omega),λi j ab af=>by omega,λi j ab af aw a4=>by omega,aU⟩
theorem jP.done{ae fI a b:Nat}{f:Nat->α}(h:jP lt ae fI a b f)(aG:ez lt a b f):ez lt ae fI f:=by have aq:=h.le;refine ez.join h.l (ez.join aG h.r λi j aW a2 bc cV=>h.vq i j (by omega) a2 bc cV) λi j aW a2 bc cV=>h.lm i j aW a2 bc cV
theorem jP.low{ae fI a b:Nat}{f:Nat->α}(h:jP lt ae fI a b f)(aE:0<a):∀j,a<=j->j<b->lt (f j) (f (a-1))=false:=by
 intro j ab af;have aq:=h.le;by_cases au:ae=a
 .subst au;exact h.pre aE j ab (by omega)
 exact h.lm (a-1) j (by omega) (by omega) ab (by omega)
theorem jP.part[Inhabited α]{ae fI a b:Nat}{L M:List α}(h:jP lt ae fI a b (gt L))(aU:Part a b L M)(aj:fI<=L.length):jP lt ae fI a b (gt M):=by
 have aq:=h.le;have awd:∀i,ae<=i->i<a->eV (λx=>lt x (gt L i)=false) a b (gt M):=λi ab af=>eV.part (λj aw a4=>h.lm i j ab af aw (by omega)) aU (by omega);have awe:∀j,b<=j->j<fI->eV (λx=>lt (gt L j) x=false) a b (gt M):=λj ab af=>eV.part (λi aw a4=>h.vq i j (by omega) a4 ab af) aU (by omega);refine⟨h.le,h.l.out aU (.inl (xal _)),h.r.out aU (.inr (xal _)),?_,?_,?_⟩
 .intro i j ab af aw a4;rw[aU.pR (i:=i) (.inl af)];by_cases aN:j<b;.exact awd i ab af j aw aN
  rw[aU.pR (.inr (by omega))];exact h.lm i j ab af aw a4
 .intro i j ab af aw a4;rw[aU.pR (i:=j) (.inr aw)];by_cases ah:a<=i;.exact awe j aw a4 i ah af
  rw[aU.pR (.inl (by omega))];exact h.vq i j ab af aw a4
 intro au j ab af;rw[aU.pR (i:=ae-1) (.inl (by omega))];have:eV (λx=>lt x (gt L (ae-1))=false) a b (gt M):=eV.part (λj aw a4=>h.pre au j (by omega) (by omega)) aU (by omega);by_cases aN:a<=j/\j<b
 .exact this j aN.1 aN.2
 rw[aU.pR (by omega)];exact h.pre au j ab af
theorem jP.right{ae fI a b m:Nat}{f:Nat->α}(h:jP lt ae fI a b f)(ab:a<=m)(af:m<b)(aG:ez lt a m f)(aq:eV (λx=>lt (f m) x=false) a m f)(av:eV (λx=>lt x (f m)=false) (m+1) b f)(aF:IP lt):jP lt ae fI (m+1) b f:=by
 have hle:=h.le;refine⟨⟨by omega,by omega,by omega⟩,?_,h.r,?_,λi j aW a2 bc cV=>h.vq i j aW a2 bc cV,h.pre⟩
 .refine ez.join h.l (ez.join aG (xl (by omega)) ?_) ?_
  .intro i j aW a2 bc cV;have:j=m:=by omega
   subst this;exact aq i aW a2
  intro i j aW a2 bc cV;exact h.lm i j aW a2 bc (by omega)
 intro i j aW a2 bc cV;by_cases ah:i<a;.exact h.lm i j aW ah (by omega) cV
 by_cases aN:j<b
 .have q:=av j bc aN;by_cases awf:i=m;.subst awf;exact q
  exact aF.tr _ _ _ (aq i (by omega) (by omega)) q
 exact h.vq i j aW (by omega) (by omega) cV
theorem jP.left{ae fI a b m:Nat}{f:Nat->α}(h:jP lt ae fI a b f)(ab:a<=m)(af:m<b)(aG:ez lt (m+1) b f)(aq:eV (λx=>lt (f m) x=false) a m f)(av:eV (λx=>lt x (f m)=false) (m+1) b f)(aF:IP lt):jP lt ae fI a m f:=by
 have hle:=h.le;refine⟨⟨by omega,by omega,by omega⟩,h.l,?_,λi j aW a2 bc cV=>h.lm i j aW a2 bc cV,?_,h.pre⟩
 .refine ez.join (ez.join (xl (xal (m+1))) aG ?_) h.r ?_
  .intro i j aW a2 bc cV;have:i=m:=by omega
   subst this;exact av j bc cV
  intro i j aW a2 bc cV;exact h.vq i j (by omega) a2 bc cV
 intro i j aW a2 bc cV;by_cases ah:i<a;.exact h.lm i j aW ah (by omega) cV
 by_cases aN:j<b
 .have q:=aq i (by omega) a2;by_cases T7:j=m;.subst T7;exact q
  exact aF.tr _ _ _ q (av j (by omega) aN)
 exact h.vq i j aW (by omega) (by omega) cV
theorem jP.eq{ae fI a b m:Nat}{f:Nat->α}{p:α}(h:jP lt ae fI a b f)(ab:a<=m)(af:m<=b)(aq:eV (λx=>lt p x=false) a m f)(aU:eV (λx=>lt x p=false) a b f)(av:eV (λx=>lt p x=true) m b f)(aF:IP lt):jP lt ae fI m b f:=by
 have hle:=h.le;have fG:∀i j,a<=i->i<m->a<=j->j<b->lt (f j) (f i)=false:=λi j aW a2 bc cV=>aF.tr _ _ _ (aq i aW a2) (aU j bc cV);refine⟨⟨by omega,by omega,by omega⟩,?_,h.r,?_,λi j aW a2 bc cV=>h.vq i j aW a2 bc cV,h.pre⟩
 .refine ez.join h.l (λi j aW a2 bc=>fG i j aW (by omega) (by omega) (by omega)) ?_;intro i j aW a2 bc cV;exact h.lm i j aW a2 bc (by omega)
 intro i j aW a2 bc cV;by_cases ah:i<a;.exact h.lm i j aW ah (by omega) cV
 by_cases aN:j<b;.exact fG i j (by omega) a2 (by omega) aN
 exact h.vq i j aW (by omega) (by omega) cV
end
def j2:IP blt where
 IQ:=qg
 Dt x y h:=by cases af:blt y x with|false=>rfl|true=>have:=uy h af;rw[qg]at this;cases this
 tr x y z ab af:=by
  cases aw:blt z x with
  |false=>rfl
  |true=>
   rcases Bt y x with h|h|h;.rw[ab]at h;cases h
   .subst h;rw[af]at aw;cases aw
   have:=uy aw h;rw[af]at this;cases this
def NT:List ByteArray->Prop
 |[]=>True|a::r=>(∀x∈r,blt x a=false)/\NT r
def awg{l:List ByteArray}(h:ez blt 0 l.length (gt l)):NT l:=by
 induction l with
 |nil=>trivial
 |cons a r ih=>
  constructor
  .intro x ag;obtain⟨i,ah⟩:=List.getElem?_of_mem ag;have cv:=(xae.1 ah).1;have:=h 0 (i+1) (by omega) (by omega) (by simp;omega);have aL:gt (a::r) 0=a:=rfl;have aX:gt (a::r) (i+1)=x:=by simp[gt,xaP,ah]
   rw[aL,aX]at this;exact this
  refine ih λi j ab af aw=>?_;have:=h (i+1) (j+1) (by omega) (by omega) (by simp;omega);simpa[gt,xaP]using this
def nv:List ByteArray->List ByteArray
 |[]=>[]|[a]=>[a]|a::b::r=>if a=b then nv (b::r)else a::nv (b::r)
def UH:∀(l:List ByteArray)(x:ByteArray),x∈nv l↔x∈l
 |[],x=>by simp[nv]|[a],x=>by simp[nv]
 |a::b::r,x=>by
  have ih:=UH (b::r) x;simp only[nv];split;.rename_i h;subst h;rw[ih];simp
  rw[xao,ih,xao (a:=x) (b:=a)]
def aev:∀{l:List ByteArray},NT l->iP (nv l)
 |[],_=>trivial|[a],_=>⟨by simp,trivial⟩
 |a::b::r,h=>by
  have ih:=aev h.2;simp only[nv];split;.exact ih
  rename_i fG;refine⟨?_,ih⟩;intro x ag;have ag:=(UH _ _).1 ag;have g:=h.1 x ag;rcases Bt a x with e|e|e
  .exact e
  ·
   subst e;rcases xao.1 ag with aX|aX
   .exact absurd aX fG
   have aW:=h.1 b (by simp);have a2:=h.2.1 a aX;rcases Bt a b with bL|bL|bL
   .rw[a2]at bL;cases bL
   .exact absurd bL fG
   rw[aW]at bL;cases bL
  rw[g]at e;cases e
section
variable{α:Type}[Inhabited α](c:α->D)
def pS(L:List α):List (List D):=L.map λx=>[c x]
def c7{m i:Nat}(h:i<m):cg m (J (i:Int))=some i:=by rw[oB,xad h]
theorem cP{L:List α}{i:Nat}(h:i<L.length):(pS c L)[i]?=some [c (gt L i)]:=by rw[pS,xaj,IS h];rfl
def m2(L:List α)(i:Nat)(v:α):(pS c L).set i [c v]=pS c (L.set i v):=by simp[pS,List.map_set]
theorem fb(x:D):a3 false 1 0 [x]=some x:=rfl
theorem m3(w v:D):dE [w] 0 [v]=[v]:=rfl
def gR(L:List α):(pS c L).length=L.length:=by simp[pS]
def NU{L:List α}{i:Nat}(h:i<L.length):bn 1 (D.ax 1 (pS c L)) (J (i:Int))=some [c (gt L i)]:=by rw[akG (Int.natCast_nonneg i),Int.toNat_natCast];exact cP c h
def mC{L:List α}{i j:Nat}(ah:i<L.length)(aN:j<L.length):(L.set i (gt L j)).set j (gt L i)=eL L i j:=av5 (IS ah) (IS aN)
end
section
variable{bt:Bool}{a b:Nat}
theorem qA(h:a+b<4000000000000000000):ai bt .add (J (a:Int)) (J (b:Int))=some (J ((a+b:Nat):Int)):=by rw[gr (by omega) (by omega)];rfl
def qB(h:b<=a)(bx:a<4000000000000000000):ai bt .sub (J (a:Int)) (J (b:Int))=some (J ((a-b:Nat):Int)):=by rw[mq (by omega) (by omega)];congr 2;omega
def kM(h:1<=a)(bx:a<4000000000000000000):ai bt .sub (J (a:Int)) (J 1)=some (J ((a-1:Nat):Int)):=by rw[mq (by omega) (by omega)];congr 2;omega
def NV{k:Nat}(ak:0<k)(h:a<4000000000000000000)(bx:k<1000):ai bt .quo (J (a:Int)) (J (k:Int))=some (J ((a/k:Nat):Int)):=by
 have e:Int.tdiv (a:Int) (k:Int)=((a/k:Nat):Int):=by rw[Int.tdiv_eq_ediv_of_nonneg (by omega)];exact(Int.natCast_ediv a k).symm
 have bg:a/k<=a:=Nat.div_le_self a k;rw[YF (by omega),e];generalize a/k=q at*;rw[wrap64 _ (by omega) (by omega)]
end
def iv(n:Nat)(x y:ByteArray):jm n [aC x,aC y]=some (ay (blt x y)):=by simp[jm,Z1,GA,Z0]
abbrev cx(L:List ByteArray):D:=D.ax 1 (pS aC L)
def awh(n:Nat)(bV:List ByteArray)(a i:Nat)(B:D)(pT:a<=i)(ah:i<bV.length)(bT:bV.length<1000000000)(aM:bV.length<n)(aG:ez blt a i (gt bV)): ∃bB,bp (BW n) n [J (a:Int),B,J (i:Int),J (i:Int),cx bV]=some (.inl [J (a:Int),B,J (i:Int),cx bB])/\Part a (i+1) bV bB/\ez blt a (i+1) (gt bB):=by
 have key:=k8 (f:=BW n) (S:=Nat×List ByteArray) (λs=>[J (a:Int),B,J (i:Int),J (s.1:Int),cx s.2]) (λs=>s.1) (λs=>a<=s.1/\s.1<=i/\Part a (i+1) bV s.2/\Du blt a s.1 i (gt s.2)) (λr=>∃bB,r= .inl [J (a:Int),B,J (i:Int),cx bB]/\Part a (i+1) bV bB/\ez blt a (i+1) (gt bB)) ?_ n (i,bV) ⟨pT,xal _,Part.refl _ _ _,aet aG⟩ (by simp only;omega);.obtain⟨r,ab,bB,rfl,af,aw⟩:=key;exact⟨bB,ab,af,aw⟩
 rintro⟨j,L⟩ ⟨aW,a2,bc,cV⟩;simp only at aW a2 bc cV⊢;have b6:=bc.len;by_cases aN:a=j
 .subst aN;right;refine⟨_,?_,L,rfl,bc,NR j2 cV (xal _) (.inl rfl)⟩;simp only[BW,go_sem,yF ((a:Int)>(a:Int)),ec,dS]
 have cM:j<L.length:=by omega
 have kN:j-1<L.length:=by omega
 have aL:ai false .sub (J (j:Int)) (J 1)=some (J ((j-1:Nat):Int)):=kM (by omega) (by omega);by_cases aj:blt (gt L j) (gt L (j-1))=true
 .left;refine⟨(j-1,eL L j (j-1)),?_,⟨by omega,by omega,bc.trans (Part.eL (by omega) (by omega) (by omega) (by omega) (by omega)),?_⟩,by simp;omega⟩
  .simp only[BW,go_sem,yT ((j:Int)>(a:Int)),ec,dS,c7 cM,c7 kN,cP aC cM,cP aC kN,fb,aL,iv,aj,m3,m2,gR,xaY];have bw:j-1<(L.set j (gt L (j-1))).length:=by simpa using kN
   simp only[cP aC bw,m3,m2,eH,mC cM kN]
  rw[r2 cM kN];exact aeu j2 cV (by omega) a2 aj
 right;have aj:blt (gt L j) (gt L (j-1))=false:=by simpa using aj
 refine⟨_,?_,L,rfl,bc,NR j2 cV aW (.inr aj)⟩;simp only[BW,go_sem,yT ((j:Int)>(a:Int)),ec,dS,c7 cM,c7 kN,cP aC cM,cP aC kN,fb,aL,iv,aj,gR]
def awi(n:Nat)(bV:List ByteArray)(a b:Nat)(fG:a<=b)(aj:b<=bV.length)(bT:bV.length<1000000000)(aM:bV.length+1<n): ∃bB,BX n [J (a:Int),J (b:Int),cx bV]=some [D.a1 [],cx bB]/\Part a b bV bB/\ez blt a b (gt bB):=by
 have key:=k8 (f:=LX n) (S:=Nat×List ByteArray) (λs=>[J (a:Int),J (b:Int),J (s.1:Int),cx s.2]) (λs=>b-s.1) (λs=>a+1<=s.1/\(s.1<=b\/s.1=a+1)/\Part a b bV s.2/\ez blt a s.1 (gt s.2)) (λr=>∃bB,r= .inl [cx bB]/\Part a b bV bB/\ez blt a b (gt bB)) ?_ n (a+1,bV) ⟨xal _,.inr rfl,Part.refl _ _ _,xl (xal _)⟩ (by simp only;omega);.obtain⟨r,ab,bB,rfl,af,aw⟩:=key;refine⟨bB,?_,af,aw⟩;have bF:ai false .add (J (a:Int)) (J 1)=some (J ((a+1:Nat):Int)):=b1 (by omega);simp only[BX,go_sem,bF,ab]
 rintro⟨i,L⟩ ⟨aW,a2,bc,cV⟩;simp only at aW a2 bc cV⊢;have b6:=bc.len;by_cases ah:i<b
 .left;obtain⟨bB,ab,af,aw⟩:=awh n L a i (J (b:Int)) (by omega) (by omega) (by omega) (by omega) cV;have aL:ai false .add (J (i:Int)) (J 1)=some (J ((i+1:Nat):Int)):=b1 (by omega);refine⟨(i+1,bB),?_,⟨by omega,.inl ah,bc.trans (af.mono (xal _) ah),aw⟩,by simp only;omega⟩;simp only[LX,go_sem,yT ((i:Int)<(b:Int)),ab,aL]
 right;refine⟨_,?_,L,rfl,bc,cV.mono (xal _) (by omega)⟩;simp only[LX,go_sem,yF ((i:Int)<(b:Int))]
def awj(n:Nat)(bV:List ByteArray)(a b:Nat)(fG:a<b)(aj:b<=bV.length)(bT:bV.length<1000000000)(aM:bV.length+1<n): ∃bB,B1 n [J (a:Int),J (b:Int),cx bV]=some [D.a1 [],cx bB]/\Part a b bV bB:=by
 have key:=k8 (f:=L1 n) (S:=Nat×Nat×List ByteArray) (λs=>[J (s.1:Int),J (s.2.1:Int),cx s.2.2]) (λs=>s.2.1+1-s.1) (λs=>a<=s.1/\s.1<=s.2.1+1/\s.2.1<b/\Part a b bV s.2.2) (λr=>∃bB,r= .inl [cx bB]/\Part a b bV bB) ?_ n (a,b-1,bV) ⟨xal _,by simp only;omega,by simp only;omega,Part.refl _ _ _⟩ (by simp only;omega);.obtain⟨r,ab,bB,rfl,af⟩:=key;refine⟨bB,?_,af⟩;have bF:ai false .sub (J (b:Int)) (J 1)=some (J ((b-1:Nat):Int)):=kM (by omega) (by omega);simp only[B1,go_sem,bF,ab]
 rintro⟨i,j,L⟩ ⟨aW,a2,bc,cV⟩;simp only at aW a2 bc cV⊢;have b6:=cV.len;by_cases ah:i<j
 .left;have ch:i<L.length:=by omega
  have cM:j<L.length:=by omega
  have Ad:j<(L.set i (gt L j)).length:=by simpa using cM
  have aL:ai false .add (J (i:Int)) (J 1)=some (J ((i+1:Nat):Int)):=b1 (by omega);have aX:ai false .sub (J (j:Int)) (J 1)=some (J ((j-1:Nat):Int)):=kM (by omega) (by omega);refine⟨(i+1,j-1,eL L i j),?_,⟨by simp only;omega,by simp only;omega,by simp only;omega,cV.trans (Part.eL (by omega) (by omega) (by omega) (by omega) (by omega))⟩,by simp only;omega⟩;simp only[L1,go_sem,yT ((i:Int)<(j:Int)),c7 ch,c7 cM,cP aC ch,cP aC cM,fb,m3,m2,gR,xaY,aL,aX,cP aC Ad,mC ch cM]
 right;refine⟨_,?_,L,rfl,cV⟩;simp only[L1,go_sem,yF ((i:Int)<(j:Int))]
theorem awk{bt:Bool}{a:Nat}(h:a<1000000000):ai bt .mul (J 2) (J (a:Int))=some (J ((2*a:Nat):Int)):=by rw[KV (by omega) (by omega)];rfl
def aew(n:Nat)(bV:List ByteArray)(z lo ah:Nat)(hC:lo<=ah)(bD:z+ah<=bV.length)(bT:bV.length<1000000000)(aM:bV.length+1<n)(aU:oW blt z (lo+1) ah (gt bV)): ∃bB,uL n [J (lo:Int),J (ah:Int),J (z:Int),cx bV]=some [D.a1 [],cx bB]/\Part (z+lo) (z+ah) bV bB/\oW blt z lo ah (gt bB):=by
 have key:=k8 (f:=uK n) (S:=Nat×List ByteArray) (λs=>[J (ah:Int),J (z:Int),J (s.1:Int),cx s.2]) (λs=>ah-s.1) (λs=>lo<=s.1/\s.1<=ah/\Part (z+lo) (z+ah) bV s.2/\IT blt z lo ah s.1 (gt s.2)) (λr=>∃bB,(r= .inl [cx bB]\/r= .inr [D.a1 [],cx bB])/\Part (z+lo) (z+ah) bV bB/\oW blt z lo ah (gt bB)) ?_ n (lo,bV) ⟨xal _,hC,Part.refl _ _ _,awa aU⟩ (by simp only;omega)
 .obtain⟨r,ab,bB,av,af,aw⟩:=key;refine⟨bB,?_,af,aw⟩;rcases av with rfl|rfl;.simp only[uL,go_sem,ab]
  simp only[uL,go_sem,ab]
 rintro⟨x,L⟩ ⟨aW,a2,bc,cV⟩;simp only at aW a2 bc cV⊢;have b6:=bc.len;have aL:ai false .mul (J 2) (J (x:Int))=some (J ((2*x:Nat):Int)):=awk (by omega);have aX:ai false .add (J ((2*x:Nat):Int)) (J 1)=some (J ((2*x+1:Nat):Int)):=b1 (by omega);have bL:ai false .add (J ((2*x+1:Nat):Int)) (J 1)=some (J ((2*x+2:Nat):Int)):=b1 (by omega);by_cases ao:ah<=2*x+1
 .right;refine⟨_,?_,L,.inl rfl,bc,NS cV λc ab af=>by omega⟩;simp only[uK,go_sem,aL,aX,yT (((2*x+1:Nat):Int)>=(ah:Int))]
 have ag:z+x<L.length:=by omega
 have qC:z+(2*x+1)<L.length:=by omega
 have an:ai false .add (J (z:Int)) (J ((2*x+1:Nat):Int))=some (J ((z+(2*x+1):Nat):Int)):=qA (by omega);have bb:ai false .add (J ((z+(2*x+1):Nat):Int)) (J 1)=some (J ((z+(2*x+2):Nat):Int)):=b1 (by omega);have b4:ai false .add (J (z:Int)) (J (x:Int))=some (J ((z+x:Nat):Int)):=qA (by omega);by_cases aG:2*x+2<ah
 .have iU:z+(2*x+2)<L.length:=by omega
  have aB:=yT (((2*x+2:Nat):Int)<(ah:Int));by_cases eI:blt (gt L (z+(2*x+1))) (gt L (z+(2*x+2)))=true
  .have qP:∀c,(c=2*x+1\/c=2*x+2)->c<ah->blt (gt L (z+(2*x+2))) (gt L (z+c))=false:=by
    rintro c (rfl|rfl) h;.exact j2.Dt _ _ eI
    exact j2.IQ _
   have aQ:z+(2*x+2)<L.length:=by omega
   have IU:z+(2*x+2)<(L.set (z+x) (gt L (z+(2*x+2)))).length:=by simpa using aQ
   have cK:ai false .add (J (z:Int)) (J ((2*x+2:Nat):Int))=some (J ((z+(2*x+2):Nat):Int)):=qA (by omega);by_cases aj:blt (gt L (z+x)) (gt L (z+(2*x+2)))=true
   .left;refine⟨(2*x+2,eL L (z+x) (z+(2*x+2))),?_,⟨by simp only;omega,by simp only;omega,bc.trans (Part.eL (by omega) (by omega) (by omega) (by omega) (by omega)),?_⟩,by simp only;omega⟩;.simp only[uK,go_sem,aL,aX,yF (((2*x+1:Nat):Int)>=(ah:Int)),bL,aB,c7 iU,cP aC iU,eI,ec,dS,an,bb,b4,cK,c7 ag,c7 qC,c7 aQ,cP aC ag,cP aC qC,cP aC aQ,fb,m3,m2,gR,xaY,iv,aj,cP aC IU,mC ag aQ]
    rw[r2 ag aQ];exact UG j2 cV aW (by omega) (by omega) qP aj
   right;have aj:blt (gt L (z+x)) (gt L (z+(2*x+2)))=false:=by simpa using aj
   refine⟨_,?_,L,.inr rfl,bc,NS cV λc ab af=>j2.tr _ _ _ (qP c ab af) aj⟩;simp only[uK,go_sem,aL,aX,yF (((2*x+1:Nat):Int)>=(ah:Int)),bL,aB,c7 iU,cP aC iU,eI,ec,dS,an,bb,b4,cK,c7 ag,c7 qC,c7 aQ,cP aC ag,cP aC qC,cP aC aQ,fb,gR,iv,aj]
  have eI:blt (gt L (z+(2*x+1))) (gt L (z+(2*x+2)))=false:=by simpa using eI
  have qP:∀c,(c=2*x+1\/c=2*x+2)->c<ah->blt (gt L (z+(2*x+1))) (gt L (z+c))=false:=by
   rintro c (rfl|rfl) h;.exact j2.IQ _
   exact eI
  have aQ:z+(2*x+1)<L.length:=by omega
  have IU:z+(2*x+1)<(L.set (z+x) (gt L (z+(2*x+1)))).length:=by simpa using aQ
  have cK:ai false .add (J (z:Int)) (J ((2*x+1:Nat):Int))=some (J ((z+(2*x+1):Nat):Int)):=qA (by omega);by_cases aj:blt (gt L (z+x)) (gt L (z+(2*x+1)))=true
  .left;refine⟨(2*x+1,eL L (z+x) (z+(2*x+1))),?_,⟨by simp only;omega,by simp only;omega,bc.trans (Part.eL (by omega) (by omega) (by omega) (by omega) (by omega)),?_⟩,by simp only;omega⟩;.simp only[uK,go_sem,aL,aX,yF (((2*x+1:Nat):Int)>=(ah:Int)),bL,aB,c7 iU,cP aC iU,eI,ec,dS,an,bb,b4,cK,c7 ag,c7 qC,c7 aQ,cP aC ag,cP aC qC,cP aC aQ,fb,m3,m2,gR,xaY,iv,aj,cP aC IU,mC ag aQ]
   rw[r2 ag aQ];exact UG j2 cV aW (by omega) (by omega) qP aj
  right;have aj:blt (gt L (z+x)) (gt L (z+(2*x+1)))=false:=by simpa using aj
  refine⟨_,?_,L,.inr rfl,bc,NS cV λc ab af=>j2.tr _ _ _ (qP c ab af) aj⟩;simp only[uK,go_sem,aL,aX,yF (((2*x+1:Nat):Int)>=(ah:Int)),bL,aB,c7 iU,cP aC iU,eI,ec,dS,an,bb,b4,cK,c7 ag,c7 qC,c7 aQ,cP aC ag,cP aC qC,cP aC aQ,fb,gR,iv,aj]
 have aB:=yF (((2*x+2:Nat):Int)<(ah:Int));have qP:∀c,(c=2*x+1\/c=2*x+2)->c<ah->blt (gt L (z+(2*x+1))) (gt L (z+c))=false:=by
  rintro c (rfl|rfl) h;.exact j2.IQ _
  omega
 have aQ:z+(2*x+1)<L.length:=by omega
 have IU:z+(2*x+1)<(L.set (z+x) (gt L (z+(2*x+1)))).length:=by simpa using aQ
 have cK:ai false .add (J (z:Int)) (J ((2*x+1:Nat):Int))=some (J ((z+(2*x+1):Nat):Int)):=qA (by omega);by_cases aj:blt (gt L (z+x)) (gt L (z+(2*x+1)))=true
 .left;refine⟨(2*x+1,eL L (z+x) (z+(2*x+1))),?_,⟨by simp only;omega,by simp only;omega,bc.trans (Part.eL (by omega) (by omega) (by omega) (by omega) (by omega)),?_⟩,by simp only;omega⟩;.simp only[uK,go_sem,aL,aX,yF (((2*x+1:Nat):Int)>=(ah:Int)),bL,aB,ec,dS,an,bb,b4,cK,c7 ag,c7 qC,c7 aQ,cP aC ag,cP aC qC,cP aC aQ,fb,m3,m2,gR,xaY,iv,aj,cP aC IU,mC ag aQ]
  rw[r2 ag aQ];exact UG j2 cV aW (by omega) (by omega) qP aj
 right;have aj:blt (gt L (z+x)) (gt L (z+(2*x+1)))=false:=by simpa using aj
 refine⟨_,?_,L,.inr rfl,bc,NS cV λc ab af=>j2.tr _ _ _ (qP c ab af) aj⟩;simp only[uK,go_sem,aL,aX,yF (((2*x+1:Nat):Int)>=(ah:Int)),bL,aB,ec,dS,an,bb,b4,cK,c7 ag,c7 qC,c7 aQ,cP aC ag,cP aC qC,cP aC aQ,fb,gR,iv,aj]
def awl(n:Nat)(bV:List ByteArray)(z ah:Nat)(ab:1<=ah)(bD:z+ah<=bV.length)(bT:bV.length<1000000000)(aM:bV.length+1<n): ∃bB,bp (GB n) n [J (z:Int),J 0,J (ah:Int),J (((ah-1)/2:Nat):Int),cx bV]=some (.inl [J (z:Int),J 0,J (ah:Int),cx bB])/\Part z (z+ah) bV bB/\oW blt z 0 ah (gt bB):=by
 have key:=k8 (f:=GB n) (S:=Nat×List ByteArray) (λs=>[J (z:Int),J 0,J (ah:Int),J ((s.1:Int)-1),cx s.2]) (λs=>s.1) (λs=>s.1<=ah/\Part z (z+ah) bV s.2/\oW blt z s.1 ah (gt s.2)) (λr=>∃bB,r= .inl [J (z:Int),J 0,J (ah:Int),cx bB]/\Part z (z+ah) bV bB/\oW blt z 0 ah (gt bB)) ?_ n ((ah-1)/2+1,bV) ⟨by simp only;omega,Part.refl _ _ _,λr c ab af aw=>by omega⟩ (by simp only;omega)
 .obtain⟨r,ab,bB,rfl,af,aw⟩:=key;have e:((((ah-1)/2+1:Nat):Int)-1)=(((ah-1)/2:Nat):Int):=by omega
  simp only[e]at ab;exact⟨bB,ab,af,aw⟩
 rintro⟨k,L⟩ ⟨aW,a2,bc⟩;simp only at aW a2 bc⊢;have b6:=a2.len;cases k with
 |zero=>right;refine⟨_,?_,L,rfl,a2,bc⟩;simp only[GB,go_sem,yF ((((0:Nat):Int)-1)>=0)]
 |succ m=>
  left;obtain⟨bB,bw,bz,cz⟩:=aew n L z m ah (by omega) (by omega) (by omega) (by omega) bc;have e:(((m+1:Nat):Int)-1)=(m:Int):=by omega
  have aL:ai false .sub (J (m:Int)) (J 1)=some (J ((m:Int)-1)):=mq (by omega) (by omega);refine⟨(m,bB),?_,⟨by simp only;omega,a2.trans (bz.mono (by omega) (xal _)),cz⟩,by simp only;omega⟩;simp only[GB,go_sem,e,yT ((m:Int)>=0),bw,aL]
def awm(n:Nat)(bV:List ByteArray)(z ah:Nat)(bD:z+ah<=bV.length)(bT:bV.length<1000000000)(aM:bV.length+1<n)(aU:oW blt z 0 ah (gt bV)): ∃bB,bp (GC n) n [J (z:Int),J 0,J ((ah:Int)-1),cx bV]=some (.inl [cx bB])/\Part z (z+ah) bV bB/\ez blt z (z+ah) (gt bB):=by
 have key:=k8 (f:=GC n) (S:=Nat×List ByteArray) (λs=>[J (z:Int),J 0,J ((s.1:Int)-1),cx s.2]) (λs=>s.1) (λs=>s.1<=ah/\Part z (z+ah) bV s.2/\tF blt z s.1 ah (gt s.2)) (λr=>∃bB,r= .inl [cx bB]/\Part z (z+ah) bV bB/\ez blt z (z+ah) (gt bB)) ?_ n (ah,bV) ⟨xal _,Part.refl _ _ _,tF.start aU⟩ (by simp only;omega);.obtain⟨r,ab,bB,rfl,af,aw⟩:=key;exact⟨bB,ab,af,aw⟩
 rintro⟨k,L⟩ ⟨aW,a2,bc⟩;simp only at aW a2 bc⊢;have b6:=a2.len;cases k with
 |zero=>right;refine⟨_,?_,L,rfl,a2,by simpa using bc.s⟩;simp only[GC,go_sem,yF ((((0:Nat):Int)-1)>=0)]
 |succ m=>
  left;have Ab:z<L.length:=by omega
  have IV:z+m<L.length:=by omega
  obtain⟨s1,s2,gM⟩:=tF.swap j2 bc aW;rw[<-r2 Ab IV]at s1 s2 gM;have gn:=IN L z (z+m);obtain⟨bB,bw,bz,cz⟩:=aew n (eL L z (z+m)) z 0 m (by omega) (by omega) (by omega) (by omega) s1;have bw:uL n [J 0,J (m:Int),J (z:Int),cx (eL L z (z+m))]=some [D.a1 [],cx bB]:=bw;have e:(((m+1:Nat):Int)-1)=(m:Int):=by omega
  have aL:ai false .sub (J (m:Int)) (J 1)=some (J ((m:Int)-1)):=mq (by omega) (by omega);have aX:ai false .add (J (z:Int)) (J (m:Int))=some (J ((z+m:Nat):Int)):=qA (by omega);have awn:z+m<(L.set z (gt L (z+m))).length:=by simpa using IV
  refine⟨(m,bB),?_,⟨by simp only;omega,(a2.trans (Part.eL (xal _) (by omega) (by omega) (by omega) (by omega))).trans (bz.mono (by omega) (by omega)),tF.next (bz.mono (by omega) (xal _)) (by omega) (by omega) cz s2 gM⟩,by simp only;omega⟩;simp only[GC,go_sem,e,yT ((m:Int)>=0),aX,c7 Ab,c7 IV,cP aC Ab,cP aC IV,fb,m3,m2,gR,xaY,cP aC awn,mC Ab IV,bw,aL]
def awo(n:Nat)(bV:List ByteArray)(a b:Nat)(fG:a<b)(aj:b<=bV.length)(bT:bV.length<1000000000)(aM:bV.length+1<n): ∃bB,B0 n [J (a:Int),J (b:Int),cx bV]=some [D.a1 [],cx bB]/\Part a b bV bB/\ez blt a b (gt bB):=by
 obtain⟨Dv,dw,da,eM⟩:=awl n bV a (b-a) (by omega) (by omega) bT aM;have nA:=da.len;obtain⟨iI,bw,bz,cz⟩:=awm n Dv a (b-a) (by omega) (by omega) (by omega) eM;have e:a+(b-a)=b:=by omega
 rw[e]at da bz cz;refine⟨iI,?_,da.trans bz,cz⟩;have aL:ai false .sub (J (b:Int)) (J (a:Int))=some (J ((b-a:Nat):Int)):=qB (by omega) (by omega);have aX:ai false .sub (J ((b-a:Nat):Int)) (J 1)=some (J ((b-a-1:Nat):Int)):=kM (by omega) (by omega);have bL:ai false .quo (J ((b-a-1:Nat):Int)) (J 2)=some (J (((b-a-1)/2:Nat):Int)):=NV (k:=2) (by omega) (by omega) (by omega);have cL:(((b-a-1:Nat):Int))=((b-a:Nat):Int)-1:=by omega
 have ea:ai false .sub (J ((b-a:Nat):Int)) (J 1)=some (J (((b-a:Nat):Int)-1)):=by rw[aX,cL]
 simp only[B0,go_sem,aL,aX,bL,dw];rw[cL,bw];rfl
def awp(n:Nat)(L:List ByteArray)(a i j:Nat)(pT:a<i)(gK:i<=j+1)(aN:j<L.length)(bT:L.length<1000000000)(aM:L.length+1<n): ∃cn:Nat,bp (B7 n) n [J (a:Int),J (i:Int),J (j:Int),cx L]=some (.inl [J (a:Int),J (cn:Int),J (j:Int),cx L])/\i<=cn/\cn<=j+1/\eV (λx=>blt x (gt L a)=true) i cn (gt L)/\(cn<=j->blt (gt L cn) (gt L a)=false):=by
 have key:=k8 (f:=B7 n) (S:=Nat) (λs=>[J (a:Int),J (s:Int),J (j:Int),cx L]) (λs=>j+1-s) (λs=>i<=s/\s<=j+1/\eV (λx=>blt x (gt L a)=true) i s (gt L)) (λr=>∃cn:Nat,r= .inl [J (a:Int),J (cn:Int),J (j:Int),cx L]/\i<=cn/\cn<=j+1/\eV (λx=>blt x (gt L a)=true) i cn (gt L)/\(cn<=j->blt (gt L cn) (gt L a)=false)) ?_ n i ⟨xal _,gK,λk ab af=>by omega⟩ (by omega);.obtain⟨r,ab,cn,rfl,af⟩:=key;exact⟨cn,ab,af⟩
 rintro s ⟨aW,a2,bc⟩;by_cases aG:s<=j
 .have gn:s<L.length:=by omega
  have fv:a<L.length:=by omega
  by_cases aj:blt (gt L s) (gt L a)=true
  .left;have aL:ai false .add (J (s:Int)) (J 1)=some (J ((s+1:Nat):Int)):=b1 (by omega);refine⟨s+1,?_,⟨by omega,by omega,λk ab af=>?_⟩,by omega⟩
   .simp only[B7,go_sem,yT ((s:Int)<=(j:Int)),ec,dS,c7 gn,c7 fv,cP aC gn,cP aC fv,fb,gR,iv,aj,aL]
   by_cases ak:k=s;.subst ak;exact aj
   exact bc k ab (by omega)
  right;have aj:blt (gt L s) (gt L a)=false:=by simpa using aj
  refine⟨_,?_,s,rfl,aW,a2,bc,λ_=>aj⟩;simp only[B7,go_sem,yT ((s:Int)<=(j:Int)),ec,dS,c7 gn,c7 fv,cP aC gn,cP aC fv,fb,gR,iv,aj]
 right;refine⟨_,?_,s,rfl,aW,a2,bc,λh=>absurd h aG⟩;simp only[B7,go_sem,yF ((s:Int)<=(j:Int)),ec,dS]
def awq(n:Nat)(L:List ByteArray)(a i j:Nat)(pT:a<i)(gK:i<=j+1)(aN:j<L.length)(bT:L.length<1000000000)(aM:L.length+1<n): ∃cn:Nat,bp (B9 n) n [J (a:Int),J (i:Int),J (j:Int),cx L]=some (.inl [J (a:Int),J (cn:Int),J (j:Int),cx L])/\i<=cn/\cn<=j+1/\eV (λx=>blt x (gt L a)=true) i cn (gt L)/\(cn<=j->blt (gt L cn) (gt L a)=false):=by
 have key:=k8 (f:=B9 n) (S:=Nat) (λs=>[J (a:Int),J (s:Int),J (j:Int),cx L]) (λs=>j+1-s) (λs=>i<=s/\s<=j+1/\eV (λx=>blt x (gt L a)=true) i s (gt L)) (λr=>∃cn:Nat,r= .inl [J (a:Int),J (cn:Int),J (j:Int),cx L]/\i<=cn/\cn<=j+1/\eV (λx=>blt x (gt L a)=true) i cn (gt L)/\(cn<=j->blt (gt L cn) (gt L a)=false)) ?_ n i ⟨xal _,gK,λk ab af=>by omega⟩ (by omega);.obtain⟨r,ab,cn,rfl,af⟩:=key;exact⟨cn,ab,af⟩
 rintro s ⟨aW,a2,bc⟩;by_cases aG:s<=j
 .have gn:s<L.length:=by omega
  have fv:a<L.length:=by omega
  by_cases aj:blt (gt L s) (gt L a)=true
  .left;have aL:ai false .add (J (s:Int)) (J 1)=some (J ((s+1:Nat):Int)):=b1 (by omega);refine⟨s+1,?_,⟨by omega,by omega,λk ab af=>?_⟩,by omega⟩
   .simp only[B9,go_sem,yT ((s:Int)<=(j:Int)),ec,dS,c7 gn,c7 fv,cP aC gn,cP aC fv,fb,gR,iv,aj,aL]
   by_cases ak:k=s;.subst ak;exact aj
   exact bc k ab (by omega)
  right;have aj:blt (gt L s) (gt L a)=false:=by simpa using aj
  refine⟨_,?_,s,rfl,aW,a2,bc,λ_=>aj⟩;simp only[B9,go_sem,yT ((s:Int)<=(j:Int)),ec,dS,c7 gn,c7 fv,cP aC gn,cP aC fv,fb,gR,iv,aj]
 right;refine⟨_,?_,s,rfl,aW,a2,bc,λh=>absurd h aG⟩;simp only[B9,go_sem,yF ((s:Int)<=(j:Int)),ec,dS]
def awr(n:Nat)(L:List ByteArray)(a i j:Nat)(pT:a<i)(gK:i<=j+1)(aN:j<L.length)(bT:L.length<1000000000)(aM:L.length+1<n): ∃dm:Nat,bp (B8 n) n [J (a:Int),J (i:Int),J (j:Int),cx L]=some (.inl [J (a:Int),J (i:Int),J (dm:Int),cx L])/\i<=dm+1/\dm<=j/\eV (λx=>blt x (gt L a)=false) (dm+1) (j+1) (gt L)/\(i<=dm->blt (gt L dm) (gt L a)=true):=by
 have key:=k8 (f:=B8 n) (S:=Nat) (λs=>[J (a:Int),J (i:Int),J (s:Int),cx L]) (λs=>s) (λs=>i<=s+1/\s<=j/\eV (λx=>blt x (gt L a)=false) (s+1) (j+1) (gt L)) (λr=>∃dm:Nat,r= .inl [J (a:Int),J (i:Int),J (dm:Int),cx L]/\i<=dm+1/\dm<=j/\eV (λx=>blt x (gt L a)=false) (dm+1) (j+1) (gt L)/\(i<=dm->blt (gt L dm) (gt L a)=true)) ?_ n j ⟨gK,xal _,λk ab af=>by omega⟩ (by omega);.obtain⟨r,ab,dm,rfl,af⟩:=key;exact⟨dm,ab,af⟩
 rintro s ⟨aW,a2,bc⟩;by_cases aG:i<=s
 .have gn:s<L.length:=by omega
  have fv:a<L.length:=by omega
  by_cases aj:blt (gt L s) (gt L a)=true;.right;refine⟨_,?_,s,rfl,aW,a2,bc,λ_=>aj⟩;simp only[B8,go_sem,yT ((i:Int)<=(s:Int)),ec,dS,c7 gn,c7 fv,cP aC gn,cP aC fv,fb,gR,iv,aj]
  left;have aj:blt (gt L s) (gt L a)=false:=by simpa using aj
  have aL:ai false .sub (J (s:Int)) (J 1)=some (J ((s-1:Nat):Int)):=kM (by omega) (by omega);refine⟨s-1,?_,⟨by omega,by omega,λk ab af=>?_⟩,by omega⟩;.simp only[B8,go_sem,yT ((i:Int)<=(s:Int)),ec,dS,c7 gn,c7 fv,cP aC gn,cP aC fv,fb,gR,iv,aj,aL]
  by_cases ak:k=s;.subst ak;exact aj
  exact bc k (by omega) af
 right;refine⟨_,?_,s,rfl,aW,a2,bc,λh=>absurd h aG⟩;simp only[B8,go_sem,yF ((i:Int)<=(s:Int)),ec,dS]
def aws(n:Nat)(L:List ByteArray)(a i j:Nat)(pT:a<i)(gK:i<=j+1)(aN:j<L.length)(bT:L.length<1000000000)(aM:L.length+1<n): ∃dm:Nat,bp (Ca n) n [J (a:Int),J (i:Int),J (j:Int),cx L]=some (.inl [J (a:Int),J (i:Int),J (dm:Int),cx L])/\i<=dm+1/\dm<=j/\eV (λx=>blt x (gt L a)=false) (dm+1) (j+1) (gt L)/\(i<=dm->blt (gt L dm) (gt L a)=true):=by
 have key:=k8 (f:=Ca n) (S:=Nat) (λs=>[J (a:Int),J (i:Int),J (s:Int),cx L]) (λs=>s) (λs=>i<=s+1/\s<=j/\eV (λx=>blt x (gt L a)=false) (s+1) (j+1) (gt L)) (λr=>∃dm:Nat,r= .inl [J (a:Int),J (i:Int),J (dm:Int),cx L]/\i<=dm+1/\dm<=j/\eV (λx=>blt x (gt L a)=false) (dm+1) (j+1) (gt L)/\(i<=dm->blt (gt L dm) (gt L a)=true)) ?_ n j ⟨gK,xal _,λk ab af=>by omega⟩ (by omega);.obtain⟨r,ab,dm,rfl,af⟩:=key;exact⟨dm,ab,af⟩
 rintro s ⟨aW,a2,bc⟩;by_cases aG:i<=s
 .have gn:s<L.length:=by omega
  have fv:a<L.length:=by omega
  by_cases aj:blt (gt L s) (gt L a)=true;.right;refine⟨_,?_,s,rfl,aW,a2,bc,λ_=>aj⟩;simp only[Ca,go_sem,yT ((i:Int)<=(s:Int)),ec,dS,c7 gn,c7 fv,cP aC gn,cP aC fv,fb,gR,iv,aj]
  left;have aj:blt (gt L s) (gt L a)=false:=by simpa using aj
  have aL:ai false .sub (J (s:Int)) (J 1)=some (J ((s-1:Nat):Int)):=kM (by omega) (by omega);refine⟨s-1,?_,⟨by omega,by omega,λk ab af=>?_⟩,by omega⟩;.simp only[Ca,go_sem,yT ((i:Int)<=(s:Int)),ec,dS,c7 gn,c7 fv,cP aC gn,cP aC fv,fb,gR,iv,aj,aL]
  by_cases ak:k=s;.subst ak;exact aj
  exact bc k (by omega) af
 right;refine⟨_,?_,s,rfl,aW,a2,bc,λh=>absurd h aG⟩;simp only[Ca,go_sem,yF ((i:Int)<=(s:Int)),ec,dS]
structure pU(bV:List ByteArray)(a b i j:Nat)(p:ByteArray)(L:List ByteArray):Prop where
 qD:a<i
 xm:i<=j+1
 qE:j<b
 tG:Part a b bV L
 pv:gt L a=p
 lo:eV (λx=>blt x p=true) (a+1) i (gt L)
 ah:eV (λx=>blt x p=false) (j+1) b (gt L)
def pU.step{bV L:List ByteArray}{a b i j cn dm:Nat}{p:ByteArray}(h:pU bV a b i j p L)(ab:i<=cn)(af:cn<=j+1)(aw:eV (λx=>blt x p=true) i cn (gt L))(a4:cn<=dm+1)(b7:dm<=j)(cO:eV (λx=>blt x p=false) (dm+1) (j+1) (gt L)):pU bV a b cn dm p L:=⟨by have:=h.qD;omega,a4,by have:=h.qE;omega,h.tG,h.pv,λk aW a2=>if ak:k<i then h.lo k aW ak else aw k (by omega) a2,λk aW a2=>if ak:j+1<=k then h.ah k ak a2 else cO k aW (by omega)⟩
def pU.swap{bV L:List ByteArray}{a b i j:Nat}{p:ByteArray}(h:pU bV a b i j p L)(gK:i<=j)(ah:blt (gt L i) p=false)(aN:blt (gt L j) p=true)(aj:b<=L.length):pU bV a b (i+1) (j-1) p (eL L i j):=by
 have aE:=h.qD;have Ae:=h.qE;have cU:i≠j:=by rintro rfl;rw[ah]at aN;cases aN
 have e:=r2 (L:=L) (i:=i) (j:=j) (by omega) (by omega);refine⟨by omega,by omega,by omega,h.tG.trans (Part.eL (by omega) (by omega) (by omega) (by omega) aj),?_,?_,?_⟩;.rw[e];simp only[jO];rw[xac (by omega),xac (by omega)];exact h.pv
 .intro k aW a2;rw[e];simp only[jO];rw[xac (by omega)];by_cases ak:k=i;.rw[xad ak];exact aN
  rw[xac ak];exact h.lo k aW (by omega)
 intro k aW a2;rw[e];simp only[jO];by_cases ak:k=j;.rw[xad ak];exact ah
 rw[xac ak,xac (by omega)];exact h.ah k (by omega) a2
def pU.fin{bV L:List ByteArray}{a b i j:Nat}{p:ByteArray}(h:pU bV a b i j p L)(gK:j<i)(aj:b<=L.length):Part a b bV (eL L j a)/\a<=j/\j<b/\eV (λx=>blt (gt (eL L j a) j) x=false) a j (gt (eL L j a))/\eV (λx=>blt x (gt (eL L j a) j)=false) (j+1) b (gt (eL L j a)):=by
 have aE:=h.qD;have Ae:=h.qE;have aAh:=h.xm;have e:=r2 (L:=L) (i:=j) (j:=a) (by omega) (by omega);have aex:gt (eL L j a) j=p:=by
  rw[e];simp only[jO];by_cases UI:j=a;.rw[xad UI,UI];exact h.pv
  rw[xac UI];simp only[xaD];exact h.pv
 refine⟨h.tG.trans (Part.eL (by omega) (by omega) (by omega) (by omega) aj),by omega,Ae,?_,?_⟩
 .intro k aW a2;rw[aex,e];simp only[jO];by_cases ak:k=a;.rw[xad ak];exact j2.Dt _ _ (h.lo j (by omega) (by omega))
  rw[xac ak,xac (by omega)];exact j2.Dt _ _ (h.lo k (by omega) (by omega))
 intro k aW a2;rw[aex,e];simp only[jO];rw[xac (by omega),xac (by omega)];exact h.ah k aW a2
def awt(n:Nat)(bV L:List ByteArray)(a b i j:Nat)(p:ByteArray)(h:pU bV a b i j p L)(aj:b<=bV.length)(bT:bV.length<1000000000)(aM:bV.length+1<n): ∃(cn dm:Nat)(bB:List ByteArray),bp (GL n) n [J (a:Int),J (i:Int),J (j:Int),cx L]=some (.inl [J (a:Int),J (dm:Int),cx bB])/\pU bV a b cn dm p bB/\dm<cn:=by
 have key:=k8 (f:=GL n) (S:=Nat×Nat×List ByteArray) (λs=>[J (a:Int),J (s.1:Int),J (s.2.1:Int),cx s.2.2]) (λs=>s.2.1+1-s.1) (λs=>pU bV a b s.1 s.2.1 p s.2.2) (λr=>∃(cn dm:Nat)(bB:List ByteArray),r= .inl [J (a:Int),J (dm:Int),cx bB]/\pU bV a b cn dm p bB/\dm<cn) ?_ n (i,j,L) h (by have:=h.qE;simp only;omega);.obtain⟨r,ab,cn,dm,bB,rfl,af⟩:=key;exact⟨cn,dm,bB,ab,af⟩
 rintro⟨i,j,L⟩ g;simp only at g⊢;have b6:=g.tG.len;have pT:=g.qD;have Ae:=g.qE;have gK:=g.xm;obtain⟨i1,dw,da,eM,jf,lk⟩:=awq n L a i j g.qD g.xm (by omega) (by omega) (by omega);obtain⟨hh,bw,bz,cz,eA,fq⟩:=aws n L a i1 j (by omega) eM (by omega) (by omega) (by omega);rw[g.pv]at jf lk eA fq;have lj:=g.step da eM jf bz cz eA;by_cases ao:i1<=hh
 .left;have ch:i1<L.length:=by omega
  have cM:hh<L.length:=by omega
  have Ad:hh<(L.set i1 (gt L hh)).length:=by simpa using cM
  have aL:ai false .add (J (i1:Int)) (J 1)=some (J ((i1+1:Nat):Int)):=b1 (by omega);have aX:ai false .sub (J (hh:Int)) (J 1)=some (J ((hh-1:Nat):Int)):=kM (by omega) (by omega);refine⟨(i1+1,hh-1,eL L i1 hh),?_,lj.swap ao (lk (by omega)) (fq ao) (by omega),by simp only;omega⟩;simp only[GL,go_sem,dw,bw,yF ((i1:Int)>(hh:Int)),c7 ch,c7 cM,cP aC ch,cP aC cM,fb,m3,m2,gR,xaY,cP aC Ad,mC ch cM,aL,aX]
 right;refine⟨_,?_,i1,hh,L,rfl,lj,by omega⟩;simp only[GL,go_sem,dw,bw,yT ((i1:Int)>(hh:Int))]
def awu(n:Nat)(bV:List ByteArray)(a b pv:Nat)(fG:a+1<b)(Dw:a<=pv/\pv<b)(aj:b<=bV.length)(bT:bV.length<1000000000)(aM:bV.length+1<n): ∃(m:Nat)(d:Bool)(bB:List ByteArray),zi n [J (a:Int),J (b:Int),J (pv:Int),cx bV]=some [D.a1 [J (m:Int),ay d],cx bB]/\Part a b bV bB/\a<=m/\m<b/\eV (λx=>blt (gt bB m) x=false) a m (gt bB)/\eV (λx=>blt x (gt bB m)=false) (m+1) b (gt bB):=by
 have fv:a<bV.length:=by omega
 have kr:pv<bV.length:=by omega
 have NW:pv<(bV.set a (gt bV pv)).length:=by simpa using kr
 have nA:=IN bV a pv;have mh:Part a b bV (eL bV a pv):=Part.eL (xal _) (by omega) Dw.1 Dw.2 aj;have aL:ai false .add (J (a:Int)) (J 1)=some (J ((a+1:Nat):Int)):=b1 (by omega);have aX:ai false .sub (J (b:Int)) (J 1)=some (J ((b-1:Nat):Int)):=kM (by omega) (by omega);have Dx:=mC fv kr;generalize eL bV a pv=L at*;have g:pU bV a b (a+1) (b-1) (gt L a) L:=⟨by omega,by omega,by omega,mh,rfl,λk ab af=>by omega,λk ab af=>by omega⟩;obtain⟨i1,dw,da,eM,jf,lk⟩:=awp n L a (a+1) (b-1) g.qD g.xm (by omega) (by omega) (by omega);obtain⟨hh,bw,bz,cz,eA,fq⟩:=awr n L a i1 (b-1) (by omega) eM (by omega) (by omega) (by omega);have lj:=g.step da eM jf bz cz eA;have NX:a<L.length:=by omega
 have cM:hh<L.length:=by omega
 by_cases ao:i1<=hh
 .have ch:i1<L.length:=by omega
  have Ad:hh<(L.set i1 (gt L hh)).length:=by simpa using cM
  have f1:ai false .add (J (i1:Int)) (J 1)=some (J ((i1+1:Nat):Int)):=b1 (by omega);have f2:ai false .sub (J (hh:Int)) (J 1)=some (J ((hh-1:Nat):Int)):=kM (by omega) (by omega);have a2:=lj.swap ao (lk (by omega)) (fq ao) (by omega);have awv:=mC ch cM;obtain⟨i2,NY,iI,eX,ei,jD⟩:=awt n bV (eL L i1 hh) a b (i1+1) (hh-1) _ a2 aj bT aM;have pY:=ei.tG.len;have Ae:=ei.qE;obtain⟨t1,t2,t3,t4,t5⟩:=ei.fin jD (by omega);have NZ:a<iI.length:=by omega
  have Iy:NY<iI.length:=by omega
  have z6:a<(iI.set NY (gt iI a)).length:=by simpa using NZ
  refine⟨NY,false,_,?_,t1,t2,t3,t4,t5⟩;simp only[zi,go_sem,c7 fv,c7 kr,cP aC fv,cP aC kr,fb,m3,m2,gR,xaY,cP aC NW,Dx,aL,aX,dw,bw,yF ((i1:Int)>(hh:Int)),c7 ch,c7 cM,cP aC ch,cP aC cM,cP aC Ad,awv,f1,f2,eX,c7 NZ,c7 Iy,cP aC NZ,cP aC Iy,cP aC z6,mC Iy NZ]
 obtain⟨t1,t2,t3,t4,t5⟩:=lj.fin (by omega) (by omega);have z6:a<(L.set hh (gt L a)).length:=by simpa using NX
 refine⟨hh,true,_,?_,t1,t2,t3,t4,t5⟩;simp only[zi,go_sem,c7 fv,c7 kr,cP aC fv,cP aC kr,fb,m3,m2,gR,xaY,cP aC NW,Dx,aL,aX,dw,bw,yT ((i1:Int)>(hh:Int)),c7 NX,c7 cM,cP aC NX,cP aC cM,cP aC z6,mC cM NX]
def aww(n:Nat)(L:List ByteArray)(a i j:Nat)(pT:a<i)(gK:i<=j+1)(aN:j<L.length)(bT:L.length<1000000000)(aM:L.length+1<n): ∃cn:Nat,bp (B4 n) n [J (a:Int),J (i:Int),J (j:Int),cx L]=some (.inl [J (a:Int),J (cn:Int),J (j:Int),cx L])/\i<=cn/\cn<=j+1/\eV (λx=>blt (gt L a) x=false) i cn (gt L)/\(cn<=j->blt (gt L a) (gt L cn)=true):=by
 have key:=k8 (f:=B4 n) (S:=Nat) (λs=>[J (a:Int),J (s:Int),J (j:Int),cx L]) (λs=>j+1-s) (λs=>i<=s/\s<=j+1/\eV (λx=>blt (gt L a) x=false) i s (gt L)) (λr=>∃cn:Nat,r= .inl [J (a:Int),J (cn:Int),J (j:Int),cx L]/\i<=cn/\cn<=j+1/\eV (λx=>blt (gt L a) x=false) i cn (gt L)/\(cn<=j->blt (gt L a) (gt L cn)=true)) ?_ n i ⟨xal _,gK,λk ab af=>by omega⟩ (by omega);.obtain⟨r,ab,cn,rfl,af⟩:=key;exact⟨cn,ab,af⟩
 rintro s ⟨aW,a2,bc⟩;by_cases aG:s<=j
 .have gn:s<L.length:=by omega
  have fv:a<L.length:=by omega
  by_cases aj:blt (gt L a) (gt L s)=true;.right;refine⟨_,?_,s,rfl,aW,a2,bc,λ_=>aj⟩;simp only[B4,go_sem,yT ((s:Int)<=(j:Int)),ec,dS,c7 gn,c7 fv,cP aC gn,cP aC fv,fb,gR,iv,aj]
  left;have aj:blt (gt L a) (gt L s)=false:=by simpa using aj
  have aL:ai false .add (J (s:Int)) (J 1)=some (J ((s+1:Nat):Int)):=b1 (by omega);refine⟨s+1,?_,⟨by omega,by omega,λk ab af=>?_⟩,by omega⟩;.simp only[B4,go_sem,yT ((s:Int)<=(j:Int)),ec,dS,c7 gn,c7 fv,cP aC gn,cP aC fv,fb,gR,iv,aj,aL]
  by_cases ak:k=s;.subst ak;exact aj
  exact bc k ab (by omega)
 right;refine⟨_,?_,s,rfl,aW,a2,bc,λh=>absurd h aG⟩;simp only[B4,go_sem,yF ((s:Int)<=(j:Int)),ec,dS]
def awx(n:Nat)(L:List ByteArray)(a i j:Nat)(pT:a<i)(gK:i<=j+1)(aN:j<L.length)(bT:L.length<1000000000)(aM:L.length+1<n): ∃dm:Nat,bp (B5 n) n [J (a:Int),J (i:Int),J (j:Int),cx L]=some (.inl [J (a:Int),J (i:Int),J (dm:Int),cx L])/\i<=dm+1/\dm<=j/\eV (λx=>blt (gt L a) x=true) (dm+1) (j+1) (gt L)/\(i<=dm->blt (gt L a) (gt L dm)=false):=by
 have key:=k8 (f:=B5 n) (S:=Nat) (λs=>[J (a:Int),J (i:Int),J (s:Int),cx L]) (λs=>s) (λs=>i<=s+1/\s<=j/\eV (λx=>blt (gt L a) x=true) (s+1) (j+1) (gt L)) (λr=>∃dm:Nat,r= .inl [J (a:Int),J (i:Int),J (dm:Int),cx L]/\i<=dm+1/\dm<=j/\eV (λx=>blt (gt L a) x=true) (dm+1) (j+1) (gt L)/\(i<=dm->blt (gt L a) (gt L dm)=false)) ?_ n j ⟨gK,xal _,λk ab af=>by omega⟩ (by omega);.obtain⟨r,ab,dm,rfl,af⟩:=key;exact⟨dm,ab,af⟩
 rintro s ⟨aW,a2,bc⟩;by_cases aG:i<=s
 .have gn:s<L.length:=by omega
  have fv:a<L.length:=by omega
  by_cases aj:blt (gt L a) (gt L s)=true
  .left;have aL:ai false .sub (J (s:Int)) (J 1)=some (J ((s-1:Nat):Int)):=kM (by omega) (by omega);refine⟨s-1,?_,⟨by omega,by omega,λk ab af=>?_⟩,by omega⟩
   .simp only[B5,go_sem,yT ((i:Int)<=(s:Int)),ec,dS,c7 gn,c7 fv,cP aC gn,cP aC fv,fb,gR,iv,aj,aL]
   by_cases ak:k=s;.subst ak;exact aj
   exact bc k (by omega) af
  right;have aj:blt (gt L a) (gt L s)=false:=by simpa using aj
  refine⟨_,?_,s,rfl,aW,a2,bc,λ_=>aj⟩;simp only[B5,go_sem,yT ((i:Int)<=(s:Int)),ec,dS,c7 gn,c7 fv,cP aC gn,cP aC fv,fb,gR,iv,aj]
 right;refine⟨_,?_,s,rfl,aW,a2,bc,λh=>absurd h aG⟩;simp only[B5,go_sem,yF ((i:Int)<=(s:Int)),ec,dS]
structure r3(bV:List ByteArray)(a b i j:Nat)(p:ByteArray)(L:List ByteArray):Prop where
 qD:a<i
 xm:i<=j+1
 qE:j<b
 tG:Part a b bV L
 pv:gt L a=p
 lo:eV (λx=>blt p x=false) (a+1) i (gt L)
 ah:eV (λx=>blt p x=true) (j+1) b (gt L)
def r3.step{bV L:List ByteArray}{a b i j cn dm:Nat}{p:ByteArray}(h:r3 bV a b i j p L)(ab:i<=cn)(af:cn<=j+1)(aw:eV (λx=>blt p x=false) i cn (gt L))(a4:cn<=dm+1)(b7:dm<=j)(cO:eV (λx=>blt p x=true) (dm+1) (j+1) (gt L)):r3 bV a b cn dm p L:=⟨by have:=h.qD;omega,a4,by have:=h.qE;omega,h.tG,h.pv,λk aW a2=>if ak:k<i then h.lo k aW ak else aw k (by omega) a2,λk aW a2=>if ak:j+1<=k then h.ah k ak a2 else cO k aW (by omega)⟩
def r3.swap{bV L:List ByteArray}{a b i j:Nat}{p:ByteArray}(h:r3 bV a b i j p L)(gK:i<=j)(ah:blt p (gt L i)=true)(aN:blt p (gt L j)=false)(aj:b<=L.length):r3 bV a b (i+1) (j-1) p (eL L i j):=by
 have aE:=h.qD;have Ae:=h.qE;have cU:i≠j:=by rintro rfl;rw[ah]at aN;cases aN
 have e:=r2 (L:=L) (i:=i) (j:=j) (by omega) (by omega);refine⟨by omega,by omega,by omega,h.tG.trans (Part.eL (by omega) (by omega) (by omega) (by omega) aj),?_,?_,?_⟩;.rw[e];simp only[jO];rw[xac (by omega),xac (by omega)];exact h.pv
 .intro k aW a2;rw[e];simp only[jO];rw[xac (by omega)];by_cases ak:k=i;.rw[xad ak];exact aN
  rw[xac ak];exact h.lo k aW (by omega)
 intro k aW a2;rw[e];simp only[jO];by_cases ak:k=j;.rw[xad ak];exact ah
 rw[xac ak,xac (by omega)];exact h.ah k (by omega) a2
def awy(n:Nat)(bV L:List ByteArray)(a b i j:Nat)(p:ByteArray)(h:r3 bV a b i j p L)(aj:b<=bV.length)(bT:bV.length<1000000000)(aM:bV.length+1<n): ∃(cn dm:Nat)(bB:List ByteArray),bp (GJ n) n [J (a:Int),J (i:Int),J (j:Int),cx L]=some (.inl [J (cn:Int),cx bB])/\r3 bV a b cn dm p bB/\dm<cn:=by
 have key:=k8 (f:=GJ n) (S:=Nat×Nat×List ByteArray) (λs=>[J (a:Int),J (s.1:Int),J (s.2.1:Int),cx s.2.2]) (λs=>s.2.1+1-s.1) (λs=>r3 bV a b s.1 s.2.1 p s.2.2) (λr=>∃(cn dm:Nat)(bB:List ByteArray),r= .inl [J (cn:Int),cx bB]/\r3 bV a b cn dm p bB/\dm<cn) ?_ n (i,j,L) h (by have:=h.qE;simp only;omega);.obtain⟨r,ab,cn,dm,bB,rfl,af⟩:=key;exact⟨cn,dm,bB,ab,af⟩
 rintro⟨i,j,L⟩ g;simp only at g⊢;have b6:=g.tG.len;have pT:=g.qD;have Ae:=g.qE;have gK:=g.xm;obtain⟨i1,dw,da,eM,jf,lk⟩:=aww n L a i j g.qD g.xm (by omega) (by omega) (by omega);obtain⟨hh,bw,bz,cz,eA,fq⟩:=awx n L a i1 j (by omega) eM (by omega) (by omega) (by omega);rw[g.pv]at jf lk eA fq;have lj:=g.step da eM jf bz cz eA;by_cases ao:i1<=hh
 .left;have ch:i1<L.length:=by omega
  have cM:hh<L.length:=by omega
  have Ad:hh<(L.set i1 (gt L hh)).length:=by simpa using cM
  have aL:ai false .add (J (i1:Int)) (J 1)=some (J ((i1+1:Nat):Int)):=b1 (by omega);have aX:ai false .sub (J (hh:Int)) (J 1)=some (J ((hh-1:Nat):Int)):=kM (by omega) (by omega);refine⟨(i1+1,hh-1,eL L i1 hh),?_,lj.swap ao (lk (by omega)) (fq ao) (by omega),by simp only;omega⟩;simp only[GJ,go_sem,dw,bw,yF ((i1:Int)>(hh:Int)),c7 ch,c7 cM,cP aC ch,cP aC cM,fb,m3,m2,gR,xaY,cP aC Ad,mC ch cM,aL,aX]
 right;refine⟨_,?_,i1,hh,L,rfl,lj,by omega⟩;simp only[GJ,go_sem,dw,bw,yT ((i1:Int)>(hh:Int))]
def awz(n:Nat)(bV:List ByteArray)(a b pv:Nat)(fG:a+1<b)(Dw:a<=pv/\pv<b)(aj:b<=bV.length)(bT:bV.length<1000000000)(aM:bV.length+1<n): ∃(m:Nat)(bB:List ByteArray),B6 n [J (a:Int),J (b:Int),J (pv:Int),cx bV]=some [J (m:Int),cx bB]/\Part a b bV bB/\a<m/\m<=b/\eV (λx=>blt (gt bV pv) x=false) a m (gt bB)/\eV (λx=>blt (gt bV pv) x=true) m b (gt bB):=by
 have fv:a<bV.length:=by omega
 have kr:pv<bV.length:=by omega
 have NW:pv<(bV.set a (gt bV pv)).length:=by simpa using kr
 have nA:=IN bV a pv;have mh:Part a b bV (eL bV a pv):=Part.eL (xal _) (by omega) Dw.1 Dw.2 aj;have aL:ai false .add (J (a:Int)) (J 1)=some (J ((a+1:Nat):Int)):=b1 (by omega);have aX:ai false .sub (J (b:Int)) (J 1)=some (J ((b-1:Nat):Int)):=kM (by omega) (by omega);have Dx:=mC fv kr;have Ul:gt (eL bV a pv) a=gt bV pv:=by
  rw[r2 fv kr];simp only[jO];by_cases h:a=pv;.rw[xad h,h]
  rw[xac h];simp
 generalize eL bV a pv=L at*;have g:r3 bV a b (a+1) (b-1) (gt bV pv) L:=⟨by omega,by omega,by omega,mh,Ul,λk ab af=>by omega,λk ab af=>by omega⟩;obtain⟨i2,NY,iI,eX,ei,jD⟩:=awy n bV L a b (a+1) (b-1) _ g aj bT aM;have pT:=ei.qD;have gK:=ei.xm;have Ae:=ei.qE;refine⟨i2,iI,?_,ei.tG,pT,by omega,?_,ei.ah.mono (by omega) (xal _)⟩
 .simp only[B6,go_sem,c7 fv,c7 kr,cP aC fv,cP aC kr,fb,m3,m2,gR,xaY,cP aC NW,Dx,aL,aX,eX]
 intro k ab af;by_cases ak:k=a;.subst ak;rw[ei.pv];exact qg _
 exact ei.lo k (by omega) af
def awA(n:Nat)(L:List ByteArray)(a b i:Nat)(K:D)(pT:a<i)(ji:i<=b)(aj:b<=L.length)(bT:L.length<1000000000)(aM:L.length+1<n)(aG:ez blt a i (gt L)): ∃cn:Nat,bp (B2 n) n [J (a:Int),J (b:Int),J (i:Int),K,cx L]=some (.inl [J (a:Int),J (b:Int),J (cn:Int),K,cx L])/\i<=cn/\cn<=b/\ez blt a cn (gt L):=by
 have key:=k8 (f:=B2 n) (S:=Nat) (λs=>[J (a:Int),J (b:Int),J (s:Int),K,cx L]) (λs=>b-s) (λs=>i<=s/\s<=b/\ez blt a s (gt L)) (λr=>∃cn:Nat,r= .inl [J (a:Int),J (b:Int),J (cn:Int),K,cx L]/\i<=cn/\cn<=b/\ez blt a cn (gt L)) ?_ n i ⟨xal _,ji,aG⟩ (by omega);.obtain⟨r,ab,cn,rfl,af⟩:=key;exact⟨cn,ab,af⟩
 rintro s ⟨aW,a2,bc⟩;by_cases aAi:s<b
 .have gn:s<L.length:=by omega
  have N0:s-1<L.length:=by omega
  have bF:ai false .sub (J (s:Int)) (J 1)=some (J ((s-1:Nat):Int)):=kM (by omega) (by omega);by_cases aj:blt (gt L s) (gt L (s-1))=true;.right;refine⟨_,?_,s,rfl,aW,a2,bc⟩;simp only[B2,go_sem,yT ((s:Int)<(b:Int)),ec,dS,c7 gn,c7 N0,cP aC gn,cP aC N0,fb,gR,iv,aj,bF]
  left;have aj:blt (gt L s) (gt L (s-1))=false:=by simpa using aj
  have aL:ai false .add (J (s:Int)) (J 1)=some (J ((s+1:Nat):Int)):=b1 (by omega);refine⟨s+1,?_,⟨by omega,by omega,bc.more j2 (by omega) aj⟩,by omega⟩;simp only[B2,go_sem,yT ((s:Int)<(b:Int)),ec,dS,c7 gn,c7 N0,cP aC gn,cP aC N0,fb,gR,iv,aj,bF,aL]
 right;refine⟨_,?_,s,rfl,aW,a2,bc⟩;simp only[B2,go_sem,yF ((s:Int)<(b:Int)),ec,dS]
def pV(a b:Nat)(L:List ByteArray):Prop:=0<a->∀q,a<=q->q<b->blt (gt L q) (gt L (a-1))=false
def pV.part{a b c d:Nat}{L M:List ByteArray}(h:pV a b L)(aU:Part c d L M)(ao:a<=c)(aB:d<=b)(aj:b<=L.length):pV a b M:=by intro au q ab af;rw[aU.pR (i:=a-1) (.inl (by omega))];exact eV.part (P:=λx=>blt x (gt L (a-1))=false) (λq ab af=>h au q ab af) (aU.mono ao aB) aj q ab af
def awB(n:Nat)(bV:List ByteArray)(a b i:Nat)(B K:D)(pT:a<i)(ji:i<b)(aj:b<=bV.length)(bT:bV.length<1000000000)(aM:bV.length+1<n)(aG:ez blt a (i-1) (gt bV))(m4:pV a b bV): ∃bB:List ByteArray,bp (zc n) n [J (a:Int),B,J (i:Int),K,J ((i-1:Nat):Int),cx bV]=some (.inl [J (a:Int),B,J (i:Int),K,cx bB])/\Part a i bV bB/\ez blt a i (gt bB):=by
 have key:=k8 (f:=zc n) (S:=Nat×List ByteArray) (λs=>[J (a:Int),B,J (i:Int),K,J (s.1:Int),cx s.2]) (λs=>s.1) (λs=>a<=s.1/\s.1<=i-1/\Part a i bV s.2/\Du blt a s.1 (i-1) (gt s.2)) (λr=>∃bB:List ByteArray,r= .inl [J (a:Int),B,J (i:Int),K,cx bB]/\Part a i bV bB/\ez blt a i (gt bB)) ?_ n (i-1,bV) ⟨by simp only;omega,xal _,Part.refl _ _ _,aet aG⟩ (by simp only;omega);.obtain⟨r,ab,bB,rfl,af⟩:=key;exact⟨bB,ab,af⟩
 rintro⟨j,L⟩ ⟨aW,a2,bc,cV⟩;simp only at aW a2 bc cV⊢;have b6:=bc.len;have aey:i-1+1=i:=by omega
 by_cases ad1:1<=j
 .have cM:j<L.length:=by omega
  have kN:j-1<L.length:=by omega
  have aL:ai false .sub (J (j:Int)) (J 1)=some (J ((j-1:Nat):Int)):=kM (by omega) (by omega);by_cases kO:blt (gt L j) (gt L (j-1))=true
  .have av8:a≠j:=by
    rintro rfl;have:=(m4.part bc (xal _) (by omega) aj) (by omega) a (xal _) (by omega);rw[kO]at this;cases this
   left;have bw:j-1<(L.set j (gt L (j-1))).length:=by simpa using kN
   refine⟨(j-1,eL L j (j-1)),?_,⟨by simp only;omega,by simp only;omega,bc.trans (Part.eL (by omega) (by omega) (by omega) (by omega) (by omega)),?_⟩,by simp only;omega⟩;.simp only[zc,go_sem,yT ((j:Int)>=1),c7 cM,c7 kN,cP aC cM,cP aC kN,fb,aL,iv,kO,m3,m2,gR,xaY,cP aC bw,mC cM kN]
   rw[r2 cM kN];exact aeu j2 cV (by omega) a2 kO
  right;have kO:blt (gt L j) (gt L (j-1))=false:=by simpa using kO
  refine⟨_,?_,L,rfl,bc,by rw[<-aey];exact NR j2 cV aW (.inr kO)⟩;simp only[zc,go_sem,yT ((j:Int)>=1),c7 cM,c7 kN,cP aC cM,cP aC kN,fb,aL,iv,kO,gR]
 right;refine⟨_,?_,L,rfl,bc,by rw[<-aey];exact NR j2 cV aW (.inl (by omega))⟩;simp only[zc,go_sem,yF ((j:Int)>=1)]
def awC(n:Nat)(bV:List ByteArray)(i b:Nat)(A K:D)(ji:i<b)(aj:b<=bV.length)(bT:bV.length<1000000000)(aM:bV.length+1<n): ∃bB:List ByteArray,bp (zd n) n [A,J (b:Int),J (i:Int),K,J ((i+1:Nat):Int),cx bV]=some (.inl [A,J (b:Int),J (i:Int),K,cx bB])/\Part i b bV bB:=by
 have key:=k8 (f:=zd n) (S:=Nat×List ByteArray) (λs=>[A,J (b:Int),J (i:Int),K,J (s.1:Int),cx s.2]) (λs=>b-s.1) (λs=>i+1<=s.1/\s.1<=b/\Part i b bV s.2) (λr=>∃bB:List ByteArray,r= .inl [A,J (b:Int),J (i:Int),K,cx bB]/\Part i b bV bB) ?_ n (i+1,bV) ⟨xal _,ji,Part.refl _ _ _⟩ (by simp only;omega);.obtain⟨r,ab,bB,rfl,af⟩:=key;exact⟨bB,ab,af⟩
 rintro⟨j,L⟩ ⟨aW,a2,bc⟩;simp only at aW a2 bc⊢;have b6:=bc.len;by_cases ad1:j<b
 .have cM:j<L.length:=by omega
  have kN:j-1<L.length:=by omega
  have aL:ai false .sub (J (j:Int)) (J 1)=some (J ((j-1:Nat):Int)):=kM (by omega) (by omega);have aX:ai false .add (J (j:Int)) (J 1)=some (J ((j+1:Nat):Int)):=b1 (by omega);by_cases kO:blt (gt L j) (gt L (j-1))=true
  .left;have bw:j-1<(L.set j (gt L (j-1))).length:=by simpa using kN
   refine⟨(j+1,eL L j (j-1)),?_,⟨by simp only;omega,by simp only;omega,bc.trans (Part.eL (by omega) (by omega) (by omega) (by omega) (by omega))⟩,by simp only;omega⟩;simp only[zd,go_sem,yT ((j:Int)<(b:Int)),c7 cM,c7 kN,cP aC cM,cP aC kN,fb,aL,aX,iv,kO,m3,m2,gR,xaY,cP aC bw,mC cM kN]
  right;have kO:blt (gt L j) (gt L (j-1))=false:=by simpa using kO
  refine⟨_,?_,L,rfl,bc⟩;simp only[zd,go_sem,yT ((j:Int)<(b:Int)),c7 cM,c7 kN,cP aC cM,cP aC kN,fb,aL,iv,kO,gR]
 right;refine⟨_,?_,L,rfl,bc⟩;simp only[zd,go_sem,yF ((j:Int)<(b:Int))]
def awD(n:Nat)(bV:List ByteArray)(a b:Nat)(fG:a<b)(aj:b<=bV.length)(bT:bV.length<1000000000)(aM:bV.length+20<n)(m4:pV a b bV): ∃(r:Bool)(bB:List ByteArray),wO n [J (a:Int),J (b:Int),cx bV]=some [ay r,cx bB]/\Part a b bV bB/\(r=true->ez blt a b (gt bB)):=by
 have key:=k8 (f:=zf n) (S:=Nat×Nat×List ByteArray) (λs=>[J (a:Int),J (b:Int),J (s.1:Int),J (s.2.1:Int),cx s.2.2]) (λs=>5-s.2.1) (λs=>a<s.1/\s.1<=b/\s.2.1<=5/\Part a b bV s.2.2/\ez blt a s.1 (gt s.2.2)) (λr=>∃bB:List ByteArray,(r= .inl [cx bB]\/r= .inr [ay false,cx bB]\/(r= .inr [ay true,cx bB]/\ez blt a b (gt bB)))/\Part a b bV bB) ?_ n (a+1,0,bV) ⟨by simp only;omega,fG,by simp only;omega,Part.refl _ _ _,xl (xal _)⟩ (by simp only;omega)
 .obtain⟨r,ab,bB,av,af⟩:=key;have bF:ai false .add (J (a:Int)) (J 1)=some (J ((a+1:Nat):Int)):=b1 (by omega);have ab:bp (zf n) n [J (a:Int),J (b:Int),J ((a+1:Nat):Int),J 0,cx bV]=some r:=ab;rcases av with rfl|rfl|⟨rfl,aw⟩
  .exact⟨false,bB,by simp only[wO,go_sem,bF,ab],af,λh=>by cases h⟩
  .exact⟨false,bB,by simp only[wO,go_sem,bF,ab],af,λh=>by cases h⟩
  exact⟨true,bB,by simp only[wO,go_sem,bF,ab],af,λ_=>aw⟩
 rintro⟨i,k,L⟩ ⟨aW,a2,bc,cV,iA⟩;simp only at aW a2 bc cV iA⊢;have b6:=cV.len;by_cases ak:k<5
 .have UJ:=yT ((k:Int)<5);obtain⟨cn,dw,da,eM,jf⟩:=awA n L a b i (J (k:Int)) aW a2 (by omega) (by omega) (by omega) iA;have oc:ai false .add (J (k:Int)) (J 1)=some (J ((k+1:Nat):Int)):=b1 (by omega);have IW:ai false .sub (J (b:Int)) (J (a:Int))=some (J ((b-a:Nat):Int)):=qB (by omega) (by omega);by_cases ji:cn=b
  .right;refine⟨_,?_,L,.inr (.inr ⟨rfl,by rw[<-ji];exact jf⟩),cV⟩;simp only[zf,go_sem,UJ,dw,ji,beq_self_eq_true]
  have bg:((cn:Int)==(b:Int))=false:=by simp;omega
  by_cases awE:b-a<50;.right;refine⟨_,?_,L,.inr (.inl rfl),cV⟩;simp only[zf,go_sem,UJ,dw,bg,IW,yT (((b-a:Nat):Int)<50)]
  left;have awF:=yF (((b-a:Nat):Int)<50);have aL:ai false .sub (J (cn:Int)) (J 1)=some (J ((cn-1:Nat):Int)):=kM (by omega) (by omega);have aX:ai false .sub (J (cn:Int)) (J (a:Int))=some (J ((cn-a:Nat):Int)):=qB (by omega) (by omega);have bL:ai false .sub (J (b:Int)) (J (cn:Int))=some (J ((b-cn:Nat):Int)):=qB (by omega) (by omega);have cL:ai false .add (J (cn:Int)) (J 1)=some (J ((cn+1:Nat):Int)):=b1 (by omega);have ch:cn<L.length:=by omega
  have IX:cn-1<L.length:=by omega
  have bw:cn-1<(L.set cn (gt L (cn-1))).length:=by simpa using IX
  have Dx:=mC ch IX;have aez:Part a b L (eL L cn (cn-1)):=Part.eL (by omega) (by omega) (by omega) (by omega) (by omega);have nA:=IN L cn (cn-1);have JD:ez blt a (cn-1) (gt (eL L cn (cn-1))):=by intro p q ab af aw;rw[r2 ch IX];simp only[jO];rw[xac (by omega),xac (by omega),xac (by omega),xac (by omega)];exact jf p q ab af (by omega)
  obtain⟨iI,eX,ei,jD⟩:∃iI:List ByteArray,aa (aH (ay (decide (((cn-a:Nat):Int)>=2))) (aa (ai false .sub (J (cn:Int)) (J 1)) λhM=>aa (bp (zc n) n [J (a:Int),J (b:Int),J (cn:Int),J (k:Int),hM,cx (eL L cn (cn-1))]) (ba λls=>some (Sum.inl [I ls 0,I ls 1,I ls 2,I ls 3,D.ax 1 (ar (I ls 4))]))) (some (.inl [J (a:Int),J (b:Int),J (cn:Int),J (k:Int),cx (eL L cn (cn-1))]))) some=some (Sum.inl (β:=List D⊕(List D⊕(List D⊕List D))) [J (a:Int),J (b:Int),J (cn:Int),J (k:Int),cx iI])/\Part a cn (eL L cn (cn-1)) iI/\ez blt a cn (gt iI):=by
   by_cases af:2<=cn-a;.obtain⟨iI,t1,t2,t3⟩:=awB n (eL L cn (cn-1)) a b cn (J (b:Int)) (J (k:Int)) (by omega) (by omega) (by omega) (by omega) (by omega) JD ((m4.part cV (xal _) (xal _) aj).part aez (xal _) (xal _) (by omega));refine⟨iI,?_,t2,t3⟩;simp only[go_sem,yT (((cn-a:Nat):Int)>=2),aL,t1]
   refine⟨_,?_,Part.refl _ _ _,xl (by omega)⟩;simp only[go_sem,yF (((cn-a:Nat):Int)>=2)]
  have pY:=ei.len;obtain⟨Af,s1,s2⟩:∃Af:List ByteArray,aa (aH (ay (decide (((b-cn:Nat):Int)>=2))) (aa (ai false .add (J (cn:Int)) (J 1)) λkf=>aa (bp (zd n) n [J (a:Int),J (b:Int),J (cn:Int),J (k:Int),kf,cx iI]) (ba λls=>some (Sum.inl [I ls 0,I ls 1,I ls 2,I ls 3,D.ax 1 (ar (I ls 4))]))) (some (.inl [J (a:Int),J (b:Int),J (cn:Int),J (k:Int),cx iI]))) some=some (Sum.inl (β:=List D⊕(List D⊕(List D⊕List D))) [J (a:Int),J (b:Int),J (cn:Int),J (k:Int),cx Af])/\Part cn b iI Af:=by
   by_cases af:2<=b-cn;.obtain⟨Af,t1,t2⟩:=awC n iI cn b (J (a:Int)) (J (k:Int)) (by omega) (by omega) (by omega) (by omega);refine⟨Af,?_,t2⟩;simp only[go_sem,yT (((b-cn:Nat):Int)>=2),cL,t1]
   refine⟨_,?_,Part.refl _ _ _⟩;simp only[go_sem,yF (((b-cn:Nat):Int)>=2)]
  have gM:ez blt a cn (gt Af):=jD.out s2 (.inl (xal _));have hs:∀{dY:Type}{x:Option dY},aa x some=x:=λ{dY x}=>by cases x<;>rfl
  rw[hs]at eX s1;refine⟨(cn,k+1,Af),?_,⟨by simp only;omega,by simp only;omega,by simp only;omega,((cV.trans aez).trans (ei.mono (xal _) (by omega))).trans (s2.mono (by omega) (xal _)),gM⟩,by simp only;omega⟩;simp only[zf,go_sem,UJ,dw,bg,IW,awF,aL,c7 ch,c7 IX,cP aC ch,cP aC IX,fb,m3,m2,gR,xaY,cP aC bw,Dx,aX,bL];rw[lR]at eX s1;rw[aL,eH]at eX;rw[cL,eH]at s1;rw[eX];simp only[go_sem,bL,cL];rw[s1];simp only[go_sem,oc]
 right;refine⟨_,?_,L,.inl rfl,cV⟩;simp only[zf,go_sem,yF ((k:Int)<5)]
def UK:ByteArray:=⟨#[0,1,2,2,3,3,3,3,4,4,4,4,4,4,4,4,5,5,5,5,5,5,5,5,5,5,5,5,5,5,5,5,6,6,6,6,6,6,6,6,6,6,6,6,6,6,6,6,6,6,6,6,6,6,6,6,6,6,6,6,6,6,6,6,7,7,7,7,7,7,7,7,7,7,7,7,7,7,7,7,7,7,7,7,7,7,7,7,7,7,7,7,7,7,7,7,7,7,7,7,7,7,7,7,7,7,7,7,7,7,7,7,7,7,7,7,7,7,7,7,7,7,7,7,7,7,7,7,8,8,8,8,8,8,8,8,8,8,8,8,8,8,8,8,8,8,8,8,8,8,8,8,8,8,8,8,8,8,8,8,8,8,8,8,8,8,8,8,8,8,8,8,8,8,8,8,8,8,8,8,8,8,8,8,8,8,8,8,8,8,8,8,8,8,8,8,8,8,8,8,8,8,8,8,8,8,8,8,8,8,8,8,8,8,8,8,8,8,8,8,8,8,8,8,8,8,8,8,8,8,8,8,8,8,8,8,8,8,8,8,8,8,8,8,8,8,8,8,8,8,8,8,8,8,8,8]⟩
def aeA(x:Nat):Bool:=match nM (aC UK) (.val (.int .u8 x))with|some (.val (.int .u8 t))=>decide (0<=t/\t<=8/\(1<=x->1<=t/\2^t.toNat<=2*x))|_=>false
def awG:∀x:_root_.Fin 256,aeA x.val=true:=by decide+kernel
def awH{x:Nat}(h:x<256):∃t:Nat,nM (aC UK) (.val (.int .u8 x))=some (.val (.int .u8 t))/\t<=8/\(1<=x->1<=t/\2^t<=2*x):=by
 have:=awG ⟨x,h⟩;unfold aeA at this;simp only at this;split at this;.rename_i t aK;have:=xba this;obtain⟨m,rfl⟩:∃m:Nat,t=(m:Int):=⟨t.toNat,by omega⟩;exact⟨m,aK,by omega,λh=>⟨by have:=this.2.2 h;omega,by have:=(this.2.2 h).2;simpa using this⟩⟩
 cases this
abbrev k9(n:Nat):D:= .val (.int .u64 n)
theorem N1{bt:Bool}{a b:Int}:ai bt .geq (.val (.int .u64 a)) (.val (.int .u64 b))=some (ay (decide (a>=b))):=rfl
theorem aeB{bt:Bool}{a:Nat}:ai bt .shr (k9 a) (.val (.int .u64 16))=some (k9 (a/65536)):=by show some (D.val (.int .u64 ((a:Int).fdiv 65536)))=_;rw[Int.fdiv_eq_ediv_of_nonneg _ (by omega)];rfl
theorem UL{bt:Bool}{a:Nat}:ai bt .shr (k9 a) (.val (.int .u64 8))=some (k9 (a/256)):=by show some (D.val (.int .u64 ((a:Int).fdiv 256)))=_;rw[Int.fdiv_eq_ediv_of_nonneg _ (by omega)];rfl
def awI{a:Nat}(h:a<256):ka .u8 (k9 a)=some (.val (.int .u8 a)):=by
 show some (D.val (.int .u8 (IntKind.u8.wrap a)))=_
 congr 3
 simp[IntKind.wrap,IntKind.bits,show IntKind.u8.signed=false from rfl,show IntKind.u64.signed=false from rfl]
 try omega
theorem awJ{a:Nat}(h:a<256):ka .i64 (.val (.int .u8 a))=some (J a):=by show some (D.val (.int .i64 (IntKind.i64.wrap a)))=_;rw[wrap64 _ (by omega) (by omega)];rfl
def UM{a:Nat}(h:a<4000000000000000000):ka .u64 (J (a:Int))=some (k9 a):=by
 show some (D.val (.int .u64 (IntKind.u64.wrap a)))=_
 congr 3
 simp[IntKind.wrap,IntKind.bits,show IntKind.u8.signed=false from rfl,show IntKind.u64.signed=false from rfl]
 try omega
set_option maxRecDepth 20000 in
def aeC(n:Nat){v:Nat}(ab:1<=v)(af:v<4294967296):∃k:Nat,k<=40/\1<=k/\rz n [k9 v]=some (J k)/\2^k<=2*v:=by
 have s0:decide ((v:Int)>=4294967296)=false:=xaE (by omega);have jz:∀{x y:Nat},x+y<1000->ai false .add (J (x:Int)) (J (y:Int))=some (J ((x+y:Nat):Int)):=λh=>qA (by omega);have gl:ai false .add (J 0) (J 16)=some (J 16):=rfl;have dL:ai false .add (J 0) (J 8)=some (J 8):=rfl;have jN:ai false .add (J 16) (J 8)=some (J 24):=rfl;have tail:∀(x s:Nat),x<256->1<=x->s<=24->2^s*x<=v->∃k:Nat,k<=40/\1<=k/\(aa (ka .u8 (k9 x)) λbU=>aa (nM (aC UK) bU) λcJ=>aa (ka .i64 cJ) λcC=>aa (ai false .add (J (s:Int)) cC) λdf=>some df)=some (J k)/\2^k<=2*v:=by
  intro x s ag ML aG hle;obtain⟨t,t1,t2,t3⟩:=awH ag;obtain⟨t4,t5⟩:=t3 ML;refine⟨s+t,by omega,by omega,?_,?_⟩;.simp only[awI ag,eH,t1,awJ (show t<256 by omega),jz (show s+t<1000 by omega)]
  rw[Nat.pow_add]
  calc 2^s*2^t<=2^s*(2*x):=Nat.mul_le_mul_left _ t5
   _=2*(2^s*x):=by rw[Nat.mul_left_comm]
   _<=2*v:=by omega
 by_cases bR:65536<=v
 .have s1:decide ((v:Int)>=65536)=true:=xav (by omega);by_cases bY:256<=v/65536;.have s2:decide (((v/65536:Nat):Int)>=256)=true:=xav (by omega);obtain⟨k,cE,dz,g2,pq⟩:=tail (v/65536/256) 24 (by omega) (by omega) (by omega) (by omega);refine⟨k,cE,dz,?_,pq⟩;simp only[rz,Gz,za,Gy,go_sem,N1,s0,s1,s2,aeB,UL,gl,jN];exact congrArg (λo=>aa o λcu=>some cu) g2
  have s2:decide (((v/65536:Nat):Int)>=256)=false:=xaE (by omega);obtain⟨k,cE,dz,g2,pq⟩:=tail (v/65536) 16 (by omega) (by omega) (by omega) (by omega);refine⟨k,cE,dz,?_,pq⟩;simp only[rz,Gz,za,Gy,go_sem,N1,s0,s1,s2,aeB,UL,gl,jN];exact congrArg (λo=>aa o λcu=>some cu) g2
 have s1:decide ((v:Int)>=65536)=false:=xaE (by omega);by_cases bY:256<=v;.have s2:decide ((v:Int)>=256)=true:=xav (by omega);obtain⟨k,cE,dz,g2,pq⟩:=tail (v/256) 8 (by omega) (by omega) (by omega) (by omega);refine⟨k,cE,dz,?_,pq⟩;simp only[rz,Gz,za,Gy,go_sem,N1,s0,s1,s2,UL,dL];exact congrArg (λo=>aa o λcu=>some cu) g2
 have s2:decide ((v:Int)>=256)=false:=xaE (by omega);obtain⟨k,cE,dz,g2,pq⟩:=tail v 0 (by omega) ab (by omega) (by omega);refine⟨k,cE,dz,?_,pq⟩;simp only[rz,Gz,za,Gy,go_sem,N1,s0,s1,s2];exact congrArg (λo=>aa o λcu=>some cu) g2
theorem awK(n:Nat)(v:Int):∃w:Int,LZ n [.val (.int .u64 v)]=some [.val (.int .u64 w),.val (.int .u64 w)]:=⟨_,rfl⟩
def awL(bt:Bool)(w:Int)(m:Nat)(hm:m<4000000000000000000):∃r:Nat,r<=m/\ai bt .and (.val (.int .u64 w)) (k9 m)=some (k9 r):=by
 refine⟨(BitVec.ofInt 64 w&&&BitVec.ofInt 64 (m:Int)).toNat,?_,?_⟩;.rw[BitVec.toNat_and];refine xbV Nat.and_le_right ?_;rw[BitVec.toNat_ofInt];omega
 show some (D.val (.int .u64 (IntKind.u64.wrap ((BitVec.ofInt 64 w&&&BitVec.ofInt 64 (m:Int)).toNat:Int))))=_;have cv:=(BitVec.ofInt 64 w&&&BitVec.ofInt 64 (m:Int)).isLt;generalize (BitVec.ofInt 64 w&&&BitVec.ofInt 64 (m:Int)).toNat=r at*
 congr 3
 simp[IntKind.wrap,IntKind.bits,show IntKind.u64.signed=false from rfl];omega
def awM{bt:Bool}{m:Nat}(h:1<=m)(bx:m<4000000000000000000):ai bt .sub (k9 m) (.val (.int .u64 1))=some (k9 (m-1)):=by
 show some (D.val (.int .u64 (IntKind.u64.wrap ((m:Int)-1))))=_
 congr 3
 simp[IntKind.wrap,IntKind.bits,show IntKind.u64.signed=false from rfl];omega
theorem awN{a:Nat}(h:a<4000000000000000000):ka .i64 (k9 a)=some (J a):=by show some (D.val (.int .i64 (IntKind.i64.wrap a)))=_;rw[wrap64 _ (by omega) (by omega)];rfl
def awO(bt:Bool){k:Nat}(h:k<=40):ai bt .shl (.val (.int .u64 1)) (J (k:Int))=some (k9 (2^k)):=by
 have ab:¬(k:Int)<0:=by omega
 simp only[ai,J,xac ab,nK];have af:min (k:Int).toNat IntKind.u64.bits=k:=by simp[IntKind.bits];omega
 rw[af];have aw:2^k<=2^40:=Nat.pow_le_pow_right (by omega) h;have a4:((1:Int)*2^k)=((2^k:Nat):Int):=by simp
 rw[a4];generalize 2^k=q at*
 congr 3
 simp[IntKind.wrap,IntKind.bits,show IntKind.u64.signed=false from rfl];omega
def awP(n:Nat){v:Nat}(ab:1<=v)(af:v<4294967296):∃m:Nat,1<=m/\m<=2*v/\GD n [J (v:Int)]=some (k9 m):=by obtain⟨k,cE,dz,g2,pq⟩:=aeC n ab af;refine⟨2^k,Nat.one_le_two_pow,pq,?_⟩;simp only[GD,Z4,go_sem,UM (show v<4000000000000000000 by omega),g2,awO false cE]
def N2{bt:Bool}{a c:Nat}(h:a<1000000000)(bx:c<=100):ai bt .mul (J (a:Int)) (J (c:Int))=some (J ((a*c:Nat):Int)):=by have af:a*c<=1000000000*100:=Nat.mul_le_mul (by omega) bx;have e:(a:Int)*(c:Int)=((a*c:Nat):Int):=(Int.natCast_mul a c).symm;rw[KV (by omega) (by omega),e]
def awQ(n:Nat)(bV:List ByteArray)(a b:Nat)(fG:a<b)(aj:b<=bV.length)(bT:bV.length<1000000000)(aM:bV.length+20<n): ∃bB,zb n [J (a:Int),J (b:Int),cx bV]=some [D.a1 [],cx bB]/\Part a b bV bB:=by
 have aL:ai false .sub (J (b:Int)) (J (a:Int))=some (J ((b-a:Nat):Int)):=qB (by omega) (by omega);by_cases hV:b-a<8;.refine⟨bV,?_,Part.refl _ _ _⟩;simp only[zb,go_sem,aL,yF (((b-a:Nat):Int)>=8)]
 generalize aq:b-a=l at*;have awR:=yT (((l:Nat):Int)>=8);obtain⟨m,gD,kx,u6⟩:=awP n (v:=l) (by omega) (by omega);have bw:ai false .quo (J (l:Int)) (J 4)=some (J ((l/4:Nat):Int)):=NV (k:=4) (by omega) (by omega) (by omega);have bz:ai false .mul (J ((l/4:Nat):Int)) (J 2)=some (J ((l/4*2:Nat):Int)):=N2 (c:=2) (by omega) (by omega);have cz:ai false .add (J (a:Int)) (J ((l/4*2:Nat):Int))=some (J ((a+l/4*2:Nat):Int)):=qA (by omega);have eA:ai false .sub (J ((a+l/4*2:Nat):Int)) (J 1)=some (J ((a+l/4*2-1:Nat):Int)):=kM (by omega) (by omega);have fq:ai false .add (J ((a+l/4*2:Nat):Int)) (J 1)=some (J ((a+l/4*2+1:Nat):Int)):=b1 (by omega);have key:=k8 (f:=GF n) (S:=Nat×List ByteArray×Int) (λs=>[J (a:Int),J (l:Int),k9 m,J (s.1:Int),cx s.2.1,.val (.int .u64 s.2.2)]) (λs=>a+l/4*2+2-s.1) (λs=>a<=s.1/\Part a b bV s.2.1) (λr=>∃bB,r= .inl [cx bB]/\Part a b bV bB) ?_ n (a+l/4*2-1,bV,(l:Int)) ⟨by simp only;omega,Part.refl _ _ _⟩ (by simp only;omega)
 .obtain⟨r,ab,bB,rfl,af⟩:=key;refine⟨bB,?_,af⟩;have one:bE (k9 l)=true:=rfl;simp only[zb,go_sem,aL,awR,UM (show l<4000000000000000000 by omega),one,u6,bw,bz,cz,eA,ab]
 rintro⟨x,L,v⟩ ⟨aW,a2⟩;simp only at aW a2⊢;have b6:=a2.len;by_cases ag:x<=a+l/4*2+1
 .left;obtain⟨w,gg⟩:=awK n v;obtain⟨r,eX,ei⟩:=awL false w (m-1) (by omega);have hN:ai false .sub (k9 m) (.val (.int .u64 1))=some (k9 (m-1)):=awM gD (by omega);have jD:ka .i64 (k9 r)=some (J r):=awN (by omega);obtain⟨o,gL,ml⟩:∃o:Nat,o<l/\(r<l/\o=r\/¬r<l/\o=r-l):=by
   by_cases h:r<l;.exact⟨r,h,.inl ⟨h,rfl⟩⟩
   exact⟨r-l,by omega,.inr ⟨h,rfl⟩⟩
  have s1:ai false .add (J (a:Int)) (J (o:Int))=some (J ((a+o:Nat):Int)):=qA (by omega);have sj:a+o<L.length:=by omega
  have lg:x<L.length:=by omega
  have aeD:a+o<(L.set x (gt L (a+o))).length:=by simpa using sj
  have s2:ai false .add (J (x:Int)) (J 1)=some (J ((x+1:Nat):Int)):=b1 (by omega);refine⟨(x+1,eL L x (a+o),w),?_,⟨by simp only;omega,a2.trans (Part.eL (by omega) (by omega) (by omega) (by omega) (by omega))⟩,by simp only;omega⟩;rcases ml with⟨ml,rfl⟩|⟨ml,rfl⟩
  .simp only[GF,go_sem,bw,bz,cz,fq,yT ((x:Int)<=((a+l/4*2+1:Nat):Int)),gg,hN,ei,jD,yF ((o:Int)>=(l:Int)),s1,c7 sj,c7 lg,cP aC sj,cP aC lg,fb,m3,m2,gR,xaY,cP aC aeD,mC lg sj,s2]
  have gM:ai false .sub (J (r:Int)) (J (l:Int))=some (J ((r-l:Nat):Int)):=qB (by omega) (by omega);simp only[GF,go_sem,bw,bz,cz,fq,yT ((x:Int)<=((a+l/4*2+1:Nat):Int)),gg,hN,ei,jD,yT ((r:Int)>=(l:Int)),gM,s1,c7 sj,c7 lg,cP aC sj,cP aC lg,fb,m3,m2,gR,xaY,cP aC aeD,mC lg sj,s2]
 right;refine⟨_,?_,L,rfl,a2⟩;simp only[GF,go_sem,bw,bz,cz,fq,yF ((x:Int)<=((a+l/4*2+1:Nat):Int))]
def UN(n:Nat)(L:List ByteArray)(i j s:Nat)(ah:i<L.length)(aN:j<L.length)(aG:s<1000): ∃x y w:Nat,s4 n [cx L,J (i:Int),J (j:Int),J (s:Int)]=some [D.a1 [J (x:Int),J (y:Int)],J (w:Int)]/\(x=i\/x=j)/\(y=i\/y=j)/\w<=s+1:=by
 have aL:ai false .add (J (s:Int)) (J 1)=some (J ((s+1:Nat):Int)):=b1 (by omega);by_cases h:blt (gt L j) (gt L i)=true;.refine⟨j,i,s+1,?_,.inr rfl,.inl rfl,xal _⟩;simp only[s4,go_sem,NU aC ah,NU aC aN,fb,iv,h,aL]
 have h:blt (gt L j) (gt L i)=false:=by simpa using h
 refine⟨i,j,s,?_,.inl rfl,.inr rfl,by omega⟩;simp only[s4,go_sem,NU aC ah,NU aC aN,fb,iv,h]
def UO(n:Nat)(L:List ByteArray)(i j k s:Nat)(ah:i<L.length)(aN:j<L.length)(ak:k<L.length)(aG:s<900): ∃x w:Nat,uN n [cx L,J (i:Int),J (j:Int),J (k:Int),J (s:Int)]=some [J (x:Int),J (w:Int)]/\(x=i\/x=j\/x=k)/\w<=s+3:=by obtain⟨c1,xn,gg,dw,da,eM,jf⟩:=UN n L i j s ah aN (by omega);obtain⟨nY,aeE,hN,bw,bz,cz,eA⟩:=UN n L xn k gg (by rcases eM with rfl|rfl<;>assumption) ak (by omega);obtain⟨Na,UP,kZ,eX,ei,jD,Ka⟩:=UN n L c1 nY hN (by rcases da with rfl|rfl<;>assumption) (by rcases bz with rfl|rfl<;>(try assumption);rcases eM with rfl|rfl<;>assumption) (by omega);refine⟨UP,kZ,?_,by omega,by omega⟩;simp only[uN,go_sem,dw,bw,eX]
def UQ(n:Nat)(L:List ByteArray)(i s:Nat)(ab:1<=i)(ah:i+1<L.length)(bT:L.length<1000000000)(aG:s<900): ∃x w:Nat,pD n [cx L,J (i:Int),J (s:Int)]=some [J (x:Int),J (w:Int)]/\(i<=x+1/\x<=i+1)/\w<=s+3:=by obtain⟨x,w,dw,da,eM⟩:=UO n L (i-1) i (i+1) s (by omega) (by omega) ah aG;have aL:ai false .sub (J (i:Int)) (J 1)=some (J ((i-1:Nat):Int)):=kM (by omega) (by omega);have aX:ai false .add (J (i:Int)) (J 1)=some (J ((i+1:Nat):Int)):=b1 (by omega);refine⟨x,w,?_,by omega,eM⟩;simp only[pD,go_sem,aL,aX,dw]
def awS(n:Nat)(L:List ByteArray)(a b:Nat)(fG:a+12<b)(aj:b<=L.length)(bT:L.length<1000000000): ∃p h:Nat,wM n [cx L,J (a:Int),J (b:Int)]=some (D.a1 [J (p:Int),J (h:Int)])/\a<=p/\p<b/\h<=2:=by
 have aL:ai false .sub (J (b:Int)) (J (a:Int))=some (J ((b-a:Nat):Int)):=qB (by omega) (by omega);generalize aq:b-a=l at*;have bw:ai false .quo (J (l:Int)) (J 4)=some (J ((l/4:Nat):Int)):=NV (k:=4) (by omega) (by omega) (by omega);have gD:ai false .mul (J ((l/4:Nat):Int)) (J 1)=some (J ((l/4*1:Nat):Int)):=N2 (c:=1) (by omega) (by omega);have kx:ai false .mul (J ((l/4:Nat):Int)) (J 2)=some (J ((l/4*2:Nat):Int)):=N2 (c:=2) (by omega) (by omega);have u6:ai false .mul (J ((l/4:Nat):Int)) (J 3)=some (J ((l/4*3:Nat):Int)):=N2 (c:=3) (by omega) (by omega);have s1:ai false .add (J (a:Int)) (J ((l/4*1:Nat):Int))=some (J ((a+l/4*1:Nat):Int)):=qA (by omega);have s2:ai false .add (J (a:Int)) (J ((l/4*2:Nat):Int))=some (J ((a+l/4*2:Nat):Int)):=qA (by omega);have gM:ai false .add (J (a:Int)) (J ((l/4*3:Nat):Int))=some (J ((a+l/4*3:Nat):Int)):=qA (by omega);have d8:=yT ((l:Int)>=8);obtain⟨p,w,aU,ya,oy⟩:∃p w:Nat,(∀(k:List D->Option D),aa (aa (if decide ((l:Int)>=50)=true then aa (pD n [cx L,J ((a+l/4*1:Nat):Int),J 0]) λab=>aa (pD n [cx L,J ((a+l/4*2:Nat):Int),(I ab 1)]) λaf=>aa (pD n [cx L,J ((a+l/4*3:Nat):Int),(I af 1)]) λaw=>some (Sum.inl [cx L,(I ab 0),(I af 0),(I aw 0),(I aw 1)])
    else some (Sum.inl [cx L,J ((a+l/4*1:Nat):Int),J ((a+l/4*2:Nat):Int),J ((a+l/4*3:Nat):Int),J 0])) (ba λls=>aa (uN n [(I ls 0),(I ls 1),(I ls 2),(I ls 3),(I ls 4)]) λa4=>some (Sum.inl [(I a4 0),(I a4 1)]))) (ba k)=k [J (p:Int),J (w:Int)])/\a<=p/\p<b:=by
  by_cases awE:50<=l;.obtain⟨c1,gg,t1,t2,t3⟩:=UQ n L (a+l/4*1) 0 (by omega) (by omega) bT (by omega);obtain⟨nY,hN,pX,o0,aAj⟩:=UQ n L (a+l/4*2) gg (by omega) (by omega) bT (by omega);obtain⟨Na,kZ,v1,v2,Bb⟩:=UQ n L (a+l/4*3) hN (by omega) (by omega) bT (by omega);obtain⟨z4,qm,xn,aeE,UP⟩:=UO n L c1 nY Na kZ (by omega) (by omega) (by omega) (by omega);have t1:pD n [cx L,J ((a+l/4*1:Nat):Int),J 0]=some [J (c1:Int),J (gg:Int)]:=t1;refine⟨z4,qm,λk=>?_,by omega,by omega⟩;simp only[go_sem,yT ((l:Int)>=50),t1,pX,v1,xn]
  .obtain⟨z4,qm,xn,aeE,UP⟩:=UO n L (a+l/4*1) (a+l/4*2) (a+l/4*3) 0 (by omega) (by omega) (by omega) (by omega);have xn:uN n [cx L,J ((a+l/4*1:Nat):Int),J ((a+l/4*2:Nat):Int),J ((a+l/4*3:Nat):Int),J 0]=some [J (z4:Int),J (qm:Int)]:=xn;refine⟨z4,qm,λk=>?_,by omega,by omega⟩;simp only[go_sem,yF ((l:Int)>=50),xn]
 by_cases w0:w=0;.subst w0;refine⟨p,1,?_,ya,oy,by omega⟩;simp only[wM,L0,go_sem,aL,bw,gD,kx,u6,s1,s2,gM,d8,aU];rfl
 have Dy:((w:Int)==0)=false:=by simp;omega
 by_cases awT:w=12;.subst awT;refine⟨p,2,?_,ya,oy,by omega⟩;simp only[wM,L0,go_sem,aL,bw,gD,kx,u6,s1,s2,gM,d8,aU,Dy];rfl
 have awU:((w:Int)==12)=false:=by simp;omega
 refine⟨p,0,?_,ya,oy,by omega⟩;simp only[wM,L0,go_sem,aL,bw,gD,kx,u6,s1,s2,gM,d8,aU,Dy,awU];rfl
def Ag(lV:List D->Option (List D))(n:Nat)(ls:List D):Option (List D⊕(List D⊕(List D))):=aa (ai false .gtr (I ls 0) (J 0)) λik=>
 aa (bM ik true (
 aa (ai false .sub (I ls 0) (J 1)) λkA=>
 aa (cg ((ar (I ls 7))).length kA) λwP=>
 aa (((ar (I ls 7)))[wP]?) λGN=>
 aa (a3 false 1 0 GN) λkD=>
 aa (cg ((ar (I ls 7))).length (I ls 6)) λGO=>
 aa (((ar (I ls 7)))[GO]?) λGP=>
 aa (a3 false 1 0 GP) λhL=>
 aa (jm n [kD,hL]) λmw=>
 aa (dr .not mw) λhE=>
 some hE
)) λhE=>
 aa (bW ik hE (ay false)) λlT=>
 aH lT (
 aa (B6 n [(I ls 0),(I ls 1),(I ls 6),(D.ax 1 (ar (I ls 7)))]) λcO=>
 some (.inl [(I cO 0),(I ls 1),(I ls 2),(I ls 3),(I ls 4),(D.ax 1 (ar (I cO 1)))])
) (
 aa (zi n [(I ls 0),(I ls 1),(I ls 6),(D.ax 1 (ar (I ls 7)))]) λgx=>
 aa (bs 0 (I gx 0)) λkf=>
 aa (bs 1 (I gx 0)) λkG=>
 aa (ai false .sub kf (I ls 0)) λmX=>
 aa (ai false .sub (I ls 1) kf) λpx=>
 aa (ai false .quo (I ls 5) (J 8)) λpE=>
 aa (ai false .lss mX px) λsX=>
 aa (
 aH sX (
 aa (ai false .geq mX pE) λrm=>
 aa (lV [(I ls 0),kf,(I ls 2),(D.ax 1 (ar (I gx 1)))]) λhV=>
 aa (ai false .add kf (J 1)) λwH=>
 some (.inl [wH,(I ls 1),(I ls 2),rm,kG,(D.ax 1 (ar (I hV 1)))])
) (
 aa (ai false .geq px pE) λoH=>
 aa (ai false .add kf (J 1)) λGK=>
 aa (lV [GK,(I ls 1),(I ls 2),(D.ax 1 (ar (I gx 1)))]) λjE=>
 some (.inl [(I ls 0),kf,(I ls 2),oH,kG,(D.ax 1 (ar (I jE 1)))])
)
)<|ba λls=>some (.inl [(I ls 0),(I ls 1),(I ls 2),(I ls 3),(I ls 4),(D.ax 1 (ar (I ls 5)))])
)
def Dz(lV:List D->Option (List D))(n:Nat)(ls:List D):Option (List D⊕(List D⊕(List D))):=aa (bM (I ls 3) true (
 some (I ls 4)
)) λhM=>
 aa (bW (I ls 3) hM (ay false)) λhD=>
 aa (bM hD true (
 aa (ai false .eql (I ls 7) (J 1)) λgU=>
 some gU
)) λgU=>
 aa (bW hD gU (ay false)) λh2=>
 aa (
 aH h2 (
 aa (wO n [(I ls 0),(I ls 1),(D.ax 1 (ar (I ls 8)))]) λb7=>
 aH (I b7 0) (
 aY (
 aY (
 aY (
 some [(D.a1 []),(D.ax 1 (ar (I b7 1)))]
)
)
)
) (
 some (.inl [(I ls 0),(I ls 1),(I ls 2),(I ls 3),(I ls 4),(I ls 5),(I ls 6),(D.ax 1 (ar (I b7 1)))])
)
) (
 some (.inl [(I ls 0),(I ls 1),(I ls 2),(I ls 3),(I ls 4),(I ls 5),(I ls 6),(D.ax 1 (ar (I ls 8)))])
)
)<|ba λls=>Ag lV n ls
def Ah(lV:List D->Option (List D))(n:Nat)(ls:List D):Option (List D⊕(List D⊕(List D))):=aa (wM n [(D.ax 1 (ar (I ls 6))),(I ls 0),(I ls 1)]) λfD=>
 aD fD.flat<|
 aa (bs 0 fD) λiQ=>
 aa (bs 1 fD) λfM=>
 aa (ai false .eql fM (J 2)) λe9=>
 aa (
 aH e9 (
 aa (B1 n [(I ls 0),(I ls 1),(D.ax 1 (ar (I ls 6)))]) λa4=>
 aa (ai false .sub (I ls 1) (J 1)) λfE=>
 aa (ai false .sub iQ (I ls 0)) λkY=>
 aa (ai false .sub fE kY) λga=>
 some (.inl [(I ls 0),(I ls 1),(I ls 2),(I ls 3),(I ls 4),(I ls 5),ga,(J 1),(D.ax 1 (ar (I a4 1)))])
) (
 some (.inl [(I ls 0),(I ls 1),(I ls 2),(I ls 3),(I ls 4),(I ls 5),iQ,fM,(D.ax 1 (ar (I ls 6)))])
)
)<|ba λls=>Dz lV n ls
def N3(lV:List D->Option (List D))(n:Nat)(ls:List D):Cb lV n ls=(
 aa (
 aa (ai false .sub (I ls 1) (I ls 0)) λbU=>
 aa (ai false .leq bU (J 12)) λcC=>
 aH cC (
 aa (BX n [(I ls 0),(I ls 1),(D.ax 1 (ar (I ls 5)))]) λab=>
 aY (
 aY (
 some [(D.a1 []),(D.ax 1 (ar (I ab 1)))]
)
)
) (
 aa (ai false .eql (I ls 2) (J 0)) λdK=>
 aH dK (
 aa (B0 n [(I ls 0),(I ls 1),(D.ax 1 (ar (I ls 5)))]) λaf=>
 aY (
 aY (
 some [(D.a1 []),(D.ax 1 (ar (I af 1)))]
)
)
) (
 aa (dr .not (I ls 3)) λfN=>
 aa (
 aH fN (
 aa (zb n [(I ls 0),(I ls 1),(D.ax 1 (ar (I ls 5)))]) λaw=>
 aa (ai false .sub (I ls 2) (J 1)) λgB=>
 some (.inl [(I ls 0),(I ls 1),gB,(I ls 3),(I ls 4),bU,(D.ax 1 (ar (I aw 1)))])
) (
 some (.inl [(I ls 0),(I ls 1),(I ls 2),(I ls 3),(I ls 4),bU,(D.ax 1 (ar (I ls 5)))])
)
)<|ba λls=>Ah lV n ls
)
)
)<|ba λls=>some (.inl [(I ls 0),(I ls 1),(I ls 2),(I ls 3),(I ls 4),(D.ax 1 (ar (I ls 5)))])
):=rfl
def DA(a b:Nat)(L:List ByteArray)(x:Option (List D⊕(List D⊕(List D)))):Prop:=(∃bB,x=some (.inr (.inr [D.a1 [],cx bB]))/\Part a b L bB/\ez blt a b (gt bB))\/(∃(cB b' m:Nat)(u v:Bool)(bB:List ByteArray),x=some (.inl [J (cB:Int),J (b':Int),J (m:Int),ay u,ay v,cx bB])/\m<=1000/\Part a b L bB/\b'-cB<b-a/\∀ae fI,fI<=L.length->jP blt ae fI a b (gt L)->jP blt ae fI cB b' (gt bB))
def DA.pre{a b:Nat}{L M:List ByteArray}{x:Option (List D⊕(List D⊕(List D)))}(h:DA a b M x)(aU:Part a b L M):DA a b L x:=by
 rcases h with⟨bB,ab,af,aw⟩|⟨cB,b',m,u,v,bB,ab,hm,af,aw,a4⟩;.exact .inl ⟨bB,ab,aU.trans af,aw⟩
 exact .inr ⟨cB,b',m,u,v,bB,ab,hm,aU.trans af,aw,λae fI aj bg=>a4 ae fI (by rw[aU.len];exact aj) (bg.part aU aj)⟩
section
variable{r:List D->Option (List D)}{n:Nat}{L:List ByteArray}{a b:Nat}
def IY(r:List D->Option (List D))(len W:Nat):Prop:=∀(M:List ByteArray)(a b m:Nat),m<=1000->M.length=len->a<=b->b<=M.length->b-a<W->pV a b M->∃cW,r [J (a:Int),J (b:Int),J (m:Int),cx M]=some [D.a1 [],cx cW]/\Part a b M cW/\ez blt a b (gt cW)
def aeF(av:IY r L.length (b-a))(fG:a+12<b)(aj:b<=L.length)(bT:L.length<1000000000)(aM:L.length+30<n)(m4:pV a b L)(m p:Nat)(hm:m<=1000)(u v:Bool)(aU:a<=p/\p<b):DA a b L (Ag r n [J (a:Int),J (b:Int),J (m:Int),ay u,ay v,J ((b-a:Nat):Int),J (p:Int),cx L]):=by
 have kr:p<L.length:=by omega
 have hk:=λ(bB:List ByteArray)(yd:Part a b L bB) ae fI (Ai:fI<=L.length) (bg:jP blt ae fI a b (gt L))=>bg.part yd Ai;by_cases he:0<a/\blt (gt L (a-1)) (gt L p)=false
 .obtain⟨au,he⟩:=he;have fv:a-1<L.length:=by omega
  have aL:ai false .sub (J (a:Int)) (J 1)=some (J ((a-1:Nat):Int)):=kM (by omega) (by omega);obtain⟨jK,bB,dw,da,eM,jf,lk,o9⟩:=awz n L a b p (by omega) aU aj bT (by omega);refine .inr ⟨jK,b,m,u,v,bB,?_,hm,da,by omega,?_⟩;.simp only[Ag,go_sem,yT ((a:Int)>0),ec,dS,aL,c7 fv,c7 kr,cP aC fv,cP aC kr,fb,gR,iv,he,dw]
  intro ae fI Ai bg;have gu:eV (λx=>blt x (gt L p)=false) a b (gt L):=λk ab af=>j2.tr _ _ _ he (m4 au k ab af);exact(hk bB da ae fI Ai bg).eq (by omega) jf lk (gu.part da aj) o9 j2
 
 obtain⟨jK,d,bB,dw,da,eM,jf,lk,o9⟩:=awu n L a b p (by omega) aU aj bT (by omega);have b6:=da.len;have aL:ai false .sub (J (jK:Int)) (J (a:Int))=some (J ((jK-a:Nat):Int)):=qB (by omega) (by omega);have aX:ai false .sub (J (b:Int)) (J (jK:Int))=some (J ((b-jK:Nat):Int)):=qB (by omega) (by omega);have bL:ai false .quo (J ((b-a:Nat):Int)) (J 8)=some (J (((b-a)/8:Nat):Int)):=NV (k:=8) (by omega) (by omega) (by omega);have cL:ai false .add (J (jK:Int)) (J 1)=some (J ((jK+1:Nat):Int)):=b1 (by omega);have UR:pV a b bB:=m4.part da (xal _) (xal _) aj;have iW:∀(x y:Option (List D⊕(List D⊕(List D)))),aa (bM (ay (decide ((a:Int)>0))) true (aa (ai false .sub (J (a:Int)) (J 1)) λkA=>aa (cg (pS aC L).length kA) λwP=>aa ((pS aC L)[wP]?) λGN=>aa (a3 false 1 0 GN) λkD=>aa (cg (pS aC L).length (J (p:Int))) λGO=>aa ((pS aC L)[GO]?) λGP=>aa (a3 false 1 0 GP) λhL=>aa (jm n [kD,hL]) λmw=>aa (dr .not mw) λhE=>some hE)) (λhE=>aa (bW (ay (decide ((a:Int)>0))) hE (ay false)) λlT=>aH lT x y)=y:=by
  intro x y;by_cases au:0<a
  .have awV:blt (gt L (a-1)) (gt L p)=true:=by
    cases bJ:blt (gt L (a-1)) (gt L p)with|true=>rfl|false=>exact absurd ⟨au,bJ⟩ he
   have fv:a-1<L.length:=by omega
   have aL:ai false .sub (J (a:Int)) (J 1)=some (J ((a-1:Nat):Int)):=kM (by omega) (by omega);simp only[go_sem,yT ((a:Int)>0),ec,dS,aL,c7 fv,c7 kr,cP aC fv,cP aC kr,fb,gR,iv,awV]
  simp only[go_sem,yF ((a:Int)>0),ec,dS]
 by_cases cv:jK-a<b-jK
 .obtain⟨iI,eX,ei,jD⟩:=av bB a jK m hm b6 eM (by omega) (by omega) (λau q ab af=>UR au q ab (by omega));have mT:Part a b bB iI:=ei.mono (xal _) (by omega);refine .inr ⟨jK+1,b,m,decide (((jK-a:Nat):Int)>=(((b-a)/8:Nat):Int)),d,iI,?_,hm,da.trans mT,by omega,?_⟩
  .simp only[Ag,nS,pr,oC,eH,QZ];rw[iW];simp only[go_sem,dw,aL,aX,bL,yT (((jK-a:Nat):Int)<((b-jK:Nat):Int)),eX,cL]
  intro ae fI Ai bg;have ab:=hk iI (da.trans mT) ae fI Ai bg;have em:gt iI jK=gt bB jK:=ei.pR (.inr (xal _));refine ab.right eM jf jD ?_ ?_ j2
  .rw[em];exact lk.part ei (by omega)
  rw[em];exact o9.out ei (.inr (by omega))
 obtain⟨iI,eX,ei,jD⟩:=av bB (jK+1) b m hm b6 (by omega) (by omega) (by omega) (λ_ q ab af=>o9 q ab af);have mT:Part a b bB iI:=ei.mono (by omega) (xal _);refine .inr ⟨a,jK,m,decide (((b-jK:Nat):Int)>=(((b-a)/8:Nat):Int)),d,iI,?_,hm,da.trans mT,by omega,?_⟩
 .simp only[Ag,nS,pr,oC,eH,QZ];rw[iW];simp only[go_sem,dw,aL,aX,bL,yF (((jK-a:Nat):Int)<((b-jK:Nat):Int)),eX,cL]
 intro ae fI Ai bg;have ab:=hk iI (da.trans mT) ae fI Ai bg;have em:gt iI jK=gt bB jK:=ei.pR (.inl (by omega));refine ab.left eM jf jD ?_ ?_ j2
 .rw[em];exact lk.out ei (.inl (by omega))
 rw[em];exact o9.part ei (by omega)
def aeG(av:IY r L.length (b-a))(fG:a+12<b)(aj:b<=L.length)(bT:L.length<1000000000)(aM:L.length+30<n)(m4:pV a b L)(m p h:Nat)(hm:m<=1000)(u v:Bool)(aU:a<=p/\p<b):DA a b L (Dz r n [J (a:Int),J (b:Int),J (m:Int),ay u,ay v,J ((b-a:Nat):Int),J (p:Int),J (h:Int),cx L]):=by
 obtain⟨s,bB,bw,bz,cz⟩:=awD n L a b (by omega) aj bT (by omega) m4;have b6:=bz.len;have iW:Dz r n [J (a:Int),J (b:Int),J (m:Int),ay u,ay v,J ((b-a:Nat):Int),J (p:Int),J (h:Int),cx L]=(if(u&&(v&&((h:Int)==1)))=true then(if s=true then some (.inr (.inr [D.a1 [],cx bB]))else Ag r n [J (a:Int),J (b:Int),J (m:Int),ay u,ay v,J ((b-a:Nat):Int),J (p:Int),cx bB])
    else Ag r n [J (a:Int),J (b:Int),J (m:Int),ay u,ay v,J ((b-a:Nat):Int),J (p:Int),cx L]):=by
  cases u<;>cases v<;>cases bJ:((h:Int)==1)<;>cases s<;>simp only[Dz,go_sem,ec,dS,bJ,bw]<;>rfl
 rw[iW];split
 .split;.rename_i aG;exact .inl ⟨bB,rfl,bz,cz aG⟩
  exact(aeF (L:=bB) (by rw[b6];exact av) fG (by omega) (by omega) (by omega) (m4.part bz (xal _) (xal _) aj) m p hm u v aU).pre bz
 exact aeF av fG aj bT aM m4 m p hm u v aU
def awW(av:IY r L.length (b-a))(fG:a+12<b)(aj:b<=L.length)(bT:L.length<1000000000)(aM:L.length+30<n)(m4:pV a b L)(m:Nat)(hm:m<=1000)(u v:Bool):DA a b L (Ah r n [J (a:Int),J (b:Int),J (m:Int),ay u,ay v,J ((b-a:Nat):Int),cx L]):=by
 obtain⟨p,h,bR,bY,ct,de⟩:=awS n L a b fG aj bT;have n9:(D.a1 [J (p:Int),J (h:Int)]).flat=true:=rfl;by_cases af:h=2
 .subst af;obtain⟨bB,bw,bz⟩:=awj n L a b (by omega) aj bT (by omega);have b6:=bz.len;have aL:ai false .sub (J (b:Int)) (J 1)=some (J ((b-1:Nat):Int)):=kM (by omega) (by omega);have aX:ai false .sub (J (p:Int)) (J (a:Int))=some (J ((p-a:Nat):Int)):=qB (by omega) (by omega);have bL:ai false .sub (J ((b-1:Nat):Int)) (J ((p-a:Nat):Int))=some (J ((b-1-(p-a):Nat):Int)):=qB (by omega) (by omega);have z:(((2:Nat):Int)==2)=true:=rfl;have iW:Ah r n [J (a:Int),J (b:Int),J (m:Int),ay u,ay v,J ((b-a:Nat):Int),cx L]=Dz r n [J (a:Int),J (b:Int),J (m:Int),ay u,ay v,J ((b-a:Nat):Int),J ((b-1-(p-a):Nat):Int),J 1,cx bB]:=by
   simp only[Ah,go_sem,bR,n9,z,bw,aL,aX,bL]
  rw[iW];exact(aeG (L:=bB) (by rw[b6];exact av) fG (by omega) (by omega) (by omega) (m4.part bz (xal _) (xal _) aj) m _ 1 hm u v (by omega)).pre bz
 have z:((h:Int)==2)=false:=by simp;omega
 have iW:Ah r n [J (a:Int),J (b:Int),J (m:Int),ay u,ay v,J ((b-a:Nat):Int),cx L]=Dz r n [J (a:Int),J (b:Int),J (m:Int),ay u,ay v,J ((b-a:Nat):Int),J (p:Int),J (h:Int),cx L]:=by simp only[Ah,go_sem,bR,n9,z]
 rw[iW];exact aeG av fG aj bT aM m4 m p h hm u v ⟨bY,ct⟩
def awX(av:IY r L.length (b-a))(fG:a<=b)(aj:b<=L.length)(bT:L.length<1000000000)(aM:L.length+30<n)(m4:pV a b L)(m:Nat)(hm:m<=1000)(u v:Bool):(∃bB,Cb r n [J (a:Int),J (b:Int),J (m:Int),ay u,ay v,cx L]=some (.inr [D.a1 [],cx bB])/\Part a b L bB/\ez blt a b (gt bB))\/(∃(cB b' cI:Nat)(US kq:Bool)(bB:List ByteArray),Cb r n [J (a:Int),J (b:Int),J (m:Int),ay u,ay v,cx L]=some (.inl [J (cB:Int),J (b':Int),J (cI:Int),ay US,ay kq,cx bB])/\cI<=1000/\Part a b L bB/\b'-cB<b-a/\∀ae fI,fI<=L.length->jP blt ae fI a b (gt L)->jP blt ae fI cB b' (gt bB)):=by
 have aL:ai false .sub (J (b:Int)) (J (a:Int))=some (J ((b-a:Nat):Int)):=qB fG (by omega);by_cases IM:b-a<=12;.obtain⟨bB,bw,bz,cz⟩:=awi n L a b fG aj bT (by omega);refine .inl ⟨bB,?_,bz,cz⟩;simp only[N3,go_sem,aL,yT (((b-a:Nat):Int)<=12),bw]
 have d12:=yF (((b-a:Nat):Int)<=12);by_cases ha:m=0;.subst ha;obtain⟨bB,bw,bz,cz⟩:=awo n L a b (by omega) aj bT (by omega);refine .inl ⟨bB,?_,bz,cz⟩;have z:(((0:Nat):Int)==0)=true:=rfl;simp only[N3,go_sem,aL,d12,z,bw]
 have aeH:((m:Int)==0)=false:=by simp;omega
 obtain⟨Dv,gD,aW,a2,bc⟩:∃(Dv:List ByteArray)(gD:Nat),Cb r n [J (a:Int),J (b:Int),J (m:Int),ay u,ay v,cx L]=aa (Ah r n [J (a:Int),J (b:Int),J (gD:Int),ay u,ay v,J ((b-a:Nat):Int),cx Dv]) (ba λls=>some (.inl [(I ls 0),(I ls 1),(I ls 2),(I ls 3),(I ls 4),(D.ax 1 (ar (I ls 5)))]))/\Part a b L Dv/\gD<=1000:=by cases u with|true=>refine⟨L,m,?_,Part.refl _ _ _,hm⟩;simp only[N3,go_sem,aL,d12,aeH]|false=>obtain⟨bB,bw,bz⟩:=awQ n L a b (by omega) aj bT (by omega);have aX:ai false .sub (J (m:Int)) (J 1)=some (J ((m-1:Nat):Int)):=kM (by omega) (by omega);refine⟨bB,m-1,?_,bz,by omega⟩;simp only[N3,go_sem,aL,d12,aeH,bw,aX]
 have b6:=a2.len;have fe:=(awW (L:=Dv) (r:=r) (n:=n) (by rw[b6];exact av) (by omega) (by omega) (by omega) (by omega) (m4.part a2 (xal _) (xal _) aj) gD bc u v).pre a2;rw[aW];rcases fe with⟨bB,ab,af,aw⟩|⟨cB,b',cI,US,kq,bB,ab,um,af,aw,a4⟩
 .exact .inl ⟨bB,by rw[ab];simp only[go_sem],af,aw⟩
 exact .inr ⟨cB,b',cI,US,kq,bB,by rw[ab];simp only[go_sem],um,af,aw,a4⟩
end
def aeI:∀(n:Nat)(L:List ByteArray)(a b m:Nat),m<=1000->a<=b->b<=L.length->L.length<1000000000->(b-a)+L.length+40<n->pV a b L-> ∃bB,rB n [J (a:Int),J (b:Int),J (m:Int),cx L]=some [D.a1 [],cx bB]/\Part a b L bB/\ez blt a b (gt bB)
 |0,L,a,b,m,_,_,_,_,h,_=>absurd h (xay _)
 |n+1,L,a,b,m,hm,fG,aj,bT,aM,m4=>by
  have key:=k8 (f:=Cb (rB n) n) (S:=Nat×Nat×Nat×Bool×Bool×List ByteArray) (λs=>[J (s.1:Int),J (s.2.1:Int),J (s.2.2.1:Int),ay s.2.2.2.1,ay s.2.2.2.2.1,cx s.2.2.2.2.2]) (λs=>s.2.1-s.1) (λs=>s.2.2.1<=1000/\Part a b L s.2.2.2.2.2/\jP blt a b s.1 s.2.1 (gt s.2.2.2.2.2)) (λr=>∃bB,r=[D.a1 [],cx bB]/\Part a b L bB/\ez blt a b (gt bB)) ?_ n (a,b,m,true,true,L) ⟨hm,Part.refl _ _ _,jP.start fG (λau j ab af=>m4 au j ab af)⟩ (by simp only;omega);.obtain⟨r,ab,bB,rfl,af⟩:=key;refine⟨bB,?_,af⟩;simp only[rB,Sh,go_sem,ab]
  rintro⟨cB,b',cI,u,v,M⟩ ⟨aW,a2,bc⟩;simp only at aW a2 bc⊢;have b6:=a2.len;obtain⟨bw,bz,cz⟩:=bc.le;have UR:pV cB b' M:=λau j ab af=>bc.low au j ab af;have av:IY (rB n) M.length (b'-cB):=λN x y k ab af aw a4 b7 cO=>aeI n N x y k ab aw a4 (by omega) (by omega) cO;rcases awX (L:=M) (n:=n) av bz (by omega) (by omega) (by omega) UR cI aW u v with⟨bB,ab,af,aw⟩|⟨bb,gW,kx,o0,v2,bB,ab,Tp,af,aw,a4⟩
  .right;exact⟨_,ab,bB,rfl,a2.trans (af.mono bw cz),(bc.part af (by omega)).done aw⟩
  left;exact⟨(bb,gW,kx,o0,v2,bB),ab,⟨Tp,a2.trans (af.mono bw cz),a4 a b (by omega) bc⟩,aw⟩
set_option maxRecDepth 50000 in
def awY(n:Nat)(L:List ByteArray)(bT:L.length<1000000000)(aM:L.length+L.length+60<n): ∃bB,Cc n [cx L]=some [D.a1 [],cx bB]/\Part 0 L.length L bB/\ez blt 0 L.length (gt bB):=by
 have go:∀m:Nat,m<=1000->rz n [k9 L.length]=some (J m)->∃bB,Cc n [cx L]=some [D.a1 [],cx bB]/\Part 0 L.length L bB/\ez blt 0 L.length (gt bB):=by intro m hm he;obtain⟨bB,bw,bz,cz⟩:=aeI n L 0 L.length m hm (xai _) (xal _) bT (by omega) (λh=>absurd h (xbR _));have bw:rB n [J 0,J (L.length:Int),J (m:Int),cx L]=some [D.a1 [],cx bB]:=bw;refine⟨bB,?_,bz,cz⟩;simp only[Cc,go_sem,gR,UM (show L.length<4000000000000000000 by omega),he,bw]
 by_cases au:L.length=0;.rw[au]at go;have:=go 0 (by omega) (by exact rfl);rw[au];exact this
 obtain⟨k,cE,dz,g2,pq⟩:=aeC n (v:=L.length) (by omega) (by omega);exact go k (by omega) g2
end Go.Am
