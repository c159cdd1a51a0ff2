/- Laws, on data. No condition. -/
import Derived.Test.YtjonbfbkkkcjgaaGreatDoorTs
set_option linter.all false
set_option linter.unnecessarySimpa false
namespace Go.Am
inductive dz(E:Nat->Nat->Prop):Nat->Nat->Prop where
 |refl (a:Nat):dz E a a
 |step {a b c:Nat}:E a b->dz E b c->dz E a c
def dz.one{E:Nat->Nat->Prop}{a b:Nat}(h:E a b):dz E a b:= .step h (.refl _)
def dz.trans{E:Nat->Nat->Prop}{a b c:Nat}(h:dz E a b)(k:dz E b c):dz E a c:=by induction h with|refl=>exact k|step h _ ih=>exact .step h (ih k)
def dz.mono{E F:Nat->Nat->Prop}(c:∀a b,E a b->F a b){a b:Nat}(h:dz E a b):dz F a b:=by induction h with|refl=>exact .refl _|step h _ ih=>exact .step (c _ _ h) ih
def dz.last{E:Nat->Nat->Prop}{a b c:Nat}(h:dz E a b)(k:E b c):dz E a c:=h.trans (.one k)
def hd(nx:Nat->lX)(aK:Nat->Bool)(a b:Nat):Prop:=aK a=true/\aK b=true/\b∈nx a
def GZ(nx:Nat->lX)(aK:Nat->Bool)(l:lX)(a b:Nat):Prop:=hd nx aK a b/\a∈l/\b∈l
def G0(nx:Nat->lX)(aK:Nat->Bool)(out:lX):Prop:=∀(f r:Nat),out[f]?=some r->∀x,dz (GZ nx aK (out.take (f+1))) x r->dz (hd nx aK) r x
structure hQ(nx:Nat->lX)(aK:Nat->Bool)(n:Nat)(out:lX)(h3:List (Nat×Nat))(iE:lX):Prop where
 kF:(out++h3.map (·.1)).Nodup
 ok:∀x∈out++h3.map (·.1),aK x=true/\x<n
 kZ:∀x∈out,∀y∈nx x,aK y=true->y∈out\/y∈h3.map (·.1)
 xX:∀(i u v a b:Nat),h3[i]?=some (u,a)->h3[i+1]?=some (v,b)->v∈nx u
 at_:∀(i v a:Nat),h3[i]?=some (v,a)->a<=(nx v).length/\∀(j y:Nat),j<a->(nx v)[j]?=some y->aK y=true->y∈out\/y∈h3.map (·.1)
 BA:G0 nx aK out
 G1:iE.length=h3.length
 g1:∀(i v a d:Nat),h3[i]?=some (v,a)->iE[i]?=some d->d<=out.length/\(∀(j y:Nat),d<=j->out[j]?=some y->dz (hd nx aK) v y)/\∀x∈out.take d,∀y∈nx x,aK y=true->y∈out.take d\/y∈(h3.take i).map (·.1)
def ame{l:lX}(h:l.Nodup){i j x:Nat}(ag:l[i]?=some x)(b:l[j]?=some x):i=j:=by
 obtain⟨ab,rfl⟩:=lV.1 ag;obtain⟨ad,ai⟩:=lV.1 b;have a:=List.pairwise_iff_getElem.1 h;rcases Nat.lt_trichotomy i j with ah|ah|ah
 .exact absurd ai.symm (a i j ab ad ah)
 .exact ah
 exact absurd ai (a j i ad ab ah)
def amf{nx:Nat->lX}{aK:Nat->Bool}:G0 nx aK []:=by intro f r h;simp at h
section
variable{nx:Nat->lX}{aK:Nat->Bool}{n:Nat}{out:lX}{h3:List (Nat×Nat)}{iE:lX}
theorem hQ.nil:hQ nx aK n [] [] []:=⟨by simp,by simp,by simp,by simp,by simp,amf,rfl,by simp⟩
def hQ.start(h:hQ nx aK n out [] iE){i:Nat}(ag:aK i=true)(q:i<n)(p:i∉out):hQ nx aK n out [(i,0)] [out.length]:=by
 have o:iE=[]:=List.length_eq_zero_iff.1 (by simpa using h.G1);refine⟨?_,?_,?_,?_,?_,h.BA,rfl,?_⟩;.have:=h.kF;simp only[xbc,xat]at this;simp only[xaw,xbc];rw[xbH];refine⟨this,by simp,?_⟩;intro a m b k;simp at k;subst k;intro e;subst e;exact p m
 .intro x c;simp at c;rcases c with c|rfl
  .exact h.ok x (by simp[c])
  exact⟨ag,q⟩
 .intro x c y g f;have:=h.kZ x c y g f;simp at this;exact .inl this
 .intro j u v a b ab ad;simp at ad
 .intro j v a ab;cases j with
  |zero=>simp at ab;obtain⟨rfl,rfl⟩:=ab;exact⟨xag _,λj y l=>absurd l (xaD _)⟩
  |succ j=>simp at ab
 intro j v a d ab ad;cases j with
 |zero=>
  simp at ab ad;obtain⟨rfl,rfl⟩:=ab;subst ad;refine⟨xaR _,λj y l g=>?_,λx c y g f=>?_⟩;.have:=(lV.1 g).1;omega
  rw[List.take_length]at c⊢;have:=h.kZ x c y g f;simp at this;exact .inl this
 |succ j=>simp at ab
def hQ.skip{w:List (Nat×Nat)}{v a y:Nat}(h:hQ nx aK n out (w++[(v,a)]) iE)(s:(nx v)[a]?=some y)(r:aK y=true->y∈out\/y∈(w++[(v,a)]).map (·.1)):hQ nx aK n out (w++[(v,a+1)]) iE:=by
 have o:(w++[(v,a+1)]).map (·.1)=(w++[(v,a)]).map (·.1):=sZ
 have f:∀(i:Nat)(u b:Nat),(w++[(v,a+1)])[i]?=some (u,b)->∃b',(w++[(v,a)])[i]?=some (u,b')/\(i<w.length->b'=b):=by
  intro i u b ag;rcases Nat.lt_trichotomy i w.length with ah|ah|ah
  .rw[xap ah]at ag⊢;exact⟨b,ag,λ_=>rfl⟩
  .subst ah;have e:(w++[(v,a)])[w.length]?=some (v,a):=sZ
   simp at ag;obtain⟨rfl,rfl⟩:=ag;exact⟨a,e,λh=>absurd h oZ⟩
  rw[xaH uZ]at ag;cases ag
 refine⟨by rw[o];exact h.kF,by rw[o];exact h.ok,by rw[o];exact h.kZ,?_,?_,h.BA,by simpa using h.G1,?_⟩;.intro i u dQ b b' ab ad;obtain⟨c,k,_⟩:=f i u b ab;obtain⟨t,p,_⟩:=f _ dQ b' ad;exact h.xX i u dQ c t k p
 .intro i u b ag;rw[o];rcases xbd i w.length with ah|ah
  .obtain⟨c,ab,ad⟩:=f i u b ag;rw[ad ah]at ab;exact h.at_ i u b ab
  have:i=w.length:=by have:=(lV.1 ag).1;simp at this;omega
  subst this;simp at ag;obtain⟨rfl,rfl⟩:=ag;obtain⟨g1,g2⟩:=h.at_ w.length v a sZ;have A:=(lV.1 s).1;refine⟨by omega,λj z F m g=>?_⟩;rcases xbd j a with l|l
  .exact g2 j z l m g
  have:j=a:=oZ
  subst this;rw[s]at m;cases m;exact r g
 intro i u b d ab ad;obtain⟨c,k,_⟩:=f i u b ab;obtain⟨C,D,E⟩:=h.g1 i u c d k ad;refine⟨C,D,λx B z m g=>?_⟩;have q:i<=w.length:=by have:=(lV.1 ab).1;simp at this;omega
 have:=E x B z m g;rw[xbu q]at this⊢;exact this
def hQ.push{w:List (Nat×Nat)}{v a y:Nat}(h:hQ nx aK n out (w++[(v,a)]) iE)(H:(nx v)[a]?=some y)(f:aK y=true)(I:y<n)(D:¬(y∈out\/y∈(w++[(v,a)]).map (·.1))):hQ nx aK n out (w++[(v,a+1)]++[(y,0)]) (iE++[out.length]):=by
 have C:=xad H;have P:(w++[(v,a+1)]).map (·.1)=(w++[(v,a)]).map (·.1):=sZ
 have t:(w++[(v,a+1)]++[(y,0)]).map (λ(p:Nat×Nat)=>p.1)=(w++[(v,a)]).map (λ(p:Nat×Nat)=>p.1)++[y]:=sZ
 have K:(w++[(v,a+1)]).length=w.length+1:=sZ
 have g:∀(i:Nat)(u b:Nat),i<w.length+1->(w++[(v,a+1)]++[(y,0)])[i]?=some (u,b)->∃b',(w++[(v,a)])[i]?=some (u,b')/\(i<w.length->b'=b):=by
  intro i u b k ag;rw[xap oZ]at ag;rcases xbd i w.length with ah|ah
  .rw[xap ah]at ag⊢;exact⟨b,ag,λ_=>rfl⟩
  have:i=w.length:=oZ
  subst this;have e:(w++[(v,a)])[w.length]?=some (v,a):=sZ
  simp at ag;obtain⟨rfl,rfl⟩:=ag;exact⟨a,e,λh=>absurd h oZ⟩
 have l:∀(i u b:Nat),¬i<w.length+1->(w++[(v,a+1)]++[(y,0)])[i]?=some (u,b)->i=w.length+1/\u=y/\b=0:=by
  intro i u b k ag;have ab:=(lV.1 ag).1;have G:i=w.length+1:=by simp at ab;omega
  subst G;rw[xas oZ]at ag;simp at ag;exact⟨rfl,ag.1.symm,ag.2.symm⟩
 have s:=h.G1;refine⟨?_,?_,?_,?_,?_,h.BA,by simp at s⊢;omega,?_⟩
 .rw[t,<-xaL,xbH];refine⟨h.kF,by simp,?_⟩;intro p E q L;simp at L;subst L;intro e;subst e;rcases xar.1 E with E|E
  .exact D (.inl E)
  exact D (.inr E)
 .intro x m;rw[t,<-xaL]at m;rcases xar.1 m with m|m
  .exact h.ok x m
  simp at m;subst m;exact⟨f,I⟩
 .intro x m z r J;rw[t];rcases h.kZ x m z r J with h|h
  .exact .inl h
  exact .inr (xaY _ h)
 .intro i u dQ b b' ab ad;by_cases ag:i+1<w.length+1;.obtain⟨c,o,_⟩:=g i u b oZ ab;obtain⟨M,F,_⟩:=g _ dQ b' ag ad;exact h.xX i u dQ c M o F
  obtain⟨T,rfl,rfl⟩:=l _ dQ b' ag ad;have:i=w.length:=oZ
  subst this;obtain⟨c,o,_⟩:=g _ u b oZ ab;simp at o;rw[<-o.1];exact C
 .intro i u b ag;rw[t];by_cases k:i<w.length+1
  .have aj:hQ nx aK n out (w++[(v,a)]) iE:=h;rcases xbd i w.length with ah|ah
   .obtain⟨c,ab,ad⟩:=g i u b k ag;rw[ad ah]at ab;obtain⟨g1,g2⟩:=h.at_ i u b ab;exact⟨g1,λj z A r f=>(g2 j z A r f).imp id (xaY _)⟩
   have:i=w.length:=oZ
   subst this;rw[xap oZ]at ag;simp at ag;obtain⟨rfl,rfl⟩:=ag;obtain⟨g1,g2⟩:=h.at_ w.length v a sZ;have N:=(lV.1 H).1;refine⟨by omega,λj z A r f=>?_⟩;rcases xbd j a with B|B
   .exact(g2 j z B r f).imp id (xaY _)
   have:j=a:=oZ
   subst this;rw[H]at r;cases r;exact .inr sZ
  obtain⟨_,rfl,rfl⟩:=l _ u b k ag;exact⟨xag _,λj z A=>absurd A (xaD _)⟩
 intro i u b d ab ad;by_cases k:i<w.length+1;.obtain⟨c,o,_⟩:=g i u b k ab;rw[xap (by simp at s;omega)]at ad;obtain⟨Q,R,S⟩:=h.g1 i u c d o ad;refine⟨Q,R,λx m z r f=>?_⟩;have:=S x m z r f;rw[xaL,xbu oZ];rw[xbu oZ]at this;exact this
 obtain⟨rfl,rfl,rfl⟩:=l _ u b k ab;rw[xas (by simp at s;omega)]at ad;have O:d=out.length:=by simp at s;simp[s]at ad;exact ad.symm
 subst O;refine⟨xaR _,λj z A r=>?_,λx m z r f=>?_⟩;.have:=(lV.1 r).1;omega
 rw[List.take_length]at m⊢;have:=h.kZ x m z r f;rw[xbu oZ,xbC oZ,P];exact this
def hQ.chain(h:hQ nx aK n out h3 iE):∀(k i u v a b:Nat),h3[i]?=some (u,a)->h3[i+k]?=some (v,b)->dz (hd nx aK) u v
 |0,i,u,v,a,b,ab,ad=>by rw[xbw,ab]at ad;cases ad;exact .refl _
 |k+1,i,u,v,a,b,ab,ad=>by have ah:=(lV.1 ad).1;have ai:h3[i+1]?=some (h3[i+1]'oZ):=xaa oZ;generalize (h3[i+1]'oZ)=p at ai;obtain⟨c,e⟩:=p;have d:=h.xX i u c a e ab ai;have ok:∀(j x z:Nat),h3[j]?=some (x,z)->aK x=true:=λj x z f=>(h.ok x (xbT _ (xaK.2 ⟨_,xad f,rfl⟩))).1;refine .step ⟨ok i u a ab,ok _ c e ai,d⟩ (hQ.chain h k (i+1) c v e b ai ?_);rw[show i+1+k=i+(k+1) by omega];exact ad
def hQ.fin{w:List (Nat×Nat)}{v a:Nat}(h:hQ nx aK n out (w++[(v,a)]) iE)(Z:a=(nx v).length):hQ nx aK n (out++[v]) w (iE.take w.length):=by
 have b4:iE.length=w.length+1:=by simpa using h.G1
 have M:(w++[(v,a)]).map (·.1)=w.map (·.1)++[v]:=sZ
 have l:=h.kF;rw[M]at l;have L:v∉out/\v∉w.map (·.1):=by rw[<-xaL,xbH]at l;refine⟨λU=>l.2.2 v (xaY _ U) v sZ rfl,λU=>l.2.2 v (xbT _ U) v sZ rfl⟩
 have W:aK v=true:=(h.ok v (by rw[M];simp)).1;have m:∀(i u b:Nat),w[i]?=some (u,b)->(w++[(v,a)])[i]?=some (u,b):=λi u b ag=>by rw[xap (lV.1 ag).1];exact ag
 have B:(w++[(v,a)])[w.length]?=some (v,a):=sZ
 obtain⟨d,bX⟩:∃d,iE[w.length]?=some d:=⟨_,xaa oZ⟩;obtain⟨d1,d2,d3⟩:=h.g1 w.length v a d B bX;have E:∀y,y∈out\/y∈(w++[(v,a)]).map (·.1)->y∈out++[v]\/y∈w.map (·.1):=by
  intro y k;rw[M]at k;rcases k with k|k
  .exact .inl (xaY _ k)
  rcases xar.1 k with k|k;.exact .inr k
  exact .inl (xbT _ k)
 refine⟨?_,?_,?_,?_,?_,?_,by simp;omega,?_⟩
 .have:(out++(w.map (·.1)++[v])).Perm (out++[v]++w.map (·.1)):=by
   rw[xaL];exact List.Perm.append_left _ List.perm_append_comm
  exact this.nodup_iff.1 l
 .intro x g;refine h.ok x ?_;rw[M];simp only[xar,xcg]at g⊢;rcases g with(g|g)|g
  .exact .inl g
  .exact .inr (.inr g)
  exact .inr (.inl g)
 .intro x g y k t;rcases xar.1 g with g|g
  .exact E y (h.kZ x g y k t)
  simp at g;subst g;obtain⟨j,F⟩:=xaJ.1 k;exact E y ((h.at_ w.length x a B).2 j y (by rw[Z];exact(lV.1 F).1) F t)
 .intro i u z b c ab ad;exact h.xX i u z b c (m _ _ _ ab) (m _ _ _ ad)
 .intro i u b ag;obtain⟨g1,g2⟩:=h.at_ i u b (m _ _ _ ag);exact⟨g1,λj y F k t=>E y (g2 j y F k t)⟩
 .intro f r H x g;rcases xbd f out.length with ah|ah
  .rw[xap ah]at H;rw[xbu oZ]at g;exact h.BA f r H x g
  have O:f=out.length:=by have:=(lV.1 H).1;simp at this;omega
  subst O;simp at H;subst H;have T:(out++[v]).take (out.length+1)=out++[v]:=xbC sZ;rw[T]at g;have key:∀x z,dz (GZ nx aK (out++[v])) x z->(∃j,d<=j/\(out++[v])[j]?=some z)->x∈out++[v]->∃j,d<=j/\(out++[v])[j]?=some x:=by
   intro x z b1
   induction b1 with
   |refl _=>intro h _;exact h
   | @step p q s C ck ih=>
    intro cC Q;obtain⟨j,J,o⟩:=ih cC C.2.2;obtain⟨i,ag⟩:=xaJ.1 Q;rcases xbd i d with I|I
    .exfalso;have R:p∈out.take d:=by
      rw[xap oZ]at ag;rw[List.mem_take_iff_getElem];obtain⟨ab,ad⟩:=lV.1 ag;exact⟨i,by omega,ad⟩
     have D:=d3 p R q C.1.2.2 C.1.2.1;have cA:((w++[(v,a)]).take w.length)=w:=by rw[xbu (xaR _),List.take_length]
     rw[cA]at D;have S:q∈out++[v]:=C.2.2;rcases D with D|D
     .rw[List.mem_take_iff_getElem]at D;obtain⟨X,b3,rfl⟩:=D;have K:(out++[v]).Nodup:=by
       rw[<-xaL,xbH]at l;rw[xbH];refine⟨(xbH.1 l.1).1,by simp,?_⟩;intro cK N b' G;simp at G;subst G;intro e;subst e;exact L.1 N
      have Y:(out++[v])[X]?=some out[X]:=by rw[xap oZ,xaa]
      have:=ame K Y o;omega
     rcases xar.1 S with ab|ab;.rw[xbH]at l;exact l.2.2 q ab q (xaY _ D) rfl
     simp at ab;subst ab;exact L.2 D
    exact⟨i,I,ag⟩
  have V:x∈out++[v]:=by cases g with|refl=>simp|step h _=>exact h.2.1
  obtain⟨j,J,o⟩:=key x v g ⟨out.length,d1,by simp⟩ V;rcases xbd j out.length with A|A;.rw[xap A]at o;exact d2 j x J o
  have:j=out.length:=by have:=(lV.1 o).1;simp at this;omega
  subst this;simp at o;subst o;exact .refl _
 intro i u b e ab ad;have P:=(lV.1 ab).1;rw[xaQ,xac P]at ad;obtain⟨cy,cT,dc⟩:=h.g1 i u b e (m _ _ _ ab) ad;refine⟨by simp;omega,λj y F k=>?_,λx g y k t=>?_⟩
 .rcases xbd j out.length with A|A;.rw[xap A]at k;exact cT j y F k
  have:j=out.length:=by have:=(lV.1 k).1;simp at this;omega
  subst this;simp at k;subst k;have:=h.chain (w.length-i) i u v b a (m _ _ _ ab) (by rw[show i+(w.length-i)=w.length by omega];exact B);exact this
 rw[xbu cy]at g⊢;have:=dc x g y k t;rw[xbu oZ]at this;exact this
end
def jV(nx:Nat->lX)(aK:Nat->Bool)(a b:Nat):Prop:=dz (hd nx aK) a b/\dz (hd nx aK) b a
def jV.refl{nx:Nat->lX}{aK:Nat->Bool}(a:Nat):jV nx aK a a:=⟨.refl _,.refl _⟩
def jV.symm{nx:Nat->lX}{aK:Nat->Bool}{a b:Nat}(h:jV nx aK a b):jV nx aK b a:=⟨h.2,h.1⟩
def jV.trans{nx:Nat->lX}{aK:Nat->Bool}{a b c:Nat}(h:jV nx aK a b)(k:jV nx aK b c):jV nx aK a c:=⟨h.1.trans k.1,k.2.trans h.2⟩
def Ws(nx:Nat->lX)(aK:Nat->Bool)(M:Nat->Prop)(a b:Nat):Prop:=hd nx aK a b/\¬M a/\¬M b
structure rI(nx:Nat->lX)(aK:Nat->Bool)(n:Nat)(prev:Nat->lX)(M:Nat->Prop)(r:Nat)(part todo:lX):Prop where
 kF:(part++todo).Nodup
 ok:∀x∈part++todo,aK x=true/\x<n/\¬M x
 to:∀x∈part++todo,dz (Ws nx aK M) x r
 has:r∈part++todo
 cl:∀x∈part,∀j∈prev x,aK j=true->M j\/j∈part++todo
section
variable{nx:Nat->lX}{aK:Nat->Bool}{n:Nat}{prev:Nat->lX}{M:Nat->Prop}{r:Nat}
def rI.start(ag:aK r=true)(b:r<n)(a:¬M r):rI nx aK n prev M r [] [r]:=⟨by simp,by simp;exact⟨ag,b,a⟩,by simp;exact .refl _,by simp,by simp⟩
def rI.next{part todo new:lX}{i:Nat}(h:rI nx aK n prev M r part (i::todo))(q:∀j∈prev i,i∈nx j) (k:new.Nodup) (ab:∀j∈new,j∈prev i/\aK j=true/\j<n/\¬M j/\j∉part++i::todo) (ad:∀j∈prev i,aK j=true->M j\/j∈part++i::todo\/j∈new):rI nx aK n prev M r (part++[i]) (todo++new):=by
 have e:part++[i]++(todo++new)=(part++i::todo)++new:=sZ
 have f:i∈part++i::todo:=sZ
 obtain⟨i1,i2,i3⟩:=h.ok i f;refine⟨?_,?_,?_,?_,?_⟩;.rw[e,xbH];refine⟨h.kF,k,?_⟩;intro a m b o ea;subst ea;exact(ab a o).2.2.2.2 m
 .intro x d;rw[e]at d;rcases xar.1 d with d|d
  .exact h.ok x d
  obtain⟨_,a,b,c,_⟩:=ab x d;exact⟨a,b,c⟩
 .intro x d;rw[e]at d;rcases xar.1 d with d|d
  .exact h.to x d
  obtain⟨p,a,b,c,_⟩:=ab x d;exact .step ⟨⟨a,i1,q x p⟩,c,i3⟩ (h.to i f)
 .rw[e];exact xaY _ h.has
 intro x d j l g;rw[e];rcases xar.1 d with d|d
 .rcases h.cl x d j l g with h|h;.exact .inl h
  exact .inr (xaY _ h)
 simp at d;subst d;rcases ad j l g with h|h|h
 .exact .inl h
 .exact .inr (xaY _ h)
 exact .inr (xbT _ h)
structure lI(nx:Nat->lX)(aK:Nat->Bool)(n:Nat)(l:lX)(k:Nat)(M:Nat->Prop):Prop where
 ok:∀x,M x->aK x=true/\x<n
 cl:∀x y,M x->jV nx aK x y->M y
 up:∀(j x:Nat),k<=j->l[j]?=some x->M x
def tF{a b:Nat}(h:dz (hd nx aK) a b)(c:aK a=true):aK b=true:=by induction h with|refl=>exact c|step h _ ih=>exact ih h.2.1
def amg{l:lX}{k:Nat}{part:lX}(C:G0 nx aK l)(m:∀x,aK x=true->x<n->x∈l)(d:∀x y,y∈nx x->y<n)(L:lI nx aK n l (k+1) M)(U:l[k]?=some r)(I:¬M r)(f:rI nx aK n prev M r part [])(T:∀i j,j<n->i∈nx j->j∈prev i)(x:Nat):x∈part↔jV nx aK r x:=by
 have Q:=f;rw[show part=part++[] by simp];constructor
 .intro P;have O:=f.to x P;obtain⟨x1,ds,W⟩:=f.ok x P;refine⟨?_,O.mono λa b h=>h.1⟩;have B:dz (GZ nx aK (l.take (k+1))) x r:=by
   have o:∀a,aK a=true->a<n->¬M a->a∈l.take (k+1):=by
    intro a R S z;obtain⟨j,N⟩:=xaJ.1 (m a R S);rw[List.mem_take_iff_getElem];obtain⟨ab,ad⟩:=lV.1 N;rcases xbd j (k+1)with h|h
    .exact⟨j,by omega,ad⟩
    exact absurd (L.up j a h N) z
   have e:∀a b,dz (Ws nx aK M) a b->a<n->dz (GZ nx aK (l.take (k+1))) a b:=by
    intro a b ea
    induction ea with
    |refl=>intro _;exact .refl _
    | @step p q s c _ ih=>intro g;have w:=d p q c.1.2.2;exact .step ⟨c.1,o p c.1.1 g c.2.1,o q c.1.2.1 w c.2.2⟩ (ih w)
   exact e x r O ds
  exact C k r U x B
 rintro⟨ab,ad⟩;have D:∀y,jV nx aK r y->¬M y:=λy V A=>I (L.cl y r A V.symm);have J:r<n:=(f.ok r f.has).2.1;have e:∀a b,dz (hd nx aK) a b->a<n->b∈part++[]->dz (hd nx aK) r a->dz (hd nx aK) b r->a∈part++[]:=by
  intro a b ea
  induction ea with
  |refl=>intro _ h _ _;exact h
  | @step p q s c H ih=>
   intro g aj t u;have G:=d p q c.2.2;have w:=ih G aj (t.last c) u;have F:q∈part:=by simpa using w
   have E:dz (hd nx aK) p r:=(dz.step c H).trans u;rcases f.cl q F p (T q p g c.2.2) c.1 with h|h
   .exact absurd h (D p ⟨t,E⟩)
   exact h
 have K:x<n:=by
  cases ab with
  |refl=>exact J
  |step h aj=>
   have:∀a b,dz (hd nx aK) a b->a<n->b<n:=by
    intro a b ea
    induction ea with|refl=>exact id|step h _ ih=>intro _;exact ih (d _ _ h.2.2)
   exact this _ _ aj (d _ _ h.2.2)
 exact e x r ad K f.has ab (.refl _)
def lI.next{l:lX}{k:Nat}{part:lX}(b:lI nx aK n l (k+1) M)(f:l[k]?=some r)(a:∀x,x∈part↔jV nx aK r x)(d:∀x∈part,aK x=true/\x<n):lI nx aK n l k (λx=>M x\/x∈part):=by
 refine⟨?_,?_,?_⟩
 .rintro x (h|h);.exact b.ok x h
  exact d x h
 .rintro x y (h|h) aj;.exact .inl (b.cl x y h aj)
  exact .inr ((a y).2 (((a x).1 h).trans aj))
 intro j x c e;rcases Nat.eq_or_lt_of_le c with rfl|c
 .rw[f]at e;cases e;exact .inr ((a r).2 (.refl r))
 exact .inl (b.up j x c e)
def lI.skip{l:lX}{k:Nat}(a:lI nx aK n l (k+1) M)(d:l[k]?=some r)(h:M r):lI nx aK n l k M:=⟨a.ok,a.cl,λj x b c=>by
  rcases Nat.eq_or_lt_of_le b with rfl|b;.rw[d]at c;cases c;exact h
  exact a.up j x b c⟩
def lI.start{l:lX}:lI nx aK n l l.length (λ_=>False):=⟨λx h=>h.elim,λx y h=>h.elim,λj x b a=>absurd (lV.1 a).1 oZ⟩
end
def Wt{i:Type}{R:i->i->Prop}(ag:∀x,¬R x x)(j:∀x y z,R x y->R y z->R x z):∀{l m:List i},l.Pairwise R->m.Pairwise R->(∀x,x∈l↔x∈m)->l=m
 |[],[],_,_,_=>rfl|[],b::s,_,_,h=>by have:=(h b).2 sZ;simp at this|a::r,[],_,_,h=>by have:=(h a).1 sZ;simp at this
 |a::r,b::s,ab,ad,h=>by
  rw[List.pairwise_cons]at ab ad;have ea:a=b:=by
   have f:=(h a).1 sZ;have g:=(h b).2 sZ;rcases xao.1 f with e|f
   .exact e
   rcases xao.1 g with e|g;.exact e.symm
   exact absurd (j _ _ _ (ab.1 b g) (ad.1 a f)) (ag a)
  subst ea;rw[Wt ag j ab.2 ad.2 λx=>?_];constructor
  .intro d;rcases xao.1 ((h x).1 (xcp _ d))with e|c
   .subst e;exact absurd (ab.1 x d) (ag x)
   exact c
  intro d;rcases xao.1 ((h x).2 (xcp _ d))with e|c
  .subst e;exact absurd (ad.1 x d) (ag x)
  exact c
structure mm(nx:Nat->lX)(aK:Nat->Bool)(n:Nat)(out:mZ):Prop where
 each:∀p∈out,(∃r,aK r=true/\r<n/\∀x,x∈p↔jV nx aK r x)/\p.Pairwise (·<·)
 all:∀x,aK x=true->x<n->∃p∈out,x∈p
def mm.mem{nx:Nat->lX}{aK:Nat->Bool}{n:Nat}{l m:mZ}(h:mm nx aK n l)(k:mm nx aK n m){p:lX}(e:p∈l):p∈m:=by
 obtain⟨⟨r,c5,dk,f⟩,g⟩:=h.each p e;obtain⟨q,c,b⟩:=k.all r c5 dk;obtain⟨⟨s,s1,s2,d⟩,i⟩:=k.each q c;have a:=(d r).1 b;have:p=q:=Wt (R:=(·<·)) (λx=>xcb x) (λx y z=>xco) g i λx=>by rw[f x,d x];exact⟨λh=>a.trans h,λh=>a.symm.trans h⟩
 rw[this];exact c
def mm.perm{nx:Nat->lX}{aK:Nat->Bool}{n:Nat}{l m:mZ}(h:mm nx aK n l)(b:m.Perm l):mm nx aK n m:=⟨λp c=>h.each p (b.mem_iff.1 c),λx ab ad=>by obtain⟨p,a,d⟩:=h.all x ab ad;exact⟨p,b.mem_iff.2 a,d⟩⟩
def fq(E:Nat->Nat->Prop)(a b:Nat):Prop:=∃c,E a c/\dz E c b
def fq.rc{E:Nat->Nat->Prop}{a b:Nat}(h:fq E a b):dz E a b:=by obtain⟨c,ab,ad⟩:=h;exact .step ab ad
def dz.cH{E:Nat->Nat->Prop}{a b:Nat}(h:dz E a b):a=b\/fq E a b:=by cases h with|refl=>exact .inl rfl|step ab ad=>exact .inr ⟨_,ab,ad⟩
def dz.snoc{E:Nat->Nat->Prop}{a b c:Nat}(h:dz E a b)(k:E b c):fq E a c:=by cases h with|refl=>exact⟨c,k,.refl _⟩|step ab ad=>exact⟨_,ab,ad.last k⟩
structure oQ(E:Nat->Nat->Prop)(du V:Nat->Prop)(todo:lX):Prop where
 snd:∀x,V x->∃s,du s/\fq E s x
 tod:∀x∈todo,du x\/V x
 cl:∀x,du x\/V x->x∉todo->∀y,E x y->V y
def oQ.start{E:Nat->Nat->Prop}{du:Nat->Prop}{todo:lX}(h:∀x,x∈todo↔du x):oQ E du (λ_=>False) todo:=⟨λx h=>h.elim,λx a=> .inl ((h x).1 a),λx a b=>absurd ((h x).2 (a.elim id False.elim)) b⟩
def oQ.next{E:Nat->Nat->Prop}{du V g:Nat->Prop}{i:Nat}{todo new:lX}(h:oQ E du V (i::todo))(c:∀x,g x↔V x\/x∈new)(b:∀x∈new,E i x)(d:∀y,E i y->g y):oQ E du g (todo++new):=by
 refine⟨?_,?_,?_⟩
 .intro x a;rcases(c x).1 a with a|a
  .exact h.snd x a
  rcases h.tod i (by simp)with aj|aj;.exact⟨i,aj,x,b x a,.refl _⟩
  obtain⟨s,ab,ad⟩:=h.snd i aj;exact⟨s,ab,ad.rc.snoc (b x a)⟩
 .intro x a;rcases xar.1 a with a|a
  .exact(h.tod x (by simp[a])).imp id λh=>(c x).2 (.inl h)
  exact .inr ((c x).2 (.inr a))
 intro x a k y l;rw[xar,not_or]at k;by_cases f:x=i;.subst f;exact d y l
 refine(c y).2 (.inl (h.cl x ?_ ?_ y l))
 .rcases a with a|a;.exact .inl a
  rcases(c x).1 a with a|a;.exact .inr a
  exact absurd a k.2
 intro j;rcases xao.1 j with e|j
 .exact f e
 exact k.1 j
def oQ.done{E:Nat->Nat->Prop}{du V:Nat->Prop}(h:oQ E du V [])(x:Nat):V x↔∃s,du s/\fq E s x:=by
 refine⟨h.snd x,?_⟩;rintro⟨s,aj,c,ab,ad⟩;have f:=h.cl s (.inl aj) sZ c ab;have d:∀a b,dz E a b->V a->V b:=by
  intro a b ea
  induction ea with|refl=>exact id|step ai _ ih=>intro e;exact ih (h.cl _ (.inr e) sZ _ ai)
 exact d c x ad f
def eJ{l:lW}{j:Nat}{b:Bool}(h:l[j]?=some b):(aE (aH l))[j]?=some [aF b]:=by simp[aH,h]
def amh(l:lW)(j:Nat)(d:D)(c:Bool):D.aw 1 ((aE (aH l)).set j (dH [d] 0 [aF c]))=aH (l.set j c):=by have e:dH [d] 0 [aF c]=[aF c]:=rfl;rw[e];simp[aH,List.map_set]
attribute [go_sem] amh
def iA{l:lW}{j:Nat}(h:j<l.length):cI l.length (aa (j:Int))=some j:=by rw[jF,xac h]
def p7{j:Nat}{l:lW}(h:j<l.length):∃b,l[j]?=some b:=⟨_,xaa h⟩
def ami(N:Nat):D.aw 1 (List.replicate N [aF false])=aH (List.replicate N false):=by simp[aH]
attribute [go_sem] ami
def Mi{N k:Nat}(h:N<=5000)(a:k<=100):eM k (aa (N:Int)) (aa (N:Int))=some N:=by
 unfold eM aa;have:(k:Int)*(N:Int)<=281474976710656:=by
  have ab:k*N<=100*5000:=Nat.mul_le_mul a h;have ad:((k*N:Nat):Int)<=281474976710656:=oZ
  simpa using ad
 have c:0<=(N:Int)/\(N:Int)<=(N:Int)/\(k:Int)*(N:Int)<=281474976710656/\(N:Int)<=9223372036854775807:=⟨by omega,by omega,this,by omega⟩;simp only[xac c,Int.toNat_natCast]
def ht{N:Nat}(h:N<=5000):eM 1 (aa (N:Int)) (aa (N:Int))=some N:=Mi h oZ
def xz{k:Nat}(h:k<=1000000000):b2 k 8=true:=eE
def fh(i:Int)(p:lW×lX):lW×lX:=if 0<=i/\p.1[i.toNat]?=some false then(p.1.set i.toNat true,p.2++[i.toNat])else p
def Wu(n:Nat)(i:Int)(p:lW×lX)(h:p.2.length<1000000000):oc n [aa i,aH p.1,a8 p.2]=some [D.aC [],aH (fh i p).1,a8 (fh i p).2]:=by
 obtain⟨met,todo⟩:=p;have f:b2 (todo.length+1) 8=true:=xz (by simp only at h;omega);by_cases ak:0<=i
 .obtain⟨k,rfl⟩:∃k:Nat,i=(k:Int):=⟨i.toNat,by omega⟩;have a:=yT ((k:Int)>=0);by_cases ah:k<met.length
  .obtain⟨b,d⟩:=p7 ah;have c:=yT ((k:Int)<(met.length:Int));cases b with
   |true=>
    have e:fh (k:Int) (met,todo)=(met,todo):=by rw[fh,xab];simp[d]
    rw[e];simp only[oc,go_sem,a,c,iA ah,eJ d]
   |false=>
    have e:fh (k:Int) (met,todo)=(met.set k true,todo++[k]):=by rw[fh,xac (by simp[d])];simp
    rw[e];simp only[oc,go_sem,a,c,iA ah,eJ d,xal,xaA,xav,f]
  have c:=yF ((k:Int)<(met.length:Int));have e:fh (k:Int) (met,todo)=(met,todo):=by rw[fh,xab];simp[show met.length<=k by omega]
  rw[e];simp only[oc,go_sem,a,c]
 have a:=yF (i>=0);have e:fh i (met,todo)=(met,todo):=by rw[fh,xab oZ]
 rw[e];simp only[oc,go_sem,a]
def Mj(i:Int)(p:lW×lX):(fh i p).2.length<=p.2.length+1:=by unfold fh;split<;>simp
def oR(l:lY)(p:lW×lX):lW×lX:=l.foldl (λp i=>fh i p) p
structure Mk(l:lY)(p q:lW×lX)(new:lX):Prop where
 len:q.1.length=p.1.length
 todo:q.2=p.2++new
 met:∀x,q.1[x]?=some true↔p.1[x]?=some true\/x∈new
 G2:new.Nodup
 nF:∀x∈new,p.1[x]?=some false/\(x:Int)∈l
 all:∀x:Nat,(x:Int)∈l->x<p.1.length->q.1[x]?=some true
 jO:q.1.count false+q.2.length=p.1.count false+p.2.length
def tG{l:lW}{k x:Nat}(a:k<l.length):(l.set k true)[x]?=some true↔l[x]?=some true\/x=k:=by
 by_cases h:x=k;.subst h;simp[a]
 rw[xcn (xbZ h)];simp[h]
def Ml{l:lW}{k:Nat}(a:l[k]?=some false):(l.set k true).count false+1=l.count false:=by obtain⟨ab,ad⟩:=lV.1 a;have b:0<l.count false:=List.count_pos_iff.2 (xad a);rw[List.count_set ab,ad];simp;omega
def xA:∀(l:lY)(p:lW×lX),∃new,Mk l p (oR l p) new
 |[],p=>⟨[],rfl,by simp[oR],by simp[oR],.nil,by simp,by simp,rfl⟩
 |a::r,p=>by
  obtain⟨new,h⟩:=xA r (fh a p);have i:oR (a::r) p=oR r (fh a p):=rfl;rw[i];by_cases f:0<=a/\p.1[a.toNat]?=some false
  .have e:fh a p=(p.1.set a.toNat true,p.2++[a.toNat]):=xac f;rw[e]at h⊢;have g:=(lV.1 f.2).1;have d:a.toNat∉new:=by
    intro i;have:=(h.nF _ i).1;simp[g]at this
   refine⟨a.toNat::new,by rw[h.len];simp,by rw[h.todo];simp,?_,List.nodup_cons.2 ⟨d,h.G2⟩,?_,?_,?_⟩;.intro x;rw[h.met x];show(p.1.set a.toNat true)[x]?=some true\/_↔_;rw[tG g,xao,or_assoc]
   .intro x c;rcases xao.1 c with rfl|c
    .exact⟨f.2,by rw[show((a.toNat:Nat):Int)=a by omega];simp⟩
    obtain⟨ab,ad⟩:=h.nF x c;have:x≠a.toNat:=λe=>d (e▸c);have ab:(p.1.set a.toNat true)[x]?=some false:=ab;rw[xcn (xbZ this)]at ab;exact⟨ab,xcp _ ad⟩
   .intro x c ah;rcases xao.1 c with c|c
    .have:x=a.toNat:=oZ
     rw[h.met x];exact .inl ((tG g).2 (.inr this))
    exact h.all x c (by simpa using ah)
   have ab:=h.jO;have ad:=Ml f.2;simp only[xaS,xal,xaA]at ab;omega
  have e:fh a p=p:=xab f;rw[e]at h⊢;refine⟨new,h.len,h.todo,h.met,h.G2,λx c=>⟨(h.nF x c).1,xcp _ (h.nF x c).2⟩,?_,h.jO⟩;intro x c ah;rcases xao.1 c with c|c
  .rw[h.met x];refine .inl ?_;obtain⟨b,j⟩:=p7 ah;cases b with|true=>exact j|false=>exact absurd ⟨by omega,by rw[<-c];simpa using j⟩ f
  exact h.all x c ah
structure gk(N:Nat)(nx:mZ):Prop where
 len:nx.length=N
 le:N<=5000
 row:∀l∈nx,l.length<=5000
 lt:∀l∈nx,∀k∈l,k<N
def bm(nx:mZ)(a:Nat):lX:=(nx[a]?).getD []
def dB(S:mX)(nx:mZ)(a:lX)(b:mY):D:= .agg [bB S,bx nx,a8 a,b0 b]
theorem amj{S:mX}{nx:mZ}{a:lX}{b:mY}:D.agg [bB S,bx nx,a8 a,b0 b]=dB S nx a b:=rfl
attribute [go_sem] amj
theorem amk{S:mX}{nx:mZ}{a:lX}{b:mY}:dM (dB S nx a b)=[bB S,bx nx,a8 a,b0 b]:=rfl
attribute [go_sem] amk
theorem aml{S:mX}{nx:mZ}{a:lX}{b:mY}:cz 4 (dB S nx a b)=true:=rfl
theorem amm{S:mX}{nx:mZ}{a:lX}{b:mY}:ae (dB S nx a b) 0=bB S:=rfl
theorem amn{S:mX}{nx:mZ}{a:lX}{b:mY}:ae (dB S nx a b) 1=bx nx:=rfl
theorem amo{S:mX}{nx:mZ}{a:lX}{b:mY}:ae (dB S nx a b) 2=a8 a:=rfl
theorem amp{S:mX}{nx:mZ}{a:lX}{b:mY}:ae (dB S nx a b) 3=b0 b:=rfl
attribute [go_sem] aml amm amn amo amp
section
variable{N:Nat}{nx:mZ}(g:gk N nx)
include g
theorem gk.cN{a:Nat}(h:a<N):ba 1 (bx nx) (aa (a:Int))=some [a8 (bm nx a)]:=by
 have:nx[a]?=some (bm nx a):=by unfold bm;rw[xaa (by rw[g.len];exact h)];rfl
 exact GX this
theorem gk.Wv{a:Nat}(h:a<N):bm nx a∈nx:=by
 have b:a<nx.length:=by rw[g.len];exact h
 unfold bm;rw[xaa b];exact xaV _
theorem gk.jq{a b:Nat}(h:b∈bm nx a):a<N/\b<N:=by
 rcases xbd a N with c|c;.exact⟨c,g.lt _ (g.Wv c) b h⟩
 unfold bm at h;rw[xaH (by rw[g.len];exact c)]at h;simp at h
theorem gk.rJ(a:Nat):(bm nx a).length<=5000:=by
 rcases xbd a N with b|b;.exact g.row _ (g.Wv b)
 unfold bm;rw[xaH (by rw[g.len];exact b)];simp
end
def Mm(nx:mZ)(a b:Nat):Prop:=b∈bm nx a
structure mn(E:Nat->Nat->Prop)(du:Nat->Prop)(N:Nat)(p:lW×lX):Prop where
 len:p.1.length=N
 snd:∀x,p.1[x]?=some true->∃s,du s/\dz E s x
 Mn:∀s,du s->p.1[s]?=some true
 td:∀x∈p.2,p.1[x]?=some true
 cl:∀x,p.1[x]?=some true->x∉p.2->∀y,E x y->p.1[y]?=some true
def mn.done{E:Nat->Nat->Prop}{du:Nat->Prop}{N:Nat}{p:lW×lX}(h:mn E du N p)(ak:p.2=[])(x:Nat):p.1[x]?=some true↔∃s,du s/\dz E s x:=by
 refine⟨h.snd x,?_⟩;rintro⟨s,aj,e⟩;have c:∀a b,dz E a b->p.1[a]?=some true->p.1[b]?=some true:=by
  intro a b ea
  induction ea with|refl=>exact id|step ab _ ih=>intro d;exact ih (h.cl _ d (by rw[ak];simp) _ ab)
 exact c s x e (h.Mn s aj)
def mn.start{nx:mZ}{N:Nat}(l:lY):mn (Mm nx) (λs=>(s:Int)∈l/\s<N) N (oR l (List.replicate N false,[])):=by
 obtain⟨new,h⟩:=xA l (List.replicate N false,[]);have ak:∀x:Nat,(List.replicate N false)[x]?≠some true:=by intro x a;rw[xbh]at a;split at a<;>simp at a
 have b:∀x:Nat,(oR l (List.replicate N false,[])).1[x]?=some true↔x∈new:=λx=>by rw[h.met x];exact⟨λh=>h.resolve_left (ak x),.inr⟩
 have e:∀x∈new,(x:Int)∈l/\x<N:=λx a=>⟨(h.nF x a).2,by simpa using(lV.1 (h.nF x a).1).1⟩;have c:=h.todo;simp only[xaM]at c;refine⟨by rw[h.len];simp,λx a=>⟨x,e x ((b x).1 a),.refl _⟩,λs aj=>h.all s aj.1 (by simpa using aj.2),λx a=>(b x).2 (c▸a),λx a d=>absurd (c▸(b x).1 a) d⟩
def mn.next{nx:mZ}{N:Nat}(g:gk N nx){du:Nat->Prop}{met:lW}{t:lX}{a:Nat}(h:mn (Mm nx) du N (met,t++[a])):mn (Mm nx) du N (oR ((bm nx a).map λ(k:Nat)=>(k:Int)) (met,t)):=by
 obtain⟨new,q⟩:=xA ((bm nx a).map λ(k:Nat)=>(k:Int)) (met,t);have d:∀y,((y:Nat):Int)∈(bm nx a).map (λ(k:Nat)=>(k:Int))↔y∈bm nx a:=by
  intro y;simp only[xaK];exact⟨λ⟨k,ab,ad⟩=>by
                 have:k=y:=oZ
                 exact this▸ab,λh=>⟨y,h,rfl⟩⟩
 have i:=h.td a sZ;refine⟨by rw[q.len];exact h.len,?_,λs aj=>(q.met s).2 (.inl (h.Mn s aj)),?_,?_⟩
 .intro x b;rcases(q.met x).1 b with b|b
  .exact h.snd x b
  obtain⟨s,ab,ad⟩:=h.snd a i;exact⟨s,ab,ad.last ((d x).1 (q.nF x b).2)⟩
 .intro x b;rw[q.todo]at b;rcases xar.1 b with b|b
  .exact(q.met x).2 (.inl (h.td x (by simp at b⊢;exact .inl b)))
  exact(q.met x).2 (.inr b)
 intro x b f y j;rw[q.todo,xar,not_or]at f;by_cases e:x=a;.subst e;exact q.all y ((d y).2 j) (by have:=(g.jq j).2;have:=h.len;simp only at this⊢;omega)
 refine(q.met y).2 (.inl (h.cl x ?_ ?_ y j));.exact((q.met x).1 b).resolve_right f.2
 intro c;rcases xar.1 c with c|c
 .exact f.1 c
 simp at c;exact e c
section
variable{S:mX}{nx:mZ}(bk:lX)(ax:mY)(g:gk S.length nx)(n:Nat)(bq:10000000<n)
include g bq
end
def hasB(aK:lW)(k:Nat):Bool:=(aK[k]?).getD false
def hv{aK:lW}{k:Nat}:hasB aK k=true↔aK[k]?=some true:=by unfold hasB;cases aK[k]? with|none=>simp|some b=>simp
def fJ(h:Nat->Bool)(l:lX)(p:lW×lX):lW×lX:=oR ((l.filter h).map λ(k:Nat)=>(k:Int)) p
def BB(h:Nat->Bool)(k:Nat)(r:lX)(p:lW×lX):fJ h (k::r) p=fJ h r (if h k=true then fh (k:Int) p else p):=by
 unfold fJ;by_cases a:h k=true;.rw[List.filter_cons_of_pos a,xac a];rfl
 rw[List.filter_cons_of_neg a,xab a]
def Ww(i:Int)(p:lW×lX):(fh i p).1.length=p.1.length:=by unfold fh;split<;>simp
def xB{l:lX}{h:Nat->Bool}{y:Nat}:((y:Nat):Int)∈(l.filter h).map (λ(k:Nat)=>(k:Int))↔y∈l/\h y=true:=by
 simp only[xaK,xbL];exact⟨λ⟨k,ab,ad⟩=>by
                have:k=y:=oZ
                exact this▸ab,λh=>⟨y,h,rfl⟩⟩
def Mo{i:Nat}{t:lX}:D.aw 1 (((aE (a8 (i::t))).drop 1).take t.length)=a8 t:=by have:(t.map λ(k:Nat)=>[aa (k:Int)]).take t.length=t.map λ(k:Nat)=>[aa (k:Int)]:=xbC sZ;simp[a8,this]
def Mp{k:Nat}:hC (k+1) (some (aa 1)) none=some (1,k):=by have:=K5 (n:=k+1) (i:=1) oZ;simpa using this
def Mq{k:Nat}:cI (k+1) (aa 0)=some 0:=F7
def jr(nx:mZ)(aK:lW)(a b:Nat):Prop:=b∈bm nx a/\aK[b]?=some true
section
variable{S:mX}{nx:mZ}(bk:lX)(ax:mY)(g:gk S.length nx)(n:Nat)(bq:10000000<n)
include g bq
theorem Mr:ox n [dB S nx bk ax]=some (aH (List.replicate S.length true)):=by
 have a:=g.le;have ag:=ch (f:=Fo n) (List.replicate S.length ()) (λi (_:Unit)=>[aa (i:Int),aH (List.replicate i true++List.replicate (S.length-i) false)]) (λ_ _=>(.inl [aH (List.replicate S.length true)]:lZ⊕D)) (λ_ _=>True) ?_ ?_ n 0 () trivial uZ (xag _)
 .have c:(aa ((0:Nat):Int))=aa 0:=rfl;simp only[c,List.replicate_zero,xaM,Nat.sub_zero]at ag;simp only[ox,RO,go_sem,ht a,ag]
 .intro _ _;simp only[xaP,Fo,go_sem,xbV,List.replicate_zero,xat,yF ((S.length:Int)<S.length)]
 intro i _ _ _ ag _;simp only[xaP]at ag;left;refine⟨(),?_,rfl,trivial⟩;have ah:(List.replicate i true++List.replicate (S.length-i) false).length=S.length:=uZ
 have d:(List.replicate i true++List.replicate (S.length-i) false)[i]?=some false:=by rw[xas sZ,xaP,xbV,xbh,xac oZ]
 have aj:(List.replicate i true++List.replicate (S.length-i) false).set i true=List.replicate (i+1) true++List.replicate (S.length-(i+1)) false:=by obtain⟨k,e⟩:∃k,S.length-i=k+1:=⟨S.length-i-1,by omega⟩;rw[e,show S.length-(i+1)=k by omega,xcu,List.set_append_right _ _ sZ,List.replicate_succ'];simp
 have b:cI S.length (aa (i:Int))=some i:=iM ag;simp only[Fo,go_sem,ah,yT ((i:Int)<(S.length:Int)),b,eJ d,aj,bl i]
theorem G3(aK:lW)(j:aK.length<=1000000000):nr n [dB S nx bk ax,aH aK]=some (aH ((List.range S.length).map (hasB aK))):=by
 have c:=g.le;have ag:=ch (f:=AR n) (List.replicate S.length ()) (λi (_:Unit)=>[aH aK,aa (i:Int),aH ((List.range i).map (hasB aK)++List.replicate (S.length-i) false)]) (λ_ _=>(.inl [aH ((List.range S.length).map (hasB aK))]:lZ⊕D)) (λ_ _=>True) ?_ ?_ n 0 () trivial uZ (xag _)
 .have e:(aa ((0:Nat):Int))=aa 0:=rfl;simp only[e,List.range_zero,xbc,xaM,Nat.sub_zero]at ag;simp only[nr,RN,go_sem,ht c,ag]
 .intro _ _;simp only[xaP,AR,go_sem,xaU,xbf,xbV,List.replicate_zero,xat,yF ((S.length:Int)<S.length)]
 intro i _ _ _ ag _;simp only[xaP]at ag;left;refine⟨(),?_,rfl,trivial⟩;have ah:((List.range i).map (hasB aK)++List.replicate (S.length-i) false).length=S.length:=uZ
 have d:((List.range i).map (hasB aK)++List.replicate (S.length-i) false)[i]?=some false:=by rw[xas sZ,xaU,xbf,xbV,xbh,xac oZ]
 have aj:((List.range i).map (hasB aK)++List.replicate (S.length-i) false).set i (hasB aK i)=(List.range (i+1)).map (hasB aK)++List.replicate (S.length-(i+1)) false:=by obtain⟨k,l⟩:∃k,S.length-i=k+1:=⟨S.length-i-1,by omega⟩;rw[l,show S.length-(i+1)=k by omega,xcu,List.set_append_right _ _ sZ,List.range_succ];simp
 have b:cI S.length (aa (i:Int))=some i:=iM ag;have m:c7 (aF (hasB aK i))=true:=rfl;by_cases h:i<aK.length
 .have a:aK[i]?=some (hasB aK i):=by unfold hasB;rw[xaa h];rfl
  simp only[AR,go_sem,ah,yT ((i:Int)<(S.length:Int)),yT ((i:Int)<(aK.length:Int)),rH a,b,m,eJ d,aj,bl i]
 have a:hasB aK i=false:=by unfold hasB;rw[xaH oZ];rfl
 rw[a]at aj;simp only[AR,go_sem,ah,yT ((i:Int)<(S.length:Int)),yF ((i:Int)<(aK.length:Int)),b,eJ d,aj,bl i]
theorem amq(aK:lW)(x:aK.length=S.length){i:Nat}(ag:i<S.length)(p:lW×lX)(ah:p.1.length=S.length)(w:p.2.length<=100000000):aR (s8 n) n [aH aK,aa (i:Int),aa 0,bB S,bx nx,a8 bk,b0 ax,aH p.1,a8 p.2]=some (.inl [aH aK,bB S,bx nx,a8 bk,b0 ax,aH (fJ (hasB aK) (bm nx i) p).1,a8 (fJ (hasB aK) (bm nx i) p).2]):=by
 have z:=g.rJ i;have a:=g.cN ag;have H:=ch (f:=s8 n) (bm nx i) (λj (p:lW×lX)=>[aH aK,aa (i:Int),aa (j:Int),bB S,bx nx,a8 bk,b0 ax,aH p.1,a8 p.2]) (λr p=>(.inl [aH aK,bB S,bx nx,a8 bk,b0 ax,aH (fJ (hasB aK) r p).1,a8 (fJ (hasB aK) r p).2]:lZ⊕(lZ⊕(lZ⊕(lZ⊕D))))) (λj p=>p.1.length=S.length/\p.2.length+((bm nx i).length-j)<=200000000) ?_ ?_ n 0 p ⟨ah,by omega⟩ oZ (xag _)
 .exact H
 .intro p _;simp only[s8,go_sem,a,yF (((bm nx i).length:Int)<(bm nx i).length)];rfl
 rintro j k ⟨met,todo⟩ q A ⟨ah,w⟩;simp only at ah w;have y:=(g.jq (xad q)).2;have d:=yT ((j:Int)<((bm nx i).length:Int));obtain⟨b,m⟩:=p7 (l:=aK) (j:=k) oZ;obtain⟨c,o⟩:=p7 (l:=met) (j:=k) oZ;have a1:hasB aK k=b:=by unfold hasB;rw[m];rfl
 have h:cI met.length (aa (k:Int))=some k:=iA oZ;have u:b2 (todo.length+1) 8=true:=xz oZ;have t:=Mj (k:Int) (met,todo);have s:=Ww (k:Int) (met,todo);left;cases b with
 |false=>
  refine⟨(met,todo),?_,?_,ah,by simp only;omega⟩;.simp only[s8,go_sem,a,d,gP q,rH m,bl j]
  rw[BB,xab (by rw[a1];simp)]
 |true=>
  refine⟨fh (k:Int) (met,todo),?_,?_,by rw[s];exact ah,by simp only at t;omega⟩
  .cases c with
   |true=>
    have e:fh (k:Int) (met,todo)=(met,todo):=by rw[fh,xab];simp[o]
    rw[e];simp only[s8,go_sem,a,d,gP q,rH m,h,eJ o,bl j]
   |false=>
    have e:fh (k:Int) (met,todo)=(met.set k true,todo++[k]):=by rw[fh,xac (by simp[o])];simp
    rw[e];simp only[s8,go_sem,a,d,gP q,rH m,h,eJ o,xal,xaA,xav,u,bl j]
  rw[BB,xac a1]
theorem amr(aK:lW)(o:aK.length=S.length){a:Nat}(F:a<S.length): ∃R:lW,s9 n [dB S nx bk ax,aa (a:Int),aH aK]=some (aH R)/\R.length=S.length/\∀x,R[x]?=some true↔fq (jr nx aK) a x:=by
 have u:=g.le;have H:=rE (f:=Fp n) (λ(p:lW×lX)=>[aH aK,bB S,bx nx,a8 bk,b0 ax,aH p.1,a8 p.2]) (λp=>p.1.count false+p.2.length) (λp=>p.1.length=S.length/\(∀x∈p.2,x<S.length)/\oQ (jr nx aK) (·=a) (λx=>p.1[x]?=some true) p.2/\p.1.count false+p.2.length<=S.length+1) (λy=>∃R:lW,y=(.inl [aH R]:lZ⊕D)/\R.length=S.length/\∀x,R[x]?=some true↔∃s,s=a/\fq (jr nx aK) s x) ?_ n (List.replicate S.length false,[a]) ?_ ?_
 .obtain⟨y,ab,R,rfl,ai,C⟩:=H;refine⟨R,?_,ai,λx=>by rw[C x];simp⟩;have j:D.aw 1 [[aa (a:Int)]]=a8 [a]:=rfl;have G:c7 (aa (a:Int))=true:=rfl;simp only[s9,RP,go_sem,ht u,j,G,ab]
 .rintro⟨met,todo⟩ ⟨ah,h,l,z⟩;simp only at ah h l z;cases todo with
  |nil=>
   right;refine⟨_,?_,met,rfl,ah,l.done⟩;have A:decide ((0:Int)>0)=false:=dZ
   have j:((([]:lX).length:Nat):Int)=0:=rfl;simp only[Fp,go_sem,j,A]
  |cons i t=>
   left;have m:=h i sZ;simp only[xal]at z;obtain⟨new,q⟩:=xA (((bm nx i).filter (hasB aK)).map λ(k:Nat)=>(k:Int)) (met,t);have d:=q.jO;simp only at d;have E:=amq bk ax g n bq aK o m (met,t) ah (by simp only;omega);have r:(aE (a8 (i::t))).length=t.length+1:=by rw[By];simp
   have j:decide (((t.length+1:Nat):Int)>0)=true:=xan oZ;have B:(aE (a8 (i::t)))[0]?=some [aa (i:Int)]:=by simp[a8]
   have c:∀x∈new,jr nx aK i x:=λx b=>by obtain⟨ab,ad⟩:=xB.1 (q.nF x b).2;exact⟨ab,hv.1 ad⟩
   refine⟨fJ (hasB aK) (bm nx i) (met,t),?_,⟨by rw[fJ,q.len];exact ah,?_,?_,by rw[fJ,d];omega⟩,by rw[fJ,d];simp only[xal];omega⟩;.simp only[Fp,go_sem,r,j,Mq,B,Mp,yT (1+t.length<=t.length+1),Mo,E]
   .intro x b;rw[fJ,q.todo]at b;rcases xar.1 b with b|b
    .exact h x (by simp at b⊢;exact .inr b)
    exact(g.jq (c x b).1).2
   rw[fJ,q.todo];exact l.next (λx=>q.met x) c λy w=>q.all y (xB.2 ⟨w.1,hv.2 w.2⟩) (by have:=(g.jq w.1).2;simp only;omega)
 .refine⟨by simp,by simpa using F,?_,by simp⟩;have e:(λx:Nat=>(List.replicate S.length false)[x]?=some true)=λ_=>False:=by
   funext x
   rw[xbh];split<;>simp
  show oQ _ _ (λx:Nat=>(List.replicate S.length false)[x]?=some true) [a];rw[e];exact oQ.start (λx=>by simp)
 simp;omega
end
def ci(l:lX):lY:=l.map λ(k:Nat)=>(k:Int)
def Wx{a:mZ}{k j:Nat}{l:lX}(b:k<a.length):bm (a.set k l) j=if j=k then l else bm a j:=by
 unfold bm;by_cases h:j=k;.subst h;simp[b]
 rw[xcn (xbZ h),xab h]
def Wy(i:Nat):∀(ks:lX)(a:mZ),(∀k∈ks,k<a.length)->∃b:mZ,su (i:Int) (ci ks) (a.map ci)=some (b.map ci)/\b.length=a.length/\(∀j,(bm b j).length<=(bm a j).length+ks.length)/\∀j x,x∈bm b j↔x∈bm a j\/(x=i/\j∈ks)
 |[],a,_=>⟨a,rfl,rfl,λj=>xaR _,λj x=>by simp⟩
 |k::r,a,h=>by
  have d:=h k sZ;obtain⟨b,ab,ad,ai,l⟩:=Wy i r (a.set k (bm a k++[i])) (λm e=>by simpa using h m (by simp[e]));refine⟨b,?_,by simpa using ad,λj=>?_,λj x=>?_⟩
  .have f:ci (k::r)=(k:Int)::ci r:=rfl;have g:((a.map ci).set (k:Int).toNat (((a.map ci)[(k:Int).toNat]?).getD []++[(i:Int)]))=(a.set k (bm a k++[i])).map ci:=by
    rw[List.map_set,Int.toNat_natCast]
    congr 1
    unfold bm;rw[xah,xaa d];simp[ci]
   rw[f,su,xac ⟨by omega,by simpa using d⟩,g];exact ab
  .have:=ai j;rw[Wx d]at this;by_cases c:j=k;.rw[xac c]at this;subst c;simp at this⊢;omega
   rw[xab c]at this;simp;omega
  rw[l j x,Wx d];by_cases c:j=k
  .subst c;rw[xac rfl];simp only[xar,xao,true_or,and_true,List.not_mem_nil,or_false];constructor
   .rintro((h|h)|h);.exact .inl h
    .exact .inr h
    exact .inr h.1
   rintro(h|h);.exact .inl (.inl h)
   exact .inl (.inr h)
  rw[xab c,xao,or_iff_right c]
def tH:mZ->Nat
 |[]=>0|l::r=>l.length+tH r
def Wz:∀l:mZ,j6 (l.map ci)=tH l
 |[]=>rfl|l::r=>by simp[j6,tH,Wz r,ci]
def WA{b:Nat}:∀{l:mZ},(∀x∈l,x.length<=b)->tH l<=l.length*b
 |[],_=>xag _|a::r,h=>by have ab:=h a sZ;have ad:=WA λx c=>h x (xcp a c);rw[tH,xal,Nat.succ_mul];omega
def WB:∀(rows:mZ) (i:Nat) (a:mZ),(∀l∈rows,∀k∈l,k<a.length)->∃b:mZ,n7 i (rows.map ci) (a.map ci)=some (b.map ci)/\b.length=a.length/\(∀j,(bm b j).length<=(bm a j).length+tH rows)/\∀j x,x∈bm b j↔x∈bm a j\/∃d l,rows[d]?=some l/\x=i+d/\j∈l
 |[],i,a,_=>⟨a,rfl,rfl,λj=>xaR _,λj x=>by simp⟩
 |l::r,i,a,h=>by
  obtain⟨aG,ab,ad,ai,m⟩:=Wy i l a (h l sZ);obtain⟨a2,g1,g2,g3,g4⟩:=WB r (i+1) aG (λf g k n=>by rw[ad];exact h f (by simp[g]) k n);refine⟨a2,?_,by omega,λj=>?_,λj x=>?_⟩;.rw[xaw,n7,ab];exact g1
  .have:=ai j;have:=g3 j;rw[tH];omega
  rw[g4 j x,m j x,or_assoc];refine or_congr_right ?_;constructor
  .rintro(⟨rfl,c⟩|⟨d,f,e,rfl,c⟩);.exact⟨0,l,rfl,rfl,c⟩
   exact⟨d+1,f,by simpa using e,by omega,c⟩
  rintro⟨d,f,e,rfl,c⟩;cases d with|zero=>simp at e;subst e;exact .inl ⟨rfl,c⟩|succ d=>exact .inr ⟨d,f,by simpa using e,by omega,c⟩
theorem Ms(l:lX):kn (l.map λ(k:Nat)=>[aa (k:Int)])=some (ci l):=by induction l with|nil=>rfl|cons a r ih=>rw[xaw];show(af (kn (r.map λ(k:Nat)=>[aa (k:Int)])) λl=>some ((a:Int)::l))=_;rw[ih];rfl
theorem ams(l:mZ):ss (l.map λs=>[a8 s])=some (l.map ci):=by induction l with|nil=>rfl|cons a r ih=>rw[xaw];show(af (kn (a.map λ(k:Nat)=>[aa (k:Int)])) λx=>af (ss (r.map λs=>[a8 s])) λl=>some (x::l))=_;rw[Ms,ih];rfl
def WC(l:mZ):mS (l.map ci)=bx l:=by
 have:∀s:lX,hl (ci s)=a8 s:=λs=>by simp[hl,ci,a8]
 simp[mS,bx,this]
structure xC(N:Nat)(nx P:mZ):Prop where
 len:P.length=N
 mem:∀j x,x∈bm P j↔j∈bm nx x
 rK:∀j,(bm P j).length<=25000000
section
variable{S:mX}{nx:mZ}(bk:lX)(ax:mY)(g:gk S.length nx)
include g
theorem WD:∃P,Dd [dB S nx bk ax]=some (bx P)/\xC S.length nx P:=by
 have b:=g.le;obtain⟨P,ab,ad,ai,f⟩:=WB nx 0 (List.replicate S.length []) (λl ah k o=>by simpa using g.lt l ah k o);have ak:(List.replicate S.length ([]:lX)).map ci=List.replicate S.length []:=by simp[ci]
 rw[ak]at ab;have aj:=WA g.row;rw[g.len]at aj;have p:S.length*5000<=5000*5000:=xaB _ b;have a:∀j,bm (List.replicate S.length []) j=[]:=by intro j;unfold bm;rw[xbh];split<;>rfl
 refine⟨P,?_,by simpa using ad,λj x=>?_,λj=>?_⟩
 .have c:sw (bB S)=some S.length:=by simp[sw,bB]
  have e:rowsOf (bx nx)=some (nx.map ci):=ams nx;have i:S.length<=1000000000/\(nx.map ci).length+j6 (nx.map ci)<=1000000000:=by rw[Wz,xaU,g.len];omega
  show(af (sw (bB S)) λN=>af (rowsOf (bx nx)) λnx=>if N<=1000000000/\nx.length+j6 nx<=1000000000 then af (n7 0 nx (List.replicate N [])) λr=>some (mS r)else none)=_;rw[c,cL,e,cL,xac i,ab,cL,WC]
 .rw[f j x,a j];constructor
  .rintro(h|⟨d,l,m,rfl,n⟩);.simp at h
   unfold bm;rw[xav,m];exact n
  intro h;have q:=(g.jq h).1;exact .inr ⟨x,bm nx x,by unfold bm;rw[xaa (by rw[g.len];exact q)];rfl,by omega,h⟩
 have:=ai j;rw[a j]at this;simp at this;omega
end
def il(w:List (Nat×Nat)):D:= .aw 2 (w.map λp=>[aa (p.1:Int),aa (p.2:Int)])
def WE(w:List (Nat×Nat)):(aE (il w)).length=w.length:=by simp[il]
theorem G4(w:List (Nat×Nat)):D.aw 2 (aE (il w))=il w:=rfl
def amt(w:List (Nat×Nat))(p:Nat×Nat):(aE (il (w++[p])))[w.length]?=some [aa (p.1:Int),aa (p.2:Int)]:=by simp[il]
def amu(w:List (Nat×Nat))(p:Nat×Nat):D.aw 2 (((aE (il (w++[p]))).drop 0).take w.length)=il w:=by simp[il]
def amv(w:List (Nat×Nat))(p:Nat×Nat)(v a:Nat):(aE (il (w++[p]))).set w.length (dH [aa (v:Int),aa (p.2:Int)] 1 [aa (a:Int)])=aE (il (w++[(v,a)])):=by have e:dH [aa (v:Int),aa (p.2:Int)] 1 [aa (a:Int)]=[aa (v:Int),aa (a:Int)]:=rfl;rw[e];simp[il]
def amw(w:List (Nat×Nat))(y:Nat):D.aw 2 (aE (il w)++[[aa (y:Int),aa 0]])=il (w++[(y,0)]):=by simp[il]
theorem G5(x y:D):aQ false 1 1 [x,y]=some y:=rfl
theorem G6(x y:D):aQ false 1 0 [x,y]=some x:=rfl
def Mt(aK:lW):D:= .fn (.func hG) [] [.ref [aH aK] 0]
def Mu(n:Nat)(aK:lW)(k:Nat)(h:aK.length<=1000000000):qN n [aa (k:Int),.ref [aH aK] 0]=some (aF (hasB aK k)):=by
 have e:aQ false 1 0 [aH aK]=some (aH aK):=rfl;by_cases b:k<aK.length
 .have a:aK[k]?=some (hasB aK k):=by unfold hasB;rw[xaa b];rfl
  simp only[qN,DA,go_sem,e,yT ((k:Int)<(aK.length:Int)),rH a]
 have a:hasB aK k=false:=by unfold hasB;rw[xaH oZ];rfl
 rw[a];simp only[qN,DA,go_sem,e,yF ((k:Int)<(aK.length:Int))]
def kG(nx:mZ):List (Nat×Nat)->Nat
 |[]=>0|p::r=>(bm nx p.1).length-p.2+1+kG nx r
def G7(nx:mZ):∀(w z:List (Nat×Nat)),kG nx (w++z)=kG nx w+kG nx z
 |[],z=>by simp[kG]|p::r,z=>by rw[xbs,kG,G7 nx r z,kG];omega
structure nG(nx:mZ)(aK:lW)(N:Nat)(A:Nat->Prop)(out:lX)(h3:List (Nat×Nat))(met:lW):Prop where
 BC:∃iE,hQ (bm nx) (hasB aK) N out h3 iE
 len:met.length=N
 met:∀x:Nat,met[x]?=some true↔x∈out\/x∈h3.map (·.1)
 has:∀x,A x->x∈out\/x∈h3.map (·.1)
def nG.small{nx:mZ}{aK:lW}{N:Nat}{A:Nat->Prop}{out:lX}{a:List (Nat×Nat)}{met:lW}(h:nG nx aK N A out a met):out.length+a.length<=N:=by obtain⟨d,b⟩:=h.BC;have:=pQ N _ b.kF λx c=>(b.ok x c).2;simpa using this
section
variable{S:mX}{nx:mZ}(g:gk S.length nx)(n:Nat)(bq:100000000<n)(aK:lW)(iB:aK.length<=1000000000)
include g bq iB
theorem amx(L:D){A:Nat->Prop}{out:lX}{e:List (Nat×Nat)}{met:lW}(h:nG nx aK S.length A out e met): ∃(d:lX)(b:lW),aR (qO n) n [bx nx,.ref [aH aK] 0,aa (S.length:Int),L,a8 out,aH met,il e]=some (.inl [bx nx,.ref [aH aK] 0,aa (S.length:Int),L,a8 d,aH b])/\nG nx aK S.length A d [] b:=by
 have bX:=g.le;have H:=rE (f:=qO n) (λ(s:lX×List (Nat×Nat)×lW)=>[bx nx,.ref [aH aK] 0,aa (S.length:Int),L,a8 s.1,aH s.2.2,il s.2.1]) (λs=>s.2.2.count false*5002+kG nx s.2.1) (λs=>nG nx aK S.length A s.1 s.2.1 s.2.2) (λy=>∃(d:lX)(b:lW),y=(.inl [bx nx,.ref [aH aK] 0,aa (S.length:Int),L,a8 d,aH b]:lZ⊕(lZ⊕(lZ⊕(lZ⊕D))))/\nG nx aK S.length A d [] b) ?_ n (out,e,met) h ?_
 .obtain⟨y,ab,d,b,rfl,ad⟩:=H;exact⟨d,b,ab,ad⟩
 .rintro⟨out,e,met⟩ h;have h:nG nx aK S.length A out e met:=h;have F:=h.small;rcases List.eq_nil_or_concat e with rfl|⟨w,⟨v,a⟩,rfl⟩
  .right;refine⟨_,?_,out,met,rfl,h⟩;have V:decide ((0:Int)>0)=false:=dZ
   have o:(((aE (il [])).length:Nat):Int)=0:=rfl;simp only[qO,go_sem,o,V]
  left;rw[List.concat_eq_append]at h F⊢;obtain⟨U,B⟩:=h.BC;simp only[xaS,xal,xaA,xav]at F;obtain⟨b1,k⟩:=B.ok v sZ;obtain⟨Z,_⟩:=B.at_ w.length v a sZ;have b4:=g.rJ v;have ah:(aE (il (w++[(v,a)]))).length=w.length+1:=by rw[WE];simp
  have o:decide (((w.length+1:Nat):Int)>0)=true:=xan oZ;have I:aW false .sub (aa ((w.length+1:Nat):Int)) (aa 1)=some (aa (w.length:Int)):=by rw[j4 oZ oZ];congr 2;omega
  have J:cI (w.length+1) (aa (w.length:Int))=some w.length:=by rw[jF,xac oZ]
  have K:=amt w (v,a);have W:hC (w.length+1) none (some (aa (w.length:Int)))=some (0,w.length):=by simp[hC,lf,aa]
  have ck:c7 (aa (v:Int))=true:=rfl;have Q:b2 (out.length+1) 8=true:=xz oZ;by_cases t:a=(bm nx v).length
  .have q:((a:Int)==((bm nx v).length:Int))=true:=by simp[t]
   refine⟨(out++[v],w,met),?_,⟨⟨_,B.fin t⟩,h.len,λx=>?_,λx G=>?_⟩,?_⟩;.simp only[qO,go_sem,ah,o,I,J,K,G5,G6,g.cN k,q,ck,xal,xaA,xav,Q,W,yT (w.length<=w.length+1),amu,G4,xav]
   .rw[h.met x];simp only[List.map_append,xaw,xbc,xar,xcg];rw[or_assoc,or_comm (a:=x=v)]
   .have:=h.has x G;simp at this⊢;rcases this with h|h|h
    .exact .inl (.inl h)
    .exact .inr h
    exact .inl (.inr h)
   simp only[G7,kG];omega
  have u:a<(bm nx v).length:=oZ
  have q:((a:Int)==((bm nx v).length:Int))=false:=by
   have:¬(a:Int)=((bm nx v).length:Int):=oZ
   simp[this]
  have m:=xaa u;generalize (bm nx v)[a]=y at m;have P:=(g.jq (xad m)).2;obtain⟨c,z⟩:=p7 (l:=met) (j:=y) (by have:=h.len;omega);have E:cI met.length (aa (y:Int))=some y:=iA (by have:=h.len;omega);have a1:=Mu n aK y iB;have M:=amv w (v,a) v (a+1);have cT:kG nx (w++[(v,a+1)])+1=kG nx (w++[(v,a)]):=by simp only[G7,kG];omega
  by_cases i:hasB aK y=true/\c=false
  .obtain⟨ag,rfl⟩:=i;rw[ag]at a1;have O:¬(y∈out\/y∈(w++[(v,a)]).map (·.1)):=by
    rw[<-h.met y,z];simp
   have X:=B.push m ag P O;have cA:c7 (aa (y:Int))=true:=rfl;have a2:cz 2 (D.agg [aa (y:Int),aa 0])=true:=rfl;have R:b2 (w.length+1+1) 16=true:=eE;have N:(aE (il (w++[(v,a+1)]))).length=w.length+1:=by rw[WE];simp
   have T:=Ml z;have b3:=g.rJ y;refine⟨(out,w++[(v,a+1)]++[(y,0)],met.set y true),?_,⟨⟨_,X⟩,by simpa using h.len,λx=>?_,λx G=>?_⟩,?_⟩
   .simp only[qO,go_sem,ah,o,I,J,K,G5,G6,g.cN k,q,gP m,bl a,a1,E,eJ z,cA,M,N,xal,xaA,xav,R,G4,amw]
   .rw[tG (by have:=h.len;omega),h.met x];simp only[List.map_append,xaw,xbc,xar,xcg];constructor
    .rintro((h|h|h)|h);.exact .inl h
     .exact .inr (.inl (.inl h))
     .exact .inr (.inl (.inr h))
     exact .inr (.inr h)
    rintro(h|(h|h)|h);.exact .inl (.inl h)
    .exact .inl (.inr (.inl h))
    .exact .inl (.inr (.inr h))
    exact .inr h
   .have:=h.has x G;simp only[List.map_append,xaw,xbc,xar,xcg]at this⊢;rcases this with h|h
    .exact .inl h
    exact .inr (.inl h)
   simp only[G7 nx _ [(y,0)],kG];omega
  have Y:hQ (bm nx) (hasB aK) S.length out (w++[(v,a+1)]) U:=B.skip m λag=>by rw[<-h.met y,z];cases c with|true=>rfl|false=>exact absurd ⟨ag,rfl⟩ i
  have C:(w++[(v,a+1)]).map (·.1)=(w++[(v,a)]).map (·.1):=sZ
  refine⟨(out,w++[(v,a+1)],met),?_,⟨⟨_,Y⟩,h.len,λx=>by rw[C];exact h.met x,λx G=>by rw[C];exact h.has x G⟩,by simp only;omega⟩;cases ag:hasB aK y with|false=>rw[ag]at a1;simp only[qO,go_sem,ah,o,I,J,K,G5,G6,g.cN k,q,gP m,bl a,a1,I6,M,G4]|true=>rw[ag]at a1 i;cases c with|false=>exact absurd ⟨rfl,rfl⟩ i|true=>simp only[qO,go_sem,ah,o,I,J,K,G5,G6,g.cN k,q,gP m,bl a,a1,E,eJ z,I6,M,G4]
 have ab:met.count false<=S.length:=by rw[<-h.len];exact List.count_le_length
 have ad:met.count false*5002<=5000*5002:=xaB _ oZ;have ai:∀w:List (Nat×Nat),kG nx w<=w.length*5001:=by
  intro w
  induction w with|nil=>exact xag _|cons p r ih=>have:=g.rJ p.1;rw[kG,xal,Nat.succ_mul];omega
 have cC:=ai e;have cy:e.length*5001<=5000*5001:=xaB _ (by have:=h.small;omega);simp only;omega
end
section
variable{S:mX}{nx:mZ}(g:gk S.length nx)(n:Nat)(bq:100000000<n)(aK:lW)(iB:aK.length<=1000000000)
include g bq iB
theorem amy:∃out:lX,yN n [bx nx,Mt aK]=some (a8 out)/\(∃u,hQ (bm nx) (hasB aK) S.length out [] u)/\∀x,hasB aK x=true->x<S.length->x∈out:=by
 have A:=g.le;have o:nx.length=S.length:=g.len;have H:=p4 (f:=vb n) nx (λi (s:lX×lW)=>[bx nx,.ref [aH aK] 0,aa (S.length:Int),aa (i:Int),a8 s.1,aH s.2]) (λi s=>nG nx aK S.length (λx=>x<i/\hasB aK x=true) s.1 [] s.2) (λy=>∃(out:lX),y=(.inl [a8 out]:lZ⊕D)/\(∃u,hQ (bm nx) (hasB aK) S.length out [] u)/\∀x,hasB aK x=true->x<S.length->x∈out) ?_ ?_ n 0 ([],List.replicate S.length false) ?_ (xag _) oZ
 .obtain⟨y,ab,out,rfl,ad,ai⟩:=H;have C:(aa ((0:Nat):Int))=aa 0:=rfl;rw[C]at ab;refine⟨out,?_,ad,ai⟩;have w:fM hG (Mt aK)=some [.ref [aH aK] 0]:=jH;have E:dN (bx nx)=some (aa (S.length:Int)):=by simp[bx,o]
  have F:D.aw 1 ([]:mW)=a8 []:=rfl;simp only[yN,JM,w,go_sem,E,ht A,F,ab]
 .rintro⟨out,met⟩ h;have h:nG nx aK S.length (λx=>x<nx.length/\hasB aK x=true) out [] met:=h;refine⟨_,?_,out,rfl,h.BC,λx ab ad=>?_⟩
  .have:=yF ((nx.length:Int)<(S.length:Int));simp only[vb,go_sem,this]
  have:=h.has x ⟨by omega,ab⟩;simpa using this
 .rintro i l ⟨out,met⟩ ah h;have h:nG nx aK S.length (λx=>x<i/\hasB aK x=true) out [] met:=h;have ag:=(lV.1 ah).1;have e:=yT ((i:Int)<(S.length:Int));obtain⟨c,z⟩:=p7 (l:=met) (j:=i) (by have:=h.len;omega);have p:cI met.length (aa (i:Int))=some i:=iA (by have:=h.len;omega);have a1:=Mu n aK i iB;have k:=h.met i;rw[z]at k;have q:∀x,x<i+1->x<i\/x=i:=λx d=>by omega
  left;by_cases a:hasB aK i=true/\c=false
  .obtain⟨b,rfl⟩:=a;rw[b]at a1;have B:i∉out:=λI=>by simp[I]at k
   obtain⟨u,G⟩:=h.BC;have hO:nG nx aK S.length (λx=>x<i+1/\hasB aK x=true) out [(i,0)] (met.set i true):=by
    refine⟨⟨_,G.start b oZ B⟩,by simpa using h.len,λx=>?_,λx d=>?_⟩;.rw[tG (by have:=h.len;omega),h.met x];simp
    rcases q x d.1 with m|rfl;.have:=h.has x ⟨m,d.2⟩;simp at this;exact .inl this
    exact .inr sZ
   obtain⟨t,r,J,K⟩:=amx g n bq aK iB (aa (i:Int)) hO;have w:D.aw 2 [[aa (i:Int),aa 0]]=il [(i,0)]:=rfl;have a2:cz 2 (D.agg [aa (i:Int),aa 0])=true:=rfl;refine⟨(t,r),?_,K⟩;simp only[vb,go_sem,e,a1,p,eJ z,a2,w,J,bl i]
  refine⟨(out,met),?_,h.BC,h.len,h.met,λx d=>?_⟩;.cases b:hasB aK i with|false=>rw[b]at a1;simp only[vb,go_sem,e,a1,bl i]|true=>rw[b]at a1 a;cases c with|false=>exact absurd ⟨rfl,rfl⟩ a|true=>simp only[vb,go_sem,e,a1,p,eJ z,bl i]
  rcases q x d.1 with m|rfl;.exact h.has x ⟨m,d.2⟩
  refine .inl ?_;cases c with|false=>exact absurd ⟨d.2,rfl⟩ a|true=>simpa using k
 refine⟨⟨[],hQ.nil⟩,by simp,λx=>?_,λx d=>absurd d.1 (xaD _)⟩;rw[xbh];split<;>simp
end
def js(a b:Nat):Bool:=decide (a<=b)
def WG(a:Nat):∀l:lX,mT jI (a:Int) (ci l)=ci (mT js a l)
 |[]=>rfl
 |b::r=>by
  have e:ci (b::r)=(b:Int)::ci r:=rfl;have d:jI (a:Int) (b:Int)=js a b:=by unfold jI js;congr 1;simp
  rw[e,mT,mT,d];cases js a b with|true=>rfl|false=>rw[xab sZ,xab sZ,WG a r];rfl
def WH:∀l:lX,gv jI (ci l)=ci (gv js l)
 |[]=>rfl|a::r=>by have e:ci (a::r)=(a:Int)::ci r:=rfl;rw[e,gv,WH r,WG];rfl
def amz(l:lX):hl (ci l)=a8 l:=by simp[hl,ci,a8]
def amA{l:lX}(h:l.Nodup):(gv js l).Pairwise (·<·):=by have ab:=yx (le:=js) (by intro a b c;simp[js];omega) (by intro a b;simp[js];omega) l;have ad:(gv js l).Nodup:=(qI js l).nodup_iff.2 h;refine(ab.and ad).imp ?_;rintro a b ⟨ai,d⟩;simp[js]at ai;omega
def amB(n:Nat)(l:lX)(h:l.length<=1000000000)(ak:l≠[]):yy n [a8 l]=some [D.aC [],a8 (gv js l)]:=by have e:kn (aE (a8 l))=some (ci l):=Ms l;have a:(ci l).length<=1000000000/\ci l≠[]:=⟨by simpa[ci]using h,by cases l with|nil=>exact absurd rfl ak|cons=>simp[ci]⟩;show(af (kn (aE (a8 l))) λl=>if l.length<=1000000000/\l≠[]then some [D.aC [],hl (gv jI l)]else none)=_;rw[e,cL,xac a,WH,amz]
def WI(p q:lX):Prop:=eS (ci p) (ci q)<0
theorem amC(l:mZ):pt (l.map λs=>[a8 s])=some (l.map ci):=by induction l with|nil=>rfl|cons a r ih=>rw[xaw];show(af (kn (a.map λ(k:Nat)=>[aa (k:Int)])) λx=>af (pt (r.map λs=>[a8 s])) λl=>some (x::l))=_;rw[Ms,ih];rfl
def amD{a b:lX}(h:ci a=ci b):a=b:=by have:=congrArg (List.map Int.toNat) h;simpa[ci,List.map_map,Function.comp_def]using this
def amE(n:Nat)(l:mZ)(h:l.length<=1000000000)(j:l.Nodup)(ah:∀x∈l,x.length<=1000000000):∃i,uQ n [bx l]=some [D.aC [],bx i]/\i.Perm l/\i.Pairwise WI:=by
 have e:pt (aE (bx l))=some (l.map ci):=amC l;have c:(l.map ci).Nodup:=by rw[List.nodup_iff_pairwise_ne]at j⊢;rw[List.pairwise_map];exact j.imp λh e=>h (amD e)
 have q:(l.map ci).length<=1000000000/\(l.map ci).Nodup/\∀x∈l.map ci,x.length<=1000000000:=⟨by simpa using h,c,by intro x r;obtain⟨y,k,rfl⟩:=xaK.1 r;simpa[ci]using ah y k⟩;have p:uQ n [bx l]=some [D.aC [],mS (gv fS (l.map ci))]:=by show(af (pt (aE (bx l))) λl=>if l.length<=1000000000/\l.Nodup/\(∀x∈l,x.length<=1000000000)then some [D.aC [],mS (gv fS l)]else none)=_;rw[e,cL,xac q]
 rw[p];have d:=qI fS (l.map ci);have aj:=yx (le:=fS) Ju Qd (l.map ci);generalize gv fS (l.map ci)=z at d aj;have m:(z.map λs=>s.map Int.toNat).map ci=z:=by
  rw[List.map_map];have:∀s∈z,(ci∘λ(s:lY)=>s.map Int.toNat) s=s:=by intro s aj;obtain⟨y,k,rfl⟩:=xaK.1 (d.mem_iff.1 aj);simp[ci,List.map_map,Function.comp_def]
  rw[List.map_congr_left this,List.map_id']
 have g:mS z=bx (z.map λs=>s.map Int.toNat):=by rw[<-WC,m]
 refine⟨z.map λs=>s.map Int.toNat,?_,?_,?_⟩;.rw[g]
 .have:=d.map λ(s:lY)=>s.map Int.toNat;rw[List.map_map]at this;have o:l.map ((λ(s:lY)=>s.map Int.toNat)∘ci)=l:=by
   have:∀s∈l,((λ(s:lY)=>s.map Int.toNat)∘ci) s=s:=λs _=>by simp[ci,List.map_map,Function.comp_def]
   rw[List.map_congr_left this,List.map_id']
  rwa [o]at this
 have f:z.Nodup:=d.nodup_iff.2 c;have ai:z.Pairwise λa b=>eS a b<0:=(aj.and f).imp λ{a b} ⟨ab,ad⟩=>by
  simp only[fS,xaF]at ab;rcases Int.lt_or_eq_of_le ab with h|h
  .exact h
  exact absurd (yv h) ad
 rw[<-m,List.pairwise_map]at ai;exact ai
section
variable(n:Nat)(aK:lW)(iB:aK.length<=1000000000)
include iB
theorem amF(k:Nat)(p:lW×lX)(h:p.2.length<1000000000):vc n [aa (k:Int),.agg [aH aK],aH p.1,a8 p.2]=some [D.aC [],.agg [aH aK],aH (if hasB aK k=true then fh (k:Int) p else p).1,a8 (if hasB aK k=true then fh (k:Int) p else p).2]:=by have a1:=Mu n aK k iB;have a:=Wu n (k:Int) p h;cases ag:hasB aK k with|true=>rw[ag]at a1;simp only[vc,go_sem,a1,a]|false=>rw[ag]at a1;simp only[vc,go_sem,a1]
theorem amG(l:lX)(p:lW×lX)(h:p.2.length+l.length<1000000000)(d:l.length<n):yO n [a8 l,.agg [aH aK],aH p.1,a8 p.2]=some [D.aC [],.agg [aH aK],aH (fJ (hasB aK) l p).1,a8 (fJ (hasB aK) l p).2]:=by
 have ag:=ch (f:=DB n) l (λi (p:lW×lX)=>[a8 l,aa l.length,aa (i:Int),.agg [aH aK],aH p.1,a8 p.2]) (λr p=>(.inl [.agg [aH aK],aH (fJ (hasB aK) r p).1,a8 (fJ (hasB aK) r p).2]:lZ⊕lZ)) (λi p=>p.2.length+(l.length-i)<1000000000) ?_ ?_ n 0 p oZ oZ (xag _);.have b:(aa ((0:Nat):Int))=aa 0:=rfl;rw[b,xak]at ag;simp only[yO,go_sem,ag]
 .intro p _;simp only[DB,go_sem,yF ((l.length:Int)<l.length)];rfl
 intro i a p c ag e;have:=Mj (a:Int) p;left;refine⟨if hasB aK a=true then fh (a:Int) p else p,?_,by rw[BB],by split<;>omega⟩;simp only[DB,go_sem,yT ((i:Int)<(l.length:Int)),gP c,amF n aK iB a p oZ,bl i]
end
structure xD(nx P:mZ)(aK:lW)(N:Nat)(M:Nat->Prop)(r:Nat)(part:lX)(p:lW×lX):Prop where
 bi:rI (bm nx) (hasB aK) N (bm P) M r part p.2
 len:p.1.length=N
 met:∀x:Nat,p.1[x]?=some true↔M x\/x∈part++p.2
def xC.cN{N:Nat}{nx P:mZ}(v:xC N nx P){a:Nat}(h:a<N):ba 1 (bx P) (aa (a:Int))=some [a8 (bm P a)]:=by
 have:P[a]?=some (bm P a):=by unfold bm;rw[xaa (by rw[v.len];exact h)];rfl
 exact GX this
section
variable{N:Nat}{nx P:mZ}(g:gk N nx)(v:xC N nx P)(n:Nat)(bq:100000000<n)(aK:lW)(iB:aK.length<=1000000000)
include g v bq iB
theorem amH(o ey d:D)(C:D.aw 1 (aE d)=d){M:Nat->Prop}{r:Nat}{part:lX}{p:lW×lX}(h:xD nx P aK N M r part p): ∃(a:lX)(b:lW),aR (yP n) n [o,bx P,ey,.agg [aH aK],d,a8 part,aH p.1,a8 p.2]=some (.inl [o,bx P,ey,.agg [aH aK],d,a8 a,aH b,a8 []])/\xD nx P aK N M r a (b,[]):=by
 have Q:=g.le;have H:=rE (f:=yP n) (λ(s:lX×lW×lX)=>[o,bx P,ey,.agg [aH aK],d,a8 s.1,aH s.2.1,a8 s.2.2]) (λs=>s.2.1.count false+s.2.2.length) (λs=>xD nx P aK N M r s.1 s.2) (λy=>∃(a:lX)(b:lW),y=(.inl [o,bx P,ey,.agg [aH aK],d,a8 a,aH b,a8 []]:lZ⊕(lZ⊕(lZ⊕(lZ⊕D))))/\xD nx P aK N M r a (b,[])) ?_ n (part,p) h ?_
 .obtain⟨y,ab,a,b,rfl,ad⟩:=H;exact⟨a,b,ab,ad⟩
 .rintro⟨part,met,todo⟩ h;have h:xD nx P aK N M r part (met,todo):=h;cases todo with
  |nil=>
   right;refine⟨_,?_,part,met,rfl,h⟩;have E:decide ((0:Int)>0)=false:=dZ
   have u:((([]:lX).length:Nat):Int)=0:=rfl;simp only[yP,go_sem,u,E,C]
  |cons i t=>
   left;obtain⟨_,w,_⟩:=h.bi.ok i sZ;have L:=v.rK i;have S:met.length=N:=h.len;have T:part.length+(t.length+1)<=N:=by have:=pQ N _ h.bi.kF λx A=>(h.bi.ok x A).2.1;simpa using this
   obtain⟨new,q⟩:=xA (((bm P i).filter (hasB aK)).map λ(k:Nat)=>(k:Int)) (met,t);have l:=q.jO;simp only at l;have m:∀j∈new,j∈bm P i/\hasB aK j=true/\j<N/\¬M j/\j∉part++i::t:=λj c=>by
    obtain⟨ab,ad⟩:=q.nF j c;obtain⟨ai,G⟩:=xB.1 ad;have B:¬(M j\/j∈part++i::t):=by rw[<-h.met j];show¬met[j]?=some true;rw[show met[j]?=some false from ab];simp
    exact⟨ai,G,(g.jq ((v.mem i j).1 ai)).1,λK=>B (.inl K),λR=>B (.inr R)⟩
   have e:∀j∈bm P i,hasB aK j=true->M j\/j∈part++i::t\/j∈new:=λj c ag=>by
    have O:=(g.jq ((v.mem i j).1 c)).1;have ab:=q.all j (xB.2 ⟨c,ag⟩) (by simp only;omega);rcases(q.met j).1 ab with ad|ad
    .rcases(h.met j).1 ad with ai|ai;.exact .inl ai
     exact .inr (.inl ai)
    exact .inr (.inr ad)
   have J:=h.bi.next (λj c=>(v.mem i j).1 c) q.G2 m e
   have z:(aE (a8 (i::t))).length=t.length+1:=by rw[By];simp
   have u:decide (((t.length+1:Nat):Int)>0)=true:=xan oZ;have F:(aE (a8 (i::t)))[0]?=some [aa (i:Int)]:=by simp[a8]
   have U:c7 (aa (i:Int))=true:=rfl;have V:b2 (part.length+1) 8=true:=xz oZ;have I:=amG n aK iB (bm P i) (met,t) (by simp only;omega) oZ;refine⟨(part++[i],fJ (hasB aK) (bm P i) (met,t)),?_,⟨?_,by rw[fJ,q.len];exact h.len,λx=>?_⟩,by rw[fJ,l];simp only[xal];omega⟩
   .simp only[yP,go_sem,z,u,Mq,F,Mp,yT (1+t.length<=t.length+1),U,xal,xaA,xav,V,v.cN w,Mo,I,C]
   .rw[fJ,q.todo];exact J
   show(fJ (hasB aK) (bm P i) (met,t)).1[x]?=some true↔M x\/x∈part++[i]++(fJ (hasB aK) (bm P i) (met,t)).2;rw[fJ,q.todo,q.met x];show met[x]?=some true\/_↔_;have:=h.met x;simp only at this;rw[this,or_assoc];refine or_congr_right ?_;simp only[xar,xao];constructor
   .rintro((h|h|h)|h);.exact .inl (.inl h)
    .exact .inl (.inr (.inl h))
    .exact .inr (.inl h)
    exact .inr (.inr h)
   rintro((h|h|h)|h|h);.exact .inl (.inl h)
   .exact .inl (.inr (.inl h))
   .simp at h
   .exact .inl (.inr (.inr h))
   exact .inr h
 have ab:p.1.count false<=N:=by rw[<-h.len];exact List.count_le_length
 have ad:part.length+p.2.length<=N:=by have:=pQ N _ h.bi.kF λx A=>(h.bi.ok x A).2.1;simpa using this
 simp only;omega
end
structure WJ(nx:mZ)(aK:lW)(N:Nat)(l:lX)(k:Nat)(out:mZ)(met:lW):Prop where
 G8:lI (bm nx) (hasB aK) N l k (λx=>met[x]?=some true)
 len:met.length=N
 fL:∀p∈out,(∃r,hasB aK r=true/\r<N/\∀x,x∈p↔jV (bm nx) (hasB aK) r x)/\p.Pairwise (·<·)
 Mv:∀x:Nat,met[x]?=some true->∃p∈out,x∈p
 sub:∀p∈out,∀x∈p,met[x]?=some true
 kF:out.Nodup
 rK:out.length+k<=l.length
section
variable{N:Nat}{nx P:mZ}(g:gk N nx)(v:xC N nx P)(n:Nat)(bq:100000000<n)(aK:lW)(iB:aK.length<=1000000000)
include g v bq iB
theorem amI(l:lX)(R:G0 (bm nx) (hasB aK) l)(T:∀x∈l,hasB aK x=true/\x<N)(u:∀x,hasB aK x=true->x<N->x∈l)(cy:l.length<=N): ∃out:mZ,aR (vd n) n [a8 l,bx P,aa ((l.length:Int)-1),.agg [aH aK],bx [],aH (List.replicate N false),a8 []]=some (.inl [bx out])/\mm (bm nx) (hasB aK) N out/\out.Nodup/\out.length<=N:=by
 have cC:=g.le;have H:=rE (f:=vd n) (λ(s:Nat×mZ×lW)=>[a8 l,bx P,aa ((s.1:Int)-1),.agg [aH aK],bx s.2.1,aH s.2.2,a8 []]) (λs=>s.1) (λs=>s.1<=l.length/\WJ nx aK N l s.1 s.2.1 s.2.2) (λy=>∃out:mZ,y=(.inl [bx out]:lZ⊕D)/\mm (bm nx) (hasB aK) N out/\out.Nodup/\out.length<=N) ?_ n (l.length,[],List.replicate N false) ?_ ?_
 .obtain⟨y,ab,out,rfl,ad⟩:=H;exact⟨out,ab,ad⟩
 .rintro⟨k,out,met⟩ ⟨bX,h⟩;have bX:k<=l.length:=bX;have h:WJ nx aK N l k out met:=h;cases k with
  |zero=>
   right;refine⟨_,?_,out,rfl,⟨h.fL,λx ab ad=>?_⟩,h.kF,by have:=h.rK;omega⟩
   .have J:decide ((((0:Nat):Int)-1)>=0)=false:=dZ
    simp only[vd,go_sem,J]
   obtain⟨j,cA⟩:=xaJ.1 (u x ab ad);exact h.Mv x (h.G8.up j x (xag _) cA)
  |succ k=>
   left;have Q:k<l.length:=oZ
   have z:=xaa Q;generalize l[k]=r at z;obtain⟨F,G⟩:=T r (xad z);have ck:=h.rK;have S:=h.len;have J:((k+1:Nat):Int)-1=(k:Int):=oZ
   have X:decide ((k:Int)>=0)=true:=xan oZ;have Y:aW false .sub (aa (k:Int)) (aa 1)=some (aa ((k:Int)-1)):=j4 oZ oZ;obtain⟨c,w⟩:=p7 (l:=met) (j:=r) oZ;have E:cI met.length (aa (r:Int))=some r:=iA oZ;cases c with
   |true=>refine⟨(k,out,met),?_,⟨by simp only;omega,h.G8.skip z w,h.len,h.fL,h.Mv,h.sub,h.kF,by simp only at*;omega⟩,by simp only;omega⟩;simp only[vd,go_sem,J,X,gP z,E,eJ w,Y]
   |false=>
    have B:=Wu n (r:Int) (met,[]) sZ;have b4:fh (r:Int) (met,[])=(met.set r true,[r]):=by rw[fh,xac (by simp[w])];simp
    rw[b4]at B;have M:xD nx P aK N (λx=>met[x]?=some true) r [] (met.set r true,[r]):=⟨rI.start F G (by rw[w];simp),by simpa using S,λx=>by show(met.set r true)[x]?=some true↔_;rw[tG oZ];simp⟩
    obtain⟨part,q,cK,W⟩:=amH g v n bq aK iB (a8 l) (aa (k:Int)) (bx out) rfl M;have K:=W.bi;have A:=amg R u (λx y dc=>(g.jq dc).2) h.G8 z (by rw[w];simp) K λi j _ O=>(v.mem i j).2 O;have I:r∈part:=(A r).2 (.refl r);have U:part≠[]:=λe=>by subst e;simp at I
    have C:part.Nodup:=by simpa using K.kF
    have cT:part.length<=N:=pQ N part C λx d=>(K.ok x (by simpa using d)).2.1;have V:=amB n part oZ U;have m:∀x,x∈gv js part↔x∈part:=λx=>(qI js part).mem_iff;have o:∀x:Nat,q[x]?=some true↔met[x]?=some true\/x∈part:=λx=>by have:=W.met x;simpa using this
    have dT:c7 (a8 (gv js part))=true:=rfl;have dE:b2 (out.length+1) 24=true:=eE;have b3:D.aw 1 ([]:mW)=a8 []:=rfl;refine⟨(k,out++[gv js part],q),?_,⟨by simp only;omega,?_⟩,by simp only;omega⟩
    .simp only[vd,go_sem,J,X,gP z,E,eJ w,B,b3,cK,V,Bz,xal,xaA,xav,dE,Y]
    have L:lI (bm nx) (hasB aK) N l k (λx=>q[x]?=some true):=by
     have:=h.G8.next z A λx d=>by obtain⟨a,b,_⟩:=K.ok x (by simpa using d);exact⟨a,b⟩
     have e:(λx:Nat=>q[x]?=some true)=λx=>met[x]?=some true\/x∈part:=funext λx=>propext (o x);rw[e];exact this
    refine⟨L,W.len,?_,?_,?_,?_,by simp only[xaS,xal,xaA];omega⟩
    .intro p t;rcases xar.1 t with t|t
     .exact h.fL p t
     simp at t;subst t;exact⟨⟨r,F,G,λx=>by rw[m x];exact A x⟩,amA C⟩
    .intro x d;rcases(o x).1 d with d|d
     .obtain⟨p,ab,ad⟩:=h.Mv x d;exact⟨p,xaY _ ab,ad⟩
     exact⟨gv js part,by simp,(m x).2 d⟩
    .intro p t x d;rcases xar.1 t with t|t
     .exact(o x).2 (.inl (h.sub p t x d))
     simp at t;subst t;exact(o x).2 (.inr ((m x).1 d))
    rw[xbH];refine⟨h.kF,by simp,?_⟩;intro a b1 b Z e;simp at Z;subst Z;subst e;have:=h.sub _ b1 r ((m r).2 I);rw[w]at this;simp at this
 .refine⟨xaR _,?_,by simp,by simp,?_,by simp,by simp,by simp⟩
  .have e:(λx:Nat=>(List.replicate N false)[x]?=some true)=λ_=>False:=by
    funext x
    rw[xbh];split<;>simp
   show lI _ _ _ _ _ (λx:Nat=>(List.replicate N false)[x]?=some true);rw[e];exact lI.start
  intro x d;simp only at d;rw[xbh]at d;split at d<;>simp at d
 simp only;omega
end
structure amJ(N:Nat)(nx:mZ)(aK:lW)(out:mZ):Prop where
 WK:mm (bm nx) (hasB aK) N out
 ord:out.Pairwise WI
 len:out.length<=N
def mm.small{N:Nat}{nx:mZ}(g:gk N nx){aK:lW}{out:mZ}(h:mm (bm nx) (hasB aK) N out){p:lX}(i:p∈out):(∀x∈p,x<N/\hasB aK x=true)/\p.length<=N/\p≠[]:=by
 obtain⟨⟨r,c5,dk,f⟩,j⟩:=h.each p i;have key:∀x∈p,x<N/\hasB aK x=true:=by
  intro x d;obtain⟨ab,_⟩:=(f x).1 d;refine⟨?_,tF ab c5⟩;have c:∀a b,dz (hd (bm nx) (hasB aK)) a b->a<N->b<N:=by
   intro a b ea
   induction ea with|refl=>exact id|step h _ ih=>intro _;exact ih (g.jq h.2.2).2
  exact c r x ab dk
 refine⟨key,pQ N p (j.imp λh=>Nat.ne_of_lt h) λx d=>(key x d).1,λe=>?_⟩;have:=(f r).2 (.refl r);rw[e]at this;simp at this
section
variable{S:mX}{nx:mZ}(bk:lX)(ax:mY)(g:gk S.length nx)(n:Nat)(bq:100000000<n)(aK:lW)(iB:aK.length<=1000000000)
include g bq iB
theorem amK:∃out:mZ,DC n [dB S nx bk ax,aH aK]=some (bx out)/\amJ S.length nx aK out:=by
 have d:=g.le;obtain⟨l,t,⟨C,h⟩,u⟩:=amy g n bq aK iB;obtain⟨P,A,v⟩:=WD bk ax g;have e:l.Nodup:=by simpa using h.kF
 have a:∀x∈l,hasB aK x=true/\x<S.length:=λx f=>h.ok x (by simpa using f);have c:=pQ S.length l e λx f=>(a x f).2;obtain⟨out,i,j,w,y⟩:=amI g v n bq aK iB l h.BA a u c;obtain⟨b,s1,s2,B⟩:=amE n out oZ w λp s=>by have:=(j.small g s).2.1;omega
 refine⟨b,?_,j.perm s2,B,by rw[s2.length_eq];exact y⟩;have k:yz n [dB S nx bk ax]=some (bx P):=A;have m:D.fn (.func hG) [] [.ref [aH aK] 0]=Mt aK:=rfl;have o:aW false .sub (aa (l.length:Int)) (aa 1)=some (aa ((l.length:Int)-1)):=j4 oZ oZ;have q:D.aw 1 ([]:mW)=a8 []:=rfl;have r:bx []=a8 []:=rfl;have z:c7 (aH aK)=true:=rfl;rw[r]at i;simp only[DC,Qt,go_sem,z,m,t,k,ht d,o,q,i,s1]
end
end Go.Am
