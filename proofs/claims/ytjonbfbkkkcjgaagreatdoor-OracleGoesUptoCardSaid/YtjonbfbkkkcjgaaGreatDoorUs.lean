/- Laws, on data. No condition. -/
import Derived.Test.YtjonbfbkkkcjgaaGreatDoorTs
set_option linter.all false
set_option linter.unnecessarySimpa false
namespace Go.Am
inductive dw(E:Nat->Nat->Prop):Nat->Nat->Prop where
 |refl (a:Nat):dw E a a
 |step {a b c:Nat}:E a b->dw E b c->dw E a c
def dw.one{E:Nat->Nat->Prop}{a b:Nat}(h:E a b):dw E a b:= .step h (.refl _)
def dw.trans{E:Nat->Nat->Prop}{a b c:Nat}(h:dw E a b)(k:dw E b c):dw E a c:=by induction h with|refl=>exact k|step h _ ih=>exact .step h (ih k)
def dw.mono{E F:Nat->Nat->Prop}(c:∀a b,E a b->F a b){a b:Nat}(h:dw E a b):dw F a b:=by induction h with|refl=>exact .refl _|step h _ ih=>exact .step (c _ _ h) ih
def dw.last{E:Nat->Nat->Prop}{a b c:Nat}(h:dw E a b)(k:E b c):dw E a c:=h.trans (.one k)
def ho(nx:Nat->lX)(aI:Nat->Bool)(a b:Nat):Prop:=aI a=true/\aI b=true/\b∈nx a
def Fl(nx:Nat->lX)(aI:Nat->Bool)(l:lX)(a b:Nat):Prop:=ho nx aI a b/\a∈l/\b∈l
def Fo(nx:Nat->lX)(aI:Nat->Bool)(out:lX):Prop:=∀(f r:Nat),out[f]?=some r->∀x,dw (Fl nx aI (out.take (f+1))) x r->dw (ho nx aI) r x
structure hp(nx:Nat->lX)(aI:Nat->Bool)(n:Nat)(out:lX)(hF:List (Nat×Nat))(h4:lX):Prop where
 ke:(out++hF.map (·.1)).Nodup
 ok:∀x∈out++hF.map (·.1),aI x=true/\x<n
 kC:∀x∈out,∀y∈nx x,aI y=true->y∈out\/y∈hF.map (·.1)
 wD:∀(i u v a b:Nat),hF[i]?=some (u,a)->hF[i+1]?=some (v,b)->v∈nx u
 at_:∀(i v a:Nat),hF[i]?=some (v,a)->a<=(nx v).length/\∀(j y:Nat),j<a->(nx v)[j]?=some y->aI y=true->y∈out\/y∈hF.map (·.1)
 Ag:Fo nx aI out
 Fp:h4.length=hF.length
 g1:∀(i v a d:Nat),hF[i]?=some (v,a)->h4[i]?=some d->d<=out.length/\(∀(j y:Nat),d<=j->out[j]?=some y->dw (ho nx aI) v y)/\∀x∈out.take d,∀y∈nx x,aI y=true->y∈out.take d\/y∈(hF.take i).map (·.1)
def akp{l:lX}(h:l.Nodup){i j x:Nat}(ag:l[i]?=some x)(b:l[j]?=some x):i=j:=by
 obtain⟨ab,rfl⟩:=lV.1 ag;obtain⟨ad,ai⟩:=lV.1 b;have a:=List.pairwise_iff_getElem.1 h;rcases Nat.lt_trichotomy i j with ah|ah|ah
 .exact absurd ai.symm (a i j ab ad ah)
 .exact ah
 exact absurd ai (a j i ad ab ah)
def akq{nx:Nat->lX}{aI:Nat->Bool}:Fo nx aI []:=by intro f r h;simp at h
section
variable{nx:Nat->lX}{aI:Nat->Bool}{n:Nat}{out:lX}{hF:List (Nat×Nat)}{h4:lX}
theorem hp.nil:hp nx aI n [] [] []:=⟨by simp,by simp,by simp,by simp,by simp,akq,rfl,by simp⟩
def hp.start(h:hp nx aI n out [] h4){i:Nat}(ag:aI i=true)(q:i<n)(p:i∉out):hp nx aI n out [(i,0)] [out.length]:=by
 have o:h4=[]:=List.length_eq_zero_iff.1 (by simpa using h.Fp);refine⟨?_,?_,?_,?_,?_,h.Ag,rfl,?_⟩;.have:=h.ke;simp only[xbb,xat]at this;simp only[xav,xbb];rw[xbF];refine⟨this,by simp,?_⟩;intro a m b k;simp at k;subst k;intro e;subst e;exact p m
 .intro x c;simp at c;rcases c with c|rfl
  .exact h.ok x (by simp[c])
  exact⟨ag,q⟩
 .intro x c y g f;have:=h.kC x c y g f;simp at this;exact .inl this
 .intro j u v a b ab ad;simp at ad
 .intro j v a ab;cases j with
  |zero=>simp at ab;obtain⟨rfl,rfl⟩:=ab;exact⟨xah _,λj y l=>absurd l (xaI _)⟩
  |succ j=>simp at ab
 intro j v a d ab ad;cases j with
 |zero=>
  simp at ab ad;obtain⟨rfl,rfl⟩:=ab;subst ad;refine⟨xaQ _,λj y l g=>?_,λx c y g f=>?_⟩;.have:=(lV.1 g).1;omega
  rw[List.take_length]at c⊢;have:=h.kC x c y g f;simp at this;exact .inl this
 |succ j=>simp at ab
def hp.skip{w:List (Nat×Nat)}{v a y:Nat}(h:hp nx aI n out (w++[(v,a)]) h4)(s:(nx v)[a]?=some y)(r:aI y=true->y∈out\/y∈(w++[(v,a)]).map (·.1)):hp nx aI n out (w++[(v,a+1)]) h4:=by
 have o:(w++[(v,a+1)]).map (·.1)=(w++[(v,a)]).map (·.1):=sZ
 have f:∀(i:Nat)(u b:Nat),(w++[(v,a+1)])[i]?=some (u,b)->∃b',(w++[(v,a)])[i]?=some (u,b')/\(i<w.length->b'=b):=by
  intro i u b ag;rcases Nat.lt_trichotomy i w.length with ah|ah|ah
  .rw[xao ah]at ag⊢;exact⟨b,ag,λ_=>rfl⟩
  .subst ah;have e:(w++[(v,a)])[w.length]?=some (v,a):=sZ
   simp at ag;obtain⟨rfl,rfl⟩:=ag;exact⟨a,e,λh=>absurd h oZ⟩
  rw[xaG uZ]at ag;cases ag
 refine⟨by rw[o];exact h.ke,by rw[o];exact h.ok,by rw[o];exact h.kC,?_,?_,h.Ag,by simpa using h.Fp,?_⟩;.intro i u dC b b' ab ad;obtain⟨c,k,_⟩:=f i u b ab;obtain⟨t,p,_⟩:=f _ dC b' ad;exact h.wD i u dC c t k p
 .intro i u b ag;rw[o];rcases xbf i w.length with ah|ah
  .obtain⟨c,ab,ad⟩:=f i u b ag;rw[ad ah]at ab;exact h.at_ i u b ab
  have:i=w.length:=by have:=(lV.1 ag).1;simp at this;omega
  subst this;simp at ag;obtain⟨rfl,rfl⟩:=ag;obtain⟨g1,g2⟩:=h.at_ w.length v a sZ;have A:=(lV.1 s).1;refine⟨by omega,λj z F m g=>?_⟩;rcases xbf j a with l|l
  .exact g2 j z l m g
  have:j=a:=oZ
  subst this;rw[s]at m;cases m;exact r g
 intro i u b d ab ad;obtain⟨c,k,_⟩:=f i u b ab;obtain⟨C,D,E⟩:=h.g1 i u c d k ad;refine⟨C,D,λx B z m g=>?_⟩;have q:i<=w.length:=by have:=(lV.1 ab).1;simp at this;omega
 have:=E x B z m g;rw[xbt q]at this⊢;exact this
def hp.push{w:List (Nat×Nat)}{v a y:Nat}(h:hp nx aI n out (w++[(v,a)]) h4)(H:(nx v)[a]?=some y)(f:aI y=true)(I:y<n)(D:¬(y∈out\/y∈(w++[(v,a)]).map (·.1))):hp nx aI n out (w++[(v,a+1)]++[(y,0)]) (h4++[out.length]):=by
 have C:=xad H;have P:(w++[(v,a+1)]).map (·.1)=(w++[(v,a)]).map (·.1):=sZ
 have t:(w++[(v,a+1)]++[(y,0)]).map (λ(p:Nat×Nat)=>p.1)=(w++[(v,a)]).map (λ(p:Nat×Nat)=>p.1)++[y]:=sZ
 have K:(w++[(v,a+1)]).length=w.length+1:=sZ
 have g:∀(i:Nat)(u b:Nat),i<w.length+1->(w++[(v,a+1)]++[(y,0)])[i]?=some (u,b)->∃b',(w++[(v,a)])[i]?=some (u,b')/\(i<w.length->b'=b):=by
  intro i u b k ag;rw[xao oZ]at ag;rcases xbf i w.length with ah|ah
  .rw[xao ah]at ag⊢;exact⟨b,ag,λ_=>rfl⟩
  have:i=w.length:=oZ
  subst this;have e:(w++[(v,a)])[w.length]?=some (v,a):=sZ
  simp at ag;obtain⟨rfl,rfl⟩:=ag;exact⟨a,e,λh=>absurd h oZ⟩
 have l:∀(i u b:Nat),¬i<w.length+1->(w++[(v,a+1)]++[(y,0)])[i]?=some (u,b)->i=w.length+1/\u=y/\b=0:=by
  intro i u b k ag;have ab:=(lV.1 ag).1;have G:i=w.length+1:=by simp at ab;omega
  subst G;rw[xas oZ]at ag;simp at ag;exact⟨rfl,ag.1.symm,ag.2.symm⟩
 have s:=h.Fp;refine⟨?_,?_,?_,?_,?_,h.Ag,by simp at s⊢;omega,?_⟩
 .rw[t,<-xaL,xbF];refine⟨h.ke,by simp,?_⟩;intro p E q L;simp at L;subst L;intro e;subst e;rcases xar.1 E with E|E
  .exact D (.inl E)
  exact D (.inr E)
 .intro x m;rw[t,<-xaL]at m;rcases xar.1 m with m|m
  .exact h.ok x m
  simp at m;subst m;exact⟨f,I⟩
 .intro x m z r J;rw[t];rcases h.kC x m z r J with h|h
  .exact .inl h
  exact .inr (xaW _ h)
 .intro i u dC b b' ab ad;by_cases ag:i+1<w.length+1;.obtain⟨c,o,_⟩:=g i u b oZ ab;obtain⟨M,F,_⟩:=g _ dC b' ag ad;exact h.wD i u dC c M o F
  obtain⟨T,rfl,rfl⟩:=l _ dC b' ag ad;have:i=w.length:=oZ
  subst this;obtain⟨c,o,_⟩:=g _ u b oZ ab;simp at o;rw[<-o.1];exact C
 .intro i u b ag;rw[t];by_cases k:i<w.length+1
  .have aj:hp nx aI n out (w++[(v,a)]) h4:=h;rcases xbf i w.length with ah|ah
   .obtain⟨c,ab,ad⟩:=g i u b k ag;rw[ad ah]at ab;obtain⟨g1,g2⟩:=h.at_ i u b ab;exact⟨g1,λj z A r f=>(g2 j z A r f).imp id (xaW _)⟩
   have:i=w.length:=oZ
   subst this;rw[xao oZ]at ag;simp at ag;obtain⟨rfl,rfl⟩:=ag;obtain⟨g1,g2⟩:=h.at_ w.length v a sZ;have N:=(lV.1 H).1;refine⟨by omega,λj z A r f=>?_⟩;rcases xbf j a with B|B
   .exact(g2 j z B r f).imp id (xaW _)
   have:j=a:=oZ
   subst this;rw[H]at r;cases r;exact .inr sZ
  obtain⟨_,rfl,rfl⟩:=l _ u b k ag;exact⟨xah _,λj z A=>absurd A (xaI _)⟩
 intro i u b d ab ad;by_cases k:i<w.length+1;.obtain⟨c,o,_⟩:=g i u b k ab;rw[xao (by simp at s;omega)]at ad;obtain⟨Q,R,S⟩:=h.g1 i u c d o ad;refine⟨Q,R,λx m z r f=>?_⟩;have:=S x m z r f;rw[xaL,xbt oZ];rw[xbt oZ]at this;exact this
 obtain⟨rfl,rfl,rfl⟩:=l _ u b k ab;rw[xas (by simp at s;omega)]at ad;have O:d=out.length:=by simp at s;simp[s]at ad;exact ad.symm
 subst O;refine⟨xaQ _,λj z A r=>?_,λx m z r f=>?_⟩;.have:=(lV.1 r).1;omega
 rw[List.take_length]at m⊢;have:=h.kC x m z r f;rw[xbt oZ,xbz oZ,P];exact this
def hp.chain(h:hp nx aI n out hF h4):∀(k i u v a b:Nat),hF[i]?=some (u,a)->hF[i+k]?=some (v,b)->dw (ho nx aI) u v
 |0,i,u,v,a,b,ab,ad=>by rw[xbv,ab]at ad;cases ad;exact .refl _
 |k+1,i,u,v,a,b,ab,ad=>by have ah:=(lV.1 ad).1;have ai:hF[i+1]?=some (hF[i+1]'oZ):=xaa oZ;generalize (hF[i+1]'oZ)=p at ai;obtain⟨c,e⟩:=p;have d:=h.wD i u c a e ab ai;have ok:∀(j x z:Nat),hF[j]?=some (x,z)->aI x=true:=λj x z f=>(h.ok x (xbS _ (xaK.2 ⟨_,xad f,rfl⟩))).1;refine .step ⟨ok i u a ab,ok _ c e ai,d⟩ (hp.chain h k (i+1) c v e b ai ?_);rw[show i+1+k=i+(k+1) by omega];exact ad
def hp.fin{w:List (Nat×Nat)}{v a:Nat}(h:hp nx aI n out (w++[(v,a)]) h4)(Z:a=(nx v).length):hp nx aI n (out++[v]) w (h4.take w.length):=by
 have bU:h4.length=w.length+1:=by simpa using h.Fp
 have M:(w++[(v,a)]).map (·.1)=w.map (·.1)++[v]:=sZ
 have l:=h.ke;rw[M]at l;have L:v∉out/\v∉w.map (·.1):=by rw[<-xaL,xbF]at l;refine⟨λU=>l.2.2 v (xaW _ U) v sZ rfl,λU=>l.2.2 v (xbS _ U) v sZ rfl⟩
 have W:aI v=true:=(h.ok v (by rw[M];simp)).1;have m:∀(i u b:Nat),w[i]?=some (u,b)->(w++[(v,a)])[i]?=some (u,b):=λi u b ag=>by rw[xao (lV.1 ag).1];exact ag
 have B:(w++[(v,a)])[w.length]?=some (v,a):=sZ
 obtain⟨d,bY⟩:∃d,h4[w.length]?=some d:=⟨_,xaa oZ⟩;obtain⟨d1,d2,d3⟩:=h.g1 w.length v a d B bY;have E:∀y,y∈out\/y∈(w++[(v,a)]).map (·.1)->y∈out++[v]\/y∈w.map (·.1):=by
  intro y k;rw[M]at k;rcases k with k|k
  .exact .inl (xaW _ k)
  rcases xar.1 k with k|k;.exact .inr k
  exact .inl (xbS _ k)
 refine⟨?_,?_,?_,?_,?_,?_,by simp;omega,?_⟩
 .have:(out++(w.map (·.1)++[v])).Perm (out++[v]++w.map (·.1)):=by
   rw[xaL];exact List.Perm.append_left _ List.perm_append_comm
  exact this.nodup_iff.1 l
 .intro x g;refine h.ok x ?_;rw[M];simp only[xar,xcf]at g⊢;rcases g with(g|g)|g
  .exact .inl g
  .exact .inr (.inr g)
  exact .inr (.inl g)
 .intro x g y k t;rcases xar.1 g with g|g
  .exact E y (h.kC x g y k t)
  simp at g;subst g;obtain⟨j,F⟩:=xaJ.1 k;exact E y ((h.at_ w.length x a B).2 j y (by rw[Z];exact(lV.1 F).1) F t)
 .intro i u z b c ab ad;exact h.wD i u z b c (m _ _ _ ab) (m _ _ _ ad)
 .intro i u b ag;obtain⟨g1,g2⟩:=h.at_ i u b (m _ _ _ ag);exact⟨g1,λj y F k t=>E y (g2 j y F k t)⟩
 .intro f r H x g;rcases xbf f out.length with ah|ah
  .rw[xao ah]at H;rw[xbt oZ]at g;exact h.Ag f r H x g
  have O:f=out.length:=by have:=(lV.1 H).1;simp at this;omega
  subst O;simp at H;subst H;have T:(out++[v]).take (out.length+1)=out++[v]:=xbz sZ;rw[T]at g;have key:∀x z,dw (Fl nx aI (out++[v])) x z->(∃j,d<=j/\(out++[v])[j]?=some z)->x∈out++[v]->∃j,d<=j/\(out++[v])[j]?=some x:=by
   intro x z bX
   induction bX with
   |refl _=>intro h _;exact h
   | @step p q s C b6 ih=>
    intro cz Q;obtain⟨j,J,o⟩:=ih cz C.2.2;obtain⟨i,ag⟩:=xaJ.1 Q;rcases xbf i d with I|I
    .exfalso;have R:p∈out.take d:=by
      rw[xao oZ]at ag;rw[List.mem_take_iff_getElem];obtain⟨ab,ad⟩:=lV.1 ag;exact⟨i,by omega,ad⟩
     have D:=d3 p R q C.1.2.2 C.1.2.1;have cv:((w++[(v,a)]).take w.length)=w:=by rw[xbt (xaQ _),List.take_length]
     rw[cv]at D;have S:q∈out++[v]:=C.2.2;rcases D with D|D
     .rw[List.mem_take_iff_getElem]at D;obtain⟨X,b5,rfl⟩:=D;have K:(out++[v]).Nodup:=by
       rw[<-xaL,xbF]at l;rw[xbF];refine⟨(xbF.1 l.1).1,by simp,?_⟩;intro cU N b' G;simp at G;subst G;intro e;subst e;exact L.1 N
      have Y:(out++[v])[X]?=some out[X]:=by rw[xao oZ,xaa]
      have:=akp K Y o;omega
     rcases xar.1 S with ab|ab;.rw[xbF]at l;exact l.2.2 q ab q (xaW _ D) rfl
     simp at ab;subst ab;exact L.2 D
    exact⟨i,I,ag⟩
  have V:x∈out++[v]:=by cases g with|refl=>simp|step h _=>exact h.2.1
  obtain⟨j,J,o⟩:=key x v g ⟨out.length,d1,by simp⟩ V;rcases xbf j out.length with A|A;.rw[xao A]at o;exact d2 j x J o
  have:j=out.length:=by have:=(lV.1 o).1;simp at this;omega
  subst this;simp at o;subst o;exact .refl _
 intro i u b e ab ad;have P:=(lV.1 ab).1;rw[xaP,xac P]at ad;obtain⟨cL,cy,di⟩:=h.g1 i u b e (m _ _ _ ab) ad;refine⟨by simp;omega,λj y F k=>?_,λx g y k t=>?_⟩
 .rcases xbf j out.length with A|A;.rw[xao A]at k;exact cy j y F k
  have:j=out.length:=by have:=(lV.1 k).1;simp at this;omega
  subst this;simp at k;subst k;have:=h.chain (w.length-i) i u v b a (m _ _ _ ab) (by rw[show i+(w.length-i)=w.length by omega];exact B);exact this
 rw[xbt cL]at g⊢;have:=di x g y k t;rw[xbt oZ]at this;exact this
end
def ju(nx:Nat->lX)(aI:Nat->Bool)(a b:Nat):Prop:=dw (ho nx aI) a b/\dw (ho nx aI) b a
def ju.refl{nx:Nat->lX}{aI:Nat->Bool}(a:Nat):ju nx aI a a:=⟨.refl _,.refl _⟩
def ju.symm{nx:Nat->lX}{aI:Nat->Bool}{a b:Nat}(h:ju nx aI a b):ju nx aI b a:=⟨h.2,h.1⟩
def ju.trans{nx:Nat->lX}{aI:Nat->Bool}{a b c:Nat}(h:ju nx aI a b)(k:ju nx aI b c):ju nx aI a c:=⟨h.1.trans k.1,k.2.trans h.2⟩
def UE(nx:Nat->lX)(aI:Nat->Bool)(M:Nat->Prop)(a b:Nat):Prop:=ho nx aI a b/\¬M a/\¬M b
structure qV(nx:Nat->lX)(aI:Nat->Bool)(n:Nat)(prev:Nat->lX)(M:Nat->Prop)(r:Nat)(part todo:lX):Prop where
 ke:(part++todo).Nodup
 ok:∀x∈part++todo,aI x=true/\x<n/\¬M x
 to:∀x∈part++todo,dw (UE nx aI M) x r
 has:r∈part++todo
 cl:∀x∈part,∀j∈prev x,aI j=true->M j\/j∈part++todo
section
variable{nx:Nat->lX}{aI:Nat->Bool}{n:Nat}{prev:Nat->lX}{M:Nat->Prop}{r:Nat}
def qV.start(ag:aI r=true)(b:r<n)(a:¬M r):qV nx aI n prev M r [] [r]:=⟨by simp,by simp;exact⟨ag,b,a⟩,by simp;exact .refl _,by simp,by simp⟩
def qV.next{part todo new:lX}{i:Nat}(h:qV nx aI n prev M r part (i::todo))(q:∀j∈prev i,i∈nx j) (k:new.Nodup) (ab:∀j∈new,j∈prev i/\aI j=true/\j<n/\¬M j/\j∉part++i::todo) (ad:∀j∈prev i,aI j=true->M j\/j∈part++i::todo\/j∈new):qV nx aI n prev M r (part++[i]) (todo++new):=by
 have e:part++[i]++(todo++new)=(part++i::todo)++new:=sZ
 have f:i∈part++i::todo:=sZ
 obtain⟨i1,i2,i3⟩:=h.ok i f;refine⟨?_,?_,?_,?_,?_⟩;.rw[e,xbF];refine⟨h.ke,k,?_⟩;intro a m b o eb;subst eb;exact(ab a o).2.2.2.2 m
 .intro x d;rw[e]at d;rcases xar.1 d with d|d
  .exact h.ok x d
  obtain⟨_,a,b,c,_⟩:=ab x d;exact⟨a,b,c⟩
 .intro x d;rw[e]at d;rcases xar.1 d with d|d
  .exact h.to x d
  obtain⟨p,a,b,c,_⟩:=ab x d;exact .step ⟨⟨a,i1,q x p⟩,c,i3⟩ (h.to i f)
 .rw[e];exact xaW _ h.has
 intro x d j l g;rw[e];rcases xar.1 d with d|d
 .rcases h.cl x d j l g with h|h;.exact .inl h
  exact .inr (xaW _ h)
 simp at d;subst d;rcases ad j l g with h|h|h
 .exact .inl h
 .exact .inr (xaW _ h)
 exact .inr (xbS _ h)
structure k5(nx:Nat->lX)(aI:Nat->Bool)(n:Nat)(l:lX)(k:Nat)(M:Nat->Prop):Prop where
 ok:∀x,M x->aI x=true/\x<n
 cl:∀x y,M x->ju nx aI x y->M y
 up:∀(j x:Nat),k<=j->l[j]?=some x->M x
def Ah{a b:Nat}(h:dw (ho nx aI) a b)(c:aI a=true):aI b=true:=by induction h with|refl=>exact c|step h _ ih=>exact ih h.2.1
def akr{l:lX}{k:Nat}{part:lX}(C:Fo nx aI l)(m:∀x,aI x=true->x<n->x∈l)(d:∀x y,y∈nx x->y<n)(L:k5 nx aI n l (k+1) M)(U:l[k]?=some r)(I:¬M r)(f:qV nx aI n prev M r part [])(T:∀i j,j<n->i∈nx j->j∈prev i)(x:Nat):x∈part↔ju nx aI r x:=by
 have Q:=f;rw[show part=part++[] by simp];constructor
 .intro P;have O:=f.to x P;obtain⟨x1,df,W⟩:=f.ok x P;refine⟨?_,O.mono λa b h=>h.1⟩;have B:dw (Fl nx aI (l.take (k+1))) x r:=by
   have o:∀a,aI a=true->a<n->¬M a->a∈l.take (k+1):=by
    intro a R S z;obtain⟨j,N⟩:=xaJ.1 (m a R S);rw[List.mem_take_iff_getElem];obtain⟨ab,ad⟩:=lV.1 N;rcases xbf j (k+1)with h|h
    .exact⟨j,by omega,ad⟩
    exact absurd (L.up j a h N) z
   have e:∀a b,dw (UE nx aI M) a b->a<n->dw (Fl nx aI (l.take (k+1))) a b:=by
    intro a b eb
    induction eb with
    |refl=>intro _;exact .refl _
    | @step p q s c _ ih=>intro g;have w:=d p q c.1.2.2;exact .step ⟨c.1,o p c.1.1 g c.2.1,o q c.1.2.1 w c.2.2⟩ (ih w)
   exact e x r O df
  exact C k r U x B
 rintro⟨ab,ad⟩;have D:∀y,ju nx aI r y->¬M y:=λy V A=>I (L.cl y r A V.symm);have J:r<n:=(f.ok r f.has).2.1;have e:∀a b,dw (ho nx aI) a b->a<n->b∈part++[]->dw (ho nx aI) r a->dw (ho nx aI) b r->a∈part++[]:=by
  intro a b eb
  induction eb with
  |refl=>intro _ h _ _;exact h
  | @step p q s c H ih=>
   intro g aj t u;have G:=d p q c.2.2;have w:=ih G aj (t.last c) u;have F:q∈part:=by simpa using w
   have E:dw (ho nx aI) p r:=(dw.step c H).trans u;rcases f.cl q F p (T q p g c.2.2) c.1 with h|h
   .exact absurd h (D p ⟨t,E⟩)
   exact h
 have K:x<n:=by
  cases ab with
  |refl=>exact J
  |step h aj=>
   have:∀a b,dw (ho nx aI) a b->a<n->b<n:=by
    intro a b eb
    induction eb with|refl=>exact id|step h _ ih=>intro _;exact ih (d _ _ h.2.2)
   exact this _ _ aj (d _ _ h.2.2)
 exact e x r ad K f.has ab (.refl _)
def k5.next{l:lX}{k:Nat}{part:lX}(b:k5 nx aI n l (k+1) M)(f:l[k]?=some r)(a:∀x,x∈part↔ju nx aI r x)(d:∀x∈part,aI x=true/\x<n):k5 nx aI n l k (λx=>M x\/x∈part):=by
 refine⟨?_,?_,?_⟩
 .rintro x (h|h);.exact b.ok x h
  exact d x h
 .rintro x y (h|h) aj;.exact .inl (b.cl x y h aj)
  exact .inr ((a y).2 (((a x).1 h).trans aj))
 intro j x c e;rcases Nat.eq_or_lt_of_le c with rfl|c
 .rw[f]at e;cases e;exact .inr ((a r).2 (.refl r))
 exact .inl (b.up j x c e)
def k5.skip{l:lX}{k:Nat}(a:k5 nx aI n l (k+1) M)(d:l[k]?=some r)(h:M r):k5 nx aI n l k M:=⟨a.ok,a.cl,λj x b c=>by
  rcases Nat.eq_or_lt_of_le b with rfl|b;.rw[d]at c;cases c;exact h
  exact a.up j x b c⟩
def k5.start{l:lX}:k5 nx aI n l l.length (λ_=>False):=⟨λx h=>h.elim,λx y h=>h.elim,λj x b a=>absurd (lV.1 a).1 oZ⟩
end
def UF{i:Type}{R:i->i->Prop}(ag:∀x,¬R x x)(j:∀x y z,R x y->R y z->R x z):∀{l m:List i},l.Pairwise R->m.Pairwise R->(∀x,x∈l↔x∈m)->l=m
 |[],[],_,_,_=>rfl|[],b::s,_,_,h=>by have:=(h b).2 sZ;simp at this|a::r,[],_,_,h=>by have:=(h a).1 sZ;simp at this
 |a::r,b::s,ab,ad,h=>by
  rw[List.pairwise_cons]at ab ad;have eb:a=b:=by
   have f:=(h a).1 sZ;have g:=(h b).2 sZ;rcases xan.1 f with e|f
   .exact e
   rcases xan.1 g with e|g;.exact e.symm
   exact absurd (j _ _ _ (ab.1 b g) (ad.1 a f)) (ag a)
  subst eb;rw[UF ag j ab.2 ad.2 λx=>?_];constructor
  .intro d;rcases xan.1 ((h x).1 (xcn _ d))with e|c
   .subst e;exact absurd (ab.1 x d) (ag x)
   exact c
  intro d;rcases xan.1 ((h x).2 (xcn _ d))with e|c
  .subst e;exact absurd (ad.1 x d) (ag x)
  exact c
structure lI(nx:Nat->lX)(aI:Nat->Bool)(n:Nat)(out:mZ):Prop where
 each:∀p∈out,(∃r,aI r=true/\r<n/\∀x,x∈p↔ju nx aI r x)/\p.Pairwise (·<·)
 all:∀x,aI x=true->x<n->∃p∈out,x∈p
def lI.mem{nx:Nat->lX}{aI:Nat->Bool}{n:Nat}{l m:mZ}(h:lI nx aI n l)(k:lI nx aI n m){p:lX}(e:p∈l):p∈m:=by
 obtain⟨⟨r,c7,dm,f⟩,g⟩:=h.each p e;obtain⟨q,c,b⟩:=k.all r c7 dm;obtain⟨⟨s,s1,s2,d⟩,i⟩:=k.each q c;have a:=(d r).1 b;have:p=q:=UF (R:=(·<·)) (λx=>xbZ x) (λx y z=>xcm) g i λx=>by rw[f x,d x];exact⟨λh=>a.trans h,λh=>a.symm.trans h⟩
 rw[this];exact c
def lI.perm{nx:Nat->lX}{aI:Nat->Bool}{n:Nat}{l m:mZ}(h:lI nx aI n l)(b:m.Perm l):lI nx aI n m:=⟨λp c=>h.each p (b.mem_iff.1 c),λx ab ad=>by obtain⟨p,a,d⟩:=h.all x ab ad;exact⟨p,b.mem_iff.2 a,d⟩⟩
def iR(E:Nat->Nat->Prop)(a b:Nat):Prop:=∃c,E a c/\dw E c b
def iR.rc{E:Nat->Nat->Prop}{a b:Nat}(h:iR E a b):dw E a b:=by obtain⟨c,ab,ad⟩:=h;exact .step ab ad
def dw.cE{E:Nat->Nat->Prop}{a b:Nat}(h:dw E a b):a=b\/iR E a b:=by cases h with|refl=>exact .inl rfl|step ab ad=>exact .inr ⟨_,ab,ad⟩
def dw.snoc{E:Nat->Nat->Prop}{a b c:Nat}(h:dw E a b)(k:E b c):iR E a c:=by cases h with|refl=>exact⟨c,k,.refl _⟩|step ab ad=>exact⟨_,ab,ad.last k⟩
structure sA(E:Nat->Nat->Prop)(dt V:Nat->Prop)(todo:lX):Prop where
 snd:∀x,V x->∃s,dt s/\iR E s x
 tod:∀x∈todo,dt x\/V x
 cl:∀x,dt x\/V x->x∉todo->∀y,E x y->V y
def sA.start{E:Nat->Nat->Prop}{dt:Nat->Prop}{todo:lX}(h:∀x,x∈todo↔dt x):sA E dt (λ_=>False) todo:=⟨λx h=>h.elim,λx a=> .inl ((h x).1 a),λx a b=>absurd ((h x).2 (a.elim id False.elim)) b⟩
def sA.next{E:Nat->Nat->Prop}{dt V g:Nat->Prop}{i:Nat}{todo new:lX}(h:sA E dt V (i::todo))(c:∀x,g x↔V x\/x∈new)(b:∀x∈new,E i x)(d:∀y,E i y->g y):sA E dt g (todo++new):=by
 refine⟨?_,?_,?_⟩
 .intro x a;rcases(c x).1 a with a|a
  .exact h.snd x a
  rcases h.tod i (by simp)with aj|aj;.exact⟨i,aj,x,b x a,.refl _⟩
  obtain⟨s,ab,ad⟩:=h.snd i aj;exact⟨s,ab,ad.rc.snoc (b x a)⟩
 .intro x a;rcases xar.1 a with a|a
  .exact(h.tod x (by simp[a])).imp id λh=>(c x).2 (.inl h)
  exact .inr ((c x).2 (.inr a))
 intro x a k y l;rw[xar,not_or]at k;by_cases f:x=i;.subst f;exact d y l
 refine(c y).2 (.inl (h.cl x ?_ ?_ y l))
 .rcases a with a|a;.exact .inl a
  rcases(c x).1 a with a|a;.exact .inr a
  exact absurd a k.2
 intro j;rcases xan.1 j with e|j
 .exact f e
 exact k.1 j
def sA.done{E:Nat->Nat->Prop}{dt V:Nat->Prop}(h:sA E dt V [])(x:Nat):V x↔∃s,dt s/\iR E s x:=by
 refine⟨h.snd x,?_⟩;rintro⟨s,aj,c,ab,ad⟩;have f:=h.cl s (.inl aj) sZ c ab;have d:∀a b,dw E a b->V a->V b:=by
  intro a b eb
  induction eb with|refl=>exact id|step ai _ ih=>intro e;exact ih (h.cl _ (.inr e) sZ _ ai)
 exact d c x ad f
def iS{l:lW}{j:Nat}{b:Bool}(h:l[j]?=some b):(aF (bf l))[j]?=some [aD b]:=by simp[bf,h]
def aks(l:lW)(j:Nat)(d:D)(c:Bool):D.aw 1 ((aF (bf l)).set j (er [d] 0 [aD c]))=bf (l.set j c):=by have e:er [d] 0 [aD c]=[aD c]:=rfl;rw[e];simp[bf,List.map_set]
attribute [go_sem] aks
def n8{l:lW}{j:Nat}(h:j<l.length):cS l.length (aa (j:Int))=some j:=by rw[jW,xac h]
def sB{j:Nat}{l:lW}(h:j<l.length):∃b,l[j]?=some b:=⟨_,xaa h⟩
def akt(N:Nat):D.aw 1 (List.replicate N [aD false])=bf (List.replicate N false):=by simp[bf]
attribute [go_sem] akt
def aku{N k:Nat}(h:N<=5000)(a:k<=100):fm k (aa (N:Int)) (aa (N:Int))=some N:=by
 unfold fm aa;have:(k:Int)*(N:Int)<=281474976710656:=by
  have ab:k*N<=100*5000:=Nat.mul_le_mul a h;have ad:((k*N:Nat):Int)<=281474976710656:=oZ
  simpa using ad
 have c:0<=(N:Int)/\(N:Int)<=(N:Int)/\(k:Int)*(N:Int)<=281474976710656/\(N:Int)<=9223372036854775807:=⟨by omega,by omega,this,by omega⟩;simp only[xac c,Int.toNat_natCast]
def po{N:Nat}(h:N<=5000):fm 1 (aa (N:Int)) (aa (N:Int))=some N:=aku h oZ
def Ai{k:Nat}(h:k<=1000000000):bZ k 8=true:=eB
def fI(i:Int)(p:lW×lX):lW×lX:=if 0<=i/\p.1[i.toNat]?=some false then(p.1.set i.toNat true,p.2++[i.toNat])else p
def UG(n:Nat)(i:Int)(p:lW×lX)(h:p.2.length<1000000000):nC n [aa i,bf p.1,bk p.2]=some [D.az [],bf (fI i p).1,bk (fI i p).2]:=by
 obtain⟨met,todo⟩:=p;have f:bZ (todo.length+1) 8=true:=Ai (by simp only at h;omega);by_cases ak:0<=i
 .obtain⟨k,rfl⟩:∃k:Nat,i=(k:Int):=⟨i.toNat,by omega⟩;have a:=yT ((k:Int)>=0);by_cases ah:k<met.length
  .obtain⟨b,d⟩:=sB ah;have c:=yT ((k:Int)<(met.length:Int));cases b with
   |true=>
    have e:fI (k:Int) (met,todo)=(met,todo):=by rw[fI,xab];simp[d]
    rw[e];simp only[nC,go_sem,a,c,n8 ah,iS d]
   |false=>
    have e:fI (k:Int) (met,todo)=(met.set k true,todo++[k]):=by rw[fI,xac (by simp[d])];simp
    rw[e];simp only[nC,go_sem,a,c,n8 ah,iS d,xal,xaA,xaw,f]
  have c:=yF ((k:Int)<(met.length:Int));have e:fI (k:Int) (met,todo)=(met,todo):=by rw[fI,xab];simp[show met.length<=k by omega]
  rw[e];simp only[nC,go_sem,a,c]
 have a:=yF (i>=0);have e:fI i (met,todo)=(met,todo):=by rw[fI,xab oZ]
 rw[e];simp only[nC,go_sem,a]
def UH(i:Int)(p:lW×lX):(fI i p).2.length<=p.2.length+1:=by unfold fI;split<;>simp
def n9(l:lY)(p:lW×lX):lW×lX:=l.foldl (λp i=>fI i p) p
structure Kk(l:lY)(p q:lW×lX)(new:lX):Prop where
 len:q.1.length=p.1.length
 todo:q.2=p.2++new
 met:∀x,q.1[x]?=some true↔p.1[x]?=some true\/x∈new
 Fq:new.Nodup
 oa:∀x∈new,p.1[x]?=some false/\(x:Int)∈l
 all:∀x:Nat,(x:Int)∈l->x<p.1.length->q.1[x]?=some true
 jG:q.1.count false+q.2.length=p.1.count false+p.2.length
def sC{l:lW}{k x:Nat}(a:k<l.length):(l.set k true)[x]?=some true↔l[x]?=some true\/x=k:=by
 by_cases h:x=k;.subst h;simp[a]
 rw[List.getElem?_set_ne (xcc h)];simp[h]
def Kl{l:lW}{k:Nat}(a:l[k]?=some false):(l.set k true).count false+1=l.count false:=by obtain⟨ab,ad⟩:=lV.1 a;have b:0<l.count false:=List.count_pos_iff.2 (xad a);rw[List.count_set ab,ad];simp;omega
def Aj:∀(l:lY)(p:lW×lX),∃new,Kk l p (n9 l p) new
 |[],p=>⟨[],rfl,by simp[n9],by simp[n9],.nil,by simp,by simp,rfl⟩
 |a::r,p=>by
  obtain⟨new,h⟩:=Aj r (fI a p);have i:n9 (a::r) p=n9 r (fI a p):=rfl;rw[i];by_cases f:0<=a/\p.1[a.toNat]?=some false
  .have e:fI a p=(p.1.set a.toNat true,p.2++[a.toNat]):=xac f;rw[e]at h⊢;have g:=(lV.1 f.2).1;have d:a.toNat∉new:=by
    intro i;have:=(h.oa _ i).1;simp[g]at this
   refine⟨a.toNat::new,by rw[h.len];simp,by rw[h.todo];simp,?_,List.nodup_cons.2 ⟨d,h.Fq⟩,?_,?_,?_⟩;.intro x;rw[h.met x];show(p.1.set a.toNat true)[x]?=some true\/_↔_;rw[sC g,xan,or_assoc]
   .intro x c;rcases xan.1 c with rfl|c
    .exact⟨f.2,by rw[show((a.toNat:Nat):Int)=a by omega];simp⟩
    obtain⟨ab,ad⟩:=h.oa x c;have:x≠a.toNat:=λe=>d (e▸c);have ab:(p.1.set a.toNat true)[x]?=some false:=ab;rw[List.getElem?_set_ne (xcc this)]at ab;exact⟨ab,xcn _ ad⟩
   .intro x c ah;rcases xan.1 c with c|c
    .have:x=a.toNat:=oZ
     rw[h.met x];exact .inl ((sC g).2 (.inr this))
    exact h.all x c (by simpa using ah)
   have ab:=h.jG;have ad:=Kl f.2;simp only[xaR,xal,xaA]at ab;omega
  have e:fI a p=p:=xab f;rw[e]at h⊢;refine⟨new,h.len,h.todo,h.met,h.Fq,λx c=>⟨(h.oa x c).1,xcn _ (h.oa x c).2⟩,?_,h.jG⟩;intro x c ah;rcases xan.1 c with c|c
  .rw[h.met x];refine .inl ?_;obtain⟨b,j⟩:=sB ah;cases b with|true=>exact j|false=>exact absurd ⟨by omega,by rw[<-c];simpa using j⟩ f
  exact h.all x c ah
structure fJ(N:Nat)(nx:mZ):Prop where
 len:nx.length=N
 le:N<=5000
 row:∀l∈nx,l.length<=5000
 lt:∀l∈nx,∀k∈l,k<N
def bJ(nx:mZ)(a:Nat):lX:=(nx[a]?).getD []
def gw(S:mX)(nx:mZ)(a:lX)(b:mY):D:= .agg [b2 S,bW nx,bk a,c6 b]
theorem akv{S:mX}{nx:mZ}{a:lX}{b:mY}:D.agg [b2 S,bW nx,bk a,c6 b]=gw S nx a b:=rfl
attribute [go_sem] akv
theorem akw{S:mX}{nx:mZ}{a:lX}{b:mY}:dB (gw S nx a b)=[b2 S,bW nx,bk a,c6 b]:=rfl
attribute [go_sem] akw
theorem akx{S:mX}{nx:mZ}{a:lX}{b:mY}:cw 4 (gw S nx a b)=true:=rfl
theorem aky{S:mX}{nx:mZ}{a:lX}{b:mY}:ae (gw S nx a b) 0=b2 S:=rfl
theorem akz{S:mX}{nx:mZ}{a:lX}{b:mY}:ae (gw S nx a b) 1=bW nx:=rfl
theorem akA{S:mX}{nx:mZ}{a:lX}{b:mY}:ae (gw S nx a b) 2=bk a:=rfl
theorem akB{S:mX}{nx:mZ}{a:lX}{b:mY}:ae (gw S nx a b) 3=c6 b:=rfl
attribute [go_sem] akx aky akz akA akB
section
variable{N:Nat}{nx:mZ}(g:fJ N nx)
include g
theorem fJ.c0{a:Nat}(h:a<N):a8 1 (bW nx) (aa (a:Int))=some [bk (bJ nx a)]:=by
 have:nx[a]?=some (bJ nx a):=by unfold bJ;rw[xaa (by rw[g.len];exact h)];rfl
 exact Fj this
theorem fJ.UI{a:Nat}(h:a<N):bJ nx a∈nx:=by
 have b:a<nx.length:=by rw[g.len];exact h
 unfold bJ;rw[xaa b];exact xaX _
theorem fJ.k6{a b:Nat}(h:b∈bJ nx a):a<N/\b<N:=by
 rcases xbf a N with c|c;.exact⟨c,g.lt _ (g.UI c) b h⟩
 unfold bJ at h;rw[xaG (by rw[g.len];exact c)]at h;simp at h
theorem fJ.Ak(a:Nat):(bJ nx a).length<=5000:=by
 rcases xbf a N with b|b;.exact g.row _ (g.UI b)
 unfold bJ;rw[xaG (by rw[g.len];exact b)];simp
end
def Km(nx:mZ)(a b:Nat):Prop:=b∈bJ nx a
structure lJ(E:Nat->Nat->Prop)(dt:Nat->Prop)(N:Nat)(p:lW×lX):Prop where
 len:p.1.length=N
 snd:∀x,p.1[x]?=some true->∃s,dt s/\dw E s x
 Kn:∀s,dt s->p.1[s]?=some true
 td:∀x∈p.2,p.1[x]?=some true
 cl:∀x,p.1[x]?=some true->x∉p.2->∀y,E x y->p.1[y]?=some true
def lJ.done{E:Nat->Nat->Prop}{dt:Nat->Prop}{N:Nat}{p:lW×lX}(h:lJ E dt N p)(ak:p.2=[])(x:Nat):p.1[x]?=some true↔∃s,dt s/\dw E s x:=by
 refine⟨h.snd x,?_⟩;rintro⟨s,aj,e⟩;have c:∀a b,dw E a b->p.1[a]?=some true->p.1[b]?=some true:=by
  intro a b eb
  induction eb with|refl=>exact id|step ab _ ih=>intro d;exact ih (h.cl _ d (by rw[ak];simp) _ ab)
 exact c s x e (h.Kn s aj)
def lJ.start{nx:mZ}{N:Nat}(l:lY):lJ (Km nx) (λs=>(s:Int)∈l/\s<N) N (n9 l (List.replicate N false,[])):=by
 obtain⟨new,h⟩:=Aj l (List.replicate N false,[]);have ak:∀x:Nat,(List.replicate N false)[x]?≠some true:=by intro x a;rw[xbh]at a;split at a<;>simp at a
 have b:∀x:Nat,(n9 l (List.replicate N false,[])).1[x]?=some true↔x∈new:=λx=>by rw[h.met x];exact⟨λh=>h.resolve_left (ak x),.inr⟩
 have e:∀x∈new,(x:Int)∈l/\x<N:=λx a=>⟨(h.oa x a).2,by simpa using(lV.1 (h.oa x a).1).1⟩;have c:=h.todo;simp only[xaM]at c;refine⟨by rw[h.len];simp,λx a=>⟨x,e x ((b x).1 a),.refl _⟩,λs aj=>h.all s aj.1 (by simpa using aj.2),λx a=>(b x).2 (c▸a),λx a d=>absurd (c▸(b x).1 a) d⟩
def lJ.next{nx:mZ}{N:Nat}(g:fJ N nx){dt:Nat->Prop}{met:lW}{t:lX}{a:Nat}(h:lJ (Km nx) dt N (met,t++[a])):lJ (Km nx) dt N (n9 ((bJ nx a).map λ(k:Nat)=>(k:Int)) (met,t)):=by
 obtain⟨new,q⟩:=Aj ((bJ nx a).map λ(k:Nat)=>(k:Int)) (met,t);have d:∀y,((y:Nat):Int)∈(bJ nx a).map (λ(k:Nat)=>(k:Int))↔y∈bJ nx a:=by
  intro y;simp only[xaK];exact⟨λ⟨k,ab,ad⟩=>by
                 have:k=y:=oZ
                 exact this▸ab,λh=>⟨y,h,rfl⟩⟩
 have i:=h.td a sZ;refine⟨by rw[q.len];exact h.len,?_,λs aj=>(q.met s).2 (.inl (h.Kn s aj)),?_,?_⟩
 .intro x b;rcases(q.met x).1 b with b|b
  .exact h.snd x b
  obtain⟨s,ab,ad⟩:=h.snd a i;exact⟨s,ab,ad.last ((d x).1 (q.oa x b).2)⟩
 .intro x b;rw[q.todo]at b;rcases xar.1 b with b|b
  .exact(q.met x).2 (.inl (h.td x (by simp at b⊢;exact .inl b)))
  exact(q.met x).2 (.inr b)
 intro x b f y j;rw[q.todo,xar,not_or]at f;by_cases e:x=a;.subst e;exact q.all y ((d y).2 j) (by have:=(g.k6 j).2;have:=h.len;simp only at this⊢;omega)
 refine(q.met y).2 (.inl (h.cl x ?_ ?_ y j));.exact((q.met x).1 b).resolve_right f.2
 intro c;rcases xar.1 c with c|c
 .exact f.1 c
 simp at c;exact e c
section
variable{S:mX}{nx:mZ}(dg:lX)(bl:mY)(g:fJ S.length nx)(n:Nat)(bw:10000000<n)
include g bw
end
def hasB(aI:lW)(k:Nat):Bool:=(aI[k]?).getD false
def lK{aI:lW}{k:Nat}:hasB aI k=true↔aI[k]?=some true:=by unfold hasB;cases aI[k]? with|none=>simp|some b=>simp
def hG(h:Nat->Bool)(l:lX)(p:lW×lX):lW×lX:=n9 ((l.filter h).map λ(k:Nat)=>(k:Int)) p
def Ko(h:Nat->Bool)(k:Nat)(r:lX)(p:lW×lX):hG h (k::r) p=hG h r (if h k=true then fI (k:Int) p else p):=by
 unfold hG;by_cases a:h k=true;.rw[List.filter_cons_of_pos a,xac a];rfl
 rw[List.filter_cons_of_neg a,xab a]
def akC(i:Int)(p:lW×lX):(fI i p).1.length=p.1.length:=by unfold fI;split<;>simp
def Ft{l:lX}{h:Nat->Bool}{y:Nat}:((y:Nat):Int)∈(l.filter h).map (λ(k:Nat)=>(k:Int))↔y∈l/\h y=true:=by
 simp only[xaK,xbL];exact⟨λ⟨k,ab,ad⟩=>by
                have:k=y:=oZ
                exact this▸ab,λh=>⟨y,h,rfl⟩⟩
def UJ{i:Nat}{t:lX}:D.aw 1 (((aF (bk (i::t))).drop 1).take t.length)=bk t:=by have:(t.map λ(k:Nat)=>[aa (k:Int)]).take t.length=t.map λ(k:Nat)=>[aa (k:Int)]:=xbz sZ;simp[bk,this]
def UK{k:Nat}:h5 (k+1) (some (aa 1)) none=some (1,k):=by have:=Jd (n:=k+1) (i:=1) oZ;simpa using this
def UL{k:Nat}:cS (k+1) (aa 0)=some 0:=Eu
section
variable{S:mX}{nx:mZ}(dg:lX)(bl:mY)(g:fJ S.length nx)(n:Nat)(bw:10000000<n)
include g bw
theorem akD:zw n [gw S nx dg bl]=some (bf (List.replicate S.length true)):=by
 have a:=g.le;have ag:=cd (f:=DS n) (List.replicate S.length ()) (λi (_:Unit)=>[aa (i:Int),bf (List.replicate i true++List.replicate (S.length-i) false)]) (λ_ _=>(.inl [bf (List.replicate S.length true)]:lZ⊕D)) (λ_ _=>True) ?_ ?_ n 0 () trivial uZ (xah _)
 .have c:(aa ((0:Nat):Int))=aa 0:=rfl;simp only[c,List.replicate_zero,xaM,Nat.sub_zero]at ag;simp only[zw,P2,go_sem,po a,ag]
 .intro _ _;simp only[xbC,DS,go_sem,xbU,List.replicate_zero,xat,yF ((S.length:Int)<S.length)]
 intro i _ _ _ ag _;simp only[xbC]at ag;left;refine⟨(),?_,rfl,trivial⟩;have ah:(List.replicate i true++List.replicate (S.length-i) false).length=S.length:=uZ
 have d:(List.replicate i true++List.replicate (S.length-i) false)[i]?=some false:=by rw[xas sZ,xbC,xbU,xbh,xac oZ]
 have aj:(List.replicate i true++List.replicate (S.length-i) false).set i true=List.replicate (i+1) true++List.replicate (S.length-(i+1)) false:=by obtain⟨k,e⟩:∃k,S.length-i=k+1:=⟨S.length-i-1,by omega⟩;rw[e,show S.length-(i+1)=k by omega,xct,List.set_append_right _ _ sZ,List.replicate_succ'];simp
 have b:cS S.length (aa (i:Int))=some i:=oE ag;simp only[DS,go_sem,ah,yT ((i:Int)<(S.length:Int)),b,iS d,aj,bu i]
theorem UM(aI:lW)(j:aI.length<=1000000000):sc n [gw S nx dg bl,bf aI]=some (bf ((List.range S.length).map (hasB aI))):=by
 have c:=g.le;have ag:=cd (f:=zv n) (List.replicate S.length ()) (λi (_:Unit)=>[bf aI,aa (i:Int),bf ((List.range i).map (hasB aI)++List.replicate (S.length-i) false)]) (λ_ _=>(.inl [bf ((List.range S.length).map (hasB aI))]:lZ⊕D)) (λ_ _=>True) ?_ ?_ n 0 () trivial uZ (xah _)
 .have e:(aa ((0:Nat):Int))=aa 0:=rfl;simp only[e,List.range_zero,xbb,xaM,Nat.sub_zero]at ag;simp only[sc,PZ,go_sem,po c,ag]
 .intro _ _;simp only[xbC,zv,go_sem,xaT,xbd,xbU,List.replicate_zero,xat,yF ((S.length:Int)<S.length)]
 intro i _ _ _ ag _;simp only[xbC]at ag;left;refine⟨(),?_,rfl,trivial⟩;have ah:((List.range i).map (hasB aI)++List.replicate (S.length-i) false).length=S.length:=uZ
 have d:((List.range i).map (hasB aI)++List.replicate (S.length-i) false)[i]?=some false:=by rw[xas sZ,xaT,xbd,xbU,xbh,xac oZ]
 have aj:((List.range i).map (hasB aI)++List.replicate (S.length-i) false).set i (hasB aI i)=(List.range (i+1)).map (hasB aI)++List.replicate (S.length-(i+1)) false:=by obtain⟨k,l⟩:∃k,S.length-i=k+1:=⟨S.length-i-1,by omega⟩;rw[l,show S.length-(i+1)=k by omega,xct,List.set_append_right _ _ sZ,List.range_succ];simp
 have b:cS S.length (aa (i:Int))=some i:=oE ag;have m:da (aD (hasB aI i))=true:=rfl;by_cases h:i<aI.length
 .have a:aI[i]?=some (hasB aI i):=by unfold hasB;rw[xaa h];rfl
  simp only[zv,go_sem,ah,yT ((i:Int)<(S.length:Int)),yT ((i:Int)<(aI.length:Int)),Af a,b,m,iS d,aj,bu i]
 have a:hasB aI i=false:=by unfold hasB;rw[xaG oZ];rfl
 rw[a]at aj;simp only[zv,go_sem,ah,yT ((i:Int)<(S.length:Int)),yF ((i:Int)<(aI.length:Int)),b,iS d,aj,bu i]
end
def ci(l:lX):lY:=l.map λ(k:Nat)=>(k:Int)
def UN{a:mZ}{k j:Nat}{l:lX}(b:k<a.length):bJ (a.set k l) j=if j=k then l else bJ a j:=by
 unfold bJ;by_cases h:j=k;.subst h;simp[b]
 rw[List.getElem?_set_ne (xcc h),xab h]
def UO(i:Nat):∀(ks:lX)(a:mZ),(∀k∈ks,k<a.length)->∃b:mZ,rE (i:Int) (ci ks) (a.map ci)=some (b.map ci)/\b.length=a.length/\(∀j,(bJ b j).length<=(bJ a j).length+ks.length)/\∀j x,x∈bJ b j↔x∈bJ a j\/(x=i/\j∈ks)
 |[],a,_=>⟨a,rfl,rfl,λj=>xaQ _,λj x=>by simp⟩
 |k::r,a,h=>by
  have d:=h k sZ;obtain⟨b,ab,ad,ai,l⟩:=UO i r (a.set k (bJ a k++[i])) (λm e=>by simpa using h m (by simp[e]));refine⟨b,?_,by simpa using ad,λj=>?_,λj x=>?_⟩
  .have f:ci (k::r)=(k:Int)::ci r:=rfl;have g:((a.map ci).set (k:Int).toNat (((a.map ci)[(k:Int).toNat]?).getD []++[(i:Int)]))=(a.set k (bJ a k++[i])).map ci:=by
    rw[List.map_set,Int.toNat_natCast]
    congr 1
    unfold bJ;rw[xag,xaa d];simp[ci]
   rw[f,rE,xac ⟨by omega,by simpa using d⟩,g];exact ab
  .have:=ai j;rw[UN d]at this;by_cases c:j=k;.rw[xac c]at this;subst c;simp at this⊢;omega
   rw[xab c]at this;simp;omega
  rw[l j x,UN d];by_cases c:j=k
  .subst c;rw[xac rfl];simp only[xar,xan,true_or,and_true,List.not_mem_nil,or_false];constructor
   .rintro((h|h)|h);.exact .inl h
    .exact .inr h
    exact .inr h.1
   rintro(h|h);.exact .inl (.inl h)
   exact .inl (.inr h)
  rw[xab c,xan,or_iff_right c]
def sD:mZ->Nat
 |[]=>0|l::r=>l.length+sD r
def UP:∀l:mZ,jD (l.map ci)=sD l
 |[]=>rfl|l::r=>by simp[jD,sD,UP r,ci]
def UQ{b:Nat}:∀{l:mZ},(∀x∈l,x.length<=b)->sD l<=l.length*b
 |[],_=>xah _|a::r,h=>by have ab:=h a sZ;have ad:=UQ λx c=>h x (xcn a c);rw[sD,xal,Nat.succ_mul];omega
def UR:∀(rows:mZ) (i:Nat) (a:mZ),(∀l∈rows,∀k∈l,k<a.length)->∃b:mZ,nw i (rows.map ci) (a.map ci)=some (b.map ci)/\b.length=a.length/\(∀j,(bJ b j).length<=(bJ a j).length+sD rows)/\∀j x,x∈bJ b j↔x∈bJ a j\/∃d l,rows[d]?=some l/\x=i+d/\j∈l
 |[],i,a,_=>⟨a,rfl,rfl,λj=>xaQ _,λj x=>by simp⟩
 |l::r,i,a,h=>by
  obtain⟨aE,ab,ad,ai,m⟩:=UO i l a (h l sZ);obtain⟨a2,g1,g2,g3,g4⟩:=UR r (i+1) aE (λf g k n=>by rw[ad];exact h f (by simp[g]) k n);refine⟨a2,?_,by omega,λj=>?_,λj x=>?_⟩;.rw[xav,nw,ab];exact g1
  .have:=ai j;have:=g3 j;rw[sD];omega
  rw[g4 j x,m j x,or_assoc];refine or_congr_right ?_;constructor
  .rintro(⟨rfl,c⟩|⟨d,f,e,rfl,c⟩);.exact⟨0,l,rfl,rfl,c⟩
   exact⟨d+1,f,by simpa using e,by omega,c⟩
  rintro⟨d,f,e,rfl,c⟩;cases d with|zero=>simp at e;subst e;exact .inl ⟨rfl,c⟩|succ d=>exact .inr ⟨d,f,by simpa using e,by omega,c⟩
theorem Kp(l:lX):jY (l.map λ(k:Nat)=>[aa (k:Int)])=some (ci l):=by induction l with|nil=>rfl|cons a r ih=>rw[xav];show(af (jY (r.map λ(k:Nat)=>[aa (k:Int)])) λl=>some ((a:Int)::l))=_;rw[ih];rfl
theorem akE(l:mZ):rD (l.map λs=>[bk s])=some (l.map ci):=by induction l with|nil=>rfl|cons a r ih=>rw[xav];show(af (jY (a.map λ(k:Nat)=>[aa (k:Int)])) λx=>af (rD (r.map λs=>[bk s])) λl=>some (x::l))=_;rw[Kp,ih];rfl
def US(l:mZ):mf (l.map ci)=bW l:=by
 have:∀s:lX,gO (ci s)=bk s:=λs=>by simp[gO,ci,bk]
 simp[mf,bW,this]
structure wb(N:Nat)(nx P:mZ):Prop where
 len:P.length=N
 mem:∀j x,x∈bJ P j↔j∈bJ nx x
 sE:∀j,(bJ P j).length<=25000000
section
variable{S:mX}{nx:mZ}(dg:lX)(bl:mY)(g:fJ S.length nx)
include g
theorem UT:∃P,BZ [gw S nx dg bl]=some (bW P)/\wb S.length nx P:=by
 have b:=g.le;obtain⟨P,ab,ad,ai,f⟩:=UR nx 0 (List.replicate S.length []) (λl ah k o=>by simpa using g.lt l ah k o);have ak:(List.replicate S.length ([]:lX)).map ci=List.replicate S.length []:=by simp[ci]
 rw[ak]at ab;have aj:=UQ g.row;rw[g.len]at aj;have p:S.length*5000<=5000*5000:=xaz _ b;have a:∀j,bJ (List.replicate S.length []) j=[]:=by intro j;unfold bJ;rw[xbh];split<;>rfl
 refine⟨P,?_,by simpa using ad,λj x=>?_,λj=>?_⟩
 .have c:rF (b2 S)=some S.length:=by simp[rF,b2]
  have e:rowsOf (bW nx)=some (nx.map ci):=akE nx;have i:S.length<=1000000000/\(nx.map ci).length+jD (nx.map ci)<=1000000000:=by rw[UP,xaT,g.len];omega
  show(af (rF (b2 S)) λN=>af (rowsOf (bW nx)) λnx=>if N<=1000000000/\nx.length+jD nx<=1000000000 then af (nw 0 nx (List.replicate N [])) λr=>some (mf r)else none)=_;rw[c,cG,e,cG,xac i,ab,cG,US]
 .rw[f j x,a j];constructor
  .rintro(h|⟨d,l,m,rfl,n⟩);.simp at h
   unfold bJ;rw[xaw,m];exact n
  intro h;have q:=(g.k6 h).1;exact .inr ⟨x,bJ nx x,by unfold bJ;rw[xaa (by rw[g.len];exact q)];rfl,by omega,h⟩
 have:=ai j;rw[a j]at this;simp at this;omega
end
def hQ(w:List (Nat×Nat)):D:= .aw 2 (w.map λp=>[aa (p.1:Int),aa (p.2:Int)])
def UU(w:List (Nat×Nat)):(aF (hQ w)).length=w.length:=by simp[hQ]
theorem Fu(w:List (Nat×Nat)):D.aw 2 (aF (hQ w))=hQ w:=rfl
def akF(w:List (Nat×Nat))(p:Nat×Nat):(aF (hQ (w++[p])))[w.length]?=some [aa (p.1:Int),aa (p.2:Int)]:=by simp[hQ]
def akG(w:List (Nat×Nat))(p:Nat×Nat):D.aw 2 (((aF (hQ (w++[p]))).drop 0).take w.length)=hQ w:=by simp[hQ]
def akH(w:List (Nat×Nat))(p:Nat×Nat)(v a:Nat):(aF (hQ (w++[p]))).set w.length (er [aa (v:Int),aa (p.2:Int)] 1 [aa (a:Int)])=aF (hQ (w++[(v,a)])):=by have e:er [aa (v:Int),aa (p.2:Int)] 1 [aa (a:Int)]=[aa (v:Int),aa (a:Int)]:=rfl;rw[e];simp[hQ]
def akI(w:List (Nat×Nat))(y:Nat):D.aw 2 (aF (hQ w)++[[aa (y:Int),aa 0]])=hQ (w++[(y,0)]):=by simp[hQ]
theorem Fv(x y:D):aN false 1 1 [x,y]=some y:=rfl
theorem Fw(x y:D):aN false 1 0 [x,y]=some x:=rfl
def Kq(aI:lW):D:= .fn (.func hc) [] [.ref [bf aI] 0]
def Kr(n:Nat)(aI:lW)(k:Nat)(h:aI.length<=1000000000):qb n [aa (k:Int),.ref [bf aI] 0]=some (aD (hasB aI k)):=by
 have e:aN false 1 0 [bf aI]=some (bf aI):=rfl;by_cases b:k<aI.length
 .have a:aI[k]?=some (hasB aI k):=by unfold hasB;rw[xaa b];rfl
  simp only[qb,Cf,go_sem,e,yT ((k:Int)<(aI.length:Int)),Af a]
 have a:hasB aI k=false:=by unfold hasB;rw[xaG oZ];rfl
 rw[a];simp only[qb,Cf,go_sem,e,yF ((k:Int)<(aI.length:Int))]
def kf(nx:mZ):List (Nat×Nat)->Nat
 |[]=>0|p::r=>(bJ nx p.1).length-p.2+1+kf nx r
def Fx(nx:mZ):∀(w z:List (Nat×Nat)),kf nx (w++z)=kf nx w+kf nx z
 |[],z=>by simp[kf]|p::r,z=>by rw[xbD,kf,Fx nx r z,kf];omega
structure mO(nx:mZ)(aI:lW)(N:Nat)(A:Nat->Prop)(out:lX)(hF:List (Nat×Nat))(met:lW):Prop where
 Al:∃h4,hp (bJ nx) (hasB aI) N out hF h4
 len:met.length=N
 met:∀x:Nat,met[x]?=some true↔x∈out\/x∈hF.map (·.1)
 has:∀x,A x->x∈out\/x∈hF.map (·.1)
def mO.small{nx:mZ}{aI:lW}{N:Nat}{A:Nat->Prop}{out:lX}{a:List (Nat×Nat)}{met:lW}(h:mO nx aI N A out a met):out.length+a.length<=N:=by obtain⟨d,b⟩:=h.Al;have:=o4 N _ b.ke λx c=>(b.ok x c).2;simpa using this
section
variable{S:mX}{nx:mZ}(g:fJ S.length nx)(n:Nat)(bw:100000000<n)(aI:lW)(h1:aI.length<=1000000000)
include g bw h1
theorem akJ(L:D){A:Nat->Prop}{out:lX}{e:List (Nat×Nat)}{met:lW}(h:mO nx aI S.length A out e met): ∃(d:lX)(b:lW),aS (qc n) n [bW nx,.ref [bf aI] 0,aa (S.length:Int),L,bk out,bf met,hQ e]=some (.inl [bW nx,.ref [bf aI] 0,aa (S.length:Int),L,bk d,bf b])/\mO nx aI S.length A d [] b:=by
 have bY:=g.le;have H:=Ac (f:=qc n) (λ(s:lX×List (Nat×Nat)×lW)=>[bW nx,.ref [bf aI] 0,aa (S.length:Int),L,bk s.1,bf s.2.2,hQ s.2.1]) (λs=>s.2.2.count false*5002+kf nx s.2.1) (λs=>mO nx aI S.length A s.1 s.2.1 s.2.2) (λy=>∃(d:lX)(b:lW),y=(.inl [bW nx,.ref [bf aI] 0,aa (S.length:Int),L,bk d,bf b]:lZ⊕(lZ⊕(lZ⊕(lZ⊕D))))/\mO nx aI S.length A d [] b) ?_ n (out,e,met) h ?_
 .obtain⟨y,ab,d,b,rfl,ad⟩:=H;exact⟨d,b,ab,ad⟩
 .rintro⟨out,e,met⟩ h;have h:mO nx aI S.length A out e met:=h;have F:=h.small;rcases List.eq_nil_or_concat e with rfl|⟨w,⟨v,a⟩,rfl⟩
  .right;refine⟨_,?_,out,met,rfl,h⟩;have V:decide ((0:Int)>0)=false:=dZ
   have o:(((aF (hQ [])).length:Nat):Int)=0:=rfl;simp only[qc,go_sem,o,V]
  left;rw[List.concat_eq_append]at h F⊢;obtain⟨U,B⟩:=h.Al;simp only[xaR,xal,xaA,xaw]at F;obtain⟨bX,k⟩:=B.ok v sZ;obtain⟨Z,_⟩:=B.at_ w.length v a sZ;have bU:=g.Ak v;have ah:(aF (hQ (w++[(v,a)]))).length=w.length+1:=by rw[UU];simp
  have o:decide (((w.length+1:Nat):Int)>0)=true:=xap oZ;have I:aP false .sub (aa ((w.length+1:Nat):Int)) (aa 1)=some (aa (w.length:Int)):=by rw[jX oZ oZ];congr 2;omega
  have J:cS (w.length+1) (aa (w.length:Int))=some w.length:=by rw[jW,xac oZ]
  have K:=akF w (v,a);have W:h5 (w.length+1) none (some (aa (w.length:Int)))=some (0,w.length):=by simp[h5,ld,aa]
  have b6:da (aa (v:Int))=true:=rfl;have Q:bZ (out.length+1) 8=true:=Ai oZ;by_cases t:a=(bJ nx v).length
  .have q:((a:Int)==((bJ nx v).length:Int))=true:=by simp[t]
   refine⟨(out++[v],w,met),?_,⟨⟨_,B.fin t⟩,h.len,λx=>?_,λx G=>?_⟩,?_⟩;.simp only[qc,go_sem,ah,o,I,J,K,Fv,Fw,g.c0 k,q,b6,xal,xaA,xaw,Q,W,yT (w.length<=w.length+1),akG,Fu,xaw]
   .rw[h.met x];simp only[List.map_append,xav,xbb,xar,xcf];rw[or_assoc,or_comm (a:=x=v)]
   .have:=h.has x G;simp at this⊢;rcases this with h|h|h
    .exact .inl (.inl h)
    .exact .inr h
    exact .inl (.inr h)
   simp only[Fx,kf];omega
  have u:a<(bJ nx v).length:=oZ
  have q:((a:Int)==((bJ nx v).length:Int))=false:=by
   have:¬(a:Int)=((bJ nx v).length:Int):=oZ
   simp[this]
  have m:=xaa u;generalize (bJ nx v)[a]=y at m;have P:=(g.k6 (xad m)).2;obtain⟨c,z⟩:=sB (l:=met) (j:=y) (by have:=h.len;omega);have E:cS met.length (aa (y:Int))=some y:=n8 (by have:=h.len;omega);have aY:=Kr n aI y h1;have M:=akH w (v,a) v (a+1);have cy:kf nx (w++[(v,a+1)])+1=kf nx (w++[(v,a)]):=by simp only[Fx,kf];omega
  by_cases i:hasB aI y=true/\c=false
  .obtain⟨ag,rfl⟩:=i;rw[ag]at aY;have O:¬(y∈out\/y∈(w++[(v,a)]).map (·.1)):=by
    rw[<-h.met y,z];simp
   have X:=B.push m ag P O;have cv:da (aa (y:Int))=true:=rfl;have a2:cw 2 (D.agg [aa (y:Int),aa 0])=true:=rfl;have R:bZ (w.length+1+1) 16=true:=eB;have N:(aF (hQ (w++[(v,a+1)]))).length=w.length+1:=by rw[UU];simp
   have T:=Kl z;have b5:=g.Ak y;refine⟨(out,w++[(v,a+1)]++[(y,0)],met.set y true),?_,⟨⟨_,X⟩,by simpa using h.len,λx=>?_,λx G=>?_⟩,?_⟩
   .simp only[qc,go_sem,ah,o,I,J,K,Fv,Fw,g.c0 k,q,ix m,bu a,aY,E,iS z,cv,M,N,xal,xaA,xaw,R,Fu,akI]
   .rw[sC (by have:=h.len;omega),h.met x];simp only[List.map_append,xav,xbb,xar,xcf];constructor
    .rintro((h|h|h)|h);.exact .inl h
     .exact .inr (.inl (.inl h))
     .exact .inr (.inl (.inr h))
     exact .inr (.inr h)
    rintro(h|(h|h)|h);.exact .inl (.inl h)
    .exact .inl (.inr (.inl h))
    .exact .inl (.inr (.inr h))
    exact .inr h
   .have:=h.has x G;simp only[List.map_append,xav,xbb,xar,xcf]at this⊢;rcases this with h|h
    .exact .inl h
    exact .inr (.inl h)
   simp only[Fx nx _ [(y,0)],kf];omega
  have Y:hp (bJ nx) (hasB aI) S.length out (w++[(v,a+1)]) U:=B.skip m λag=>by rw[<-h.met y,z];cases c with|true=>rfl|false=>exact absurd ⟨ag,rfl⟩ i
  have C:(w++[(v,a+1)]).map (·.1)=(w++[(v,a)]).map (·.1):=sZ
  refine⟨(out,w++[(v,a+1)],met),?_,⟨⟨_,Y⟩,h.len,λx=>by rw[C];exact h.met x,λx G=>by rw[C];exact h.has x G⟩,by simp only;omega⟩;cases ag:hasB aI y with|false=>rw[ag]at aY;simp only[qc,go_sem,ah,o,I,J,K,Fv,Fw,g.c0 k,q,ix m,bu a,aY,Hl,M,Fu]|true=>rw[ag]at aY i;cases c with|false=>exact absurd ⟨rfl,rfl⟩ i|true=>simp only[qc,go_sem,ah,o,I,J,K,Fv,Fw,g.c0 k,q,ix m,bu a,aY,E,iS z,Hl,M,Fu]
 have ab:met.count false<=S.length:=by rw[<-h.len];exact List.count_le_length
 have ad:met.count false*5002<=5000*5002:=xaz _ oZ;have ai:∀w:List (Nat×Nat),kf nx w<=w.length*5001:=by
  intro w
  induction w with|nil=>exact xah _|cons p r ih=>have:=g.Ak p.1;rw[kf,xal,Nat.succ_mul];omega
 have cz:=ai e;have cL:e.length*5001<=5000*5001:=xaz _ (by have:=h.small;omega);simp only;omega
end
section
variable{S:mX}{nx:mZ}(g:fJ S.length nx)(n:Nat)(bw:100000000<n)(aI:lW)(h1:aI.length<=1000000000)
include g bw h1
theorem akK:∃out:lX,xC n [bW nx,Kq aI]=some (bk out)/\(∃u,hp (bJ nx) (hasB aI) S.length out [] u)/\∀x,hasB aI x=true->x<S.length->x∈out:=by
 have A:=g.le;have o:nx.length=S.length:=g.len;have H:=z1 (f:=tV n) nx (λi (s:lX×lW)=>[bW nx,.ref [bf aI] 0,aa (S.length:Int),aa (i:Int),bk s.1,bf s.2]) (λi s=>mO nx aI S.length (λx=>x<i/\hasB aI x=true) s.1 [] s.2) (λy=>∃(out:lX),y=(.inl [bk out]:lZ⊕D)/\(∃u,hp (bJ nx) (hasB aI) S.length out [] u)/\∀x,hasB aI x=true->x<S.length->x∈out) ?_ ?_ n 0 ([],List.replicate S.length false) ?_ (xah _) oZ
 .obtain⟨y,ab,out,rfl,ad,ai⟩:=H;have C:(aa ((0:Nat):Int))=aa 0:=rfl;rw[C]at ab;refine⟨out,?_,ad,ai⟩;have w:fp hc (Kq aI)=some [.ref [bf aI] 0]:=jg;have E:dK (bW nx)=some (aa (S.length:Int)):=by simp[bW,o]
  have F:D.aw 1 ([]:mW)=bk []:=rfl;simp only[xC,HY,w,go_sem,E,po A,F,ab]
 .rintro⟨out,met⟩ h;have h:mO nx aI S.length (λx=>x<nx.length/\hasB aI x=true) out [] met:=h;refine⟨_,?_,out,rfl,h.Al,λx ab ad=>?_⟩
  .have:=yF ((nx.length:Int)<(S.length:Int));simp only[tV,go_sem,this]
  have:=h.has x ⟨by omega,ab⟩;simpa using this
 .rintro i l ⟨out,met⟩ ah h;have h:mO nx aI S.length (λx=>x<i/\hasB aI x=true) out [] met:=h;have ag:=(lV.1 ah).1;have e:=yT ((i:Int)<(S.length:Int));obtain⟨c,z⟩:=sB (l:=met) (j:=i) (by have:=h.len;omega);have p:cS met.length (aa (i:Int))=some i:=n8 (by have:=h.len;omega);have aY:=Kr n aI i h1;have k:=h.met i;rw[z]at k;have q:∀x,x<i+1->x<i\/x=i:=λx d=>by omega
  left;by_cases a:hasB aI i=true/\c=false
  .obtain⟨b,rfl⟩:=a;rw[b]at aY;have B:i∉out:=λI=>by simp[I]at k
   obtain⟨u,G⟩:=h.Al;have hO:mO nx aI S.length (λx=>x<i+1/\hasB aI x=true) out [(i,0)] (met.set i true):=by
    refine⟨⟨_,G.start b oZ B⟩,by simpa using h.len,λx=>?_,λx d=>?_⟩;.rw[sC (by have:=h.len;omega),h.met x];simp
    rcases q x d.1 with m|rfl;.have:=h.has x ⟨m,d.2⟩;simp at this;exact .inl this
    exact .inr sZ
   obtain⟨t,r,J,K⟩:=akJ g n bw aI h1 (aa (i:Int)) hO;have w:D.aw 2 [[aa (i:Int),aa 0]]=hQ [(i,0)]:=rfl;have a2:cw 2 (D.agg [aa (i:Int),aa 0])=true:=rfl;refine⟨(t,r),?_,K⟩;simp only[tV,go_sem,e,aY,p,iS z,a2,w,J,bu i]
  refine⟨(out,met),?_,h.Al,h.len,h.met,λx d=>?_⟩;.cases b:hasB aI i with|false=>rw[b]at aY;simp only[tV,go_sem,e,aY,bu i]|true=>rw[b]at aY a;cases c with|false=>exact absurd ⟨rfl,rfl⟩ a|true=>simp only[tV,go_sem,e,aY,p,iS z,bu i]
  rcases q x d.1 with m|rfl;.exact h.has x ⟨m,d.2⟩
  refine .inl ?_;cases c with|false=>exact absurd ⟨d.2,rfl⟩ a|true=>simpa using k
 refine⟨⟨[],hp.nil⟩,by simp,λx=>?_,λx d=>absurd d.1 (xaI _)⟩;rw[xbh];split<;>simp
end
def iT(a b:Nat):Bool:=decide (a<=b)
def UW(a:Nat):∀l:lX,mg jh (a:Int) (ci l)=ci (mg iT a l)
 |[]=>rfl
 |b::r=>by
  have e:ci (b::r)=(b:Int)::ci r:=rfl;have d:jh (a:Int) (b:Int)=iT a b:=by unfold jh iT;congr 1;simp
  rw[e,mg,mg,d];cases iT a b with|true=>rfl|false=>rw[xab sZ,xab sZ,UW a r];rfl
def UX:∀l:lX,fX jh (ci l)=ci (fX iT l)
 |[]=>rfl|a::r=>by have e:ci (a::r)=(a:Int)::ci r:=rfl;rw[e,fX,UX r,UW];rfl
def akL(l:lX):gO (ci l)=bk l:=by simp[gO,ci,bk]
def akM{l:lX}(h:l.Nodup):(fX iT l).Pairwise (·<·):=by have ab:=xh (le:=iT) (by intro a b c;simp[iT];omega) (by intro a b;simp[iT];omega) l;have ad:(fX iT l).Nodup:=(p6 iT l).nodup_iff.2 h;refine(ab.and ad).imp ?_;rintro a b ⟨ai,d⟩;simp[iT]at ai;omega
def akN(n:Nat)(l:lX)(h:l.length<=1000000000)(ak:l≠[]):xi n [bk l]=some [D.az [],bk (fX iT l)]:=by have e:jY (aF (bk l))=some (ci l):=Kp l;have a:(ci l).length<=1000000000/\ci l≠[]:=⟨by simpa[ci]using h,by cases l with|nil=>exact absurd rfl ak|cons=>simp[ci]⟩;show(af (jY (aF (bk l))) λl=>if l.length<=1000000000/\l≠[]then some [D.az [],gO (fX jh l)]else none)=_;rw[e,cG,xac a,UX,akL]
def UY(p q:lX):Prop:=eE (ci p) (ci q)<0
theorem akO(l:mZ):oH (l.map λs=>[bk s])=some (l.map ci):=by induction l with|nil=>rfl|cons a r ih=>rw[xav];show(af (jY (a.map λ(k:Nat)=>[aa (k:Int)])) λx=>af (oH (r.map λs=>[bk s])) λl=>some (x::l))=_;rw[Kp,ih];rfl
def akP{a b:lX}(h:ci a=ci b):a=b:=by have:=congrArg (List.map Int.toNat) h;simpa[ci,List.map_map,Function.comp_def]using this
def akQ(n:Nat)(l:mZ)(h:l.length<=1000000000)(j:l.Nodup)(ah:∀x∈l,x.length<=1000000000):∃i,tL n [bW l]=some [D.az [],bW i]/\i.Perm l/\i.Pairwise UY:=by
 have e:oH (aF (bW l))=some (l.map ci):=akO l;have c:(l.map ci).Nodup:=by rw[List.nodup_iff_pairwise_ne]at j⊢;rw[List.pairwise_map];exact j.imp λh e=>h (akP e)
 have q:(l.map ci).length<=1000000000/\(l.map ci).Nodup/\∀x∈l.map ci,x.length<=1000000000:=⟨by simpa using h,c,by intro x r;obtain⟨y,k,rfl⟩:=xaK.1 r;simpa[ci]using ah y k⟩;have p:tL n [bW l]=some [D.az [],mf (fX fx (l.map ci))]:=by show(af (oH (aF (bW l))) λl=>if l.length<=1000000000/\l.Nodup/\(∀x∈l,x.length<=1000000000)then some [D.az [],mf (fX fx l)]else none)=_;rw[e,cG,xac q]
 rw[p];have d:=p6 fx (l.map ci);have aj:=xh (le:=fx) HK N4 (l.map ci);generalize fX fx (l.map ci)=z at d aj;have m:(z.map λs=>s.map Int.toNat).map ci=z:=by
  rw[List.map_map];have:∀s∈z,(ci∘λ(s:lY)=>s.map Int.toNat) s=s:=by intro s aj;obtain⟨y,k,rfl⟩:=xaK.1 (d.mem_iff.1 aj);simp[ci,List.map_map,Function.comp_def]
  rw[List.map_congr_left this,List.map_id']
 have g:mf z=bW (z.map λs=>s.map Int.toNat):=by rw[<-US,m]
 refine⟨z.map λs=>s.map Int.toNat,?_,?_,?_⟩;.rw[g]
 .have:=d.map λ(s:lY)=>s.map Int.toNat;rw[List.map_map]at this;have o:l.map ((λ(s:lY)=>s.map Int.toNat)∘ci)=l:=by
   have:∀s∈l,((λ(s:lY)=>s.map Int.toNat)∘ci) s=s:=λs _=>by simp[ci,List.map_map,Function.comp_def]
   rw[List.map_congr_left this,List.map_id']
  rwa [o]at this
 have f:z.Nodup:=d.nodup_iff.2 c;have ai:z.Pairwise λa b=>eE a b<0:=(aj.and f).imp λ{a b} ⟨ab,ad⟩=>by
  simp only[fx,xaC]at ab;rcases Int.lt_or_eq_of_le ab with h|h
  .exact h
  exact absurd (xf h) ad
 rw[<-m,List.pairwise_map]at ai;exact ai
section
variable(n:Nat)(aI:lW)(h1:aI.length<=1000000000)
include h1
theorem akR(k:Nat)(p:lW×lX)(h:p.2.length<1000000000):tW n [aa (k:Int),.agg [bf aI],bf p.1,bk p.2]=some [D.az [],.agg [bf aI],bf (if hasB aI k=true then fI (k:Int) p else p).1,bk (if hasB aI k=true then fI (k:Int) p else p).2]:=by have aY:=Kr n aI k h1;have a:=UG n (k:Int) p h;cases ag:hasB aI k with|true=>rw[ag]at aY;simp only[tW,go_sem,aY,a]|false=>rw[ag]at aY;simp only[tW,go_sem,aY]
theorem akS(l:lX)(p:lW×lX)(h:p.2.length+l.length<1000000000)(d:l.length<n):xD n [bk l,.agg [bf aI],bf p.1,bk p.2]=some [D.az [],.agg [bf aI],bf (hG (hasB aI) l p).1,bk (hG (hasB aI) l p).2]:=by
 have ag:=cd (f:=Cg n) l (λi (p:lW×lX)=>[bk l,aa l.length,aa (i:Int),.agg [bf aI],bf p.1,bk p.2]) (λr p=>(.inl [.agg [bf aI],bf (hG (hasB aI) r p).1,bk (hG (hasB aI) r p).2]:lZ⊕lZ)) (λi p=>p.2.length+(l.length-i)<1000000000) ?_ ?_ n 0 p oZ oZ (xah _);.have b:(aa ((0:Nat):Int))=aa 0:=rfl;rw[b,xak]at ag;simp only[xD,go_sem,ag]
 .intro p _;simp only[Cg,go_sem,yF ((l.length:Int)<l.length)];rfl
 intro i a p c ag e;have:=UH (a:Int) p;left;refine⟨if hasB aI a=true then fI (a:Int) p else p,?_,by rw[Ko],by split<;>omega⟩;simp only[Cg,go_sem,yT ((i:Int)<(l.length:Int)),ix c,akR n aI h1 a p oZ,bu i]
end
structure wc(nx P:mZ)(aI:lW)(N:Nat)(M:Nat->Prop)(r:Nat)(part:lX)(p:lW×lX):Prop where
 bi:qV (bJ nx) (hasB aI) N (bJ P) M r part p.2
 len:p.1.length=N
 met:∀x:Nat,p.1[x]?=some true↔M x\/x∈part++p.2
def wb.c0{N:Nat}{nx P:mZ}(v:wb N nx P){a:Nat}(h:a<N):a8 1 (bW P) (aa (a:Int))=some [bk (bJ P a)]:=by
 have:P[a]?=some (bJ P a):=by unfold bJ;rw[xaa (by rw[v.len];exact h)];rfl
 exact Fj this
section
variable{N:Nat}{nx P:mZ}(g:fJ N nx)(v:wb N nx P)(n:Nat)(bw:100000000<n)(aI:lW)(h1:aI.length<=1000000000)
include g v bw h1
theorem akT(o ei d:D)(C:D.aw 1 (aF d)=d){M:Nat->Prop}{r:Nat}{part:lX}{p:lW×lX}(h:wc nx P aI N M r part p): ∃(a:lX)(b:lW),aS (xE n) n [o,bW P,ei,.agg [bf aI],d,bk part,bf p.1,bk p.2]=some (.inl [o,bW P,ei,.agg [bf aI],d,bk a,bf b,bk []])/\wc nx P aI N M r a (b,[]):=by
 have Q:=g.le;have H:=Ac (f:=xE n) (λ(s:lX×lW×lX)=>[o,bW P,ei,.agg [bf aI],d,bk s.1,bf s.2.1,bk s.2.2]) (λs=>s.2.1.count false+s.2.2.length) (λs=>wc nx P aI N M r s.1 s.2) (λy=>∃(a:lX)(b:lW),y=(.inl [o,bW P,ei,.agg [bf aI],d,bk a,bf b,bk []]:lZ⊕(lZ⊕(lZ⊕(lZ⊕D))))/\wc nx P aI N M r a (b,[])) ?_ n (part,p) h ?_
 .obtain⟨y,ab,a,b,rfl,ad⟩:=H;exact⟨a,b,ab,ad⟩
 .rintro⟨part,met,todo⟩ h;have h:wc nx P aI N M r part (met,todo):=h;cases todo with
  |nil=>
   right;refine⟨_,?_,part,met,rfl,h⟩;have E:decide ((0:Int)>0)=false:=dZ
   have u:((([]:lX).length:Nat):Int)=0:=rfl;simp only[xE,go_sem,u,E,C]
  |cons i t=>
   left;obtain⟨_,w,_⟩:=h.bi.ok i sZ;have L:=v.sE i;have S:met.length=N:=h.len;have T:part.length+(t.length+1)<=N:=by have:=o4 N _ h.bi.ke λx A=>(h.bi.ok x A).2.1;simpa using this
   obtain⟨new,q⟩:=Aj (((bJ P i).filter (hasB aI)).map λ(k:Nat)=>(k:Int)) (met,t);have l:=q.jG;simp only at l;have m:∀j∈new,j∈bJ P i/\hasB aI j=true/\j<N/\¬M j/\j∉part++i::t:=λj c=>by
    obtain⟨ab,ad⟩:=q.oa j c;obtain⟨ai,G⟩:=Ft.1 ad;have B:¬(M j\/j∈part++i::t):=by rw[<-h.met j];show¬met[j]?=some true;rw[show met[j]?=some false from ab];simp
    exact⟨ai,G,(g.k6 ((v.mem i j).1 ai)).1,λK=>B (.inl K),λR=>B (.inr R)⟩
   have e:∀j∈bJ P i,hasB aI j=true->M j\/j∈part++i::t\/j∈new:=λj c ag=>by
    have O:=(g.k6 ((v.mem i j).1 c)).1;have ab:=q.all j (Ft.2 ⟨c,ag⟩) (by simp only;omega);rcases(q.met j).1 ab with ad|ad
    .rcases(h.met j).1 ad with ai|ai;.exact .inl ai
     exact .inr (.inl ai)
    exact .inr (.inr ad)
   have J:=h.bi.next (λj c=>(v.mem i j).1 c) q.Fq m e
   have z:(aF (bk (i::t))).length=t.length+1:=by rw[Fg];simp
   have u:decide (((t.length+1:Nat):Int)>0)=true:=xap oZ;have F:(aF (bk (i::t)))[0]?=some [aa (i:Int)]:=by simp[bk]
   have U:da (aa (i:Int))=true:=rfl;have V:bZ (part.length+1) 8=true:=Ai oZ;have I:=akS n aI h1 (bJ P i) (met,t) (by simp only;omega) oZ;refine⟨(part++[i],hG (hasB aI) (bJ P i) (met,t)),?_,⟨?_,by rw[hG,q.len];exact h.len,λx=>?_⟩,by rw[hG,l];simp only[xal];omega⟩
   .simp only[xE,go_sem,z,u,UL,F,UK,yT (1+t.length<=t.length+1),U,xal,xaA,xaw,V,v.c0 w,UJ,I,C]
   .rw[hG,q.todo];exact J
   show(hG (hasB aI) (bJ P i) (met,t)).1[x]?=some true↔M x\/x∈part++[i]++(hG (hasB aI) (bJ P i) (met,t)).2;rw[hG,q.todo,q.met x];show met[x]?=some true\/_↔_;have:=h.met x;simp only at this;rw[this,or_assoc];refine or_congr_right ?_;simp only[xar,xan];constructor
   .rintro((h|h|h)|h);.exact .inl (.inl h)
    .exact .inl (.inr (.inl h))
    .exact .inr (.inl h)
    exact .inr (.inr h)
   rintro((h|h|h)|h|h);.exact .inl (.inl h)
   .exact .inl (.inr (.inl h))
   .simp at h
   .exact .inl (.inr (.inr h))
   exact .inr h
 have ab:p.1.count false<=N:=by rw[<-h.len];exact List.count_le_length
 have ad:part.length+p.2.length<=N:=by have:=o4 N _ h.bi.ke λx A=>(h.bi.ok x A).2.1;simpa using this
 simp only;omega
end
structure UZ(nx:mZ)(aI:lW)(N:Nat)(l:lX)(k:Nat)(out:mZ)(met:lW):Prop where
 Fy:k5 (bJ nx) (hasB aI) N l k (λx=>met[x]?=some true)
 len:met.length=N
 fl:∀p∈out,(∃r,hasB aI r=true/\r<N/\∀x,x∈p↔ju (bJ nx) (hasB aI) r x)/\p.Pairwise (·<·)
 Ks:∀x:Nat,met[x]?=some true->∃p∈out,x∈p
 sub:∀p∈out,∀x∈p,met[x]?=some true
 ke:out.Nodup
 sE:out.length+k<=l.length
section
variable{N:Nat}{nx P:mZ}(g:fJ N nx)(v:wb N nx P)(n:Nat)(bw:100000000<n)(aI:lW)(h1:aI.length<=1000000000)
include g v bw h1
theorem akU(l:lX)(R:Fo (bJ nx) (hasB aI) l)(T:∀x∈l,hasB aI x=true/\x<N)(u:∀x,hasB aI x=true->x<N->x∈l)(cL:l.length<=N): ∃out:mZ,aS (tX n) n [bk l,bW P,aa ((l.length:Int)-1),.agg [bf aI],bW [],bf (List.replicate N false),bk []]=some (.inl [bW out])/\lI (bJ nx) (hasB aI) N out/\out.Nodup/\out.length<=N:=by
 have cz:=g.le;have H:=Ac (f:=tX n) (λ(s:Nat×mZ×lW)=>[bk l,bW P,aa ((s.1:Int)-1),.agg [bf aI],bW s.2.1,bf s.2.2,bk []]) (λs=>s.1) (λs=>s.1<=l.length/\UZ nx aI N l s.1 s.2.1 s.2.2) (λy=>∃out:mZ,y=(.inl [bW out]:lZ⊕D)/\lI (bJ nx) (hasB aI) N out/\out.Nodup/\out.length<=N) ?_ n (l.length,[],List.replicate N false) ?_ ?_
 .obtain⟨y,ab,out,rfl,ad⟩:=H;exact⟨out,ab,ad⟩
 .rintro⟨k,out,met⟩ ⟨bY,h⟩;have bY:k<=l.length:=bY;have h:UZ nx aI N l k out met:=h;cases k with
  |zero=>
   right;refine⟨_,?_,out,rfl,⟨h.fl,λx ab ad=>?_⟩,h.ke,by have:=h.sE;omega⟩
   .have J:decide ((((0:Nat):Int)-1)>=0)=false:=dZ
    simp only[tX,go_sem,J]
   obtain⟨j,cv⟩:=xaJ.1 (u x ab ad);exact h.Ks x (h.Fy.up j x (xah _) cv)
  |succ k=>
   left;have Q:k<l.length:=oZ
   have z:=xaa Q;generalize l[k]=r at z;obtain⟨F,G⟩:=T r (xad z);have b6:=h.sE;have S:=h.len;have J:((k+1:Nat):Int)-1=(k:Int):=oZ
   have X:decide ((k:Int)>=0)=true:=xap oZ;have Y:aP false .sub (aa (k:Int)) (aa 1)=some (aa ((k:Int)-1)):=jX oZ oZ;obtain⟨c,w⟩:=sB (l:=met) (j:=r) oZ;have E:cS met.length (aa (r:Int))=some r:=n8 oZ;cases c with
   |true=>refine⟨(k,out,met),?_,⟨by simp only;omega,h.Fy.skip z w,h.len,h.fl,h.Ks,h.sub,h.ke,by simp only at*;omega⟩,by simp only;omega⟩;simp only[tX,go_sem,J,X,ix z,E,iS w,Y]
   |false=>
    have B:=UG n (r:Int) (met,[]) sZ;have bU:fI (r:Int) (met,[])=(met.set r true,[r]):=by rw[fI,xac (by simp[w])];simp
    rw[bU]at B;have M:wc nx P aI N (λx=>met[x]?=some true) r [] (met.set r true,[r]):=⟨qV.start F G (by rw[w];simp),by simpa using S,λx=>by show(met.set r true)[x]?=some true↔_;rw[sC oZ];simp⟩
    obtain⟨part,q,cU,W⟩:=akT g v n bw aI h1 (bk l) (aa (k:Int)) (bW out) rfl M;have K:=W.bi;have A:=akr R u (λx y di=>(g.k6 di).2) h.Fy z (by rw[w];simp) K λi j _ O=>(v.mem i j).2 O;have I:r∈part:=(A r).2 (.refl r);have U:part≠[]:=λe=>by subst e;simp at I
    have C:part.Nodup:=by simpa using K.ke
    have cy:part.length<=N:=o4 N part C λx d=>(K.ok x (by simpa using d)).2.1;have V:=akN n part oZ U;have m:∀x,x∈fX iT part↔x∈part:=λx=>(p6 iT part).mem_iff;have o:∀x:Nat,q[x]?=some true↔met[x]?=some true\/x∈part:=λx=>by have:=W.met x;simpa using this
    have dD:da (bk (fX iT part))=true:=rfl;have de:bZ (out.length+1) 24=true:=eB;have b5:D.aw 1 ([]:mW)=bk []:=rfl;refine⟨(k,out++[fX iT part],q),?_,⟨by simp only;omega,?_⟩,by simp only;omega⟩
    .simp only[tX,go_sem,J,X,ix z,E,iS w,B,b5,cU,V,Ae,xal,xaA,xaw,de,Y]
    have L:k5 (bJ nx) (hasB aI) N l k (λx=>q[x]?=some true):=by
     have:=h.Fy.next z A λx d=>by obtain⟨a,b,_⟩:=K.ok x (by simpa using d);exact⟨a,b⟩
     have e:(λx:Nat=>q[x]?=some true)=λx=>met[x]?=some true\/x∈part:=funext λx=>propext (o x);rw[e];exact this
    refine⟨L,W.len,?_,?_,?_,?_,by simp only[xaR,xal,xaA];omega⟩
    .intro p t;rcases xar.1 t with t|t
     .exact h.fl p t
     simp at t;subst t;exact⟨⟨r,F,G,λx=>by rw[m x];exact A x⟩,akM C⟩
    .intro x d;rcases(o x).1 d with d|d
     .obtain⟨p,ab,ad⟩:=h.Ks x d;exact⟨p,xaW _ ab,ad⟩
     exact⟨fX iT part,by simp,(m x).2 d⟩
    .intro p t x d;rcases xar.1 t with t|t
     .exact(o x).2 (.inl (h.sub p t x d))
     simp at t;subst t;exact(o x).2 (.inr ((m x).1 d))
    rw[xbF];refine⟨h.ke,by simp,?_⟩;intro a bX b Z e;simp at Z;subst Z;subst e;have:=h.sub _ bX r ((m r).2 I);rw[w]at this;simp at this
 .refine⟨xaQ _,?_,by simp,by simp,?_,by simp,by simp,by simp⟩
  .have e:(λx:Nat=>(List.replicate N false)[x]?=some true)=λ_=>False:=by
    funext x
    rw[xbh];split<;>simp
   show k5 _ _ _ _ _ (λx:Nat=>(List.replicate N false)[x]?=some true);rw[e];exact k5.start
  intro x d;simp only at d;rw[xbh]at d;split at d<;>simp at d
 simp only;omega
end
structure akV(N:Nat)(nx:mZ)(aI:lW)(out:mZ):Prop where
 U0:lI (bJ nx) (hasB aI) N out
 ord:out.Pairwise UY
 len:out.length<=N
def lI.small{N:Nat}{nx:mZ}(g:fJ N nx){aI:lW}{out:mZ}(h:lI (bJ nx) (hasB aI) N out){p:lX}(i:p∈out):(∀x∈p,x<N/\hasB aI x=true)/\p.length<=N/\p≠[]:=by
 obtain⟨⟨r,c7,dm,f⟩,j⟩:=h.each p i;have key:∀x∈p,x<N/\hasB aI x=true:=by
  intro x d;obtain⟨ab,_⟩:=(f x).1 d;refine⟨?_,Ah ab c7⟩;have c:∀a b,dw (ho (bJ nx) (hasB aI)) a b->a<N->b<N:=by
   intro a b eb
   induction eb with|refl=>exact id|step h _ ih=>intro _;exact ih (g.k6 h.2.2).2
  exact c r x ab dm
 refine⟨key,o4 N p (j.imp λh=>Nat.ne_of_lt h) λx d=>(key x d).1,λe=>?_⟩;have:=(f r).2 (.refl r);rw[e]at this;simp at this
section
variable{S:mX}{nx:mZ}(dg:lX)(bl:mY)(g:fJ S.length nx)(n:Nat)(bw:100000000<n)(aI:lW)(h1:aI.length<=1000000000)
include g bw h1
theorem akW:∃out:mZ,Ch n [gw S nx dg bl,bf aI]=some (bW out)/\akV S.length nx aI out:=by
 have d:=g.le;obtain⟨l,t,⟨C,h⟩,u⟩:=akK g n bw aI h1;obtain⟨P,A,v⟩:=UT dg bl g;have e:l.Nodup:=by simpa using h.ke
 have a:∀x∈l,hasB aI x=true/\x<S.length:=λx f=>h.ok x (by simpa using f);have c:=o4 S.length l e λx f=>(a x f).2;obtain⟨out,i,j,w,y⟩:=akU g v n bw aI h1 l h.Ag a u c;obtain⟨b,s1,s2,B⟩:=akQ n out oZ w λp s=>by have:=(j.small g s).2.1;omega
 refine⟨b,?_,j.perm s2,B,by rw[s2.length_eq];exact y⟩;have k:xj n [gw S nx dg bl]=some (bW P):=A;have m:D.fn (.func hc) [] [.ref [bf aI] 0]=Kq aI:=rfl;have o:aP false .sub (aa (l.length:Int)) (aa 1)=some (aa ((l.length:Int)-1)):=jX oZ oZ;have q:D.aw 1 ([]:mW)=bk []:=rfl;have r:bW []=bk []:=rfl;have z:da (bf aI)=true:=rfl;rw[r]at i;simp only[Ch,Oy,go_sem,z,m,t,k,po d,o,q,i,s1]
end
end Go.Am
