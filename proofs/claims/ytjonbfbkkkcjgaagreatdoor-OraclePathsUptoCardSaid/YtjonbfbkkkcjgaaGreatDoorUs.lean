/- Laws, on data. No condition. -/
import Derived.Test.YtjonbfbkkkcjgaaGreatDoorTs
set_option linter.all false
set_option linter.unnecessarySimpa false
namespace Go.Am
inductive dA(E:Nat->Nat->Prop):Nat->Nat->Prop where
 |refl (a:Nat):dA E a a
 |step {a b c:Nat}:E a b->dA E b c->dA E a c
def dA.one{E:Nat->Nat->Prop}{a b:Nat}(h:E a b):dA E a b:= .step h (.refl _)
def dA.trans{E:Nat->Nat->Prop}{a b c:Nat}(h:dA E a b)(k:dA E b c):dA E a c:=by induction h with|refl=>exact k|step h _ ih=>exact .step h (ih k)
def dA.mono{E F:Nat->Nat->Prop}(c:∀a b,E a b->F a b){a b:Nat}(h:dA E a b):dA F a b:=by induction h with|refl=>exact .refl _|step h _ ih=>exact .step (c _ _ h) ih
def dA.last{E:Nat->Nat->Prop}{a b c:Nat}(h:dA E a b)(k:E b c):dA E a c:=h.trans (.one k)
def hd(nx:Nat->lX)(aL:Nat->Bool)(a b:Nat):Prop:=aL a=true/\aL b=true/\b∈nx a
def G3(nx:Nat->lX)(aL:Nat->Bool)(l:lX)(a b:Nat):Prop:=hd nx aL a b/\a∈l/\b∈l
def G4(nx:Nat->lX)(aL:Nat->Bool)(out:lX):Prop:=∀(f r:Nat),out[f]?=some r->∀x,dA (G3 nx aL (out.take (f+1))) x r->dA (hd nx aL) r x
structure hT(nx:Nat->lX)(aL:Nat->Bool)(n:Nat)(out:lX)(h9:List (Nat×Nat))(iH:lX):Prop where
 kL:(out++h9.map (·.1)).Nodup
 ok:∀x∈out++h9.map (·.1),aL x=true/\x<n
 k4:∀x∈out,∀y∈nx x,aL y=true->y∈out\/y∈h9.map (·.1)
 xW:∀(i u v a b:Nat),h9[i]?=some (u,a)->h9[i+1]?=some (v,b)->v∈nx u
 at_:∀(i v a:Nat),h9[i]?=some (v,a)->a<=(nx v).length/\∀(j y:Nat),j<a->(nx v)[j]?=some y->aL y=true->y∈out\/y∈h9.map (·.1)
 Bz:G4 nx aL out
 G5:iH.length=h9.length
 g1:∀(i v a d:Nat),h9[i]?=some (v,a)->iH[i]?=some d->d<=out.length/\(∀(j y:Nat),d<=j->out[j]?=some y->dA (hd nx aL) v y)/\∀x∈out.take d,∀y∈nx x,aL y=true->y∈out.take d\/y∈(h9.take i).map (·.1)
def amh{l:lX}(h:l.Nodup){i j x:Nat}(ag:l[i]?=some x)(b:l[j]?=some x):i=j:=by
 obtain⟨ab,rfl⟩:=lV.1 ag;obtain⟨ae,ai⟩:=lV.1 b;have a:=List.pairwise_iff_getElem.1 h;rcases Nat.lt_trichotomy i j with ah|ah|ah
 .exact absurd ai.symm (a i j ab ae ah)
 .exact ah
 exact absurd ai (a j i ae ab ah)
def ami{nx:Nat->lX}{aL:Nat->Bool}:G4 nx aL []:=by intro f r h;simp at h
section
variable{nx:Nat->lX}{aL:Nat->Bool}{n:Nat}{out:lX}{h9:List (Nat×Nat)}{iH:lX}
theorem hT.nil:hT nx aL n [] [] []:=⟨by simp,by simp,by simp,by simp,by simp,ami,rfl,by simp⟩
def hT.start(h:hT nx aL n out [] iH){i:Nat}(ag:aL i=true)(q:i<n)(p:i∉out):hT nx aL n out [(i,0)] [out.length]:=by
 have o:iH=[]:=List.length_eq_zero_iff.1 (by simpa using h.G5);refine⟨?_,?_,?_,?_,?_,h.Bz,rfl,?_⟩;.have:=h.kL;simp only[xbd,xat]at this;simp only[xaw,xbd];rw[xbH];refine⟨this,by simp,?_⟩;intro a m b k;simp at k;subst k;intro e;subst e;exact p m
 .intro x c;simp at c;rcases c with c|rfl
  .exact h.ok x (by simp[c])
  exact⟨ag,q⟩
 .intro x c y g f;have:=h.k4 x c y g f;simp at this;exact .inl this
 .intro j u v a b ab ae;simp at ae
 .intro j v a ab;cases j with
  |zero=>simp at ab;obtain⟨rfl,rfl⟩:=ab;exact⟨xah _,λj y l=>absurd l (xaF _)⟩
  |succ j=>simp at ab
 intro j v a d ab ae;cases j with
 |zero=>
  simp at ab ae;obtain⟨rfl,rfl⟩:=ab;subst ae;refine⟨xaR _,λj y l g=>?_,λx c y g f=>?_⟩;.have:=(lV.1 g).1;omega
  rw[List.take_length]at c⊢;have:=h.k4 x c y g f;simp at this;exact .inl this
 |succ j=>simp at ab
def hT.skip{w:List (Nat×Nat)}{v a y:Nat}(h:hT nx aL n out (w++[(v,a)]) iH)(s:(nx v)[a]?=some y)(r:aL y=true->y∈out\/y∈(w++[(v,a)]).map (·.1)):hT nx aL n out (w++[(v,a+1)]) iH:=by
 have o:(w++[(v,a+1)]).map (·.1)=(w++[(v,a)]).map (·.1):=sZ
 have f:∀(i:Nat)(u b:Nat),(w++[(v,a+1)])[i]?=some (u,b)->∃b',(w++[(v,a)])[i]?=some (u,b')/\(i<w.length->b'=b):=by
  intro i u b ag;rcases Nat.lt_trichotomy i w.length with ah|ah|ah
  .rw[xap ah]at ag⊢;exact⟨b,ag,λ_=>rfl⟩
  .subst ah;have e:(w++[(v,a)])[w.length]?=some (v,a):=sZ
   simp at ag;obtain⟨rfl,rfl⟩:=ag;exact⟨a,e,λh=>absurd h oZ⟩
  rw[xaH uZ]at ag;cases ag
 refine⟨by rw[o];exact h.kL,by rw[o];exact h.ok,by rw[o];exact h.k4,?_,?_,h.Bz,by simpa using h.G5,?_⟩;.intro i u dN b b' ab ae;obtain⟨c,k,_⟩:=f i u b ab;obtain⟨t,p,_⟩:=f _ dN b' ae;exact h.xW i u dN c t k p
 .intro i u b ag;rw[o];rcases xbe i w.length with ah|ah
  .obtain⟨c,ab,ae⟩:=f i u b ag;rw[ae ah]at ab;exact h.at_ i u b ab
  have:i=w.length:=by have:=(lV.1 ag).1;simp at this;omega
  subst this;simp at ag;obtain⟨rfl,rfl⟩:=ag;obtain⟨g1,g2⟩:=h.at_ w.length v a sZ;have A:=(lV.1 s).1;refine⟨by omega,λj z F m g=>?_⟩;rcases xbe j a with l|l
  .exact g2 j z l m g
  have:j=a:=oZ
  subst this;rw[s]at m;cases m;exact r g
 intro i u b d ab ae;obtain⟨c,k,_⟩:=f i u b ab;obtain⟨C,D,E⟩:=h.g1 i u c d k ae;refine⟨C,D,λx B z m g=>?_⟩;have q:i<=w.length:=by have:=(lV.1 ab).1;simp at this;omega
 have:=E x B z m g;rw[xbu q]at this⊢;exact this
def hT.push{w:List (Nat×Nat)}{v a y:Nat}(h:hT nx aL n out (w++[(v,a)]) iH)(H:(nx v)[a]?=some y)(f:aL y=true)(I:y<n)(D:¬(y∈out\/y∈(w++[(v,a)]).map (·.1))):hT nx aL n out (w++[(v,a+1)]++[(y,0)]) (iH++[out.length]):=by
 have C:=xad H;have P:(w++[(v,a+1)]).map (·.1)=(w++[(v,a)]).map (·.1):=sZ
 have t:(w++[(v,a+1)]++[(y,0)]).map (λ(p:Nat×Nat)=>p.1)=(w++[(v,a)]).map (λ(p:Nat×Nat)=>p.1)++[y]:=sZ
 have K:(w++[(v,a+1)]).length=w.length+1:=sZ
 have g:∀(i:Nat)(u b:Nat),i<w.length+1->(w++[(v,a+1)]++[(y,0)])[i]?=some (u,b)->∃b',(w++[(v,a)])[i]?=some (u,b')/\(i<w.length->b'=b):=by
  intro i u b k ag;rw[xap oZ]at ag;rcases xbe i w.length with ah|ah
  .rw[xap ah]at ag⊢;exact⟨b,ag,λ_=>rfl⟩
  have:i=w.length:=oZ
  subst this;have e:(w++[(v,a)])[w.length]?=some (v,a):=sZ
  simp at ag;obtain⟨rfl,rfl⟩:=ag;exact⟨a,e,λh=>absurd h oZ⟩
 have l:∀(i u b:Nat),¬i<w.length+1->(w++[(v,a+1)]++[(y,0)])[i]?=some (u,b)->i=w.length+1/\u=y/\b=0:=by
  intro i u b k ag;have ab:=(lV.1 ag).1;have G:i=w.length+1:=by simp at ab;omega
  subst G;rw[xas oZ]at ag;simp at ag;exact⟨rfl,ag.1.symm,ag.2.symm⟩
 have s:=h.G5;refine⟨?_,?_,?_,?_,?_,h.Bz,by simp at s⊢;omega,?_⟩
 .rw[t,<-xaL,xbH];refine⟨h.kL,by simp,?_⟩;intro p E q L;simp at L;subst L;intro e;subst e;rcases xar.1 E with E|E
  .exact D (.inl E)
  exact D (.inr E)
 .intro x m;rw[t,<-xaL]at m;rcases xar.1 m with m|m
  .exact h.ok x m
  simp at m;subst m;exact⟨f,I⟩
 .intro x m z r J;rw[t];rcases h.k4 x m z r J with h|h
  .exact .inl h
  exact .inr (xaZ _ h)
 .intro i u dN b b' ab ae;by_cases ag:i+1<w.length+1;.obtain⟨c,o,_⟩:=g i u b oZ ab;obtain⟨M,F,_⟩:=g _ dN b' ag ae;exact h.xW i u dN c M o F
  obtain⟨T,rfl,rfl⟩:=l _ dN b' ag ae;have:i=w.length:=oZ
  subst this;obtain⟨c,o,_⟩:=g _ u b oZ ab;simp at o;rw[<-o.1];exact C
 .intro i u b ag;rw[t];by_cases k:i<w.length+1
  .have aj:hT nx aL n out (w++[(v,a)]) iH:=h;rcases xbe i w.length with ah|ah
   .obtain⟨c,ab,ae⟩:=g i u b k ag;rw[ae ah]at ab;obtain⟨g1,g2⟩:=h.at_ i u b ab;exact⟨g1,λj z A r f=>(g2 j z A r f).imp id (xaZ _)⟩
   have:i=w.length:=oZ
   subst this;rw[xap oZ]at ag;simp at ag;obtain⟨rfl,rfl⟩:=ag;obtain⟨g1,g2⟩:=h.at_ w.length v a sZ;have N:=(lV.1 H).1;refine⟨by omega,λj z A r f=>?_⟩;rcases xbe j a with B|B
   .exact(g2 j z B r f).imp id (xaZ _)
   have:j=a:=oZ
   subst this;rw[H]at r;cases r;exact .inr sZ
  obtain⟨_,rfl,rfl⟩:=l _ u b k ag;exact⟨xah _,λj z A=>absurd A (xaF _)⟩
 intro i u b d ab ae;by_cases k:i<w.length+1;.obtain⟨c,o,_⟩:=g i u b k ab;rw[xap (by simp at s;omega)]at ae;obtain⟨Q,R,S⟩:=h.g1 i u c d o ae;refine⟨Q,R,λx m z r f=>?_⟩;have:=S x m z r f;rw[xaL,xbu oZ];rw[xbu oZ]at this;exact this
 obtain⟨rfl,rfl,rfl⟩:=l _ u b k ab;rw[xas (by simp at s;omega)]at ae;have O:d=out.length:=by simp at s;simp[s]at ae;exact ae.symm
 subst O;refine⟨xaR _,λj z A r=>?_,λx m z r f=>?_⟩;.have:=(lV.1 r).1;omega
 rw[List.take_length]at m⊢;have:=h.k4 x m z r f;rw[xbu oZ,xbC oZ,P];exact this
def hT.chain(h:hT nx aL n out h9 iH):∀(k i u v a b:Nat),h9[i]?=some (u,a)->h9[i+k]?=some (v,b)->dA (hd nx aL) u v
 |0,i,u,v,a,b,ab,ae=>by rw[xbw,ab]at ae;cases ae;exact .refl _
 |k+1,i,u,v,a,b,ab,ae=>by have ah:=(lV.1 ae).1;have ai:h9[i+1]?=some (h9[i+1]'oZ):=xaa oZ;generalize (h9[i+1]'oZ)=p at ai;obtain⟨c,e⟩:=p;have d:=h.xW i u c a e ab ai;have ok:∀(j x z:Nat),h9[j]?=some (x,z)->aL x=true:=λj x z f=>(h.ok x (xbT _ (xaK.2 ⟨_,xad f,rfl⟩))).1;refine .step ⟨ok i u a ab,ok _ c e ai,d⟩ (hT.chain h k (i+1) c v e b ai ?_);rw[show i+1+k=i+(k+1) by omega];exact ae
def hT.fin{w:List (Nat×Nat)}{v a:Nat}(h:hT nx aL n out (w++[(v,a)]) iH)(Z:a=(nx v).length):hT nx aL n (out++[v]) w (iH.take w.length):=by
 have b5:iH.length=w.length+1:=by simpa using h.G5
 have M:(w++[(v,a)]).map (·.1)=w.map (·.1)++[v]:=sZ
 have l:=h.kL;rw[M]at l;have L:v∉out/\v∉w.map (·.1):=by rw[<-xaL,xbH]at l;refine⟨λU=>l.2.2 v (xaZ _ U) v sZ rfl,λU=>l.2.2 v (xbT _ U) v sZ rfl⟩
 have W:aL v=true:=(h.ok v (by rw[M];simp)).1;have m:∀(i u b:Nat),w[i]?=some (u,b)->(w++[(v,a)])[i]?=some (u,b):=λi u b ag=>by rw[xap (lV.1 ag).1];exact ag
 have B:(w++[(v,a)])[w.length]?=some (v,a):=sZ
 obtain⟨d,bX⟩:∃d,iH[w.length]?=some d:=⟨_,xaa oZ⟩;obtain⟨d1,d2,d3⟩:=h.g1 w.length v a d B bX;have E:∀y,y∈out\/y∈(w++[(v,a)]).map (·.1)->y∈out++[v]\/y∈w.map (·.1):=by
  intro y k;rw[M]at k;rcases k with k|k
  .exact .inl (xaZ _ k)
  rcases xar.1 k with k|k;.exact .inr k
  exact .inl (xbT _ k)
 refine⟨?_,?_,?_,?_,?_,?_,by simp;omega,?_⟩
 .have:(out++(w.map (·.1)++[v])).Perm (out++[v]++w.map (·.1)):=by
   rw[xaL];exact List.Perm.append_left _ List.perm_append_comm
  exact this.nodup_iff.1 l
 .intro x g;refine h.ok x ?_;rw[M];simp only[xar,xcg]at g⊢;rcases g with(g|g)|g
  .exact .inl g
  .exact .inr (.inr g)
  exact .inr (.inl g)
 .intro x g y k t;rcases xar.1 g with g|g
  .exact E y (h.k4 x g y k t)
  simp at g;subst g;obtain⟨j,F⟩:=xaJ.1 k;exact E y ((h.at_ w.length x a B).2 j y (by rw[Z];exact(lV.1 F).1) F t)
 .intro i u z b c ab ae;exact h.xW i u z b c (m _ _ _ ab) (m _ _ _ ae)
 .intro i u b ag;obtain⟨g1,g2⟩:=h.at_ i u b (m _ _ _ ag);exact⟨g1,λj y F k t=>E y (g2 j y F k t)⟩
 .intro f r H x g;rcases xbe f out.length with ah|ah
  .rw[xap ah]at H;rw[xbu oZ]at g;exact h.Bz f r H x g
  have O:f=out.length:=by have:=(lV.1 H).1;simp at this;omega
  subst O;simp at H;subst H;have T:(out++[v]).take (out.length+1)=out++[v]:=xbC sZ;rw[T]at g;have key:∀x z,dA (G3 nx aL (out++[v])) x z->(∃j,d<=j/\(out++[v])[j]?=some z)->x∈out++[v]->∃j,d<=j/\(out++[v])[j]?=some x:=by
   intro x z b0
   induction b0 with
   |refl _=>intro h _;exact h
   | @step p q s C ck ih=>
    intro cC Q;obtain⟨j,J,o⟩:=ih cC C.2.2;obtain⟨i,ag⟩:=xaJ.1 Q;rcases xbe i d with I|I
    .exfalso;have R:p∈out.take d:=by
      rw[xap oZ]at ag;rw[List.mem_take_iff_getElem];obtain⟨ab,ae⟩:=lV.1 ag;exact⟨i,by omega,ae⟩
     have D:=d3 p R q C.1.2.2 C.1.2.1;have cA:((w++[(v,a)]).take w.length)=w:=by rw[xbu (xaR _),List.take_length]
     rw[cA]at D;have S:q∈out++[v]:=C.2.2;rcases D with D|D
     .rw[List.mem_take_iff_getElem]at D;obtain⟨X,b3,rfl⟩:=D;have K:(out++[v]).Nodup:=by
       rw[<-xaL,xbH]at l;rw[xbH];refine⟨(xbH.1 l.1).1,by simp,?_⟩;intro cK N b' G;simp at G;subst G;intro e;subst e;exact L.1 N
      have Y:(out++[v])[X]?=some out[X]:=by rw[xap oZ,xaa]
      have:=amh K Y o;omega
     rcases xar.1 S with ab|ab;.rw[xbH]at l;exact l.2.2 q ab q (xaZ _ D) rfl
     simp at ab;subst ab;exact L.2 D
    exact⟨i,I,ag⟩
  have V:x∈out++[v]:=by cases g with|refl=>simp|step h _=>exact h.2.1
  obtain⟨j,J,o⟩:=key x v g ⟨out.length,d1,by simp⟩ V;rcases xbe j out.length with A|A;.rw[xap A]at o;exact d2 j x J o
  have:j=out.length:=by have:=(lV.1 o).1;simp at this;omega
  subst this;simp at o;subst o;exact .refl _
 intro i u b e ab ae;have P:=(lV.1 ab).1;rw[xaQ,xac P]at ae;obtain⟨cx,cU,de⟩:=h.g1 i u b e (m _ _ _ ab) ae;refine⟨by simp;omega,λj y F k=>?_,λx g y k t=>?_⟩
 .rcases xbe j out.length with A|A;.rw[xap A]at k;exact cU j y F k
  have:j=out.length:=by have:=(lV.1 k).1;simp at this;omega
  subst this;simp at k;subst k;have:=h.chain (w.length-i) i u v b a (m _ _ _ ab) (by rw[show i+(w.length-i)=w.length by omega];exact B);exact this
 rw[xbu cx]at g⊢;have:=de x g y k t;rw[xbu oZ]at this;exact this
end
def jX(nx:Nat->lX)(aL:Nat->Bool)(a b:Nat):Prop:=dA (hd nx aL) a b/\dA (hd nx aL) b a
def jX.refl{nx:Nat->lX}{aL:Nat->Bool}(a:Nat):jX nx aL a a:=⟨.refl _,.refl _⟩
def jX.symm{nx:Nat->lX}{aL:Nat->Bool}{a b:Nat}(h:jX nx aL a b):jX nx aL b a:=⟨h.2,h.1⟩
def jX.trans{nx:Nat->lX}{aL:Nat->Bool}{a b c:Nat}(h:jX nx aL a b)(k:jX nx aL b c):jX nx aL a c:=⟨h.1.trans k.1,k.2.trans h.2⟩
def WH(nx:Nat->lX)(aL:Nat->Bool)(M:Nat->Prop)(a b:Nat):Prop:=hd nx aL a b/\¬M a/\¬M b
structure rL(nx:Nat->lX)(aL:Nat->Bool)(n:Nat)(prev:Nat->lX)(M:Nat->Prop)(r:Nat)(part todo:lX):Prop where
 kL:(part++todo).Nodup
 ok:∀x∈part++todo,aL x=true/\x<n/\¬M x
 to:∀x∈part++todo,dA (WH nx aL M) x r
 has:r∈part++todo
 cl:∀x∈part,∀j∈prev x,aL j=true->M j\/j∈part++todo
section
variable{nx:Nat->lX}{aL:Nat->Bool}{n:Nat}{prev:Nat->lX}{M:Nat->Prop}{r:Nat}
def rL.start(ag:aL r=true)(b:r<n)(a:¬M r):rL nx aL n prev M r [] [r]:=⟨by simp,by simp;exact⟨ag,b,a⟩,by simp;exact .refl _,by simp,by simp⟩
def rL.next{part todo new:lX}{i:Nat}(h:rL nx aL n prev M r part (i::todo))(q:∀j∈prev i,i∈nx j) (k:new.Nodup) (ab:∀j∈new,j∈prev i/\aL j=true/\j<n/\¬M j/\j∉part++i::todo) (ae:∀j∈prev i,aL j=true->M j\/j∈part++i::todo\/j∈new):rL nx aL n prev M r (part++[i]) (todo++new):=by
 have e:part++[i]++(todo++new)=(part++i::todo)++new:=sZ
 have f:i∈part++i::todo:=sZ
 obtain⟨i1,i2,i3⟩:=h.ok i f;refine⟨?_,?_,?_,?_,?_⟩;.rw[e,xbH];refine⟨h.kL,k,?_⟩;intro a m b o dV;subst dV;exact(ab a o).2.2.2.2 m
 .intro x d;rw[e]at d;rcases xar.1 d with d|d
  .exact h.ok x d
  obtain⟨_,a,b,c,_⟩:=ab x d;exact⟨a,b,c⟩
 .intro x d;rw[e]at d;rcases xar.1 d with d|d
  .exact h.to x d
  obtain⟨p,a,b,c,_⟩:=ab x d;exact .step ⟨⟨a,i1,q x p⟩,c,i3⟩ (h.to i f)
 .rw[e];exact xaZ _ h.has
 intro x d j l g;rw[e];rcases xar.1 d with d|d
 .rcases h.cl x d j l g with h|h;.exact .inl h
  exact .inr (xaZ _ h)
 simp at d;subst d;rcases ae j l g with h|h|h
 .exact .inl h
 .exact .inr (xaZ _ h)
 exact .inr (xbT _ h)
structure lI(nx:Nat->lX)(aL:Nat->Bool)(n:Nat)(l:lX)(k:Nat)(M:Nat->Prop):Prop where
 ok:∀x,M x->aL x=true/\x<n
 cl:∀x y,M x->jX nx aL x y->M y
 up:∀(j x:Nat),k<=j->l[j]?=some x->M x
def tI{a b:Nat}(h:dA (hd nx aL) a b)(c:aL a=true):aL b=true:=by induction h with|refl=>exact c|step h _ ih=>exact ih h.2.1
def amj{l:lX}{k:Nat}{part:lX}(C:G4 nx aL l)(m:∀x,aL x=true->x<n->x∈l)(d:∀x y,y∈nx x->y<n)(L:lI nx aL n l (k+1) M)(U:l[k]?=some r)(I:¬M r)(f:rL nx aL n prev M r part [])(T:∀i j,j<n->i∈nx j->j∈prev i)(x:Nat):x∈part↔jX nx aL r x:=by
 have Q:=f;rw[show part=part++[] by simp];constructor
 .intro P;have O:=f.to x P;obtain⟨x1,c9,W⟩:=f.ok x P;refine⟨?_,O.mono λa b h=>h.1⟩;have B:dA (G3 nx aL (l.take (k+1))) x r:=by
   have o:∀a,aL a=true->a<n->¬M a->a∈l.take (k+1):=by
    intro a R S z;obtain⟨j,N⟩:=xaJ.1 (m a R S);rw[List.mem_take_iff_getElem];obtain⟨ab,ae⟩:=lV.1 N;rcases xbe j (k+1)with h|h
    .exact⟨j,by omega,ae⟩
    exact absurd (L.up j a h N) z
   have e:∀a b,dA (WH nx aL M) a b->a<n->dA (G3 nx aL (l.take (k+1))) a b:=by
    intro a b dV
    induction dV with
    |refl=>intro _;exact .refl _
    | @step p q s c _ ih=>intro g;have w:=d p q c.1.2.2;exact .step ⟨c.1,o p c.1.1 g c.2.1,o q c.1.2.1 w c.2.2⟩ (ih w)
   exact e x r O c9
  exact C k r U x B
 rintro⟨ab,ae⟩;have D:∀y,jX nx aL r y->¬M y:=λy V A=>I (L.cl y r A V.symm);have J:r<n:=(f.ok r f.has).2.1;have e:∀a b,dA (hd nx aL) a b->a<n->b∈part++[]->dA (hd nx aL) r a->dA (hd nx aL) b r->a∈part++[]:=by
  intro a b dV
  induction dV with
  |refl=>intro _ h _ _;exact h
  | @step p q s c H ih=>
   intro g aj t u;have G:=d p q c.2.2;have w:=ih G aj (t.last c) u;have F:q∈part:=by simpa using w
   have E:dA (hd nx aL) p r:=(dA.step c H).trans u;rcases f.cl q F p (T q p g c.2.2) c.1 with h|h
   .exact absurd h (D p ⟨t,E⟩)
   exact h
 have K:x<n:=by
  cases ab with
  |refl=>exact J
  |step h aj=>
   have:∀a b,dA (hd nx aL) a b->a<n->b<n:=by
    intro a b dV
    induction dV with|refl=>exact id|step h _ ih=>intro _;exact ih (d _ _ h.2.2)
   exact this _ _ aj (d _ _ h.2.2)
 exact e x r ae K f.has ab (.refl _)
def lI.next{l:lX}{k:Nat}{part:lX}(b:lI nx aL n l (k+1) M)(f:l[k]?=some r)(a:∀x,x∈part↔jX nx aL r x)(d:∀x∈part,aL x=true/\x<n):lI nx aL n l k (λx=>M x\/x∈part):=by
 refine⟨?_,?_,?_⟩
 .rintro x (h|h);.exact b.ok x h
  exact d x h
 .rintro x y (h|h) aj;.exact .inl (b.cl x y h aj)
  exact .inr ((a y).2 (((a x).1 h).trans aj))
 intro j x c e;rcases Nat.eq_or_lt_of_le c with rfl|c
 .rw[f]at e;cases e;exact .inr ((a r).2 (.refl r))
 exact .inl (b.up j x c e)
def lI.skip{l:lX}{k:Nat}(a:lI nx aL n l (k+1) M)(d:l[k]?=some r)(h:M r):lI nx aL n l k M:=⟨a.ok,a.cl,λj x b c=>by
  rcases Nat.eq_or_lt_of_le b with rfl|b;.rw[d]at c;cases c;exact h
  exact a.up j x b c⟩
def lI.start{l:lX}:lI nx aL n l l.length (λ_=>False):=⟨λx h=>h.elim,λx y h=>h.elim,λj x b a=>absurd (lV.1 a).1 oZ⟩
end
def WI{i:Type}{R:i->i->Prop}(ag:∀x,¬R x x)(j:∀x y z,R x y->R y z->R x z):∀{l m:List i},l.Pairwise R->m.Pairwise R->(∀x,x∈l↔x∈m)->l=m
 |[],[],_,_,_=>rfl|[],b::s,_,_,h=>by have:=(h b).2 sZ;simp at this|a::r,[],_,_,h=>by have:=(h a).1 sZ;simp at this
 |a::r,b::s,ab,ae,h=>by
  rw[List.pairwise_cons]at ab ae;have dV:a=b:=by
   have f:=(h a).1 sZ;have g:=(h b).2 sZ;rcases xam.1 f with e|f
   .exact e
   rcases xam.1 g with e|g;.exact e.symm
   exact absurd (j _ _ _ (ab.1 b g) (ae.1 a f)) (ag a)
  subst dV;rw[WI ag j ab.2 ae.2 λx=>?_];constructor
  .intro d;rcases xam.1 ((h x).1 (xcp _ d))with e|c
   .subst e;exact absurd (ab.1 x d) (ag x)
   exact c
  intro d;rcases xam.1 ((h x).2 (xcp _ d))with e|c
  .subst e;exact absurd (ae.1 x d) (ag x)
  exact c
structure mu(nx:Nat->lX)(aL:Nat->Bool)(n:Nat)(out:mZ):Prop where
 each:∀p∈out,(∃r,aL r=true/\r<n/\∀x,x∈p↔jX nx aL r x)/\p.Pairwise (·<·)
 all:∀x,aL x=true->x<n->∃p∈out,x∈p
def mu.mem{nx:Nat->lX}{aL:Nat->Bool}{n:Nat}{l m:mZ}(h:mu nx aL n l)(k:mu nx aL n m){p:lX}(e:p∈l):p∈m:=by
 obtain⟨⟨r,c3,df,f⟩,g⟩:=h.each p e;obtain⟨q,c,b⟩:=k.all r c3 df;obtain⟨⟨s,s1,s2,d⟩,i⟩:=k.each q c;have a:=(d r).1 b;have:p=q:=WI (R:=(·<·)) (λx=>xcb x) (λx y z=>xco) g i λx=>by rw[f x,d x];exact⟨λh=>a.trans h,λh=>a.symm.trans h⟩
 rw[this];exact c
def mu.perm{nx:Nat->lX}{aL:Nat->Bool}{n:Nat}{l m:mZ}(h:mu nx aL n l)(b:m.Perm l):mu nx aL n m:=⟨λp c=>h.each p (b.mem_iff.1 c),λx ab ae=>by obtain⟨p,a,d⟩:=h.all x ab ae;exact⟨p,b.mem_iff.2 a,d⟩⟩
def fp(E:Nat->Nat->Prop)(a b:Nat):Prop:=∃c,E a c/\dA E c b
def fp.rc{E:Nat->Nat->Prop}{a b:Nat}(h:fp E a b):dA E a b:=by obtain⟨c,ab,ae⟩:=h;exact .step ab ae
def dA.cH{E:Nat->Nat->Prop}{a b:Nat}(h:dA E a b):a=b\/fp E a b:=by cases h with|refl=>exact .inl rfl|step ab ae=>exact .inr ⟨_,ab,ae⟩
def dA.snoc{E:Nat->Nat->Prop}{a b c:Nat}(h:dA E a b)(k:E b c):fp E a c:=by cases h with|refl=>exact⟨c,k,.refl _⟩|step ab ae=>exact⟨_,ab,ae.last k⟩
structure oV(E:Nat->Nat->Prop)(du V:Nat->Prop)(todo:lX):Prop where
 snd:∀x,V x->∃s,du s/\fp E s x
 tod:∀x∈todo,du x\/V x
 cl:∀x,du x\/V x->x∉todo->∀y,E x y->V y
def oV.start{E:Nat->Nat->Prop}{du:Nat->Prop}{todo:lX}(h:∀x,x∈todo↔du x):oV E du (λ_=>False) todo:=⟨λx h=>h.elim,λx a=> .inl ((h x).1 a),λx a b=>absurd ((h x).2 (a.elim id False.elim)) b⟩
def oV.next{E:Nat->Nat->Prop}{du V g:Nat->Prop}{i:Nat}{todo new:lX}(h:oV E du V (i::todo))(c:∀x,g x↔V x\/x∈new)(b:∀x∈new,E i x)(d:∀y,E i y->g y):oV E du g (todo++new):=by
 refine⟨?_,?_,?_⟩
 .intro x a;rcases(c x).1 a with a|a
  .exact h.snd x a
  rcases h.tod i (by simp)with aj|aj;.exact⟨i,aj,x,b x a,.refl _⟩
  obtain⟨s,ab,ae⟩:=h.snd i aj;exact⟨s,ab,ae.rc.snoc (b x a)⟩
 .intro x a;rcases xar.1 a with a|a
  .exact(h.tod x (by simp[a])).imp id λh=>(c x).2 (.inl h)
  exact .inr ((c x).2 (.inr a))
 intro x a k y l;rw[xar,not_or]at k;by_cases f:x=i;.subst f;exact d y l
 refine(c y).2 (.inl (h.cl x ?_ ?_ y l))
 .rcases a with a|a;.exact .inl a
  rcases(c x).1 a with a|a;.exact .inr a
  exact absurd a k.2
 intro j;rcases xam.1 j with e|j
 .exact f e
 exact k.1 j
def oV.done{E:Nat->Nat->Prop}{du V:Nat->Prop}(h:oV E du V [])(x:Nat):V x↔∃s,du s/\fp E s x:=by
 refine⟨h.snd x,?_⟩;rintro⟨s,aj,c,ab,ae⟩;have f:=h.cl s (.inl aj) sZ c ab;have d:∀a b,dA E a b->V a->V b:=by
  intro a b dV
  induction dV with|refl=>exact id|step ai _ ih=>intro e;exact ih (h.cl _ (.inr e) sZ _ ai)
 exact d c x ae f
def e3{l:lW}{j:Nat}{b:Bool}(h:l[j]?=some b):(aF (aI l))[j]?=some [aE b]:=by simp[aI,h]
def amk(l:lW)(j:Nat)(d:D)(c:Bool):D.aw 1 ((aF (aI l)).set j (dS [d] 0 [aE c]))=aI (l.set j c):=by have e:dS [d] 0 [aE c]=[aE c]:=rfl;rw[e];simp[aI,List.map_set]
attribute [go_sem] amk
def iE{l:lW}{j:Nat}(h:j<l.length):cI l.length (aa (j:Int))=some j:=by rw[jI,xac h]
def qa{j:Nat}{l:lW}(h:j<l.length):∃b,l[j]?=some b:=⟨_,xaa h⟩
def aml(N:Nat):D.aw 1 (List.replicate N [aE false])=aI (List.replicate N false):=by simp[aI]
attribute [go_sem] aml
def amm{N k:Nat}(h:N<=5000)(a:k<=100):e5 k (aa (N:Int)) (aa (N:Int))=some N:=by
 unfold e5 aa;have:(k:Int)*(N:Int)<=281474976710656:=by
  have ab:k*N<=100*5000:=Nat.mul_le_mul a h;have ae:((k*N:Nat):Int)<=281474976710656:=oZ
  simpa using ae
 have c:0<=(N:Int)/\(N:Int)<=(N:Int)/\(k:Int)*(N:Int)<=281474976710656/\(N:Int)<=9223372036854775807:=⟨by omega,by omega,this,by omega⟩;simp only[xac c,Int.toNat_natCast]
def hU{N:Nat}(h:N<=5000):e5 1 (aa (N:Int)) (aa (N:Int))=some N:=amm h oZ
def xv{k:Nat}(h:k<=1000000000):b1 k 8=true:=eB
def fi(i:Int)(p:lW×lX):lW×lX:=if 0<=i/\p.1[i.toNat]?=some false then(p.1.set i.toNat true,p.2++[i.toNat])else p
def WJ(n:Nat)(i:Int)(p:lW×lX)(h:p.2.length<1000000000):oh n [aa i,aI p.1,a8 p.2]=some [D.aB [],aI (fi i p).1,a8 (fi i p).2]:=by
 obtain⟨met,todo⟩:=p;have f:b1 (todo.length+1) 8=true:=xv (by simp only at h;omega);by_cases ak:0<=i
 .obtain⟨k,rfl⟩:∃k:Nat,i=(k:Int):=⟨i.toNat,by omega⟩;have a:=yT ((k:Int)>=0);by_cases ah:k<met.length
  .obtain⟨b,d⟩:=qa ah;have c:=yT ((k:Int)<(met.length:Int));cases b with
   |true=>
    have e:fi (k:Int) (met,todo)=(met,todo):=by rw[fi,xab];simp[d]
    rw[e];simp only[oh,go_sem,a,c,iE ah,e3 d]
   |false=>
    have e:fi (k:Int) (met,todo)=(met.set k true,todo++[k]):=by rw[fi,xac (by simp[d])];simp
    rw[e];simp only[oh,go_sem,a,c,iE ah,e3 d,xal,xaA,xav,f]
  have c:=yF ((k:Int)<(met.length:Int));have e:fi (k:Int) (met,todo)=(met,todo):=by rw[fi,xab];simp[show met.length<=k by omega]
  rw[e];simp only[oh,go_sem,a,c]
 have a:=yF (i>=0);have e:fi i (met,todo)=(met,todo):=by rw[fi,xab oZ]
 rw[e];simp only[oh,go_sem,a]
def Mb(i:Int)(p:lW×lX):(fi i p).2.length<=p.2.length+1:=by unfold fi;split<;>simp
def oW(l:lY)(p:lW×lX):lW×lX:=l.foldl (λp i=>fi i p) p
structure Mc(l:lY)(p q:lW×lX)(new:lX):Prop where
 len:q.1.length=p.1.length
 todo:q.2=p.2++new
 met:∀x,q.1[x]?=some true↔p.1[x]?=some true\/x∈new
 G6:new.Nodup
 nJ:∀x∈new,p.1[x]?=some false/\(x:Int)∈l
 all:∀x:Nat,(x:Int)∈l->x<p.1.length->q.1[x]?=some true
 h3:q.1.count false+q.2.length=p.1.count false+p.2.length
def tJ{l:lW}{k x:Nat}(a:k<l.length):(l.set k true)[x]?=some true↔l[x]?=some true\/x=k:=by
 by_cases h:x=k;.subst h;simp[a]
 rw[xcn (xbZ h)];simp[h]
def Md{l:lW}{k:Nat}(a:l[k]?=some false):(l.set k true).count false+1=l.count false:=by obtain⟨ab,ae⟩:=lV.1 a;have b:0<l.count false:=List.count_pos_iff.2 (xad a);rw[List.count_set ab,ae];simp;omega
def xw:∀(l:lY)(p:lW×lX),∃new,Mc l p (oW l p) new
 |[],p=>⟨[],rfl,by simp[oW],by simp[oW],.nil,by simp,by simp,rfl⟩
 |a::r,p=>by
  obtain⟨new,h⟩:=xw r (fi a p);have i:oW (a::r) p=oW r (fi a p):=rfl;rw[i];by_cases f:0<=a/\p.1[a.toNat]?=some false
  .have e:fi a p=(p.1.set a.toNat true,p.2++[a.toNat]):=xac f;rw[e]at h⊢;have g:=(lV.1 f.2).1;have d:a.toNat∉new:=by
    intro i;have:=(h.nJ _ i).1;simp[g]at this
   refine⟨a.toNat::new,by rw[h.len];simp,by rw[h.todo];simp,?_,List.nodup_cons.2 ⟨d,h.G6⟩,?_,?_,?_⟩;.intro x;rw[h.met x];show(p.1.set a.toNat true)[x]?=some true\/_↔_;rw[tJ g,xam,or_assoc]
   .intro x c;rcases xam.1 c with rfl|c
    .exact⟨f.2,by rw[show((a.toNat:Nat):Int)=a by omega];simp⟩
    obtain⟨ab,ae⟩:=h.nJ x c;have:x≠a.toNat:=λe=>d (e▸c);have ab:(p.1.set a.toNat true)[x]?=some false:=ab;rw[xcn (xbZ this)]at ab;exact⟨ab,xcp _ ae⟩
   .intro x c ah;rcases xam.1 c with c|c
    .have:x=a.toNat:=oZ
     rw[h.met x];exact .inl ((tJ g).2 (.inr this))
    exact h.all x c (by simpa using ah)
   have ab:=h.h3;have ae:=Md f.2;simp only[xaS,xal,xaA]at ab;omega
  have e:fi a p=p:=xab f;rw[e]at h⊢;refine⟨new,h.len,h.todo,h.met,h.G6,λx c=>⟨(h.nJ x c).1,xcp _ (h.nJ x c).2⟩,?_,h.h3⟩;intro x c ah;rcases xam.1 c with c|c
  .rw[h.met x];refine .inl ?_;obtain⟨b,j⟩:=qa ah;cases b with|true=>exact j|false=>exact absurd ⟨by omega,by rw[<-c];simpa using j⟩ f
  exact h.all x c ah
structure gb(N:Nat)(nx:mZ):Prop where
 len:nx.length=N
 le:N<=5000
 row:∀l∈nx,l.length<=5000
 lt:∀l∈nx,∀k∈l,k<N
def bl(nx:mZ)(a:Nat):lX:=(nx[a]?).getD []
def dM(S:mX)(nx:mZ)(a:lX)(b:mY):D:= .agg [bA S,bw nx,a8 a,bZ b]
theorem amn{S:mX}{nx:mZ}{a:lX}{b:mY}:D.agg [bA S,bw nx,a8 a,bZ b]=dM S nx a b:=rfl
attribute [go_sem] amn
theorem amo{S:mX}{nx:mZ}{a:lX}{b:mY}:dK (dM S nx a b)=[bA S,bw nx,a8 a,bZ b]:=rfl
attribute [go_sem] amo
theorem amp{S:mX}{nx:mZ}{a:lX}{b:mY}:cz 4 (dM S nx a b)=true:=rfl
theorem amq{S:mX}{nx:mZ}{a:lX}{b:mY}:ad (dM S nx a b) 0=bA S:=rfl
theorem amr{S:mX}{nx:mZ}{a:lX}{b:mY}:ad (dM S nx a b) 1=bw nx:=rfl
theorem ams{S:mX}{nx:mZ}{a:lX}{b:mY}:ad (dM S nx a b) 2=a8 a:=rfl
theorem amt{S:mX}{nx:mZ}{a:lX}{b:mY}:ad (dM S nx a b) 3=bZ b:=rfl
attribute [go_sem] amp amq amr ams amt
section
variable{N:Nat}{nx:mZ}(g:gb N nx)
include g
theorem gb.cN{a:Nat}(h:a<N):bc 1 (bw nx) (aa (a:Int))=some [a8 (bl nx a)]:=by
 have:nx[a]?=some (bl nx a):=by unfold bl;rw[xaa (by rw[g.len];exact h)];rfl
 exact G0 this
theorem gb.WK{a:Nat}(h:a<N):bl nx a∈nx:=by
 have b:a<nx.length:=by rw[g.len];exact h
 unfold bl;rw[xaa b];exact xaW _
theorem gb.jt{a b:Nat}(h:b∈bl nx a):a<N/\b<N:=by
 rcases xbe a N with c|c;.exact⟨c,g.lt _ (g.WK c) b h⟩
 unfold bl at h;rw[xaH (by rw[g.len];exact c)]at h;simp at h
theorem gb.rM(a:Nat):(bl nx a).length<=5000:=by
 rcases xbe a N with b|b;.exact g.row _ (g.WK b)
 unfold bl;rw[xaH (by rw[g.len];exact b)];simp
end
def Me(nx:mZ)(a b:Nat):Prop:=b∈bl nx a
structure mw(E:Nat->Nat->Prop)(du:Nat->Prop)(N:Nat)(p:lW×lX):Prop where
 len:p.1.length=N
 snd:∀x,p.1[x]?=some true->∃s,du s/\dA E s x
 Mf:∀s,du s->p.1[s]?=some true
 td:∀x∈p.2,p.1[x]?=some true
 cl:∀x,p.1[x]?=some true->x∉p.2->∀y,E x y->p.1[y]?=some true
def mw.done{E:Nat->Nat->Prop}{du:Nat->Prop}{N:Nat}{p:lW×lX}(h:mw E du N p)(ak:p.2=[])(x:Nat):p.1[x]?=some true↔∃s,du s/\dA E s x:=by
 refine⟨h.snd x,?_⟩;rintro⟨s,aj,e⟩;have c:∀a b,dA E a b->p.1[a]?=some true->p.1[b]?=some true:=by
  intro a b dV
  induction dV with|refl=>exact id|step ab _ ih=>intro d;exact ih (h.cl _ d (by rw[ak];simp) _ ab)
 exact c s x e (h.Mf s aj)
def mw.start{nx:mZ}{N:Nat}(l:lY):mw (Me nx) (λs=>(s:Int)∈l/\s<N) N (oW l (List.replicate N false,[])):=by
 obtain⟨new,h⟩:=xw l (List.replicate N false,[]);have ak:∀x:Nat,(List.replicate N false)[x]?≠some true:=by intro x a;rw[xbh]at a;split at a<;>simp at a
 have b:∀x:Nat,(oW l (List.replicate N false,[])).1[x]?=some true↔x∈new:=λx=>by rw[h.met x];exact⟨λh=>h.resolve_left (ak x),.inr⟩
 have e:∀x∈new,(x:Int)∈l/\x<N:=λx a=>⟨(h.nJ x a).2,by simpa using(lV.1 (h.nJ x a).1).1⟩;have c:=h.todo;simp only[xaM]at c;refine⟨by rw[h.len];simp,λx a=>⟨x,e x ((b x).1 a),.refl _⟩,λs aj=>h.all s aj.1 (by simpa using aj.2),λx a=>(b x).2 (c▸a),λx a d=>absurd (c▸(b x).1 a) d⟩
def mw.next{nx:mZ}{N:Nat}(g:gb N nx){du:Nat->Prop}{met:lW}{t:lX}{a:Nat}(h:mw (Me nx) du N (met,t++[a])):mw (Me nx) du N (oW ((bl nx a).map λ(k:Nat)=>(k:Int)) (met,t)):=by
 obtain⟨new,q⟩:=xw ((bl nx a).map λ(k:Nat)=>(k:Int)) (met,t);have d:∀y,((y:Nat):Int)∈(bl nx a).map (λ(k:Nat)=>(k:Int))↔y∈bl nx a:=by
  intro y;simp only[xaK];exact⟨λ⟨k,ab,ae⟩=>by
                 have:k=y:=oZ
                 exact this▸ab,λh=>⟨y,h,rfl⟩⟩
 have i:=h.td a sZ;refine⟨by rw[q.len];exact h.len,?_,λs aj=>(q.met s).2 (.inl (h.Mf s aj)),?_,?_⟩
 .intro x b;rcases(q.met x).1 b with b|b
  .exact h.snd x b
  obtain⟨s,ab,ae⟩:=h.snd a i;exact⟨s,ab,ae.last ((d x).1 (q.nJ x b).2)⟩
 .intro x b;rw[q.todo]at b;rcases xar.1 b with b|b
  .exact(q.met x).2 (.inl (h.td x (by simp at b⊢;exact .inl b)))
  exact(q.met x).2 (.inr b)
 intro x b f y j;rw[q.todo,xar,not_or]at f;by_cases e:x=a;.subst e;exact q.all y ((d y).2 j) (by have:=(g.jt j).2;have:=h.len;simp only at this⊢;omega)
 refine(q.met y).2 (.inl (h.cl x ?_ ?_ y j));.exact((q.met x).1 b).resolve_right f.2
 intro c;rcases xar.1 c with c|c
 .exact f.1 c
 simp at c;exact e c
section
variable{S:mX}{nx:mZ}(bs:lX)(aA:mY)(g:gb S.length nx)(n:Nat)(bm:10000000<n)
include g bm
end
def hasB(aL:lW)(k:Nat):Bool:=(aL[k]?).getD false
def hx{aL:lW}{k:Nat}:hasB aL k=true↔aL[k]?=some true:=by unfold hasB;cases aL[k]? with|none=>simp|some b=>simp
def fH(h:Nat->Bool)(l:lX)(p:lW×lX):lW×lX:=oW ((l.filter h).map λ(k:Nat)=>(k:Int)) p
def BA(h:Nat->Bool)(k:Nat)(r:lX)(p:lW×lX):fH h (k::r) p=fH h r (if h k=true then fi (k:Int) p else p):=by
 unfold fH;by_cases a:h k=true;.rw[List.filter_cons_of_pos a,xac a];rfl
 rw[List.filter_cons_of_neg a,xab a]
def WL(i:Int)(p:lW×lX):(fi i p).1.length=p.1.length:=by unfold fi;split<;>simp
def xx{l:lX}{h:Nat->Bool}{y:Nat}:((y:Nat):Int)∈(l.filter h).map (λ(k:Nat)=>(k:Int))↔y∈l/\h y=true:=by
 simp only[xaK,xbL];exact⟨λ⟨k,ab,ae⟩=>by
                have:k=y:=oZ
                exact this▸ab,λh=>⟨y,h,rfl⟩⟩
def Mg{i:Nat}{t:lX}:D.aw 1 (((aF (a8 (i::t))).drop 1).take t.length)=a8 t:=by have:(t.map λ(k:Nat)=>[aa (k:Int)]).take t.length=t.map λ(k:Nat)=>[aa (k:Int)]:=xbC sZ;simp[a8,this]
def Mh{k:Nat}:hG (k+1) (some (aa 1)) none=some (1,k):=by have:=KY (n:=k+1) (i:=1) oZ;simpa using this
def Mi{k:Nat}:cI (k+1) (aa 0)=some 0:=Gb
def ju(nx:mZ)(aL:lW)(a b:Nat):Prop:=b∈bl nx a/\aL[b]?=some true
section
variable{S:mX}{nx:mZ}(bs:lX)(aA:mY)(g:gb S.length nx)(n:Nat)(bm:10000000<n)
include g bm
theorem WM:s9 n [dM S nx bs aA]=some (aI (List.replicate S.length true)):=by
 have a:=g.le;have ag:=ch (f:=Fl n) (List.replicate S.length ()) (λi (_:Unit)=>[aa (i:Int),aI (List.replicate i true++List.replicate (S.length-i) false)]) (λ_ _=>(.inl [aI (List.replicate S.length true)]:lZ⊕D)) (λ_ _=>True) ?_ ?_ n 0 () trivial uZ (xah _)
 .have c:(aa ((0:Nat):Int))=aa 0:=rfl;simp only[c,List.replicate_zero,xaM,Nat.sub_zero]at ag;simp only[s9,RM,go_sem,hU a,ag]
 .intro _ _;simp only[xaP,Fl,go_sem,xbV,List.replicate_zero,xat,yF ((S.length:Int)<S.length)]
 intro i _ _ _ ag _;simp only[xaP]at ag;left;refine⟨(),?_,rfl,trivial⟩;have ah:(List.replicate i true++List.replicate (S.length-i) false).length=S.length:=uZ
 have d:(List.replicate i true++List.replicate (S.length-i) false)[i]?=some false:=by rw[xas sZ,xaP,xbV,xbh,xac oZ]
 have aj:(List.replicate i true++List.replicate (S.length-i) false).set i true=List.replicate (i+1) true++List.replicate (S.length-(i+1)) false:=by obtain⟨k,e⟩:∃k,S.length-i=k+1:=⟨S.length-i-1,by omega⟩;rw[e,show S.length-(i+1)=k by omega,xcu,List.set_append_right _ _ sZ,List.replicate_succ'];simp
 have b:cI S.length (aa (i:Int))=some i:=j7 ag;simp only[Fl,go_sem,ah,yT ((i:Int)<(S.length:Int)),b,e3 d,aj,bk i]
theorem xy(aL:lW)(j:aL.length<=1000000000):ku n [dM S nx bs aA,aI aL]=some (aI ((List.range S.length).map (hasB aL))):=by
 have c:=g.le;have ag:=ch (f:=AQ n) (List.replicate S.length ()) (λi (_:Unit)=>[aI aL,aa (i:Int),aI ((List.range i).map (hasB aL)++List.replicate (S.length-i) false)]) (λ_ _=>(.inl [aI ((List.range S.length).map (hasB aL))]:lZ⊕D)) (λ_ _=>True) ?_ ?_ n 0 () trivial uZ (xah _)
 .have e:(aa ((0:Nat):Int))=aa 0:=rfl;simp only[e,List.range_zero,xbd,xaM,Nat.sub_zero]at ag;simp only[ku,RL,go_sem,hU c,ag]
 .intro _ _;simp only[xaP,AQ,go_sem,xaU,xbg,xbV,List.replicate_zero,xat,yF ((S.length:Int)<S.length)]
 intro i _ _ _ ag _;simp only[xaP]at ag;left;refine⟨(),?_,rfl,trivial⟩;have ah:((List.range i).map (hasB aL)++List.replicate (S.length-i) false).length=S.length:=uZ
 have d:((List.range i).map (hasB aL)++List.replicate (S.length-i) false)[i]?=some false:=by rw[xas sZ,xaU,xbg,xbV,xbh,xac oZ]
 have aj:((List.range i).map (hasB aL)++List.replicate (S.length-i) false).set i (hasB aL i)=(List.range (i+1)).map (hasB aL)++List.replicate (S.length-(i+1)) false:=by obtain⟨k,l⟩:∃k,S.length-i=k+1:=⟨S.length-i-1,by omega⟩;rw[l,show S.length-(i+1)=k by omega,xcu,List.set_append_right _ _ sZ,List.range_succ];simp
 have b:cI S.length (aa (i:Int))=some i:=j7 ag;have m:c8 (aE (hasB aL i))=true:=rfl;by_cases h:i<aL.length
 .have a:aL[i]?=some (hasB aL i):=by unfold hasB;rw[xaa h];rfl
  simp only[AQ,go_sem,ah,yT ((i:Int)<(S.length:Int)),yT ((i:Int)<(aL.length:Int)),rK a,b,m,e3 d,aj,bk i]
 have a:hasB aL i=false:=by unfold hasB;rw[xaH oZ];rfl
 rw[a]at aj;simp only[AQ,go_sem,ah,yT ((i:Int)<(S.length:Int)),yF ((i:Int)<(aL.length:Int)),b,e3 d,aj,bk i]
theorem amu(aL:lW)(x:aL.length=S.length){i:Nat}(ag:i<S.length)(p:lW×lX)(ah:p.1.length=S.length)(w:p.2.length<=100000000):aS (ta n) n [aI aL,aa (i:Int),aa 0,bA S,bw nx,a8 bs,bZ aA,aI p.1,a8 p.2]=some (.inl [aI aL,bA S,bw nx,a8 bs,bZ aA,aI (fH (hasB aL) (bl nx i) p).1,a8 (fH (hasB aL) (bl nx i) p).2]):=by
 have z:=g.rM i;have a:=g.cN ag;have H:=ch (f:=ta n) (bl nx i) (λj (p:lW×lX)=>[aI aL,aa (i:Int),aa (j:Int),bA S,bw nx,a8 bs,bZ aA,aI p.1,a8 p.2]) (λr p=>(.inl [aI aL,bA S,bw nx,a8 bs,bZ aA,aI (fH (hasB aL) r p).1,a8 (fH (hasB aL) r p).2]:lZ⊕(lZ⊕(lZ⊕(lZ⊕D))))) (λj p=>p.1.length=S.length/\p.2.length+((bl nx i).length-j)<=200000000) ?_ ?_ n 0 p ⟨ah,by omega⟩ oZ (xah _)
 .exact H
 .intro p _;simp only[ta,go_sem,a,yF (((bl nx i).length:Int)<(bl nx i).length)];rfl
 rintro j k ⟨met,todo⟩ q A ⟨ah,w⟩;simp only at ah w;have y:=(g.jt (xad q)).2;have d:=yT ((j:Int)<((bl nx i).length:Int));obtain⟨b,m⟩:=qa (l:=aL) (j:=k) oZ;obtain⟨c,o⟩:=qa (l:=met) (j:=k) oZ;have aX:hasB aL k=b:=by unfold hasB;rw[m];rfl
 have h:cI met.length (aa (k:Int))=some k:=iE oZ;have u:b1 (todo.length+1) 8=true:=xv oZ;have t:=Mb (k:Int) (met,todo);have s:=WL (k:Int) (met,todo);left;cases b with
 |false=>
  refine⟨(met,todo),?_,?_,ah,by simp only;omega⟩;.simp only[ta,go_sem,a,d,gQ q,rK m,bk j]
  rw[BA,xab (by rw[aX];simp)]
 |true=>
  refine⟨fi (k:Int) (met,todo),?_,?_,by rw[s];exact ah,by simp only at t;omega⟩
  .cases c with
   |true=>
    have e:fi (k:Int) (met,todo)=(met,todo):=by rw[fi,xab];simp[o]
    rw[e];simp only[ta,go_sem,a,d,gQ q,rK m,h,e3 o,bk j]
   |false=>
    have e:fi (k:Int) (met,todo)=(met.set k true,todo++[k]):=by rw[fi,xac (by simp[o])];simp
    rw[e];simp only[ta,go_sem,a,d,gQ q,rK m,h,e3 o,xal,xaA,xav,u,bk j]
  rw[BA,xac aX]
theorem amv(aL:lW)(o:aL.length=S.length){a:Nat}(F:a<S.length): ∃R:lW,tb n [dM S nx bs aA,aa (a:Int),aI aL]=some (aI R)/\R.length=S.length/\∀x,R[x]?=some true↔fp (ju nx aL) a x:=by
 have u:=g.le;have H:=rI (f:=Fo n) (λ(p:lW×lX)=>[aI aL,bA S,bw nx,a8 bs,bZ aA,aI p.1,a8 p.2]) (λp=>p.1.count false+p.2.length) (λp=>p.1.length=S.length/\(∀x∈p.2,x<S.length)/\oV (ju nx aL) (·=a) (λx=>p.1[x]?=some true) p.2/\p.1.count false+p.2.length<=S.length+1) (λy=>∃R:lW,y=(.inl [aI R]:lZ⊕D)/\R.length=S.length/\∀x,R[x]?=some true↔∃s,s=a/\fp (ju nx aL) s x) ?_ n (List.replicate S.length false,[a]) ?_ ?_
 .obtain⟨y,ab,R,rfl,ai,C⟩:=H;refine⟨R,?_,ai,λx=>by rw[C x];simp⟩;have j:D.aw 1 [[aa (a:Int)]]=a8 [a]:=rfl;have G:c8 (aa (a:Int))=true:=rfl;simp only[tb,RN,go_sem,hU u,j,G,ab]
 .rintro⟨met,todo⟩ ⟨ah,h,l,z⟩;simp only at ah h l z;cases todo with
  |nil=>
   right;refine⟨_,?_,met,rfl,ah,l.done⟩;have A:decide ((0:Int)>0)=false:=dZ
   have j:((([]:lX).length:Nat):Int)=0:=rfl;simp only[Fo,go_sem,j,A]
  |cons i t=>
   left;have m:=h i sZ;simp only[xal]at z;obtain⟨new,q⟩:=xw (((bl nx i).filter (hasB aL)).map λ(k:Nat)=>(k:Int)) (met,t);have d:=q.h3;simp only at d;have E:=amu bs aA g n bm aL o m (met,t) ah (by simp only;omega);have r:(aF (a8 (i::t))).length=t.length+1:=by rw[Bw];simp
   have j:decide (((t.length+1:Nat):Int)>0)=true:=xao oZ;have B:(aF (a8 (i::t)))[0]?=some [aa (i:Int)]:=by simp[a8]
   have c:∀x∈new,ju nx aL i x:=λx b=>by obtain⟨ab,ae⟩:=xx.1 (q.nJ x b).2;exact⟨ab,hx.1 ae⟩
   refine⟨fH (hasB aL) (bl nx i) (met,t),?_,⟨by rw[fH,q.len];exact ah,?_,?_,by rw[fH,d];omega⟩,by rw[fH,d];simp only[xal];omega⟩;.simp only[Fo,go_sem,r,j,Mi,B,Mh,yT (1+t.length<=t.length+1),Mg,E]
   .intro x b;rw[fH,q.todo]at b;rcases xar.1 b with b|b
    .exact h x (by simp at b⊢;exact .inr b)
    exact(g.jt (c x b).1).2
   rw[fH,q.todo];exact l.next (λx=>q.met x) c λy w=>q.all y (xx.2 ⟨w.1,hx.2 w.2⟩) (by have:=(g.jt w.1).2;simp only;omega)
 .refine⟨by simp,by simpa using F,?_,by simp⟩;have e:(λx:Nat=>(List.replicate S.length false)[x]?=some true)=λ_=>False:=by
   funext x
   rw[xbh];split<;>simp
  show oV _ _ (λx:Nat=>(List.replicate S.length false)[x]?=some true) [a];rw[e];exact oV.start (λx=>by simp)
 simp;omega
end
def ci(l:lX):lY:=l.map λ(k:Nat)=>(k:Int)
def WN{a:mZ}{k j:Nat}{l:lX}(b:k<a.length):bl (a.set k l) j=if j=k then l else bl a j:=by
 unfold bl;by_cases h:j=k;.subst h;simp[b]
 rw[xcn (xbZ h),xab h]
def WO(i:Nat):∀(ks:lX)(a:mZ),(∀k∈ks,k<a.length)->∃b:mZ,sx (i:Int) (ci ks) (a.map ci)=some (b.map ci)/\b.length=a.length/\(∀j,(bl b j).length<=(bl a j).length+ks.length)/\∀j x,x∈bl b j↔x∈bl a j\/(x=i/\j∈ks)
 |[],a,_=>⟨a,rfl,rfl,λj=>xaR _,λj x=>by simp⟩
 |k::r,a,h=>by
  have d:=h k sZ;obtain⟨b,ab,ae,ai,l⟩:=WO i r (a.set k (bl a k++[i])) (λm e=>by simpa using h m (by simp[e]));refine⟨b,?_,by simpa using ae,λj=>?_,λj x=>?_⟩
  .have f:ci (k::r)=(k:Int)::ci r:=rfl;have g:((a.map ci).set (k:Int).toNat (((a.map ci)[(k:Int).toNat]?).getD []++[(i:Int)]))=(a.set k (bl a k++[i])).map ci:=by
    rw[List.map_set,Int.toNat_natCast]
    congr 1
    unfold bl;rw[xag,xaa d];simp[ci]
   rw[f,sx,xac ⟨by omega,by simpa using d⟩,g];exact ab
  .have:=ai j;rw[WN d]at this;by_cases c:j=k;.rw[xac c]at this;subst c;simp at this⊢;omega
   rw[xab c]at this;simp;omega
  rw[l j x,WN d];by_cases c:j=k
  .subst c;rw[xac rfl];simp only[xar,xam,true_or,and_true,List.not_mem_nil,or_false];constructor
   .rintro((h|h)|h);.exact .inl h
    .exact .inr h
    exact .inr h.1
   rintro(h|h);.exact .inl (.inl h)
   exact .inl (.inr h)
  rw[xab c,xam,or_iff_right c]
def tK:mZ->Nat
 |[]=>0|l::r=>l.length+tK r
def WQ:∀l:mZ,j8 (l.map ci)=tK l
 |[]=>rfl|l::r=>by simp[j8,tK,WQ r,ci]
def WR{b:Nat}:∀{l:mZ},(∀x∈l,x.length<=b)->tK l<=l.length*b
 |[],_=>xah _|a::r,h=>by have ab:=h a sZ;have ae:=WR λx c=>h x (xcp a c);rw[tK,xal,Nat.succ_mul];omega
def WS:∀(rows:mZ) (i:Nat) (a:mZ),(∀l∈rows,∀k∈l,k<a.length)->∃b:mZ,ob i (rows.map ci) (a.map ci)=some (b.map ci)/\b.length=a.length/\(∀j,(bl b j).length<=(bl a j).length+tK rows)/\∀j x,x∈bl b j↔x∈bl a j\/∃d l,rows[d]?=some l/\x=i+d/\j∈l
 |[],i,a,_=>⟨a,rfl,rfl,λj=>xaR _,λj x=>by simp⟩
 |l::r,i,a,h=>by
  obtain⟨aG,ab,ae,ai,m⟩:=WO i l a (h l sZ);obtain⟨a2,g1,g2,g3,g4⟩:=WS r (i+1) aG (λf g k n=>by rw[ae];exact h f (by simp[g]) k n);refine⟨a2,?_,by omega,λj=>?_,λj x=>?_⟩;.rw[xaw,ob,ab];exact g1
  .have:=ai j;have:=g3 j;rw[tK];omega
  rw[g4 j x,m j x,or_assoc];refine or_congr_right ?_;constructor
  .rintro(⟨rfl,c⟩|⟨d,f,e,rfl,c⟩);.exact⟨0,l,rfl,rfl,c⟩
   exact⟨d+1,f,by simpa using e,by omega,c⟩
  rintro⟨d,f,e,rfl,c⟩;cases d with|zero=>simp at e;subst e;exact .inl ⟨rfl,c⟩|succ d=>exact .inr ⟨d,f,by simpa using e,by omega,c⟩
theorem Mj(l:lX):kt (l.map λ(k:Nat)=>[aa (k:Int)])=some (ci l):=by induction l with|nil=>rfl|cons a r ih=>rw[xaw];show(af (kt (r.map λ(k:Nat)=>[aa (k:Int)])) λl=>some ((a:Int)::l))=_;rw[ih];rfl
theorem amw(l:mZ):sw (l.map λs=>[a8 s])=some (l.map ci):=by induction l with|nil=>rfl|cons a r ih=>rw[xaw];show(af (kt (a.map λ(k:Nat)=>[aa (k:Int)])) λx=>af (sw (r.map λs=>[a8 s])) λl=>some (x::l))=_;rw[Mj,ih];rfl
def WT(l:mZ):nc (l.map ci)=bw l:=by
 have:∀s:lX,hl (ci s)=a8 s:=λs=>by simp[hl,ci,a8]
 simp[nc,bw,this]
structure xz(N:Nat)(nx P:mZ):Prop where
 len:P.length=N
 mem:∀j x,x∈bl P j↔j∈bl nx x
 rN:∀j,(bl P j).length<=25000000
section
variable{S:mX}{nx:mZ}(bs:lX)(aA:mY)(g:gb S.length nx)
include g
theorem WU:∃P,Dh [dM S nx bs aA]=some (bw P)/\xz S.length nx P:=by
 have b:=g.le;obtain⟨P,ab,ae,ai,f⟩:=WS nx 0 (List.replicate S.length []) (λl ah k o=>by simpa using g.lt l ah k o);have ak:(List.replicate S.length ([]:lX)).map ci=List.replicate S.length []:=by simp[ci]
 rw[ak]at ab;have aj:=WR g.row;rw[g.len]at aj;have p:S.length*5000<=5000*5000:=xaB _ b;have a:∀j,bl (List.replicate S.length []) j=[]:=by intro j;unfold bl;rw[xbh];split<;>rfl
 refine⟨P,?_,by simpa using ae,λj x=>?_,λj=>?_⟩
 .have c:sy (bA S)=some S.length:=by simp[sy,bA]
  have e:rowsOf (bw nx)=some (nx.map ci):=amw nx;have i:S.length<=1000000000/\(nx.map ci).length+j8 (nx.map ci)<=1000000000:=by rw[WQ,xaU,g.len];omega
  show(af (sy (bA S)) λN=>af (rowsOf (bw nx)) λnx=>if N<=1000000000/\nx.length+j8 nx<=1000000000 then af (ob 0 nx (List.replicate N [])) λr=>some (nc r)else none)=_;rw[c,cL,e,cL,xac i,ab,cL,WT]
 .rw[f j x,a j];constructor
  .rintro(h|⟨d,l,m,rfl,n⟩);.simp at h
   unfold bl;rw[xav,m];exact n
  intro h;have q:=(g.jt h).1;exact .inr ⟨x,bl nx x,by unfold bl;rw[xaa (by rw[g.len];exact q)];rfl,by omega,h⟩
 have:=ai j;rw[a j]at this;simp at this;omega
end
def iq(w:List (Nat×Nat)):D:= .aw 2 (w.map λp=>[aa (p.1:Int),aa (p.2:Int)])
def WV(w:List (Nat×Nat)):(aF (iq w)).length=w.length:=by simp[iq]
theorem G7(w:List (Nat×Nat)):D.aw 2 (aF (iq w))=iq w:=rfl
def amx(w:List (Nat×Nat))(p:Nat×Nat):(aF (iq (w++[p])))[w.length]?=some [aa (p.1:Int),aa (p.2:Int)]:=by simp[iq]
def amy(w:List (Nat×Nat))(p:Nat×Nat):D.aw 2 (((aF (iq (w++[p]))).drop 0).take w.length)=iq w:=by simp[iq]
def amz(w:List (Nat×Nat))(p:Nat×Nat)(v a:Nat):(aF (iq (w++[p]))).set w.length (dS [aa (v:Int),aa (p.2:Int)] 1 [aa (a:Int)])=aF (iq (w++[(v,a)])):=by have e:dS [aa (v:Int),aa (p.2:Int)] 1 [aa (a:Int)]=[aa (v:Int),aa (a:Int)]:=rfl;rw[e];simp[iq]
def amA(w:List (Nat×Nat))(y:Nat):D.aw 2 (aF (iq w)++[[aa (y:Int),aa 0]])=iq (w++[(y,0)]):=by simp[iq]
theorem G8(x y:D):aR false 1 1 [x,y]=some y:=rfl
theorem G9(x y:D):aR false 1 0 [x,y]=some x:=rfl
def Mk(aL:lW):D:= .fn (.func hJ) [] [.ref [aI aL] 0]
def Ml(n:Nat)(aL:lW)(k:Nat)(h:aL.length<=1000000000):qU n [aa (k:Int),.ref [aI aL] 0]=some (aE (hasB aL k)):=by
 have e:aR false 1 0 [aI aL]=some (aI aL):=rfl;by_cases b:k<aL.length
 .have a:aL[k]?=some (hasB aL k):=by unfold hasB;rw[xaa b];rfl
  simp only[qU,DE,go_sem,e,yT ((k:Int)<(aL.length:Int)),rK a]
 have a:hasB aL k=false:=by unfold hasB;rw[xaH oZ];rfl
 rw[a];simp only[qU,DE,go_sem,e,yF ((k:Int)<(aL.length:Int))]
def kM(nx:mZ):List (Nat×Nat)->Nat
 |[]=>0|p::r=>(bl nx p.1).length-p.2+1+kM nx r
def Ha(nx:mZ):∀(w z:List (Nat×Nat)),kM nx (w++z)=kM nx w+kM nx z
 |[],z=>by simp[kM]|p::r,z=>by rw[xbs,kM,Ha nx r z,kM];omega
structure nK(nx:mZ)(aL:lW)(N:Nat)(A:Nat->Prop)(out:lX)(h9:List (Nat×Nat))(met:lW):Prop where
 BB:∃iH,hT (bl nx) (hasB aL) N out h9 iH
 len:met.length=N
 met:∀x:Nat,met[x]?=some true↔x∈out\/x∈h9.map (·.1)
 has:∀x,A x->x∈out\/x∈h9.map (·.1)
def nK.small{nx:mZ}{aL:lW}{N:Nat}{A:Nat->Prop}{out:lX}{a:List (Nat×Nat)}{met:lW}(h:nK nx aL N A out a met):out.length+a.length<=N:=by obtain⟨d,b⟩:=h.BB;have:=pT N _ b.kL λx c=>(b.ok x c).2;simpa using this
section
variable{S:mX}{nx:mZ}(g:gb S.length nx)(n:Nat)(bm:100000000<n)(aL:lW)(iF:aL.length<=1000000000)
include g bm iF
theorem amB(L:D){A:Nat->Prop}{out:lX}{e:List (Nat×Nat)}{met:lW}(h:nK nx aL S.length A out e met): ∃(d:lX)(b:lW),aS (qV n) n [bw nx,.ref [aI aL] 0,aa (S.length:Int),L,a8 out,aI met,iq e]=some (.inl [bw nx,.ref [aI aL] 0,aa (S.length:Int),L,a8 d,aI b])/\nK nx aL S.length A d [] b:=by
 have bX:=g.le;have H:=rI (f:=qV n) (λ(s:lX×List (Nat×Nat)×lW)=>[bw nx,.ref [aI aL] 0,aa (S.length:Int),L,a8 s.1,aI s.2.2,iq s.2.1]) (λs=>s.2.2.count false*5002+kM nx s.2.1) (λs=>nK nx aL S.length A s.1 s.2.1 s.2.2) (λy=>∃(d:lX)(b:lW),y=(.inl [bw nx,.ref [aI aL] 0,aa (S.length:Int),L,a8 d,aI b]:lZ⊕(lZ⊕(lZ⊕(lZ⊕D))))/\nK nx aL S.length A d [] b) ?_ n (out,e,met) h ?_
 .obtain⟨y,ab,d,b,rfl,ae⟩:=H;exact⟨d,b,ab,ae⟩
 .rintro⟨out,e,met⟩ h;have h:nK nx aL S.length A out e met:=h;have F:=h.small;rcases List.eq_nil_or_concat e with rfl|⟨w,⟨v,a⟩,rfl⟩
  .right;refine⟨_,?_,out,met,rfl,h⟩;have V:decide ((0:Int)>0)=false:=dZ
   have o:(((aF (iq [])).length:Nat):Int)=0:=rfl;simp only[qV,go_sem,o,V]
  left;rw[List.concat_eq_append]at h F⊢;obtain⟨U,B⟩:=h.BB;simp only[xaS,xal,xaA,xav]at F;obtain⟨b0,k⟩:=B.ok v sZ;obtain⟨Z,_⟩:=B.at_ w.length v a sZ;have b5:=g.rM v;have ah:(aF (iq (w++[(v,a)]))).length=w.length+1:=by rw[WV];simp
  have o:decide (((w.length+1:Nat):Int)>0)=true:=xao oZ;have I:aV false .sub (aa ((w.length+1:Nat):Int)) (aa 1)=some (aa (w.length:Int)):=by rw[j6 oZ oZ];congr 2;omega
  have J:cI (w.length+1) (aa (w.length:Int))=some w.length:=by rw[jI,xac oZ]
  have K:=amx w (v,a);have W:hG (w.length+1) none (some (aa (w.length:Int)))=some (0,w.length):=by simp[hG,lj,aa]
  have ck:c8 (aa (v:Int))=true:=rfl;have Q:b1 (out.length+1) 8=true:=xv oZ;by_cases t:a=(bl nx v).length
  .have q:((a:Int)==((bl nx v).length:Int))=true:=by simp[t]
   refine⟨(out++[v],w,met),?_,⟨⟨_,B.fin t⟩,h.len,λx=>?_,λx G=>?_⟩,?_⟩;.simp only[qV,go_sem,ah,o,I,J,K,G8,G9,g.cN k,q,ck,xal,xaA,xav,Q,W,yT (w.length<=w.length+1),amy,G7,xav]
   .rw[h.met x];simp only[List.map_append,xaw,xbd,xar,xcg];rw[or_assoc,or_comm (a:=x=v)]
   .have:=h.has x G;simp at this⊢;rcases this with h|h|h
    .exact .inl (.inl h)
    .exact .inr h
    exact .inl (.inr h)
   simp only[Ha,kM];omega
  have u:a<(bl nx v).length:=oZ
  have q:((a:Int)==((bl nx v).length:Int))=false:=by
   have:¬(a:Int)=((bl nx v).length:Int):=oZ
   simp[this]
  have m:=xaa u;generalize (bl nx v)[a]=y at m;have P:=(g.jt (xad m)).2;obtain⟨c,z⟩:=qa (l:=met) (j:=y) (by have:=h.len;omega);have E:cI met.length (aa (y:Int))=some y:=iE (by have:=h.len;omega);have aX:=Ml n aL y iF;have M:=amz w (v,a) v (a+1);have cU:kM nx (w++[(v,a+1)])+1=kM nx (w++[(v,a)]):=by simp only[Ha,kM];omega
  by_cases i:hasB aL y=true/\c=false
  .obtain⟨ag,rfl⟩:=i;rw[ag]at aX;have O:¬(y∈out\/y∈(w++[(v,a)]).map (·.1)):=by
    rw[<-h.met y,z];simp
   have X:=B.push m ag P O;have cA:c8 (aa (y:Int))=true:=rfl;have a2:cz 2 (D.agg [aa (y:Int),aa 0])=true:=rfl;have R:b1 (w.length+1+1) 16=true:=eB;have N:(aF (iq (w++[(v,a+1)]))).length=w.length+1:=by rw[WV];simp
   have T:=Md z;have b3:=g.rM y;refine⟨(out,w++[(v,a+1)]++[(y,0)],met.set y true),?_,⟨⟨_,X⟩,by simpa using h.len,λx=>?_,λx G=>?_⟩,?_⟩
   .simp only[qV,go_sem,ah,o,I,J,K,G8,G9,g.cN k,q,gQ m,bk a,aX,E,e3 z,cA,M,N,xal,xaA,xav,R,G7,amA]
   .rw[tJ (by have:=h.len;omega),h.met x];simp only[List.map_append,xaw,xbd,xar,xcg];constructor
    .rintro((h|h|h)|h);.exact .inl h
     .exact .inr (.inl (.inl h))
     .exact .inr (.inl (.inr h))
     exact .inr (.inr h)
    rintro(h|(h|h)|h);.exact .inl (.inl h)
    .exact .inl (.inr (.inl h))
    .exact .inl (.inr (.inr h))
    exact .inr h
   .have:=h.has x G;simp only[List.map_append,xaw,xbd,xar,xcg]at this⊢;rcases this with h|h
    .exact .inl h
    exact .inr (.inl h)
   simp only[Ha nx _ [(y,0)],kM];omega
  have Y:hT (bl nx) (hasB aL) S.length out (w++[(v,a+1)]) U:=B.skip m λag=>by rw[<-h.met y,z];cases c with|true=>rfl|false=>exact absurd ⟨ag,rfl⟩ i
  have C:(w++[(v,a+1)]).map (·.1)=(w++[(v,a)]).map (·.1):=sZ
  refine⟨(out,w++[(v,a+1)],met),?_,⟨⟨_,Y⟩,h.len,λx=>by rw[C];exact h.met x,λx G=>by rw[C];exact h.has x G⟩,by simp only;omega⟩;cases ag:hasB aL y with|false=>rw[ag]at aX;simp only[qV,go_sem,ah,o,I,J,K,G8,G9,g.cN k,q,gQ m,bk a,aX,I5,M,G7]|true=>rw[ag]at aX i;cases c with|false=>exact absurd ⟨rfl,rfl⟩ i|true=>simp only[qV,go_sem,ah,o,I,J,K,G8,G9,g.cN k,q,gQ m,bk a,aX,E,e3 z,I5,M,G7]
 have ab:met.count false<=S.length:=by rw[<-h.len];exact List.count_le_length
 have ae:met.count false*5002<=5000*5002:=xaB _ oZ;have ai:∀w:List (Nat×Nat),kM nx w<=w.length*5001:=by
  intro w
  induction w with|nil=>exact xah _|cons p r ih=>have:=g.rM p.1;rw[kM,xal,Nat.succ_mul];omega
 have cC:=ai e;have cx:e.length*5001<=5000*5001:=xaB _ (by have:=h.small;omega);simp only;omega
end
section
variable{S:mX}{nx:mZ}(g:gb S.length nx)(n:Nat)(bm:100000000<n)(aL:lW)(iF:aL.length<=1000000000)
include g bm iF
theorem amC:∃out:lX,yN n [bw nx,Mk aL]=some (a8 out)/\(∃u,hT (bl nx) (hasB aL) S.length out [] u)/\∀x,hasB aL x=true->x<S.length->x∈out:=by
 have A:=g.le;have o:nx.length=S.length:=g.len;have H:=p7 (f:=vc n) nx (λi (s:lX×lW)=>[bw nx,.ref [aI aL] 0,aa (S.length:Int),aa (i:Int),a8 s.1,aI s.2]) (λi s=>nK nx aL S.length (λx=>x<i/\hasB aL x=true) s.1 [] s.2) (λy=>∃(out:lX),y=(.inl [a8 out]:lZ⊕D)/\(∃u,hT (bl nx) (hasB aL) S.length out [] u)/\∀x,hasB aL x=true->x<S.length->x∈out) ?_ ?_ n 0 ([],List.replicate S.length false) ?_ (xah _) oZ
 .obtain⟨y,ab,out,rfl,ae,ai⟩:=H;have C:(aa ((0:Nat):Int))=aa 0:=rfl;rw[C]at ab;refine⟨out,?_,ae,ai⟩;have w:fJ hJ (Mk aL)=some [.ref [aI aL] 0]:=jK;have E:dL (bw nx)=some (aa (S.length:Int)):=by simp[bw,o]
  have F:D.aw 1 ([]:mW)=a8 []:=rfl;simp only[yN,JK,w,go_sem,E,hU A,F,ab]
 .rintro⟨out,met⟩ h;have h:nK nx aL S.length (λx=>x<nx.length/\hasB aL x=true) out [] met:=h;refine⟨_,?_,out,rfl,h.BB,λx ab ae=>?_⟩
  .have:=yF ((nx.length:Int)<(S.length:Int));simp only[vc,go_sem,this]
  have:=h.has x ⟨by omega,ab⟩;simpa using this
 .rintro i l ⟨out,met⟩ ah h;have h:nK nx aL S.length (λx=>x<i/\hasB aL x=true) out [] met:=h;have ag:=(lV.1 ah).1;have e:=yT ((i:Int)<(S.length:Int));obtain⟨c,z⟩:=qa (l:=met) (j:=i) (by have:=h.len;omega);have p:cI met.length (aa (i:Int))=some i:=iE (by have:=h.len;omega);have aX:=Ml n aL i iF;have k:=h.met i;rw[z]at k;have q:∀x,x<i+1->x<i\/x=i:=λx d=>by omega
  left;by_cases a:hasB aL i=true/\c=false
  .obtain⟨b,rfl⟩:=a;rw[b]at aX;have B:i∉out:=λI=>by simp[I]at k
   obtain⟨u,G⟩:=h.BB;have hO:nK nx aL S.length (λx=>x<i+1/\hasB aL x=true) out [(i,0)] (met.set i true):=by
    refine⟨⟨_,G.start b oZ B⟩,by simpa using h.len,λx=>?_,λx d=>?_⟩;.rw[tJ (by have:=h.len;omega),h.met x];simp
    rcases q x d.1 with m|rfl;.have:=h.has x ⟨m,d.2⟩;simp at this;exact .inl this
    exact .inr sZ
   obtain⟨t,r,J,K⟩:=amB g n bm aL iF (aa (i:Int)) hO;have w:D.aw 2 [[aa (i:Int),aa 0]]=iq [(i,0)]:=rfl;have a2:cz 2 (D.agg [aa (i:Int),aa 0])=true:=rfl;refine⟨(t,r),?_,K⟩;simp only[vc,go_sem,e,aX,p,e3 z,a2,w,J,bk i]
  refine⟨(out,met),?_,h.BB,h.len,h.met,λx d=>?_⟩;.cases b:hasB aL i with|false=>rw[b]at aX;simp only[vc,go_sem,e,aX,bk i]|true=>rw[b]at aX a;cases c with|false=>exact absurd ⟨rfl,rfl⟩ a|true=>simp only[vc,go_sem,e,aX,p,e3 z,bk i]
  rcases q x d.1 with m|rfl;.exact h.has x ⟨m,d.2⟩
  refine .inl ?_;cases c with|false=>exact absurd ⟨d.2,rfl⟩ a|true=>simpa using k
 refine⟨⟨[],hT.nil⟩,by simp,λx=>?_,λx d=>absurd d.1 (xaF _)⟩;rw[xbh];split<;>simp
end
def jv(a b:Nat):Bool:=decide (a<=b)
def WW(a:Nat):∀l:lX,nd jL (a:Int) (ci l)=ci (nd jv a l)
 |[]=>rfl
 |b::r=>by
  have e:ci (b::r)=(b:Int)::ci r:=rfl;have d:jL (a:Int) (b:Int)=jv a b:=by unfold jL jv;congr 1;simp
  rw[e,nd,nd,d];cases jv a b with|true=>rfl|false=>rw[xab sZ,xab sZ,WW a r];rfl
def WX:∀l:lX,gr jL (ci l)=ci (gr jv l)
 |[]=>rfl|a::r=>by have e:ci (a::r)=(a:Int)::ci r:=rfl;rw[e,gr,WX r,WW];rfl
def amD(l:lX):hl (ci l)=a8 l:=by simp[hl,ci,a8]
def amE{l:lX}(h:l.Nodup):(gr jv l).Pairwise (·<·):=by have ab:=yx (le:=jv) (by intro a b c;simp[jv];omega) (by intro a b;simp[jv];omega) l;have ae:(gr jv l).Nodup:=(qP jv l).nodup_iff.2 h;refine(ab.and ae).imp ?_;rintro a b ⟨ai,d⟩;simp[jv]at ai;omega
def amF(n:Nat)(l:lX)(h:l.length<=1000000000)(ak:l≠[]):yy n [a8 l]=some [D.aB [],a8 (gr jv l)]:=by have e:kt (aF (a8 l))=some (ci l):=Mj l;have a:(ci l).length<=1000000000/\ci l≠[]:=⟨by simpa[ci]using h,by cases l with|nil=>exact absurd rfl ak|cons=>simp[ci]⟩;show(af (kt (aF (a8 l))) λl=>if l.length<=1000000000/\l≠[]then some [D.aB [],hl (gr jL l)]else none)=_;rw[e,cL,xac a,WX,amD]
def WY(p q:lX):Prop:=eP (ci p) (ci q)<0
theorem amG(l:mZ):px (l.map λs=>[a8 s])=some (l.map ci):=by induction l with|nil=>rfl|cons a r ih=>rw[xaw];show(af (kt (a.map λ(k:Nat)=>[aa (k:Int)])) λx=>af (px (r.map λs=>[a8 s])) λl=>some (x::l))=_;rw[Mj,ih];rfl
def amH{a b:lX}(h:ci a=ci b):a=b:=by have:=congrArg (List.map Int.toNat) h;simpa[ci,List.map_map,Function.comp_def]using this
def amI(n:Nat)(l:mZ)(h:l.length<=1000000000)(j:l.Nodup)(ah:∀x∈l,x.length<=1000000000):∃i,uQ n [bw l]=some [D.aB [],bw i]/\i.Perm l/\i.Pairwise WY:=by
 have e:px (aF (bw l))=some (l.map ci):=amG l;have c:(l.map ci).Nodup:=by rw[List.nodup_iff_pairwise_ne]at j⊢;rw[List.pairwise_map];exact j.imp λh e=>h (amH e)
 have q:(l.map ci).length<=1000000000/\(l.map ci).Nodup/\∀x∈l.map ci,x.length<=1000000000:=⟨by simpa using h,c,by intro x r;obtain⟨y,k,rfl⟩:=xaK.1 r;simpa[ci]using ah y k⟩;have p:uQ n [bw l]=some [D.aB [],nc (gr fQ (l.map ci))]:=by show(af (px (aF (bw l))) λl=>if l.length<=1000000000/\l.Nodup/\(∀x∈l,x.length<=1000000000)then some [D.aB [],nc (gr fQ l)]else none)=_;rw[e,cL,xac q]
 rw[p];have d:=qP fQ (l.map ci);have aj:=yx (le:=fQ) Js Qf (l.map ci);generalize gr fQ (l.map ci)=z at d aj;have m:(z.map λs=>s.map Int.toNat).map ci=z:=by
  rw[List.map_map];have:∀s∈z,(ci∘λ(s:lY)=>s.map Int.toNat) s=s:=by intro s aj;obtain⟨y,k,rfl⟩:=xaK.1 (d.mem_iff.1 aj);simp[ci,List.map_map,Function.comp_def]
  rw[List.map_congr_left this,List.map_id']
 have g:nc z=bw (z.map λs=>s.map Int.toNat):=by rw[<-WT,m]
 refine⟨z.map λs=>s.map Int.toNat,?_,?_,?_⟩;.rw[g]
 .have:=d.map λ(s:lY)=>s.map Int.toNat;rw[List.map_map]at this;have o:l.map ((λ(s:lY)=>s.map Int.toNat)∘ci)=l:=by
   have:∀s∈l,((λ(s:lY)=>s.map Int.toNat)∘ci) s=s:=λs _=>by simp[ci,List.map_map,Function.comp_def]
   rw[List.map_congr_left this,List.map_id']
  rwa [o]at this
 have f:z.Nodup:=d.nodup_iff.2 c;have ai:z.Pairwise λa b=>eP a b<0:=(aj.and f).imp λ{a b} ⟨ab,ae⟩=>by
  simp only[fQ,xaC]at ab;rcases Int.lt_or_eq_of_le ab with h|h
  .exact h
  exact absurd (yv h) ae
 rw[<-m,List.pairwise_map]at ai;exact ai
section
variable(n:Nat)(aL:lW)(iF:aL.length<=1000000000)
include iF
theorem amJ(k:Nat)(p:lW×lX)(h:p.2.length<1000000000):vd n [aa (k:Int),.agg [aI aL],aI p.1,a8 p.2]=some [D.aB [],.agg [aI aL],aI (if hasB aL k=true then fi (k:Int) p else p).1,a8 (if hasB aL k=true then fi (k:Int) p else p).2]:=by have aX:=Ml n aL k iF;have a:=WJ n (k:Int) p h;cases ag:hasB aL k with|true=>rw[ag]at aX;simp only[vd,go_sem,aX,a]|false=>rw[ag]at aX;simp only[vd,go_sem,aX]
theorem amK(l:lX)(p:lW×lX)(h:p.2.length+l.length<1000000000)(d:l.length<n):yO n [a8 l,.agg [aI aL],aI p.1,a8 p.2]=some [D.aB [],.agg [aI aL],aI (fH (hasB aL) l p).1,a8 (fH (hasB aL) l p).2]:=by
 have ag:=ch (f:=DF n) l (λi (p:lW×lX)=>[a8 l,aa l.length,aa (i:Int),.agg [aI aL],aI p.1,a8 p.2]) (λr p=>(.inl [.agg [aI aL],aI (fH (hasB aL) r p).1,a8 (fH (hasB aL) r p).2]:lZ⊕lZ)) (λi p=>p.2.length+(l.length-i)<1000000000) ?_ ?_ n 0 p oZ oZ (xah _);.have b:(aa ((0:Nat):Int))=aa 0:=rfl;rw[b,xak]at ag;simp only[yO,go_sem,ag]
 .intro p _;simp only[DF,go_sem,yF ((l.length:Int)<l.length)];rfl
 intro i a p c ag e;have:=Mb (a:Int) p;left;refine⟨if hasB aL a=true then fi (a:Int) p else p,?_,by rw[BA],by split<;>omega⟩;simp only[DF,go_sem,yT ((i:Int)<(l.length:Int)),gQ c,amJ n aL iF a p oZ,bk i]
end
structure xA(nx P:mZ)(aL:lW)(N:Nat)(M:Nat->Prop)(r:Nat)(part:lX)(p:lW×lX):Prop where
 bi:rL (bl nx) (hasB aL) N (bl P) M r part p.2
 len:p.1.length=N
 met:∀x:Nat,p.1[x]?=some true↔M x\/x∈part++p.2
def xz.cN{N:Nat}{nx P:mZ}(v:xz N nx P){a:Nat}(h:a<N):bc 1 (bw P) (aa (a:Int))=some [a8 (bl P a)]:=by
 have:P[a]?=some (bl P a):=by unfold bl;rw[xaa (by rw[v.len];exact h)];rfl
 exact G0 this
section
variable{N:Nat}{nx P:mZ}(g:gb N nx)(v:xz N nx P)(n:Nat)(bm:100000000<n)(aL:lW)(iF:aL.length<=1000000000)
include g v bm iF
theorem amL(o eu d:D)(C:D.aw 1 (aF d)=d){M:Nat->Prop}{r:Nat}{part:lX}{p:lW×lX}(h:xA nx P aL N M r part p): ∃(a:lX)(b:lW),aS (yP n) n [o,bw P,eu,.agg [aI aL],d,a8 part,aI p.1,a8 p.2]=some (.inl [o,bw P,eu,.agg [aI aL],d,a8 a,aI b,a8 []])/\xA nx P aL N M r a (b,[]):=by
 have Q:=g.le;have H:=rI (f:=yP n) (λ(s:lX×lW×lX)=>[o,bw P,eu,.agg [aI aL],d,a8 s.1,aI s.2.1,a8 s.2.2]) (λs=>s.2.1.count false+s.2.2.length) (λs=>xA nx P aL N M r s.1 s.2) (λy=>∃(a:lX)(b:lW),y=(.inl [o,bw P,eu,.agg [aI aL],d,a8 a,aI b,a8 []]:lZ⊕(lZ⊕(lZ⊕(lZ⊕D))))/\xA nx P aL N M r a (b,[])) ?_ n (part,p) h ?_
 .obtain⟨y,ab,a,b,rfl,ae⟩:=H;exact⟨a,b,ab,ae⟩
 .rintro⟨part,met,todo⟩ h;have h:xA nx P aL N M r part (met,todo):=h;cases todo with
  |nil=>
   right;refine⟨_,?_,part,met,rfl,h⟩;have E:decide ((0:Int)>0)=false:=dZ
   have u:((([]:lX).length:Nat):Int)=0:=rfl;simp only[yP,go_sem,u,E,C]
  |cons i t=>
   left;obtain⟨_,w,_⟩:=h.bi.ok i sZ;have L:=v.rN i;have S:met.length=N:=h.len;have T:part.length+(t.length+1)<=N:=by have:=pT N _ h.bi.kL λx A=>(h.bi.ok x A).2.1;simpa using this
   obtain⟨new,q⟩:=xw (((bl P i).filter (hasB aL)).map λ(k:Nat)=>(k:Int)) (met,t);have l:=q.h3;simp only at l;have m:∀j∈new,j∈bl P i/\hasB aL j=true/\j<N/\¬M j/\j∉part++i::t:=λj c=>by
    obtain⟨ab,ae⟩:=q.nJ j c;obtain⟨ai,G⟩:=xx.1 ae;have B:¬(M j\/j∈part++i::t):=by rw[<-h.met j];show¬met[j]?=some true;rw[show met[j]?=some false from ab];simp
    exact⟨ai,G,(g.jt ((v.mem i j).1 ai)).1,λK=>B (.inl K),λR=>B (.inr R)⟩
   have e:∀j∈bl P i,hasB aL j=true->M j\/j∈part++i::t\/j∈new:=λj c ag=>by
    have O:=(g.jt ((v.mem i j).1 c)).1;have ab:=q.all j (xx.2 ⟨c,ag⟩) (by simp only;omega);rcases(q.met j).1 ab with ae|ae
    .rcases(h.met j).1 ae with ai|ai;.exact .inl ai
     exact .inr (.inl ai)
    exact .inr (.inr ae)
   have J:=h.bi.next (λj c=>(v.mem i j).1 c) q.G6 m e
   have z:(aF (a8 (i::t))).length=t.length+1:=by rw[Bw];simp
   have u:decide (((t.length+1:Nat):Int)>0)=true:=xao oZ;have F:(aF (a8 (i::t)))[0]?=some [aa (i:Int)]:=by simp[a8]
   have U:c8 (aa (i:Int))=true:=rfl;have V:b1 (part.length+1) 8=true:=xv oZ;have I:=amK n aL iF (bl P i) (met,t) (by simp only;omega) oZ;refine⟨(part++[i],fH (hasB aL) (bl P i) (met,t)),?_,⟨?_,by rw[fH,q.len];exact h.len,λx=>?_⟩,by rw[fH,l];simp only[xal];omega⟩
   .simp only[yP,go_sem,z,u,Mi,F,Mh,yT (1+t.length<=t.length+1),U,xal,xaA,xav,V,v.cN w,Mg,I,C]
   .rw[fH,q.todo];exact J
   show(fH (hasB aL) (bl P i) (met,t)).1[x]?=some true↔M x\/x∈part++[i]++(fH (hasB aL) (bl P i) (met,t)).2;rw[fH,q.todo,q.met x];show met[x]?=some true\/_↔_;have:=h.met x;simp only at this;rw[this,or_assoc];refine or_congr_right ?_;simp only[xar,xam];constructor
   .rintro((h|h|h)|h);.exact .inl (.inl h)
    .exact .inl (.inr (.inl h))
    .exact .inr (.inl h)
    exact .inr (.inr h)
   rintro((h|h|h)|h|h);.exact .inl (.inl h)
   .exact .inl (.inr (.inl h))
   .simp at h
   .exact .inl (.inr (.inr h))
   exact .inr h
 have ab:p.1.count false<=N:=by rw[<-h.len];exact List.count_le_length
 have ae:part.length+p.2.length<=N:=by have:=pT N _ h.bi.kL λx A=>(h.bi.ok x A).2.1;simpa using this
 simp only;omega
end
structure WZ(nx:mZ)(aL:lW)(N:Nat)(l:lX)(k:Nat)(out:mZ)(met:lW):Prop where
 Hb:lI (bl nx) (hasB aL) N l k (λx=>met[x]?=some true)
 len:met.length=N
 fI:∀p∈out,(∃r,hasB aL r=true/\r<N/\∀x,x∈p↔jX (bl nx) (hasB aL) r x)/\p.Pairwise (·<·)
 Mm:∀x:Nat,met[x]?=some true->∃p∈out,x∈p
 sub:∀p∈out,∀x∈p,met[x]?=some true
 kL:out.Nodup
 rN:out.length+k<=l.length
section
variable{N:Nat}{nx P:mZ}(g:gb N nx)(v:xz N nx P)(n:Nat)(bm:100000000<n)(aL:lW)(iF:aL.length<=1000000000)
include g v bm iF
theorem amM(l:lX)(R:G4 (bl nx) (hasB aL) l)(T:∀x∈l,hasB aL x=true/\x<N)(u:∀x,hasB aL x=true->x<N->x∈l)(cx:l.length<=N): ∃out:mZ,aS (ve n) n [a8 l,bw P,aa ((l.length:Int)-1),.agg [aI aL],bw [],aI (List.replicate N false),a8 []]=some (.inl [bw out])/\mu (bl nx) (hasB aL) N out/\out.Nodup/\out.length<=N:=by
 have cC:=g.le;have H:=rI (f:=ve n) (λ(s:Nat×mZ×lW)=>[a8 l,bw P,aa ((s.1:Int)-1),.agg [aI aL],bw s.2.1,aI s.2.2,a8 []]) (λs=>s.1) (λs=>s.1<=l.length/\WZ nx aL N l s.1 s.2.1 s.2.2) (λy=>∃out:mZ,y=(.inl [bw out]:lZ⊕D)/\mu (bl nx) (hasB aL) N out/\out.Nodup/\out.length<=N) ?_ n (l.length,[],List.replicate N false) ?_ ?_
 .obtain⟨y,ab,out,rfl,ae⟩:=H;exact⟨out,ab,ae⟩
 .rintro⟨k,out,met⟩ ⟨bX,h⟩;have bX:k<=l.length:=bX;have h:WZ nx aL N l k out met:=h;cases k with
  |zero=>
   right;refine⟨_,?_,out,rfl,⟨h.fI,λx ab ae=>?_⟩,h.kL,by have:=h.rN;omega⟩
   .have J:decide ((((0:Nat):Int)-1)>=0)=false:=dZ
    simp only[ve,go_sem,J]
   obtain⟨j,cA⟩:=xaJ.1 (u x ab ae);exact h.Mm x (h.Hb.up j x (xah _) cA)
  |succ k=>
   left;have Q:k<l.length:=oZ
   have z:=xaa Q;generalize l[k]=r at z;obtain⟨F,G⟩:=T r (xad z);have ck:=h.rN;have S:=h.len;have J:((k+1:Nat):Int)-1=(k:Int):=oZ
   have X:decide ((k:Int)>=0)=true:=xao oZ;have Y:aV false .sub (aa (k:Int)) (aa 1)=some (aa ((k:Int)-1)):=j6 oZ oZ;obtain⟨c,w⟩:=qa (l:=met) (j:=r) oZ;have E:cI met.length (aa (r:Int))=some r:=iE oZ;cases c with
   |true=>refine⟨(k,out,met),?_,⟨by simp only;omega,h.Hb.skip z w,h.len,h.fI,h.Mm,h.sub,h.kL,by simp only at*;omega⟩,by simp only;omega⟩;simp only[ve,go_sem,J,X,gQ z,E,e3 w,Y]
   |false=>
    have B:=WJ n (r:Int) (met,[]) sZ;have b5:fi (r:Int) (met,[])=(met.set r true,[r]):=by rw[fi,xac (by simp[w])];simp
    rw[b5]at B;have M:xA nx P aL N (λx=>met[x]?=some true) r [] (met.set r true,[r]):=⟨rL.start F G (by rw[w];simp),by simpa using S,λx=>by show(met.set r true)[x]?=some true↔_;rw[tJ oZ];simp⟩
    obtain⟨part,q,cK,W⟩:=amL g v n bm aL iF (a8 l) (aa (k:Int)) (bw out) rfl M;have K:=W.bi;have A:=amj R u (λx y de=>(g.jt de).2) h.Hb z (by rw[w];simp) K λi j _ O=>(v.mem i j).2 O;have I:r∈part:=(A r).2 (.refl r);have U:part≠[]:=λe=>by subst e;simp at I
    have C:part.Nodup:=by simpa using K.kL
    have cU:part.length<=N:=pT N part C λx d=>(K.ok x (by simpa using d)).2.1;have V:=amF n part oZ U;have m:∀x,x∈gr jv part↔x∈part:=λx=>(qP jv part).mem_iff;have o:∀x:Nat,q[x]?=some true↔met[x]?=some true\/x∈part:=λx=>by have:=W.met x;simpa using this
    have dR:c8 (a8 (gr jv part))=true:=rfl;have dE:b1 (out.length+1) 24=true:=eB;have b3:D.aw 1 ([]:mW)=a8 []:=rfl;refine⟨(k,out++[gr jv part],q),?_,⟨by simp only;omega,?_⟩,by simp only;omega⟩
    .simp only[ve,go_sem,J,X,gQ z,E,e3 w,B,b3,cK,V,Bx,xal,xaA,xav,dE,Y]
    have L:lI (bl nx) (hasB aL) N l k (λx=>q[x]?=some true):=by
     have:=h.Hb.next z A λx d=>by obtain⟨a,b,_⟩:=K.ok x (by simpa using d);exact⟨a,b⟩
     have e:(λx:Nat=>q[x]?=some true)=λx=>met[x]?=some true\/x∈part:=funext λx=>propext (o x);rw[e];exact this
    refine⟨L,W.len,?_,?_,?_,?_,by simp only[xaS,xal,xaA];omega⟩
    .intro p t;rcases xar.1 t with t|t
     .exact h.fI p t
     simp at t;subst t;exact⟨⟨r,F,G,λx=>by rw[m x];exact A x⟩,amE C⟩
    .intro x d;rcases(o x).1 d with d|d
     .obtain⟨p,ab,ae⟩:=h.Mm x d;exact⟨p,xaZ _ ab,ae⟩
     exact⟨gr jv part,by simp,(m x).2 d⟩
    .intro p t x d;rcases xar.1 t with t|t
     .exact(o x).2 (.inl (h.sub p t x d))
     simp at t;subst t;exact(o x).2 (.inr ((m x).1 d))
    rw[xbH];refine⟨h.kL,by simp,?_⟩;intro a b0 b Z e;simp at Z;subst Z;subst e;have:=h.sub _ b0 r ((m r).2 I);rw[w]at this;simp at this
 .refine⟨xaR _,?_,by simp,by simp,?_,by simp,by simp,by simp⟩
  .have e:(λx:Nat=>(List.replicate N false)[x]?=some true)=λ_=>False:=by
    funext x
    rw[xbh];split<;>simp
   show lI _ _ _ _ _ (λx:Nat=>(List.replicate N false)[x]?=some true);rw[e];exact lI.start
  intro x d;simp only at d;rw[xbh]at d;split at d<;>simp at d
 simp only;omega
end
structure amN(N:Nat)(nx:mZ)(aL:lW)(out:mZ):Prop where
 W0:mu (bl nx) (hasB aL) N out
 ord:out.Pairwise WY
 len:out.length<=N
def mu.small{N:Nat}{nx:mZ}(g:gb N nx){aL:lW}{out:mZ}(h:mu (bl nx) (hasB aL) N out){p:lX}(i:p∈out):(∀x∈p,x<N/\hasB aL x=true)/\p.length<=N/\p≠[]:=by
 obtain⟨⟨r,c3,df,f⟩,j⟩:=h.each p i;have key:∀x∈p,x<N/\hasB aL x=true:=by
  intro x d;obtain⟨ab,_⟩:=(f x).1 d;refine⟨?_,tI ab c3⟩;have c:∀a b,dA (hd (bl nx) (hasB aL)) a b->a<N->b<N:=by
   intro a b dV
   induction dV with|refl=>exact id|step h _ ih=>intro _;exact ih (g.jt h.2.2).2
  exact c r x ab df
 refine⟨key,pT N p (j.imp λh=>Nat.ne_of_lt h) λx d=>(key x d).1,λe=>?_⟩;have:=(f r).2 (.refl r);rw[e]at this;simp at this
section
variable{S:mX}{nx:mZ}(bs:lX)(aA:mY)(g:gb S.length nx)(n:Nat)(bm:100000000<n)(aL:lW)(iF:aL.length<=1000000000)
include g bm iF
theorem amO:∃out:mZ,DG n [dM S nx bs aA,aI aL]=some (bw out)/\amN S.length nx aL out:=by
 have d:=g.le;obtain⟨l,t,⟨C,h⟩,u⟩:=amC g n bm aL iF;obtain⟨P,A,v⟩:=WU bs aA g;have e:l.Nodup:=by simpa using h.kL
 have a:∀x∈l,hasB aL x=true/\x<S.length:=λx f=>h.ok x (by simpa using f);have c:=pT S.length l e λx f=>(a x f).2;obtain⟨out,i,j,w,y⟩:=amM g v n bm aL iF l h.Bz a u c;obtain⟨b,s1,s2,B⟩:=amI n out oZ w λp s=>by have:=(j.small g s).2.1;omega
 refine⟨b,?_,j.perm s2,B,by rw[s2.length_eq];exact y⟩;have k:yz n [dM S nx bs aA]=some (bw P):=A;have m:D.fn (.func hJ) [] [.ref [aI aL] 0]=Mk aL:=rfl;have o:aV false .sub (aa (l.length:Int)) (aa 1)=some (aa ((l.length:Int)-1)):=j6 oZ oZ;have q:D.aw 1 ([]:mW)=a8 []:=rfl;have r:bw []=a8 []:=rfl;have z:c8 (aI aL)=true:=rfl;rw[r]at i;simp only[DG,Qv,go_sem,z,m,t,k,hU d,o,q,i,s1]
end
end Go.Am
