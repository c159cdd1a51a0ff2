/- Laws, on data. No condition. -/
import Derived.Test.YtbninlabhgbhcaaGreatDoorTs
set_option linter.all false
set_option linter.unnecessarySimpa false
namespace Go.Am
inductive fe(E:Nat->Nat->Prop):Nat->Nat->Prop where
 |refl (a:Nat):fe E a a
 |step {a b c:Nat}:E a b->fe E b c->fe E a c
def fe.one{E:Nat->Nat->Prop}{a b:Nat}(h:E a b):fe E a b:= .step h (.refl _)
def fe.trans{E:Nat->Nat->Prop}{a b c:Nat}(h:fe E a b)(k:fe E b c):fe E a c:=by induction h with|refl=>exact k|step h _ ih=>exact .step h (ih k)
def fe.mono{E F:Nat->Nat->Prop}(eJ:∀a b,E a b->F a b){a b:Nat}(h:fe E a b):fe F a b:=by induction h with|refl=>exact .refl _|step h _ ih=>exact .step (eJ _ _ h) ih
def fe.last{E:Nat->Nat->Prop}{a b c:Nat}(h:fe E a b)(k:E b c):fe E a c:=h.trans (.one k)
def n3(nx:Nat->List Nat)(inn:Nat->Bool)(a b:Nat):Prop:=inn a=true/\inn b=true/\b∈nx a
def Qu(nx:Nat->List Nat)(inn:Nat->Bool)(l:List Nat)(a b:Nat):Prop:=n3 nx inn a b/\a∈l/\b∈l
def Qv(nx:Nat->List Nat)(inn:Nat->Bool)(out:List Nat):Prop:=∀(f r:Nat),out[f]?=some r->∀x,fe (Qu nx inn (out.take (f+1))) x r->fe (n3 nx inn) r x
structure kV(nx:Nat->List Nat)(inn:Nat->Bool)(n:Nat)(out:List Nat)(hX:List (Nat×Nat))(aR:List Nat):Prop where
 pt:(out++hX.map (·.1)).Nodup
 ok:∀x∈out++hX.map (·.1),inn x=true/\x<n
 p2:∀x∈out,∀y∈nx x,inn y=true->y∈out\/y∈hX.map (·.1)
 Gt:∀(i u v a b:Nat),hX[i]?=some (u,a)->hX[i+1]?=some (v,b)->v∈nx u
 at_:∀(i v a:Nat),hX[i]?=some (v,a)->a<=(nx v).length/\∀(j y:Nat),j<a->(nx v)[j]?=some y->inn y=true->y∈out\/y∈hX.map (·.1)
 K5:Qv nx inn out
 Qw:aR.length=hX.length
 g1:∀(i v a d:Nat),hX[i]?=some (v,a)->aR[i]?=some d->d<=out.length/\(∀(j y:Nat),d<=j->out[j]?=some y->fe (n3 nx inn) v y)/\∀x∈out.take d,∀y∈nx x,inn y=true->y∈out.take d\/y∈(hX.take i).map (·.1)
def aBQ{l:List Nat}(h:l.Nodup){i j x:Nat}(ag:l[i]?=some x)(aA:l[j]?=some x):i=j:=by
 obtain⟨J,rfl⟩:=xaa.1 ag;obtain⟨aa,ax⟩:=xaa.1 aA;have aU:=List.pairwise_iff_getElem.1 h;rcases Nat.lt_trichotomy i j with al|al|al
 .exact absurd ax.symm (aU i j J aa al)
 .exact al
 exact absurd ax (aU j i aa J al)
def aBR{nx:Nat->List Nat}{inn:Nat->Bool}:Qv nx inn []:=by intro f r h;simp at h
section
variable{nx:Nat->List Nat}{inn:Nat->Bool}{n:Nat}{out:List Nat}{hX:List (Nat×Nat)}{aR:List Nat}
theorem kV.nil:kV nx inn n [] [] []:=⟨by simp,by simp,by simp,by simp,by simp,aBR,rfl,by simp⟩
def kV.start(h:kV nx inn n out [] aR){i:Nat}(ag:inn i=true)(aN:i<n)(hm:i∉out):kV nx inn n out [(i,0)] [out.length]:=by
 have eS:aR=[]:=List.length_eq_zero_iff.1 (by simpa using h.Qw);refine⟨?_,?_,?_,?_,?_,h.K5,rfl,?_⟩;.have:=h.pt;simp only[xbb,xau]at this;simp only[xaw,xbb];rw[xbE];refine⟨this,by simp,?_⟩;intro a aG b aj;simp at aj;subst aj;intro e;subst e;exact hm aG
 .intro x ad;simp at ad;rcases ad with ad|rfl
  .exact h.ok x (by simp[ad])
  exact⟨ag,aN⟩
 .intro x ad y aH cS;have:=h.p2 x ad y aH cS;simp at this;exact .inl this
 .intro j u v a b J aa;simp at aa
 .intro j v a J;cases j with
  |zero=>simp at J;obtain⟨rfl,rfl⟩:=J;exact⟨xai _,λj y aA=>absurd aA (xaH _)⟩
  |succ j=>simp at J
 intro j v a d J aa;cases j with
 |zero=>
  simp at J aa;obtain⟨rfl,rfl⟩:=J;subst aa;refine⟨xaU _,λj y aA aH=>?_,λx ad y aH cS=>?_⟩;.have:=(xaa.1 aH).1;omega
  rw[List.take_length]at ad⊢;have:=h.p2 x ad y aH cS;simp at this;exact .inl this
 |succ j=>simp at J
def kV.skip{w:List (Nat×Nat)}{v a y:Nat}(h:kV nx inn n out (w++[(v,a)]) aR)(aH:(nx v)[a]?=some y)(gU:inn y=true->y∈out\/y∈(w++[(v,a)]).map (·.1)):kV nx inn n out (w++[(v,a+1)]) aR:=by
 have hm:(w++[(v,a+1)]).map (·.1)=(w++[(v,a)]).map (·.1):=by simp
 have hv:∀(i:Nat)(u b:Nat),(w++[(v,a+1)])[i]?=some (u,b)->∃b',(w++[(v,a)])[i]?=some (u,b')/\(i<w.length->b'=b):=by
  intro i u b ag;rcases Nat.lt_trichotomy i w.length with al|al|al
  .rw[xaq al]at ag⊢;exact⟨b,ag,λ_=>rfl⟩
  .subst al;have e:(w++[(v,a)])[w.length]?=some (v,a):=by simp
   simp at ag;obtain⟨rfl,rfl⟩:=ag;exact⟨a,e,λh=>absurd h (by omega)⟩
  rw[xaM (by simp;omega)]at ag;cases ag
 refine⟨by rw[hm];exact h.pt,by rw[hm];exact h.ok,by rw[hm];exact h.p2,?_,?_,h.K5,by simpa using h.Qw,?_⟩;.intro i u fK b b' J aa;obtain⟨c,dS,_⟩:=hv i u b J;obtain⟨iC,gT,_⟩:=hv _ fK b' aa;exact h.Gt i u fK c iC dS gT
 .intro i u b ag;rw[hm];rcases xaT i w.length with al|al
  .obtain⟨c,J,aa⟩:=hv i u b ag;rw[aa al]at J;exact h.at_ i u b J
  have:i=w.length:=by have:=(xaa.1 ag).1;simp at this;omega
  subst this;simp at ag;obtain⟨rfl,rfl⟩:=ag;obtain⟨g1,g2⟩:=h.at_ w.length v a (by simp);have z6:=(xaa.1 aH).1;refine⟨by omega,λj z aA bF cS=>?_⟩;rcases xaT j a with K6|K6
  .exact g2 j z K6 bF cS
  have:j=a:=by omega
  subst this;rw[aH]at bF;cases bF;exact gU cS
 intro i u b d J aa;obtain⟨c,dS,_⟩:=hv i u b J;obtain⟨bN,bO,cx⟩:=h.g1 i u c d dS aa;refine⟨bN,bO,λx ad z bF cS=>?_⟩;have bX:i<=w.length:=by have:=(xaa.1 J).1;simp at this;omega
 have:=cx x ad z bF cS;rw[xbu bX]at this⊢;exact this
def kV.push{w:List (Nat×Nat)}{v a y:Nat}(h:kV nx inn n out (w++[(v,a)]) aR)(aH:(nx v)[a]?=some y)(cS:inn y=true)(aBS:y<n)(gU:¬(y∈out\/y∈(w++[(v,a)]).map (·.1))):kV nx inn n out (w++[(v,a+1)]++[(y,0)]) (aR++[out.length]):=by
 have fT:=xad aH;have hm:(w++[(v,a+1)]).map (·.1)=(w++[(v,a)]).map (·.1):=by simp
 have yD:(w++[(v,a+1)]++[(y,0)]).map (λ(p:Nat×Nat)=>p.1)=(w++[(v,a)]).map (λ(p:Nat×Nat)=>p.1)++[y]:=by simp
 have bI:(w++[(v,a+1)]).length=w.length+1:=by simp
 have hv:∀(i:Nat)(u b:Nat),i<w.length+1->(w++[(v,a+1)]++[(y,0)])[i]?=some (u,b)->∃b',(w++[(v,a)])[i]?=some (u,b')/\(i<w.length->b'=b):=by
  intro i u b bX ag;rw[xaq (by omega)]at ag;rcases xaT i w.length with al|al
  .rw[xaq al]at ag⊢;exact⟨b,ag,λ_=>rfl⟩
  have:i=w.length:=by omega
  subst this;have e:(w++[(v,a)])[w.length]?=some (v,a):=by simp
  simp at ag;obtain⟨rfl,rfl⟩:=ag;exact⟨a,e,λh=>absurd h (by omega)⟩
 have Kb:∀(i u b:Nat),¬i<w.length+1->(w++[(v,a+1)]++[(y,0)])[i]?=some (u,b)->i=w.length+1/\u=y/\b=0:=by
  intro i u b bX ag;have J:=(xaa.1 ag).1;have Co:i=w.length+1:=by simp at J;omega
  subst Co;rw[xaz (by omega)]at ag;simp at ag;exact⟨rfl,ag.1.symm,ag.2.symm⟩
 have FN:=h.Qw;refine⟨?_,?_,?_,?_,?_,h.K5,by simp at FN⊢;omega,?_⟩
 .rw[yD,<-xaK,xbE];refine⟨h.pt,by simp,?_⟩;intro p aU q bU;simp at bU;subst bU;intro e;subst e;rcases xas.1 aU with aU|aU
  .exact gU (.inl aU)
  exact gU (.inr aU)
 .intro x ad;rw[yD,<-xaK]at ad;rcases xas.1 ad with ad|ad
  .exact h.ok x ad
  simp at ad;subst ad;exact⟨cS,aBS⟩
 .intro x ad z bF aBT;rw[yD];rcases h.p2 x ad z bF aBT with h|h
  .exact .inl h
  exact .inr (xaZ _ h)
 .intro i u fK b b' J aa;by_cases ag:i+1<w.length+1;.obtain⟨c,dS,_⟩:=hv i u b (by omega) J;obtain⟨iC,gT,_⟩:=hv _ fK b' ag aa;exact h.Gt i u fK c iC dS gT
  obtain⟨aM,rfl,rfl⟩:=Kb _ fK b' ag aa;have:i=w.length:=by omega
  subst this;obtain⟨c,dS,_⟩:=hv _ u b (by omega) J;simp at dS;rw[<-dS.1];exact fT
 .intro i u b ag;rw[yD];by_cases bX:i<w.length+1
  .have az:kV nx inn n out (w++[(v,a)]) aR:=h;rcases xaT i w.length with al|al
   .obtain⟨c,J,aa⟩:=hv i u b bX ag;rw[aa al]at J;obtain⟨g1,g2⟩:=h.at_ i u b J;exact⟨g1,λj z aA bF cS=>(g2 j z aA bF cS).imp id (xaZ _)⟩
   have:i=w.length:=by omega
   subst this;rw[xaq (by omega)]at ag;simp at ag;obtain⟨rfl,rfl⟩:=ag;obtain⟨g1,g2⟩:=h.at_ w.length v a (by simp);have z6:=(xaa.1 aH).1;refine⟨by omega,λj z aA bF cS=>?_⟩;rcases xaT j a with K6|K6
   .exact(g2 j z K6 bF cS).imp id (xaZ _)
   have:j=a:=by omega
   subst this;rw[aH]at bF;cases bF;exact .inr (by simp)
  obtain⟨_,rfl,rfl⟩:=Kb _ u b bX ag;exact⟨xai _,λj z aA=>absurd aA (xaH _)⟩
 intro i u b d J aa;by_cases bX:i<w.length+1;.obtain⟨c,dS,_⟩:=hv i u b bX J;rw[xaq (by simp at FN;omega)]at aa;obtain⟨bN,bO,cx⟩:=h.g1 i u c d dS aa;refine⟨bN,bO,λx ad z bF cS=>?_⟩;have:=cx x ad z bF cS;rw[xaK,xbu (by omega)];rw[xbu (by omega)]at this;exact this
 obtain⟨rfl,rfl,rfl⟩:=Kb _ u b bX J;rw[xaz (by simp at FN;omega)]at aa;have ay:d=out.length:=by simp at FN;simp[FN]at aa;exact aa.symm
 subst ay;refine⟨xaU _,λj z aA bF=>?_,λx ad z bF cS=>?_⟩;.have:=(xaa.1 bF).1;omega
 rw[List.take_length]at ad⊢;have:=h.p2 x ad z bF cS;rw[xbu (by omega),xbx (by omega),hm];exact this
def kV.chain(h:kV nx inn n out hX aR):∀(k i u v a b:Nat),hX[i]?=some (u,a)->hX[i+k]?=some (v,b)->fe (n3 nx inn) u v
 |0,i,u,v,a,b,J,aa=>by rw[xbo,J]at aa;cases aa;exact .refl _
 |k+1,i,u,v,a,b,J,aa=>by have al:=(xaa.1 aa).1;have ax:hX[i+1]?=some (hX[i+1]'(by omega)):=xab (by omega);generalize (hX[i+1]'(by omega))=p at ax;obtain⟨c,e⟩:=p;have ah:=h.Gt i u c a e J ax;have ok:∀(j x z:Nat),hX[j]?=some (x,z)->inn x=true:=λj x z aA=>(h.ok x (xbS _ (xaN.2 ⟨_,xad aA,rfl⟩))).1;refine .step ⟨ok i u a J,ok _ c e ax,ah⟩ (kV.chain h k (i+1) c v e b ax ?_);rw[show i+1+k=i+(k+1) by omega];exact aa
def kV.fin{w:List (Nat×Nat)}{v a:Nat}(h:kV nx inn n out (w++[(v,a)]) aR)(aG:a=(nx v).length):kV nx inn n (out++[v]) w (aR.take w.length):=by
 have FN:aR.length=w.length+1:=by simpa using h.Qw
 have hm:(w++[(v,a)]).map (·.1)=w.map (·.1)++[v]:=by simp
 have lT:=h.pt;rw[hm]at lT;have aix:v∉out/\v∉w.map (·.1):=by rw[<-xaK,xbE]at lT;refine⟨λaS=>lT.2.2 v (xaZ _ aS) v (by simp) rfl,λaS=>lT.2.2 v (xbS _ aS) v (by simp) rfl⟩
 have aEO:inn v=true:=(h.ok v (by rw[hm];simp)).1;have hv:∀(i u b:Nat),w[i]?=some (u,b)->(w++[(v,a)])[i]?=some (u,b):=λi u b ag=>by rw[xaq (xaa.1 ag).1];exact ag
 have Xg:(w++[(v,a)])[w.length]?=some (v,a):=by simp
 obtain⟨d,ay⟩:∃d,aR[w.length]?=some d:=⟨_,xab (by omega)⟩;obtain⟨d1,d2,d3⟩:=h.g1 w.length v a d Xg ay;have j1:∀y,y∈out\/y∈(w++[(v,a)]).map (·.1)->y∈out++[v]\/y∈w.map (·.1):=by
  intro y aH;rw[hm]at aH;rcases aH with aH|aH
  .exact .inl (xaZ _ aH)
  rcases xas.1 aH with aH|aH;.exact .inr aH
  exact .inl (xbS _ aH)
 refine⟨?_,?_,?_,?_,?_,?_,by simp;omega,?_⟩
 .have:(out++(w.map (·.1)++[v])).Perm (out++[v]++w.map (·.1)):=by
   rw[xaK];exact List.Perm.append_left _ List.perm_append_comm
  exact this.nodup_iff.1 lT
 .intro x ad;refine h.ok x ?_;rw[hm];simp only[xas,xbF]at ad⊢;rcases ad with(ad|ad)|ad
  .exact .inl ad
  .exact .inr (.inr ad)
  exact .inr (.inl ad)
 .intro x ad y aH cS;rcases xas.1 ad with ad|ad
  .exact j1 y (h.p2 x ad y aH cS)
  simp at ad;subst ad;obtain⟨j,aA⟩:=xaF.1 aH;exact j1 y ((h.at_ w.length x a Xg).2 j y (by rw[aG];exact(xaa.1 aA).1) aA cS)
 .intro i u z b c J aa;exact h.Gt i u z b c (hv _ _ _ J) (hv _ _ _ aa)
 .intro i u b ag;obtain⟨g1,g2⟩:=h.at_ i u b (hv _ _ _ ag);exact⟨g1,λj y aA aH cS=>j1 y (g2 j y aA aH cS)⟩
 .intro f r bm x ad;rcases xaT f out.length with al|al
  .rw[xaq al]at bm;rw[xbu (by omega)]at ad;exact h.K5 f r bm x ad
  have ahi:f=out.length:=by have:=(xaa.1 bm).1;simp at this;omega
  subst ahi;simp at bm;subst bm;have aBU:(out++[v]).take (out.length+1)=out++[v]:=xbx (by simp);rw[aBU]at ad;have key:∀x z,fe (Qu nx inn (out++[v])) x z->(∃j,d<=j/\(out++[v])[j]?=some z)->x∈out++[v]->∃j,d<=j/\(out++[v])[j]?=some x:=by
   intro x z aU
   induction aU with
   |refl _=>intro h _;exact h
   | @step p q s kB aiy ih=>
    intro bF aBV;obtain⟨j,WA,wS⟩:=ih bF kB.2.2;obtain⟨i,ag⟩:=xaF.1 aBV;rcases xaT i d with aiz|aiz
    .exfalso;have aBW:p∈out.take d:=by
      rw[xaq (by omega)]at ag;rw[List.mem_take_iff_getElem];obtain⟨J,aa⟩:=xaa.1 ag;exact⟨i,by omega,aa⟩
     have bU:=d3 p aBW q kB.1.2.2 kB.1.2.1;have hw:((w++[(v,a)]).take w.length)=w:=by rw[xbu (xaU _),List.take_length]
     rw[hw]at bU;have aBX:q∈out++[v]:=kB.2.2;rcases bU with bU|bU
     .rw[List.mem_take_iff_getElem]at bU;obtain⟨pA,n8,rfl⟩:=bU;have aBY:(out++[v]).Nodup:=by
       rw[<-xaK,xbE]at lT;rw[xbE];refine⟨(xbE.1 lT.1).1,by simp,?_⟩;intro cM zF b' eT;simp at eT;subst eT;intro e;subst e;exact aix.1 zF
      have aM:(out++[v])[pA]?=some out[pA]:=by rw[xaq (by omega),xab]
      have:=aBQ aBY aM wS;omega
     rcases xas.1 aBX with J|J;.rw[xbE]at lT;exact lT.2.2 q J q (xaZ _ bU) rfl
     simp at J;subst J;exact aix.2 bU
    exact⟨i,aiz,ag⟩
  have yJ:x∈out++[v]:=by cases ad with|refl=>simp|step h _=>exact h.2.1
  obtain⟨j,WA,wS⟩:=key x v ad ⟨out.length,d1,by simp⟩ yJ;rcases xaT j out.length with cq|cq;.rw[xaq cq]at wS;exact d2 j x WA wS
  have:j=out.length:=by have:=(xaa.1 wS).1;simp at this;omega
  subst this;simp at wS;subst wS;exact .refl _
 intro i u b e J aa;have bX:=(xaa.1 J).1;rw[xaR,xac bX]at aa;obtain⟨bN,bO,cx⟩:=h.g1 i u b e (hv _ _ _ J) aa;refine⟨by simp;omega,λj y aA aH=>?_,λx ad y aH cS=>?_⟩
 .rcases xaT j out.length with cq|cq;.rw[xaq cq]at aH;exact bO j y aA aH
  have:j=out.length:=by have:=(xaa.1 aH).1;simp at this;omega
  subst this;simp at aH;subst aH;have:=h.chain (w.length-i) i u v b a (hv _ _ _ J) (by rw[show i+(w.length-i)=w.length by omega];exact Xg);exact this
 rw[xbu bN]at ad⊢;have:=cx x ad y aH cS;rw[xbu (by omega)]at this;exact this
end
def nu(nx:Nat->List Nat)(inn:Nat->Bool)(a b:Nat):Prop:=fe (n3 nx inn) a b/\fe (n3 nx inn) b a
def nu.refl{nx:Nat->List Nat}{inn:Nat->Bool}(a:Nat):nu nx inn a a:=⟨.refl _,.refl _⟩
def nu.symm{nx:Nat->List Nat}{inn:Nat->Bool}{a b:Nat}(h:nu nx inn a b):nu nx inn b a:=⟨h.2,h.1⟩
def nu.trans{nx:Nat->List Nat}{inn:Nat->Bool}{a b c:Nat}(h:nu nx inn a b)(k:nu nx inn b c):nu nx inn a c:=⟨h.1.trans k.1,k.2.trans h.2⟩
def aiA(nx:Nat->List Nat)(inn:Nat->Bool)(M:Nat->Prop)(a b:Nat):Prop:=n3 nx inn a b/\¬M a/\¬M b
structure y7(nx:Nat->List Nat)(inn:Nat->Bool)(n:Nat)(prev:Nat->List Nat)(M:Nat->Prop)(r:Nat)(part todo:List Nat):Prop where
 pt:(part++todo).Nodup
 ok:∀x∈part++todo,inn x=true/\x<n/\¬M x
 to:∀x∈part++todo,fe (aiA nx inn M) x r
 has:r∈part++todo
 cl:∀x∈part,∀j∈prev x,inn j=true->M j\/j∈part++todo
section
variable{nx:Nat->List Nat}{inn:Nat->Bool}{n:Nat}{prev:Nat->List Nat}{M:Nat->Prop}{r:Nat}
def y7.start(ag:inn r=true)(aN:r<n)(cQ:¬M r):y7 nx inn n prev M r [] [r]:=⟨by simp,by simp;exact⟨ag,aN,cQ⟩,by simp;exact .refl _,by simp,by simp⟩
def y7.next{part todo new:List Nat}{i:Nat}(h:y7 nx inn n prev M r part (i::todo))(aU:∀j∈prev i,i∈nx j) (lT:new.Nodup) (J:∀j∈new,j∈prev i/\inn j=true/\j<n/\¬M j/\j∉part++i::todo) (aa:∀j∈prev i,inn j=true->M j\/j∈part++i::todo\/j∈new):y7 nx inn n prev M r (part++[i]) (todo++new):=by
 have e:part++[i]++(todo++new)=(part++i::todo)++new:=by simp
 have aiB:i∈part++i::todo:=by simp
 obtain⟨i1,i2,i3⟩:=h.ok i aiB;refine⟨?_,?_,?_,?_,?_⟩;.rw[e,xbE];refine⟨h.pt,lT,?_⟩;intro a aG b aj gg;subst gg;exact(J a aj).2.2.2.2 aG
 .intro x ad;rw[e]at ad;rcases xas.1 ad with ad|ad
  .exact h.ok x ad
  obtain⟨_,a,b,c,_⟩:=J x ad;exact⟨a,b,c⟩
 .intro x ad;rw[e]at ad;rcases xas.1 ad with ad|ad
  .exact h.to x ad
  obtain⟨p,a,b,c,_⟩:=J x ad;exact .step ⟨⟨a,i1,aU x p⟩,c,i3⟩ (h.to i aiB)
 .rw[e];exact xaZ _ h.has
 intro x ad j aA cS;rw[e];rcases xas.1 ad with ad|ad
 .rcases h.cl x ad j aA cS with h|h;.exact .inl h
  exact .inr (xaZ _ h)
 simp at ad;subst ad;rcases aa j aA cS with h|h|h
 .exact .inl h
 .exact .inr (xaZ _ h)
 exact .inr (xbS _ h)
structure qY(nx:Nat->List Nat)(inn:Nat->Bool)(n:Nat)(l:List Nat)(k:Nat)(M:Nat->Prop):Prop where
 ok:∀x,M x->inn x=true/\x<n
 cl:∀x y,M x->nu nx inn x y->M y
 up:∀(j x:Nat),k<=j->l[j]?=some x->M x
def aiC{a b:Nat}(h:fe (n3 nx inn) a b)(aG:inn a=true):inn b=true:=by induction h with|refl=>exact aG|step h _ ih=>exact ih h.2.1
def aBZ{l:List Nat}{k:Nat}{part:List Nat}(k0:Qv nx inn l)(fl:∀x,inn x=true->x<n->x∈l)(jF:∀x y,y∈nx x->y<n)(cQ:qY nx inn n l (k+1) M)(av:l[k]?=some r)(aB0:¬M r)(eU:y7 nx inn n prev M r part [])(aU:∀i j,j<n->i∈nx j->j∈prev i)(x:Nat):x∈part↔nu nx inn r x:=by
 have tO:=eU;rw[show part=part++[] by simp];constructor
 .intro ad;have hw:=eU.to x ad;obtain⟨x1,rN,Kz⟩:=eU.ok x ad;refine⟨?_,hw.mono λa b h=>h.1⟩;have ej:fe (Qu nx inn (l.take (k+1))) x r:=by
   have cS:∀a,inn a=true->a<n->¬M a->a∈l.take (k+1):=by
    intro a aG aN EI;obtain⟨j,aA⟩:=xaF.1 (fl a aG aN);rw[List.mem_take_iff_getElem];obtain⟨J,aa⟩:=xaa.1 aA;rcases xaT j (k+1)with h|h
    .exact⟨j,by omega,aa⟩
    exact absurd (cQ.up j a h aA) EI
   have gen:∀a b,fe (aiA nx inn M) a b->a<n->fe (Qu nx inn (l.take (k+1))) a b:=by
    intro a b gg
    induction gg with
    |refl=>intro _;exact .refl _
    | @step p q s kB _ ih=>intro K7;have bU:=jF p q kB.1.2.2;exact .step ⟨kB.1,cS p kB.1.1 K7 kB.2.1,cS q kB.1.2.1 bU kB.2.2⟩ (ih bU)
   exact gen x r hw rN
  exact k0 k r av x ej
 rintro⟨J,aa⟩;have aB1:∀y,nu nx inn r y->¬M y:=λy aH aB2=>aB0 (cQ.cl y r aB2 aH.symm);have aB3:r<n:=(eU.ok r eU.has).2.1;have gen:∀a b,fe (n3 nx inn) a b->a<n->b∈part++[]->fe (n3 nx inn) r a->fe (n3 nx inn) b r->a∈part++[]:=by
  intro a b gg
  induction gg with
  |refl=>intro _ h _ _;exact h
  | @step p q s kB aiy ih=>
   intro K7 az K8 EU;have aB4:=jF p q kB.2.2;have bU:=ih aB4 az (K8.last kB) EU;have MT:q∈part:=by simpa using bU
   have aB5:fe (n3 nx inn) p r:=(fe.step kB aiy).trans EU;rcases eU.cl q MT p (aU q p K7 kB.2.2) kB.1 with h|h
   .exact absurd h (aB1 p ⟨K8,aB5⟩)
   exact h
 have Qb:x<n:=by
  cases J with
  |refl=>exact aB3
  |step h az=>
   have:∀a b,fe (n3 nx inn) a b->a<n->b<n:=by
    intro a b gg
    induction gg with|refl=>exact id|step h _ ih=>intro _;exact ih (jF _ _ h.2.2)
   exact this _ _ az (jF _ _ h.2.2)
 exact gen x r aa Qb eU.has J (.refl _)
def qY.next{l:List Nat}{k:Nat}{part:List Nat}(cQ:qY nx inn n l (k+1) M)(av:l[k]?=some r)(Xh:∀x,x∈part↔nu nx inn r x)(bE:∀x∈part,inn x=true/\x<n):qY nx inn n l k (λx=>M x\/x∈part):=by
 refine⟨?_,?_,?_⟩
 .rintro x (h|h);.exact cQ.ok x h
  exact bE x h
 .rintro x y (h|h) az;.exact .inl (cQ.cl x y h az)
  exact .inr ((Xh y).2 (((Xh x).1 h).trans az))
 intro j x aA ad;rcases Nat.eq_or_lt_of_le aA with rfl|aA
 .rw[av]at ad;cases ad;exact .inr ((Xh r).2 (.refl r))
 exact .inl (cQ.up j x aA ad)
def qY.skip{l:List Nat}{k:Nat}(cQ:qY nx inn n l (k+1) M)(av:l[k]?=some r)(h:M r):qY nx inn n l k M:=⟨cQ.ok,cQ.cl,λj x aA ad=>by
  rcases Nat.eq_or_lt_of_le aA with rfl|aA;.rw[av]at ad;cases ad;exact h
  exact cQ.up j x aA ad⟩
def qY.start{l:List Nat}:qY nx inn n l l.length (λ_=>False):=⟨λx h=>h.elim,λx y h=>h.elim,λj x aA ad=>absurd (xaa.1 ad).1 (by omega)⟩
end
def Xi{α:Type}{R:α->α->Prop}(ag:∀x,¬R x x)(aP:∀x y z,R x y->R y z->R x z):∀{l m:List α},l.Pairwise R->m.Pairwise R->(∀x,x∈l↔x∈m)->l=m
 |[],[],_,_,_=>rfl|[],b::s,_,_,h=>by have:=(h b).2 (by simp);simp at this|a::r,[],_,_,h=>by have:=(h a).1 (by simp);simp at this
 |a::r,b::s,J,aa,h=>by
  rw[xcw]at J aa;have gg:a=b:=by
   have aG:=(h a).1 (by simp);have aj:=(h b).2 (by simp);rcases xam.1 aG with e|aG
   .exact e
   rcases xam.1 aj with e|aj;.exact e.symm
   exact absurd (aP _ _ _ (J.1 b aj) (aa.1 a aG)) (ag a)
  subst gg;rw[Xi ag aP J.2 aa.2 λx=>?_];constructor
  .intro ad;rcases xam.1 ((h x).1 (xco _ ad))with e|eE
   .subst e;exact absurd (J.1 x ad) (ag x)
   exact eE
  intro ad;rcases xam.1 ((h x).2 (xco _ ad))with e|eE
  .subst e;exact absurd (aa.1 x ad) (ag x)
  exact eE
structure pw(nx:Nat->List Nat)(inn:Nat->Bool)(n:Nat)(out:List (List Nat)):Prop where
 each:∀p∈out,(∃r,inn r=true/\r<n/\∀x,x∈p↔nu nx inn r x)/\p.Pairwise (·<·)
 all:∀x,inn x=true->x<n->∃p∈out,x∈p
def pw.mem{nx:Nat->List Nat}{inn:Nat->Bool}{n:Nat}{l m:List (List Nat)}(h:pw nx inn n l)(k:pw nx inn n m){p:List Nat}(aU:p∈l):p∈m:=by
 obtain⟨⟨r,ey,ez,hQ⟩,C0⟩:=h.each p aU;obtain⟨q,bU,aB6⟩:=k.all r ey ez;obtain⟨⟨s,s1,s2,iX⟩,ahU⟩:=k.each q bU;have EU:=(iX r).1 aB6;have:p=q:=Xi (R:=(·<·)) (λx=>xcb x) (λx y z=>Nat.lt_trans) C0 ahU λx=>by rw[hQ x,iX x];exact⟨λh=>EU.trans h,λh=>EU.symm.trans h⟩
 rw[this];exact bU
def pw.eq{nx:Nat->List Nat}{inn:Nat->Bool}{n:Nat}{R:List Nat->List Nat->Prop}(ag:∀x,¬R x x)(aP:∀x y z,R x y->R y z->R x z){l m:List (List Nat)}(h:pw nx inn n l)(k:pw nx inn n m)(al:l.Pairwise R)(hm:m.Pairwise R):l=m:=Xi ag aP al hm λp=>⟨λaU=>h.mem k aU,λaU=>k.mem h aU⟩
def pw.perm{nx:Nat->List Nat}{inn:Nat->Bool}{n:Nat}{l m:List (List Nat)}(h:pw nx inn n l)(aU:m.Perm l):pw nx inn n m:=⟨λp hm=>h.each p (aU.mem_iff.1 hm),λx J aa=>by obtain⟨p,qi,ad⟩:=h.all x J aa;exact⟨p,aU.mem_iff.2 qi,ad⟩⟩
def lG(E:Nat->Nat->Prop)(a b:Nat):Prop:=∃c,E a c/\fe E c b
def lG.rc{E:Nat->Nat->Prop}{a b:Nat}(h:lG E a b):fe E a b:=by obtain⟨c,J,aa⟩:=h;exact .step J aa
def fe.dV{E:Nat->Nat->Prop}{a b:Nat}(h:fe E a b):a=b\/lG E a b:=by cases h with|refl=>exact .inl rfl|step J aa=>exact .inr ⟨_,J,aa⟩
def fe.snoc{E:Nat->Nat->Prop}{a b c:Nat}(h:fe E a b)(k:E b c):lG E a c:=by cases h with|refl=>exact⟨c,k,.refl _⟩|step J aa=>exact⟨_,J,aa.last k⟩
structure vg(E:Nat->Nat->Prop)(jV V:Nat->Prop)(todo:List Nat):Prop where
 snd:∀x,V x->∃s,jV s/\lG E s x
 tod:∀x∈todo,jV x\/V x
 cl:∀x,jV x\/V x->x∉todo->∀y,E x y->V y
def vg.start{E:Nat->Nat->Prop}{jV:Nat->Prop}{todo:List Nat}(h:∀x,x∈todo↔jV x):vg E jV (λ_=>False) todo:=⟨λx h=>h.elim,λx ad=> .inl ((h x).1 ad),λx ad aN=>absurd ((h x).2 (ad.elim id False.elim)) aN⟩
def vg.next{E:Nat->Nat->Prop}{jV V Xj:Nat->Prop}{i:Nat}{todo new:List Nat}(h:vg E jV V (i::todo))(ha:∀x,Xj x↔V x\/x∈new)(ka:∀x∈new,E i x)(fl:∀y,E i y->Xj y):vg E jV Xj (todo++new):=by
 refine⟨?_,?_,?_⟩
 .intro x ad;rcases(ha x).1 ad with ad|ad
  .exact h.snd x ad
  rcases h.tod i (by simp)with az|az;.exact⟨i,az,x,ka x ad,.refl _⟩
  obtain⟨s,J,aa⟩:=h.snd i az;exact⟨s,J,aa.rc.snoc (ka x ad)⟩
 .intro x ad;rcases xas.1 ad with ad|ad
  .exact(h.tod x (by simp[ad])).imp id λh=>(ha x).2 (.inl h)
  exact .inr ((ha x).2 (.inr ad))
 intro x ad aN y aH;rw[xas,not_or]at aN;by_cases Cp:x=i;.subst Cp;exact fl y aH
 refine(ha y).2 (.inl (h.cl x ?_ ?_ y aH))
 .rcases ad with ad|ad;.exact .inl ad
  rcases(ha x).1 ad with ad|ad;.exact .inr ad
  exact absurd ad aN.2
 intro hm;rcases xam.1 hm with e|hm
 .exact Cp e
 exact aN.1 hm
def vg.done{E:Nat->Nat->Prop}{jV V:Nat->Prop}(h:vg E jV V [])(x:Nat):V x↔∃s,jV s/\lG E s x:=by
 refine⟨h.snd x,?_⟩;rintro⟨s,az,c,J,aa⟩;have ah:=h.cl s (.inl az) (by simp) c J;have gen:∀a b,fe E a b->V a->V b:=by
  intro a b gg
  induction gg with|refl=>exact id|step ax _ ih=>intro aG;exact ih (h.cl _ (.inr aG) (by simp) _ ax)
 exact gen c x aa ah
def mM{l:List Bool}{j:Nat}{b:Bool}(h:l[j]?=some b):(bb (cu l))[j]?=some [aK b]:=by simp[cu,h]
def tp(l:List Bool)(j:Nat)(d:D)(c:Bool):D.aW 1 ((bb (cu l)).set j (h9 [d] 0 [aK c]))=cu (l.set j c):=by have e:h9 [d] 0 [aK c]=[aK c]:=rfl;rw[e];simp[cu,List.map_set]
def vh{l:List Bool}{j:Nat}(h:j<l.length):cC l.length (I (j:Int))=some j:=by rw[j2,xac h]
def px{j:Nat}{l:List Bool}(h:j<l.length):∃b,l[j]?=some b:=⟨_,xab h⟩
def y8(N:Nat):D.aW 1 (List.replicate N [aK false])=cu (List.replicate N false):=by simp[cu]
def y9{N k:Nat}(h:N<=5000)(ai:k<=100):lr k (I (N:Int)) (I (N:Int))=some N:=by
 unfold lr I;have:(k:Int)*(N:Int)<=281474976710656:=by
  have J:k*N<=100*5000:=Nat.mul_le_mul ai h;have aa:((k*N:Nat):Int)<=281474976710656:=by omega
  simpa using aa
 have c:0<=(N:Int)/\(N:Int)<=(N:Int)/\(k:Int)*(N:Int)<=281474976710656/\(N:Int)<=9223372036854775807:=⟨by omega,by omega,this,by omega⟩;simp only[xac c,Int.toNat_natCast]
def K9{k:Nat}(h:k<=1000000000):cT k 8=true:=fX (by omega) (by omega)
def iB(i:Int)(p:List Bool×List Nat):List Bool×List Nat:=if 0<=i/\p.1[i.toNat]?=some false then(p.1.set i.toNat true,p.2++[i.toNat])else p
def Xk(n:Nat)(i:Int)(p:List Bool×List Nat)(h:p.2.length<1000000000):rE n [I i,cu p.1,cd p.2]=some [D.aZ [],cu (iB i p).1,cd (iB i p).2]:=by
 obtain⟨met,todo⟩:=p;have av:cT (todo.length+1) 8=true:=K9 (by simp only at h;omega);by_cases ar:0<=i
 .obtain⟨k,rfl⟩:∃k:Nat,i=(k:Int):=⟨i.toNat,by omega⟩;have fM:=yT ((k:Int)>=0);by_cases al:k<met.length
  .obtain⟨b,aj⟩:=px al;have b6:=yT ((k:Int)<(met.length:Int));cases b with
   |true=>
    have e:iB (k:Int) (met,todo)=(met,todo):=by rw[iB,xae];simp[aj]
    rw[e];simp only[rE,go_sem,j9,fM,b6,vh al,mM aj,ew,fG,fc]
   |false=>
    have e:iB (k:Int) (met,todo)=(met.set k true,todo++[k]):=by rw[iB,xac (by simp[aj])];simp
    rw[e];simp only[rE,go_sem,j9,qf,fM,b6,vh al,mM aj,ew,fG,fc,tp,u7,xan,xay,xax,av]
  have b6:=yF ((k:Int)<(met.length:Int));have e:iB (k:Int) (met,todo)=(met,todo):=by rw[iB,xae];simp[show met.length<=k by omega]
  rw[e];simp only[rE,go_sem,j9,fM,b6,fG,fc]
 have fM:=yF (i>=0);have e:iB i (met,todo)=(met,todo):=by rw[iB,xae (by omega)]
 rw[e];simp only[rE,go_sem,fM,fG,fc]
def Xl(i:Int)(p:List Bool×List Nat):(iB i p).2.length<=p.2.length+1:=by unfold iB;split<;>simp
def qg(l:List Int)(p:List Bool×List Nat):List Bool×List Nat:=l.foldl (λp i=>iB i p) p
def aiD(n:Nat)(l:List Int)(p:List Bool×List Nat)(h:p.2.length+l.length<1000000000)(aN:l.length<n):Bu n [cc l,cu p.1,cd p.2]=some [D.aZ [],cu (qg l p).1,cd (qg l p).2]:=by
 have ag:=dy (f:=Oi n) l (λi (p:List Bool×List Nat)=>[cc l,I l.length,I (i:Int),cu p.1,cd p.2]) (λr p=>(.inl [cu (qg r p).1,cd (qg r p).2]:List D⊕List D)) (λi p=>p.2.length+(l.length-i)<1000000000) ?_ ?_ n 0 p (by omega) (by omega) (xai _);.have bT:(I ((0:Nat):Int))=I 0:=rfl;rw[bT,xal]at ag;simp only[Bu,go_sem,iy,fG,fc,ag]
 .intro p _;simp only[Oi,go_sem,yF ((l.length:Int)<l.length),fG,fc,qg,List.foldl_nil]
 intro i a p aG ag aU;have:=Xl a p;left;refine⟨iB a p,?_,rfl,by omega⟩;simp only[Oi,go_sem,yT ((i:Int)<(l.length:Int)),kr aG,ew,fG,fc,Xk n a p (by omega),cf (bt:=false) (i:=i) (by omega)]
structure aB7(l:List Int)(p q:List Bool×List Nat)(new:List Nat):Prop where
 len:q.1.length=p.1.length
 todo:q.2=p.2++new
 met:∀x,q.1[x]?=some true↔p.1[x]?=some true\/x∈new
 Xm:new.Nodup
 w1:∀x∈new,p.1[x]?=some false/\(x:Int)∈l
 all:∀x:Nat,(x:Int)∈l->x<p.1.length->q.1[x]?=some true
 oz:q.1.count false+q.2.length=p.1.count false+p.2.length
def Cq{l:List Bool}{k x:Nat}(ai:k<l.length):(l.set k true)[x]?=some true↔l[x]?=some true\/x=k:=by
 by_cases h:x=k;.subst h;simp[ai]
 rw[xcm (xbY h)];simp[h]
def aiE{l:List Bool}{k:Nat}(ai:l[k]?=some false):(l.set k true).count false+1=l.count false:=by obtain⟨J,aa⟩:=xaa.1 ai;have ah:0<l.count false:=List.count_pos_iff.2 (xad ai);rw[List.count_set J,aa];simp;omega
def Cr:∀(l:List Int)(p:List Bool×List Nat),∃new,aB7 l p (qg l p) new
 |[],p=>⟨[],rfl,by simp[qg],by simp[qg],.nil,by simp,by simp,rfl⟩
 |a::r,p=>by
  obtain⟨new,h⟩:=Cr r (iB a p);have hm:qg (a::r) p=qg r (iB a p):=rfl;rw[hm];by_cases ah:0<=a/\p.1[a.toNat]?=some false
  .have e:iB a p=(p.1.set a.toNat true,p.2++[a.toNat]):=xac ah;rw[e]at h⊢;have ai:=(xaa.1 ah.2).1;have ka:a.toNat∉new:=by
    intro hm;have:=(h.w1 _ hm).1;simp[ai]at this
   refine⟨a.toNat::new,by rw[h.len];simp,by rw[h.todo];simp,?_,List.nodup_cons.2 ⟨ka,h.Xm⟩,?_,?_,?_⟩;.intro x;rw[h.met x];show(p.1.set a.toNat true)[x]?=some true\/_↔_;rw[Cq ai,xam,or_assoc]
   .intro x ad;rcases xam.1 ad with rfl|ad
    .exact⟨ah.2,by rw[show((a.toNat:Nat):Int)=a by omega];simp⟩
    obtain⟨J,aa⟩:=h.w1 x ad;have:x≠a.toNat:=λe=>ka (e▸ad);have J:(p.1.set a.toNat true)[x]?=some false:=J;rw[xcm (xbY this)]at J;exact⟨J,xco _ aa⟩
   .intro x ad al;rcases xam.1 ad with ad|ad
    .have:x=a.toNat:=by omega
     rw[h.met x];exact .inl ((Cq ai).2 (.inr this))
    exact h.all x ad (by simpa using al)
   have J:=h.oz;have aa:=aiE ah.2;simp only[xaP,xan,xay]at J;omega
  have e:iB a p=p:=xae ah;rw[e]at h⊢;refine⟨new,h.len,h.todo,h.met,h.Xm,λx ad=>⟨(h.w1 x ad).1,xco _ (h.w1 x ad).2⟩,?_,h.oz⟩;intro x ad al;rcases xam.1 ad with ad|ad
  .rw[h.met x];refine .inl ?_;obtain⟨b,aj⟩:=px al;cases b with|true=>exact aj|false=>exact absurd ⟨by omega,by rw[<-ad];simpa using aj⟩ ah
  exact h.all x ad al
structure lH(N:Nat)(nx:et):Prop where
 len:nx.length=N
 le:N<=5000
 row:∀l∈nx,l.length<=5000
 lt:∀l∈nx,∀k∈l,k<N
def dv(nx:et)(a:Nat):List Nat:=(nx[a]?).getD []
def l8(S:e6)(nx:et)(dK:List Nat)(dL:List (List Bool)):D:= .agg [cJ S,c8 nx,cd dK,fF dL]
theorem jd{S:e6}{nx:et}{dK:List Nat}{dL:List (List Bool)}:dO 4 (l8 S nx dK dL)=true/\ae (l8 S nx dK dL) 0=cJ S/\ae (l8 S nx dK dL) 1=c8 nx/\ae (l8 S nx dK dL) 2=cd dK/\ae (l8 S nx dK dL) 3=fF dL:=⟨rfl,rfl,rfl,rfl,rfl⟩
theorem FO{S:e6}{nx:et}{dK:List Nat}{dL:List (List Bool)}:D.agg [cJ S,c8 nx,cd dK,fF dL]=l8 S nx dK dL:=rfl
section
variable{N:Nat}{nx:et}(g:lH N nx)
include g
theorem lH.e0{a:Nat}(h:a<N):b3 1 (c8 nx) (I (a:Int))=some [cd (dv nx a)]:=by
 have:nx[a]?=some (dv nx a):=by unfold dv;rw[xab (by rw[g.len];exact h)];rfl
 exact ah9 this
theorem lH.Qx{a:Nat}(h:a<N):dv nx a∈nx:=by
 have bB:a<nx.length:=by rw[g.len];exact h
 unfold dv;rw[xab bB];exact xbc _
theorem lH.qZ{a b:Nat}(h:b∈dv nx a):a<N/\b<N:=by
 rcases xaT a N with aG|aG;.exact⟨aG,g.lt _ (g.Qx aG) b h⟩
 unfold dv at h;rw[xaM (by rw[g.len];exact aG)]at h;simp at h
theorem lH.La(a:Nat):(dv nx a).length<=5000:=by
 rcases xaT a N with aG|aG;.exact g.row _ (g.Qx aG)
 unfold dv;rw[xaM (by rw[g.len];exact aG)];simp
end
def py(nx:et)(a b:Nat):Prop:=b∈dv nx a
structure vi(E:Nat->Nat->Prop)(jV:Nat->Prop)(N:Nat)(p:List Bool×List Nat):Prop where
 len:p.1.length=N
 snd:∀x,p.1[x]?=some true->∃s,jV s/\fe E s x
 aiF:∀s,jV s->p.1[s]?=some true
 td:∀x∈p.2,p.1[x]?=some true
 cl:∀x,p.1[x]?=some true->x∉p.2->∀y,E x y->p.1[y]?=some true
def vi.done{E:Nat->Nat->Prop}{jV:Nat->Prop}{N:Nat}{p:List Bool×List Nat}(h:vi E jV N p)(ar:p.2=[])(x:Nat):p.1[x]?=some true↔∃s,jV s/\fe E s x:=by
 refine⟨h.snd x,?_⟩;rintro⟨s,az,av⟩;have gen:∀a b,fe E a b->p.1[a]?=some true->p.1[b]?=some true:=by
  intro a b gg
  induction gg with|refl=>exact id|step J _ ih=>intro aG;exact ih (h.cl _ aG (by rw[ar];simp) _ J)
 exact gen s x av (h.aiF s az)
def vi.start{nx:et}{N:Nat}(l:List Int):vi (py nx) (λs=>(s:Int)∈l/\s<N) N (qg l (List.replicate N false,[])):=by
 obtain⟨new,h⟩:=Cr l (List.replicate N false,[]);have ar:∀x:Nat,(List.replicate N false)[x]?≠some true:=by intro x ad;rw[xbh]at ad;split at ad<;>simp at ad
 have hm:∀x:Nat,(qg l (List.replicate N false,[])).1[x]?=some true↔x∈new:=λx=>by rw[h.met x];exact⟨λh=>h.resolve_left (ar x),.inr⟩
 have aN:∀x∈new,(x:Int)∈l/\x<N:=λx ad=>⟨(h.w1 x ad).2,by simpa using(xaa.1 (h.w1 x ad).1).1⟩;have aP:=h.todo;simp only[xaL]at aP;refine⟨by rw[h.len];simp,λx ad=>⟨x,aN x ((hm x).1 ad),.refl _⟩,λs az=>h.all s az.1 (by simpa using az.2),λx ad=>(hm x).2 (aP▸ad),λx ad eE=>absurd (aP▸(hm x).1 ad) eE⟩
def vi.next{nx:et}{N:Nat}(g:lH N nx){jV:Nat->Prop}{met:List Bool}{t:List Nat}{a:Nat}(h:vi (py nx) jV N (met,t++[a])):vi (py nx) jV N (qg ((dv nx a).map λ(k:Nat)=>(k:Int)) (met,t)):=by
 obtain⟨new,q⟩:=Cr ((dv nx a).map λ(k:Nat)=>(k:Int)) (met,t);have aiG:∀y,((y:Nat):Int)∈(dv nx a).map (λ(k:Nat)=>(k:Int))↔y∈dv nx a:=by
  intro y;simp only[xaN];exact⟨λ⟨k,J,aa⟩=>by
                 have:k=y:=by omega
                 exact this▸J,λh=>⟨y,h,rfl⟩⟩
 have Xn:=h.td a (by simp);refine⟨by rw[q.len];exact h.len,?_,λs az=>(q.met s).2 (.inl (h.aiF s az)),?_,?_⟩
 .intro x ad;rcases(q.met x).1 ad with ad|ad
  .exact h.snd x ad
  obtain⟨s,J,aa⟩:=h.snd a Xn;exact⟨s,J,aa.last ((aiG x).1 (q.w1 x ad).2)⟩
 .intro x ad;rw[q.todo]at ad;rcases xas.1 ad with ad|ad
  .exact(q.met x).2 (.inl (h.td x (by simp at ad⊢;exact .inl ad)))
  exact(q.met x).2 (.inr ad)
 intro x ad aN y aH;rw[q.todo,xas,not_or]at aN;by_cases aiH:x=a;.subst aiH;exact q.all y ((aiG y).2 aH) (by have:=(g.qZ aH).2;have:=h.len;simp only at this⊢;omega)
 refine(q.met y).2 (.inl (h.cl x ?_ ?_ y aH));.exact((q.met x).1 ad).resolve_right aN.2
 intro hm;rcases xas.1 hm with hm|hm
 .exact aN.1 hm
 simp at hm;exact aiH hm
def aB8{l:List Nat}{a:Nat}:kE ((bb (cd (l++[a]))).length) none (some (I (l.length:Int)))=some (0,l.length):=by simp[kE,qs,I,cd]
section
variable{S:e6}{nx:et}(dK:List Nat)(dL:List (List Bool))(g:lH S.length nx)(n:Nat)(aN:10000000<n)
include g aN
theorem aB9(p:List Bool×List Nat){jV:Nat->Prop}(h:vi (py nx) jV S.length p)(ah:p.1.count false+p.2.length<=S.length): ∃R:List Bool,bJ (JF n) n [cJ S,c8 nx,cd dK,fF dL,cu p.1,cd p.2]=some (.inl [cu R,cd []])/\R.length=S.length/\∀x,R[x]?=some true↔∃s,jV s/\fe (py nx) s x:=by
 have hle:=g.le;have H:=Cm (f:=JF n) (λ(p:List Bool×List Nat)=>[cJ S,c8 nx,cd dK,fF dL,cu p.1,cd p.2]) (λp=>p.1.count false+p.2.length) (λp=>vi (py nx) jV S.length p/\p.1.count false+p.2.length<=S.length) (λy=>∃R:List Bool,y=(.inl [cu R,cd []]:List D⊕D)/\R.length=S.length/\∀x,R[x]?=some true↔∃s,jV s/\fe (py nx) s x) ?_ n p ⟨h,ah⟩ (by omega)
 .obtain⟨y,J,R,aa,ax,bj⟩:=H;exact⟨R,by rw[J,aa],ax,bj⟩
 rintro⟨met,todo⟩ ⟨h,ah⟩;simp only at ah;rcases List.eq_nil_or_concat todo with rfl|⟨t,a,rfl⟩
 .right;refine⟨_,?_,met,rfl,h.len,h.done rfl⟩;have bT:decide ((0:Int)>0)=false:=by decide
  have aM:(((bb (cd [])).length:Nat):Int)=0:=rfl;simp only[JF,go_sem,aM,bT,fG,fc]
 left;rw[List.concat_eq_append]at h ah⊢;have cj:=h.next g
 obtain⟨new,q⟩:=Cr ((dv nx a).map λ(k:Nat)=>(k:Int)) (met,t);have Xn:=h.td a (by simp);have aCa:a<S.length:=by have:=(xaa.1 Xn).1;have:=h.len;simp only at*;omega
 have nO:=g.La a;have al:(bb (cd (t++[a]))).length=t.length+1:=by rw[qf];simp
 simp only[xaP,xan,xay]at ah;have qR:=q.oz;simp only at qR;have aM:decide (((t.length+1:Nat):Int)>0)=true:=xao (by omega);have a8:bD false .sub (I ((t.length+1:Nat):Int)) (I 1)=some (I (t.length:Int)):=by rw[oo (by omega) (by omega)];congr 2;omega
 have b0:cC (t.length+1) (I (t.length:Int))=some t.length:=by rw[j2,xac (by omega)]
 have cK:(bb (cd (t++[a])))[t.length]?=some [I (a:Int)]:=by simp[cd]
 have dJ:kE (t.length+1) none (some (I (t.length:Int)))=some (0,t.length):=by rw[<-al];exact aB8
 have eX:D.aW 1 (((bb (cd (t++[a]))).drop 0).take t.length)=cd t:=by simp[cd]
 have mf:=aiD n ((dv nx a).map λ(k:Nat)=>(k:Int)) (met,t) (by simp;omega) (by simp;omega);rw[<-aip]at mf;refine⟨_,?_,⟨cj,by rw[qR];omega⟩,by simp only[qR,xaP,xan,xay];omega⟩;simp only[JF,go_sem,al,aM,a8,b0,cK,ew,dJ,yT (0+t.length<=t.length+1),g.e0 aCa,fG,fc,eX,mf]
theorem aCb(l:List Int)(al:l.length<=100000000)(FP:l.length<n): ∃R:List Bool,ym n [l8 S nx dK dL,cc l]=some (cu R)/\R.length=S.length/\∀x,R[x]?=some true↔∃s:Nat,((s:Int)∈l/\s<S.length)/\fe (py nx) s x:=by have hle:=g.le;have ar:=vi.start (nx:=nx) (N:=S.length) l;obtain⟨new,q⟩:=Cr l (List.replicate S.length false,[]);have ah:=q.oz;simp only[List.count_replicate_self,xay,xbo]at ah;obtain⟨R,J,aa,ax⟩:=aB9 dK dL g n aN _ ar (by omega);have mf:=aiD n l (List.replicate S.length false,[]) (by simp;omega) FP;have aCc:D.aW 1 ([]:List (List D))=cd []:=rfl;refine⟨R,?_,aa,ax⟩;simp only[ym,acN,go_sem,jd.1,jd.2.1,jd.2.2.1,jd.2.2.2.1,jd.2.2.2.2,kv,y9 hle (show 1<=100 by omega),y8,aCc,mf,fG,fc,J]
end
def hasB(inn:List Bool)(k:Nat):Bool:=(inn[k]?).getD false
def aiI{inn:List Bool}{k:Nat}:hasB inn k=true↔inn[k]?=some true:=by unfold hasB;cases inn[k]? with|none=>simp|some b=>simp
def kx(h:Nat->Bool)(l:List Nat)(p:List Bool×List Nat):List Bool×List Nat:=qg ((l.filter h).map λ(k:Nat)=>(k:Int)) p
def Xo(h:Nat->Bool)(k:Nat)(r:List Nat)(p:List Bool×List Nat):kx h (k::r) p=kx h r (if h k=true then iB (k:Int) p else p):=by
 unfold kx;by_cases ai:h k=true;.rw[List.filter_cons_of_pos ai,xac ai];rfl
 rw[List.filter_cons_of_neg ai,xae ai]
def aCd(i:Int)(p:List Bool×List Nat):(iB i p).1.length=p.1.length:=by unfold iB;split<;>simp
def Qy{l:List Nat}{h:Nat->Bool}{y:Nat}:((y:Nat):Int)∈(l.filter h).map (λ(k:Nat)=>(k:Int))↔y∈l/\h y=true:=by
 simp only[xaN,xbX];exact⟨λ⟨k,J,aa⟩=>by
                have:k=y:=by omega
                exact this▸J,λh=>⟨y,h,rfl⟩⟩
def aiJ{i:Nat}{t:List Nat}:D.aW 1 (((bb (cd (i::t))).drop 1).take t.length)=cd t:=by have:(t.map λ(k:Nat)=>[I (k:Int)]).take t.length=t.map λ(k:Nat)=>[I (k:Int)]:=xbx (by simp);simp[cd,this]
def aiK{k:Nat}:kE (k+1) (some (I 1)) none=some (1,k):=by have:=Vq (n:=k+1) (i:=1) (by omega);simpa using this
def aiL{k:Nat}:cC (k+1) (I 0)=some 0:=Pn
def l9(nx:et)(inn:List Bool)(a b:Nat):Prop:=b∈dv nx a/\inn[b]?=some true
section
variable{S:e6}{nx:et}(dK:List Nat)(dL:List (List Bool))(g:lH S.length nx)(n:Nat)(aN:10000000<n)
include g aN
theorem aCe:JX n [l8 S nx dK dL]=some (cu (List.replicate S.length true)):=by
 have hle:=g.le;have ag:=dy (f:=OC n) (List.replicate S.length ()) (λi (_:Unit)=>[I (i:Int),cu (List.replicate i true++List.replicate (S.length-i) false)]) (λ_ _=>(.inl [cu (List.replicate S.length true)]:List D⊕D)) (λ_ _=>True) ?_ ?_ n 0 () trivial (by simp;omega) (xai _)
 .have bT:(I ((0:Nat):Int))=I 0:=rfl;simp only[bT,List.replicate_zero,xaL,Nat.sub_zero]at ag;simp only[JX,ac1,go_sem,jd.1,jd.2.1,kv,y9 hle (show 1<=100 by omega),y8,ag,fG]
 .intro _ _;simp only[xbI,OC,go_sem,j9,xaP,xca,List.replicate_zero,xau,yF ((S.length:Int)<S.length),fG]
 intro i _ _ _ ag _;simp only[xbI]at ag;left;refine⟨(),?_,rfl,trivial⟩;have al:(List.replicate i true++List.replicate (S.length-i) false).length=S.length:=by simp;omega
 have bL:(List.replicate i true++List.replicate (S.length-i) false)[i]?=some false:=by rw[xaz (by simp),xbI,xca,xbh,xac (by omega)]
 have az:(List.replicate i true++List.replicate (S.length-i) false).set i true=List.replicate (i+1) true++List.replicate (S.length-(i+1)) false:=by obtain⟨k,ai⟩:∃k,S.length-i=k+1:=⟨S.length-i-1,by omega⟩;rw[ai,show S.length-(i+1)=k by omega,List.replicate_succ,List.set_append_right _ _ (by simp),List.replicate_succ'];simp
 have dt:cC S.length (I (i:Int))=some i:=by rw[j2,xac ag]
 simp only[OC,go_sem,j9,al,yT ((i:Int)<(S.length:Int)),dt,mM bL,tp,az,cf (bt:=false) (i:=i) (by omega)]
theorem aCf(inn:List Bool)(cS:inn.length<=1000000000):JZ n [l8 S nx dK dL,cu inn]=some (cu ((List.range S.length).map (hasB inn))):=by
 have hle:=g.le;have ag:=dy (f:=JY n) (List.replicate S.length ()) (λi (_:Unit)=>[cu inn,I (i:Int),cu ((List.range i).map (hasB inn)++List.replicate (S.length-i) false)]) (λ_ _=>(.inl [cu ((List.range S.length).map (hasB inn))]:List D⊕D)) (λ_ _=>True) ?_ ?_ n 0 () trivial (by simp;omega) (xai _)
 .have bT:(I ((0:Nat):Int))=I 0:=rfl;simp only[bT,List.range_zero,xbb,xaL,Nat.sub_zero]at ag;simp only[JZ,ac6,go_sem,jd.1,jd.2.1,kv,y9 hle (show 1<=100 by omega),y8,ag,fG]
 .intro _ _;simp only[xbI,JY,go_sem,j9,xaP,xaW,xbD,xca,List.replicate_zero,xau,yF ((S.length:Int)<S.length),fG]
 intro i _ _ _ ag _;simp only[xbI]at ag;left;refine⟨(),?_,rfl,trivial⟩;have al:((List.range i).map (hasB inn)++List.replicate (S.length-i) false).length=S.length:=by simp;omega
 have bL:((List.range i).map (hasB inn)++List.replicate (S.length-i) false)[i]?=some false:=by rw[xaz (by simp),xaW,xbD,xca,xbh,xac (by omega)]
 have az:((List.range i).map (hasB inn)++List.replicate (S.length-i) false).set i (hasB inn i)=(List.range (i+1)).map (hasB inn)++List.replicate (S.length-(i+1)) false:=by obtain⟨k,ai⟩:∃k,S.length-i=k+1:=⟨S.length-i-1,by omega⟩;rw[ai,show S.length-(i+1)=k by omega,List.replicate_succ,List.set_append_right _ _ (by simp),List.range_succ];simp
 have dt:cC S.length (I (i:Int))=some i:=by rw[j2,xac ag]
 have eK:bV (aK (hasB inn i))=true:=rfl;by_cases ah:i<inn.length
 .have Cs:inn[i]?=some (hasB inn i):=by unfold hasB;rw[xab ah];rfl
  simp only[JY,go_sem,l7,j9,al,yT ((i:Int)<(S.length:Int)),yT ((i:Int)<(inn.length:Int)),mL Cs,ew,dt,eK,mM bL,tp,az,cf (bt:=false) (i:=i) (by omega)]
 have Cs:hasB inn i=false:=by unfold hasB;rw[xaM (by omega)];rfl
 rw[Cs]at az;simp only[JY,go_sem,l7,j9,al,yT ((i:Int)<(S.length:Int)),yF ((i:Int)<(inn.length:Int)),dt,mM bL,tp,az,cf (bt:=false) (i:=i) (by omega)]
theorem aCg(inn:List Bool)(cS:inn.length=S.length){i:Nat}(ag:i<S.length)(p:List Bool×List Nat)(al:p.1.length=S.length)(av:p.2.length<=100000000):bJ (BL n) n [cu inn,I (i:Int),I 0,cJ S,c8 nx,cd dK,fF dL,cu p.1,cd p.2]=some (.inl [cu inn,cJ S,c8 nx,cd dK,fF dL,cu (kx (hasB inn) (dv nx i) p).1,cd (kx (hasB inn) (dv nx i) p).2]):=by
 have nO:=g.La i;have F7:=g.e0 ag;have H:=dy (f:=BL n) (dv nx i) (λj (p:List Bool×List Nat)=>[cu inn,I (i:Int),I (j:Int),cJ S,c8 nx,cd dK,fF dL,cu p.1,cd p.2]) (λr p=>(.inl [cu inn,cJ S,c8 nx,cd dK,fF dL,cu (kx (hasB inn) r p).1,cd (kx (hasB inn) r p).2]:List D⊕(List D⊕(List D⊕(List D⊕D))))) (λj p=>p.1.length=S.length/\p.2.length+((dv nx i).length-j)<=200000000) ?_ ?_ n 0 p ⟨al,by omega⟩ (by omega) (xai _)
 .exact H
 .intro p _;simp only[BL,go_sem,F7,ew,u9,yF (((dv nx i).length:Int)<(dv nx i).length),fG,fc];rfl
 rintro j k ⟨met,todo⟩ ai aA ⟨al,av⟩;simp only at al av;have lz:=(g.qZ (xad ai)).2;have cq:=yT ((j:Int)<((dv nx i).length:Int));obtain⟨b,aj⟩:=px (l:=inn) (j:=k) (by omega);obtain⟨c,ah⟩:=px (l:=met) (j:=k) (by omega);have bQ:hasB inn k=b:=by unfold hasB;rw[aj];rfl
 have dt:cC met.length (I (k:Int))=some k:=vh (by omega);have eL:cT (todo.length+1) 8=true:=K9 (by omega);have yD:=Xl (k:Int) (met,todo);have B4:=aCd (k:Int) (met,todo);left;cases b with
 |false=>
  refine⟨(met,todo),?_,?_,al,by simp only;omega⟩;.simp only[BL,go_sem,F7,ew,u9,cq,wZ ai,mL aj,fG,fc,cf (bt:=false) (i:=j) (by omega)]
  rw[Xo,xae (by rw[bQ];simp)]
 |true=>
  refine⟨iB (k:Int) (met,todo),?_,?_,by rw[B4];exact al,by simp only at yD;omega⟩
  .cases c with
   |true=>
    have e:iB (k:Int) (met,todo)=(met,todo):=by rw[iB,xae];simp[ah]
    rw[e];simp only[BL,go_sem,F7,ew,u9,cq,wZ ai,mL aj,j9,dt,mM ah,fG,fc,cf (bt:=false) (i:=j) (by omega)]
   |false=>
    have e:iB (k:Int) (met,todo)=(met.set k true,todo++[k]):=by rw[iB,xac (by simp[ah])];simp
    rw[e];simp only[BL,go_sem,F7,ew,u9,cq,wZ ai,mL aj,j9,dt,mM ah,fG,fc,tp,u7,qf,xan,xay,xax,eL,cf (bt:=false) (i:=j) (by omega)]
  rw[Xo,xac bQ]
theorem Xp(inn:List Bool)(cS:inn.length=S.length){a:Nat}(aG:a<S.length): ∃R:List Bool,yu n [l8 S nx dK dL,I (a:Int),cu inn]=some (cu R)/\R.length=S.length/\∀x,R[x]?=some true↔lG (l9 nx inn) a x:=by
 have hle:=g.le;have H:=Cm (f:=OE n) (λ(p:List Bool×List Nat)=>[cu inn,cJ S,c8 nx,cd dK,fF dL,cu p.1,cd p.2]) (λp=>p.1.count false+p.2.length) (λp=>p.1.length=S.length/\(∀x∈p.2,x<S.length)/\vg (l9 nx inn) (·=a) (λx=>p.1[x]?=some true) p.2/\p.1.count false+p.2.length<=S.length+1) (λy=>∃R:List Bool,y=(.inl [cu R]:List D⊕D)/\R.length=S.length/\∀x,R[x]?=some true↔∃s,s=a/\lG (l9 nx inn) s x) ?_ n (List.replicate S.length false,[a]) ?_ ?_
 .obtain⟨y,J,R,rfl,ax,bj⟩:=H;refine⟨R,?_,ax,λx=>by rw[bj x];simp⟩;have aM:D.aW 1 [[I (a:Int)]]=cd [a]:=rfl;have eK:bV (I (a:Int))=true:=rfl;simp only[yu,ac2,go_sem,jd.1,jd.2.1,jd.2.2.1,jd.2.2.2.1,jd.2.2.2.2,kv,y9 hle (show 1<=100 by omega),y8,aM,eK,J,fG]
 .rintro⟨met,todo⟩ ⟨al,qv,fI,ah⟩;simp only at al qv fI ah;cases todo with
  |nil=>
   right;refine⟨_,?_,met,rfl,al,fI.done⟩;have bT:decide ((0:Int)>0)=false:=by decide
   have aM:(((bb (cd [])).length:Nat):Int)=0:=rfl;simp only[OE,go_sem,aM,bT,fG,fc]
  |cons i t=>
   left;have Xq:=qv i (by simp);simp only[xan]at ah;obtain⟨new,q⟩:=Cr (((dv nx i).filter (hasB inn)).map λ(k:Nat)=>(k:Int)) (met,t);have qR:=q.oz;simp only at qR;have fP:=aCg dK dL g n aN inn cS Xq (met,t) al (by simp only;omega);have mb:(bb (cd (i::t))).length=t.length+1:=by rw[qf];simp
   have aM:decide (((t.length+1:Nat):Int)>0)=true:=xao (by omega);have cK:(bb (cd (i::t)))[0]?=some [I (i:Int)]:=by simp[cd]
   have ka:∀x∈new,l9 nx inn i x:=λx ad=>by obtain⟨J,aa⟩:=Qy.1 (q.w1 x ad).2;exact⟨J,aiI.1 aa⟩
   refine⟨kx (hasB inn) (dv nx i) (met,t),?_,⟨by rw[kx,q.len];exact al,?_,?_,by rw[kx,qR];omega⟩,by rw[kx,qR];simp only[xan];omega⟩;.simp only[OE,go_sem,mb,aM,aiL,cK,ew,aiK,yT (1+t.length<=t.length+1),fG,fc,aiJ,fP]
   .intro x ad;rw[kx,q.todo]at ad;rcases xas.1 ad with ad|ad
    .exact qv x (by simp at ad⊢;exact .inr ad)
    exact(g.qZ (ka x ad).1).2
   rw[kx,q.todo];exact fI.next (λx=>q.met x) ka λy aH=>q.all y (Qy.2 ⟨aH.1,aiI.2 aH.2⟩) (by have:=(g.qZ aH.1).2;simp only;omega)
 .refine⟨by simp,by simpa using aG,?_,by simp⟩;have e:(λx:Nat=>(List.replicate S.length false)[x]?=some true)=λ_=>False:=by
   funext x
   rw[xbh];split<;>simp
  show vg _ _ (λx:Nat=>(List.replicate S.length false)[x]?=some true) [a];rw[e];exact vg.start (λx=>by simp)
 simp;omega
end
def aCh{a b:List Bool}(al:a.length=b.length)(h:∀x:Nat,a[x]?=some true↔b[x]?=some true):a=b:=by
 refine xbQ λx=>?_;have:=h x;by_cases ad:x<a.length
 .obtain⟨c,ah⟩:=px ad;obtain⟨d,ay⟩:=px (l:=b) (j:=x) (by omega);rw[ah,ay]at this⊢;cases c<;>cases d<;>simp at this⊢
 rw[xaM (by omega),xaM (by omega)]
def aCi{l:List Bool}{k x:Nat}{b:Bool}(ai:k<l.length):(l.set k b)[x]?=some true↔(x=k/\b=true)\/(x≠k/\l[x]?=some true):=by
 by_cases h:x=k;.subst h;simp[ai]
 rw[xcm (xbY h)];simp[h]
def aCj{nx:et}{N:Nat}(g:lH N nx){s x:Nat}:(x=s\/lG (l9 nx (List.replicate N true)) s x)↔fe (py nx) s x:=by
 have eJ:∀a b,l9 nx (List.replicate N true) a b↔py nx a b:=by intro a b;refine⟨λh=>h.1,λh=>⟨h,?_⟩⟩;rw[xbh,xac (g.qZ h).2]
 constructor
 .rintro(rfl|h);.exact .refl _
  exact h.rc.mono λa b h=>(eJ a b).1 h
 intro h;rcases(h.mono λa b h=>(eJ a b).2 h).dV with h|h
 .exact .inl h.symm
 exact .inr h
section
variable{S:e6}{nx:et}(dK:List Nat)(dL:List (List Bool))(g:lH S.length nx)(n:Nat)(aN:10000000<n)
include g aN
theorem aCk(l R out:List Bool)(F:D)(i:Int)(hS:R.length=S.length)(aT:out.length=S.length): ∃n4:List Bool,bJ (EC n) n [F,I i,cu R,I 0,cJ S,c8 nx,cd dK,fF dL,cu out]=some (.inl [F,I i,cJ S,c8 nx,cd dK,fF dL,cu n4])/\n4.length=S.length/\∀x:Nat,n4[x]?=some true↔out[x]?=some true\/R[x]?=some true:=by
 have hle:=g.le;have H:=wW (f:=EC n) R (λk (o:List Bool)=>[F,I i,cu R,I (k:Int),cJ S,c8 nx,cd dK,fF dL,cu o]) (λk o=>o.length=S.length/\∀x:Nat,o[x]?=some true↔out[x]?=some true\/(x<k/\R[x]?=some true)) (λy=>∃o:List Bool,y=(.inl [F,I i,cJ S,c8 nx,cd dK,fF dL,cu o]:List D⊕(List D⊕(List D⊕(List D⊕D))))/\o.length=S.length/\∀x:Nat,o[x]?=some true↔out[x]?=some true\/R[x]?=some true) ?_ ?_ n 0 out ⟨aT,λx=>by simp⟩ (xai _) (by omega)
 .obtain⟨y,J,o,rfl,aa,ax⟩:=H;exact⟨o,J,aa,ax⟩
 .rintro o ⟨J,aa⟩;refine⟨_,?_,o,rfl,J,λx=>?_⟩;.simp only[EC,go_sem,l7,yF ((R.length:Int)<R.length),fG]
  rw[aa x];refine⟨λh=>h.imp id (·.2),λh=>h.imp id λh=>⟨(xaa.1 h).1,h⟩⟩
 rintro k b o aj ⟨J,aa⟩;have ai:=(xaa.1 aj).1;obtain⟨c,ah⟩:=px (l:=o) (j:=k) (by omega);have dt:cC o.length (I (k:Int))=some k:=vh (by omega);have eK:∀b,bV (aK b)=true:=λ_=>rfl;left;refine⟨o.set k (c||b),?_,by simpa using J,λx=>?_⟩
 .cases c with
  |true=>simp only[EC,go_sem,l7,j9,yT ((k:Int)<(R.length:Int)),dt,mM ah,ew,eK,tp,Bool.true_or,cf (bt:=false) (i:=k) (by omega)]
  |false=>simp only[EC,go_sem,l7,j9,yT ((k:Int)<(R.length:Int)),dt,mM ah,ew,mL aj,eK,tp,xbG,cf (bt:=false) (i:=k) (by omega)]
 rw[aCi (by omega),aa x];by_cases ad:x=k;.subst ad;have:=aa x;rw[ah]at this;rw[aj];cases c<;>cases b<;>simp at this⊢<;>simp[this]
 have e:(x<k+1/\R[x]?=some true)↔(x<k/\R[x]?=some true):=by refine and_congr_left λ_=>?_;omega
 rw[e];simp[ad]
theorem aCl(l:List Int)(al:l.length<=100000000)(FP:l.length<n): ∃R:List Bool,EE n [l8 S nx dK dL,cc l]=some (cu R)/\R.length=S.length/\∀x,R[x]?=some true↔∃s:Nat,((s:Int)∈l/\s<S.length)/\fe (py nx) s x:=by
 have hle:=g.le;have H:=wW (f:=ED n) l (λi (o:List Bool)=>[cc l,I (i:Int),cJ S,c8 nx,cd dK,fF dL,cu o]) (λi o=>o.length=S.length/\∀x:Nat,o[x]?=some true↔∃s j:Nat,j<i/\l[j]?=some (s:Int)/\s<S.length/\fe (py nx) s x) (λy=>∃o:List Bool,y=(.inl [cu o]:List D⊕D)/\o.length=S.length/\∀x:Nat,o[x]?=some true↔∃s:Nat,((s:Int)∈l/\s<S.length)/\fe (py nx) s x) ?_ ?_ n 0 (List.replicate S.length false) ⟨by simp,λx=>?_⟩ (xai _) (by omega)
 .obtain⟨y,J,R,rfl,aa,ax⟩:=H;have bT:(I ((0:Nat):Int))=I 0:=rfl;rw[bT]at J;refine⟨R,?_,aa,ax⟩;simp only[EE,ac5,go_sem,jd.1,jd.2.1,jd.2.2.1,jd.2.2.2.1,jd.2.2.2.2,kv,y9 hle (show 1<=100 by omega),y8,J,fG]
 .rintro o ⟨J,aa⟩;refine⟨_,?_,o,rfl,J,λx=>?_⟩;.simp only[ED,go_sem,iy,yF ((l.length:Int)<l.length),fG]
  rw[aa x];constructor;.rintro⟨s,j,_,aA,az,av⟩;exact⟨s,⟨xad aA,az⟩,av⟩
  rintro⟨s,⟨hm,az⟩,av⟩;obtain⟨j,aA⟩:=xaF.1 hm;exact⟨s,j,(xaa.1 aA).1,aA,az,av⟩
 .rintro i a o aG ⟨J,aa⟩;have ag:=(xaa.1 aG).1;have bX:=yT ((i:Int)<(l.length:Int));have za:∀(P:Nat->Prop),(∃s j:Nat,j<i+1/\l[j]?=some (s:Int)/\s<S.length/\P s)↔(∃s j:Nat,j<i/\l[j]?=some (s:Int)/\s<S.length/\P s)\/∃s:Nat,a=(s:Int)/\s<S.length/\P s:=by
   intro P;constructor
   .rintro⟨s,j,aA,h⟩;rcases xaT j i with iU|iU;.exact .inl ⟨s,j,iU,h⟩
    obtain rfl:j=i:=by omega
    rw[aG]at h;exact .inr ⟨s,xba h.1,h.2⟩
   rintro(⟨s,j,aA,h⟩|⟨s,rfl,h⟩);.exact⟨s,j,by omega,h⟩
   exact⟨s,i,by omega,aG,h⟩
  left;by_cases aS:0<=a/\a<(S.length:Int)
  .obtain⟨k,rfl⟩:∃k:Nat,a=(k:Int):=⟨a.toNat,by omega⟩;have ai:k<S.length:=by omega
   obtain⟨R,ei,eu,gS⟩:=Xp dK dL g n aN (List.replicate S.length true) (by simp) ai;obtain⟨n4,bN,bO,cx⟩:=aCk dK dL g n aN [] R (o.set k true) (cc l) (i:Int) eu (by simpa using J);obtain⟨c,ah⟩:=px (l:=o) (j:=k) (by omega);have dt:cC o.length (I (k:Int))=some k:=vh (by omega);have d1:=yF ((k:Int)<0);have d2:=yF ((k:Int)>=(o.length:Int));have dm:=aCe dK dL g n aN;refine⟨n4,?_,bO,λx=>?_⟩
   .simp only[ED,go_sem,iy,bX,kr aG,ew,d1,d2,j9,dt,mM ah,tp,FO,dm,ei,bN,fG,cf (bt:=false) (i:=i) (by omega)]
   rw[cx x,Cq (by omega),aa x,gS x,za (λs=>fe (py nx) s x),or_assoc];refine or_congr_right ?_;rw[aCj g];exact⟨λh=>⟨k,rfl,ai,h⟩,λ⟨s,e,_,h⟩=>by
                               have:k=s:=by omega
                               exact this▸h⟩
  refine⟨o,?_,J,λx=>?_⟩
  .by_cases ar:a<0;.simp only[ED,go_sem,iy,bX,kr aG,ew,xao ar,fG,cf (bt:=false) (i:=i) (by omega)]
   simp only[ED,go_sem,iy,bX,kr aG,ew,xat ar,j9,yT (a>=(o.length:Int)),fG,cf (bt:=false) (i:=i) (by omega)]
  rw[aa x,za (λs=>fe (py nx) s x)];refine⟨.inl,λh=>h.resolve_right ?_⟩;rintro⟨s,rfl,az,_⟩;exact aS ⟨by omega,by omega⟩
 refine⟨λh=>?_,λ⟨s,j,aA,_⟩=>absurd aA (xaH _)⟩;rw[xbh]at h;split at h<;>simp at h
theorem aCm(l:List Int)(al:l.length<=100000000)(FP:l.length<n):∃R:List Bool,ym n [l8 S nx dK dL,cc l]=some (cu R)/\EE n [l8 S nx dK dL,cc l]=some (cu R)/\R.length=S.length:=by
 obtain⟨R,aI,a2,a3⟩:=aCb dK dL g n aN l al FP;obtain⟨LI,fH,hI,kH⟩:=aCl dK dL g n aN l al FP;have:R=LI:=aCh (by omega) λx=>by rw[a3 x,kH x]
 subst this;exact⟨R,aI,fH,a2⟩
end
def ci(l:List Nat):List Int:=l.map λ(k:Nat)=>(k:Int)
def aiM{acc:et}{k j:Nat}{l:List Nat}(ai:k<acc.length):dv (acc.set k l) j=if j=k then l else dv acc j:=by
 unfold dv;by_cases h:j=k;.subst h;simp[ai]
 rw[xcm (xbY h),xae h]
def aiN(i:Nat):∀(ks:List Nat)(acc:et),(∀k∈ks,k<acc.length)->∃kI:et,An (i:Int) (ci ks) (acc.map ci)=some (kI.map ci)/\kI.length=acc.length/\(∀j,(dv kI j).length<=(dv acc j).length+ks.length)/\∀j x,x∈dv kI j↔x∈dv acc j\/(x=i/\j∈ks)
 |[],acc,_=>⟨acc,rfl,rfl,λj=>xaU _,λj x=>by simp⟩
 |k::r,acc,h=>by
  have ai:=h k (by simp);obtain⟨kI,J,aa,ax,bj⟩:=aiN i r (acc.set k (dv acc k++[i])) (λbG fs=>by simpa using h bG (by simp[fs]));refine⟨kI,?_,by simpa using aa,λj=>?_,λj x=>?_⟩
  .have aM:ci (k::r)=(k:Int)::ci r:=rfl;have a8:((acc.map ci).set (k:Int).toNat (((acc.map ci)[(k:Int).toNat]?).getD []++[(i:Int)]))=(acc.set k (dv acc k++[i])).map ci:=by
    rw[List.map_set,Int.toNat_natCast]
    congr 1
    unfold dv;rw[xah,xab ai];simp[ci]
   rw[aM,An,xac ⟨by omega,by simpa using ai⟩,a8];exact J
  .have:=ax j;rw[aiM ai]at this;by_cases aA:j=k;.rw[xac aA]at this;subst aA;simp at this⊢;omega
   rw[xae aA]at this;simp;omega
  rw[bj j x,aiM ai];by_cases aA:j=k
  .subst aA;rw[xac rfl];simp only[xas,xbF,xam,true_or,and_true,List.not_mem_nil,or_false];constructor
   .rintro((h|h)|h);.exact .inl h
    .exact .inr h
    exact .inr h.1
   rintro(h|h);.exact .inl (.inl h)
   exact .inl (.inr h)
  rw[xae aA,xam,or_iff_right aA]
def Ct:et->Nat
 |[]=>0|l::r=>l.length+Ct r
def aiO:∀l:et,nP (l.map ci)=Ct l
 |[]=>rfl|l::r=>by simp[nP,Ct,aiO r,ci]
def aiP{b:Nat}:∀{l:et},(∀x∈l,x.length<=b)->Ct l<=l.length*b
 |[],_=>xai _|a::r,h=>by have J:=h a (by simp);have aa:=aiP λx ad=>h x (xco a ad);rw[Ct,xan,Nat.succ_mul];omega
def aiQ:∀(rows:et)(i:Nat)(acc:et),(∀l∈rows,∀k∈l,k<acc.length)->∃kI:et,sx i (rows.map ci) (acc.map ci)=some (kI.map ci)/\kI.length=acc.length/\(∀j,(dv kI j).length<=(dv acc j).length+Ct rows)/\∀j x,x∈dv kI j↔x∈dv acc j\/∃d l,rows[d]?=some l/\x=i+d/\j∈l
 |[],i,acc,_=>⟨acc,rfl,rfl,λj=>xaU _,λj x=>by simp⟩
 |l::r,i,acc,h=>by
  obtain⟨aI,J,aa,ax,bj⟩:=aiN i l acc (h l (by simp));obtain⟨a2,g1,g2,g3,g4⟩:=aiQ r (i+1) aI (λkc eI k ai=>by rw[aa];exact h kc (by simp[eI]) k ai);refine⟨a2,?_,by omega,λj=>?_,λj x=>?_⟩;.rw[xaw,sx,J];exact g1
  .have:=ax j;have:=g3 j;rw[Ct];omega
  rw[g4 j x,bj j x,or_assoc];refine or_congr_right ?_;constructor
  .rintro(⟨rfl,aA⟩|⟨d,kc,ay,rfl,aA⟩);.exact⟨0,l,rfl,rfl,aA⟩
   exact⟨d+1,kc,by simpa using ay,by omega,aA⟩
  rintro⟨d,kc,ay,rfl,aA⟩;cases d with|zero=>simp at ay;subst ay;exact .inl ⟨rfl,aA⟩|succ d=>exact .inr ⟨d,kc,by simpa using ay,by omega,aA⟩
theorem Xr(l:List Nat):oU (l.map λ(k:Nat)=>[I (k:Int)])=some (ci l):=by induction l with|nil=>rfl|cons a r ih=>rw[xaw];show(ab (oU (r.map λ(k:Nat)=>[I (k:Int)])) λl=>some ((a:Int)::l))=_;rw[ih];rfl
theorem aCn(l:et):Al (l.map λs=>[cd s])=some (l.map ci):=by induction l with|nil=>rfl|cons a r ih=>rw[xaw];show(ab (oU (a.map λ(k:Nat)=>[I (k:Int)])) λx=>ab (Al (r.map λs=>[cd s])) λl=>some (x::l))=_;rw[Xr,ih];rfl
def aiR(l:et):sy (l.map ci)=c8 l:=by
 have:∀s:List Nat,kl (ci s)=cd s:=λs=>by simp[kl,ci,cd]
 simp[sy,c8,this]
structure Lb(N:Nat)(nx P:et):Prop where
 len:P.length=N
 mem:∀j x,x∈dv P j↔j∈dv nx x
 tq:∀j,(dv P j).length<=25000000
section
variable{S:e6}{nx:et}(dK:List Nat)(dL:List (List Bool))(g:lH S.length nx)
include g
theorem aiS:∃P,Hr [l8 S nx dK dL]=some (c8 P)/\Lb S.length nx P:=by
 have hle:=g.le;obtain⟨P,J,aa,ax,bj⟩:=aiQ nx 0 (List.replicate S.length []) (λl al k ai=>by simpa using g.lt l al k ai);have ar:(List.replicate S.length ([]:List Nat)).map ci=List.replicate S.length []:=by simp[ci]
 rw[ar]at J;have az:=aiP g.row;rw[g.len]at az;have ag4:S.length*5000<=5000*5000:=xaD _ hle;have GF:∀j,dv (List.replicate S.length []) j=[]:=by intro j;unfold dv;rw[xbh];split<;>rfl
 refine⟨P,?_,by simpa using aa,λj x=>?_,λj=>?_⟩
 .have aM:Ao (cJ S)=some S.length:=by simp[Ao,cJ]
  have a8:rowsOf (c8 nx)=some (nx.map ci):=aCn nx;have ah:S.length<=1000000000/\(nx.map ci).length+nP (nx.map ci)<=1000000000:=by rw[aiO,xaW,g.len];omega
  show(ab (Ao (cJ S)) λN=>ab (rowsOf (c8 nx)) λnx=>if N<=1000000000/\nx.length+nP nx<=1000000000 then ab (sx 0 nx (List.replicate N [])) λr=>some (sy r)else none)=_;rw[aM,dQ,a8,dQ,xac ah,J,dQ,aiR]
 .rw[bj j x,GF j];constructor
  .rintro(h|⟨d,l,ay,rfl,aA⟩);.simp at h
   unfold dv;rw[xax,ay];exact aA
  intro h;have ad:=(g.qZ h).1;exact .inr ⟨x,dv nx x,by unfold dv;rw[xab (by rw[g.len];exact ad)];rfl,by omega,h⟩
 have:=ax j;rw[GF j]at this;simp at this;omega
end
def lI(w:List (Nat×Nat)):D:= .aW 2 (w.map λp=>[I (p.1:Int),I (p.2:Int)])
def aiT(w:List (Nat×Nat)):(bb (lI w)).length=w.length:=by simp[lI]
theorem Qz(w:List (Nat×Nat)):D.aW 2 (bb (lI w))=lI w:=rfl
def aCo(w:List (Nat×Nat))(p:Nat×Nat):(bb (lI (w++[p])))[w.length]?=some [I (p.1:Int),I (p.2:Int)]:=by simp[lI]
def aCp(w:List (Nat×Nat))(p:Nat×Nat):D.aW 2 (((bb (lI (w++[p]))).drop 0).take w.length)=lI w:=by simp[lI]
def aCq(w:List (Nat×Nat))(p:Nat×Nat)(v a:Nat):(bb (lI (w++[p]))).set w.length (h9 [I (v:Int),I (p.2:Int)] 1 [I (a:Int)])=bb (lI (w++[(v,a)])):=by have e:h9 [I (v:Int),I (p.2:Int)] 1 [I (a:Int)]=[I (v:Int),I (a:Int)]:=rfl;rw[e];simp[lI]
def aCr(w:List (Nat×Nat))(y:Nat):D.aW 2 (bb (lI w)++[[I (y:Int),I 0]])=lI (w++[(y,0)]):=by simp[lI]
theorem QA(x y:D):bM false 1 1 [x,y]=some y:=rfl
theorem QB(x y:D):bM false 1 0 [x,y]=some x:=rfl
def Xs(inn:List Bool):D:= .fn (.func kJ) [] [.ref [cu inn] 0]
def Xt(n:Nat)(inn:List Bool)(k:Nat)(h:inn.length<=1000000000):uH n [I (k:Int),.ref [cu inn] 0]=some (aK (hasB inn k)):=by
 have e:bM false 1 0 [cu inn]=some (cu inn):=rfl;by_cases ah:k<inn.length
 .have Cs:inn[k]?=some (hasB inn k):=by unfold hasB;rw[xab ah];rfl
  simp only[uH,Om,xal,go_sem,e,l7,yT ((k:Int)<(inn.length:Int)),mL Cs,ew]
 have Cs:hasB inn k=false:=by unfold hasB;rw[xaM (by omega)];rfl
 rw[Cs];simp only[uH,Om,xal,go_sem,e,l7,yF ((k:Int)<(inn.length:Int))]
def pz(nx:et):List (Nat×Nat)->Nat
 |[]=>0|p::r=>(dv nx p.1).length-p.2+1+pz nx r
def QC(nx:et):∀(w z:List (Nat×Nat)),pz nx (w++z)=pz nx w+pz nx z
 |[],z=>by simp[pz]|p::r,z=>by rw[xbd,pz,QC nx r z,pz];omega
structure tu(nx:et)(inn:List Bool)(N:Nat)(A:Nat->Prop)(out:List Nat)(hX:List (Nat×Nat))(met:List Bool):Prop where
 Lc:∃aR,kV (dv nx) (hasB inn) N out hX aR
 len:met.length=N
 met:∀x:Nat,met[x]?=some true↔x∈out\/x∈hX.map (·.1)
 has:∀x,A x->x∈out\/x∈hX.map (·.1)
def tu.small{nx:et}{inn:List Bool}{N:Nat}{A:Nat->Prop}{out:List Nat}{hX:List (Nat×Nat)}{met:List Bool}(h:tu nx inn N A out hX met):out.length+hX.length<=N:=by obtain⟨aR,ay⟩:=h.Lc;have:=wE N _ ay.pt λx ad=>(ay.ok x ad).2;simpa using this
section
variable{S:e6}{nx:et}(g:lH S.length nx)(n:Nat)(aN:100000000<n)(inn:List Bool)(cS:inn.length<=1000000000)
include g aN cS
theorem aCs(iD:D){A:Nat->Prop}{out:List Nat}{hX:List (Nat×Nat)}{met:List Bool}(h:tu nx inn S.length A out hX met): ∃(n4:List Nat)(lk:List Bool),bJ (yn n) n [c8 nx,.ref [cu inn] 0,I (S.length:Int),iD,cd out,cu met,lI hX]=some (.inl [c8 nx,.ref [cu inn] 0,I (S.length:Int),iD,cd n4,cu lk])/\tu nx inn S.length A n4 [] lk:=by
 have hle:=g.le;have H:=Cm (f:=yn n) (λ(s:List Nat×List (Nat×Nat)×List Bool)=>[c8 nx,.ref [cu inn] 0,I (S.length:Int),iD,cd s.1,cu s.2.2,lI s.2.1]) (λs=>s.2.2.count false*5002+pz nx s.2.1) (λs=>tu nx inn S.length A s.1 s.2.1 s.2.2) (λy=>∃(n4:List Nat)(lk:List Bool),y=(.inl [c8 nx,.ref [cu inn] 0,I (S.length:Int),iD,cd n4,cu lk]:List D⊕(List D⊕(List D⊕(List D⊕D))))/\tu nx inn S.length A n4 [] lk) ?_ n (out,hX,met) h ?_
 .obtain⟨y,J,n4,lk,rfl,aa⟩:=H;exact⟨n4,lk,J,aa⟩
 .rintro⟨out,hX,met⟩ h;have h:tu nx inn S.length A out hX met:=h;have Kn:=h.small;rcases List.eq_nil_or_concat hX with rfl|⟨w,⟨v,a⟩,rfl⟩
  .right;refine⟨_,?_,out,met,rfl,h⟩;have bT:decide ((0:Int)>0)=false:=by decide
   have aM:(((bb (lI [])).length:Nat):Int)=0:=rfl;simp only[yn,go_sem,aM,bT,fG,fc]
  left;rw[List.concat_eq_append]at h Kn⊢;obtain⟨aR,ay⟩:=h.Lc;simp only[xaP,xan,xay,xax]at Kn;obtain⟨rK,QD⟩:=ay.ok v (by simp);obtain⟨z6,_⟩:=ay.at_ w.length v a (by simp);have nO:=g.La v;have al:(bb (lI (w++[(v,a)]))).length=w.length+1:=by rw[aiT];simp
  have aM:decide (((w.length+1:Nat):Int)>0)=true:=xao (by omega);have a8:bD false .sub (I ((w.length+1:Nat):Int)) (I 1)=some (I (w.length:Int)):=by rw[oo (by omega) (by omega)];congr 2;omega
  have b0:cC (w.length+1) (I (w.length:Int))=some w.length:=by rw[j2,xac (by omega)]
  have cK:=aCo w (v,a);have dJ:kE (w.length+1) none (some (I (w.length:Int)))=some (0,w.length):=by simp[kE,qs,I]
  have eK:bV (I (v:Int))=true:=rfl;have aCt:cT (out.length+1) 8=true:=K9 (by omega);by_cases O1:a=(dv nx v).length
  .have Ld:((a:Int)==((dv nx v).length:Int))=true:=by simp[O1]
   refine⟨(out++[v],w,met),?_,⟨⟨_,ay.fin O1⟩,h.len,λx=>?_,λx ad=>?_⟩,?_⟩;.simp only[yn,go_sem,al,aM,a8,b0,cK,QA,QB,g.e0 QD,ew,u9,Ld,eK,qf,xan,xay,xax,aCt,dJ,yT (w.length<=w.length+1),u7,fG,aCp,fc,Qz,xax]
   .rw[h.met x];simp only[List.map_append,xaw,xbb,xas,xbF];rw[or_assoc,or_comm (a:=x=v)]
   .have:=h.has x ad;simp at this⊢;rcases this with h|h|h
    .exact .inl (.inl h)
    .exact .inr h
    exact .inl (.inr h)
   simp only[QC,pz];omega
  have aCu:a<(dv nx v).length:=by omega
  have Ld:((a:Int)==((dv nx v).length:Int))=false:=by
   have:¬(a:Int)=((dv nx v).length:Int):=by omega
   simp[this]
  have aH:=xab aCu;generalize (dv nx v)[a]=y at aH;have aCv:=(g.qZ (xad aH)).2;obtain⟨c,ah⟩:=px (l:=met) (j:=y) (by have:=h.len;omega);have dt:cC met.length (I (y:Int))=some y:=vh (by have:=h.len;omega);have bQ:=Xt n inn y cS;have eX:=aCq w (v,a) v (a+1);have hw:pz nx (w++[(v,a+1)])+1=pz nx (w++[(v,a)]):=by simp only[QC,pz];omega
  by_cases ka:hasB inn y=true/\c=false
  .obtain⟨ag,rfl⟩:=ka;rw[ag]at bQ;have gU:¬(y∈out\/y∈(w++[(v,a)]).map (·.1)):=by
    rw[<-h.met y,ah];simp
   have lP:=ay.push aH ag aCv gU;have iW:bV (I (y:Int))=true:=rfl;have a2:dO 2 (D.agg [I (y:Int),I 0])=true:=rfl;have aCw:cT (w.length+1+1) 16=true:=fX (by omega) (by omega);have ny:(bb (lI (w++[(v,a+1)]))).length=w.length+1:=by rw[aiT];simp
   have aEP:=aiE ah;have Lu:=g.La y;refine⟨(out,w++[(v,a+1)]++[(y,0)],met.set y true),?_,⟨⟨_,lP⟩,by simpa using h.len,λx=>?_,λx ad=>?_⟩,?_⟩
   .simp only[yn,go_sem,al,aM,a8,b0,cK,QA,QB,g.e0 QD,ew,u9,Ld,wZ aH,cf (bt:=false) (i:=a) (by omega),bQ,j9,dt,mM ah,iW,a2,eX,ny,xan,xay,xax,aCw,tp,fG,fc,Qz,aCr]
   .rw[Cq (by have:=h.len;omega),h.met x];simp only[List.map_append,xaw,xbb,xas,xbF];constructor
    .rintro((h|h|h)|h);.exact .inl h
     .exact .inr (.inl (.inl h))
     .exact .inr (.inl (.inr h))
     exact .inr (.inr h)
    rintro(h|(h|h)|h);.exact .inl (.inl h)
    .exact .inl (.inr (.inl h))
    .exact .inl (.inr (.inr h))
    exact .inr h
   .have:=h.has x ad;simp only[List.map_append,xaw,xbb,xas,xbF]at this⊢;rcases this with h|h
    .exact .inl h
    exact .inr (.inl h)
   simp only[QC nx _ [(y,0)],pz];omega
  have cL:kV (dv nx) (hasB inn) S.length out (w++[(v,a+1)]) aR:=ay.skip aH λag=>by rw[<-h.met y,ah];cases c with|true=>rfl|false=>exact absurd ⟨ag,rfl⟩ ka
  have Le:(w++[(v,a+1)]).map (·.1)=(w++[(v,a)]).map (·.1):=by simp
  refine⟨(out,w++[(v,a+1)],met),?_,⟨⟨_,cL⟩,h.len,λx=>by rw[Le];exact h.met x,λx ad=>by rw[Le];exact h.has x ad⟩,by simp only;omega⟩;cases ag:hasB inn y with|false=>rw[ag]at bQ;simp only[yn,go_sem,al,aM,a8,b0,cK,QA,QB,g.e0 QD,ew,u9,Ld,wZ aH,cf (bt:=false) (i:=a) (by omega),bQ,SR,eX,fG,fc,Qz]|true=>rw[ag]at bQ ka;cases c with|false=>exact absurd ⟨rfl,rfl⟩ ka|true=>simp only[yn,go_sem,al,aM,a8,b0,cK,QA,QB,g.e0 QD,ew,u9,Ld,wZ aH,cf (bt:=false) (i:=a) (by omega),bQ,j9,dt,mM ah,SR,eX,fG,fc,Qz]
 have J:met.count false<=S.length:=by rw[<-h.len];exact List.count_le_length
 have aa:met.count false*5002<=5000*5002:=xaD _ (by omega);have ax:∀w:List (Nat×Nat),pz nx w<=w.length*5001:=by
  intro w
  induction w with|nil=>exact xai _|cons p r ih=>have:=g.La p.1;rw[pz,xan,Nat.succ_mul];omega
 have bj:=ax hX;have ca:hX.length*5001<=5000*5001:=xaD _ (by have:=h.small;omega);simp only;omega
end
section
variable{S:e6}{nx:et}(g:lH S.length nx)(n:Nat)(aN:100000000<n)(inn:List Bool)(cS:inn.length<=1000000000)
include g aN cS
theorem aCx:∃out:List Nat,Ej n [c8 nx,Xs inn]=some (cd out)/\(∃aR,kV (dv nx) (hasB inn) S.length out [] aR)/\∀x,hasB inn x=true->x<S.length->x∈out:=by
 have hle:=g.le;have bI:nx.length=S.length:=g.len;have H:=wW (f:=Ei n) nx (λi (s:List Nat×List Bool)=>[c8 nx,.ref [cu inn] 0,I (S.length:Int),I (i:Int),cd s.1,cu s.2]) (λi s=>tu nx inn S.length (λx=>x<i/\hasB inn x=true) s.1 [] s.2) (λy=>∃(out:List Nat),y=(.inl [cd out]:List D⊕D)/\(∃aR,kV (dv nx) (hasB inn) S.length out [] aR)/\∀x,hasB inn x=true->x<S.length->x∈out) ?_ ?_ n 0 ([],List.replicate S.length false) ?_ (xai _) (by omega)
 .obtain⟨y,J,out,rfl,aa,ax⟩:=H;have bT:(I ((0:Nat):Int))=I 0:=rfl;rw[bT]at J;refine⟨out,?_,aa,ax⟩;have aM:lu kJ (Xs inn)=some [.ref [cu inn] 0]:=ot;have a8:fW (c8 nx)=some (I (S.length:Int)):=by simp[c8,bI]
  have b0:D.aW 1 ([]:List (List D))=cd []:=rfl;simp only[Ej,Uz,aM,go_sem,a8,y9 hle (show 1<=100 by omega),y8,b0,J,fc]
 .rintro⟨out,met⟩ h;have h:tu nx inn S.length (λx=>x<nx.length/\hasB inn x=true) out [] met:=h;refine⟨_,?_,out,rfl,h.Lc,λx J aa=>?_⟩
  .have:=yF ((nx.length:Int)<(S.length:Int));simp only[Ei,go_sem,this,fc]
  have:=h.has x ⟨by omega,J⟩;simpa using this
 .rintro i l ⟨out,met⟩ al h;have h:tu nx inn S.length (λx=>x<i/\hasB inn x=true) out [] met:=h;have ag:=(xaa.1 al).1;have bX:=yT ((i:Int)<(S.length:Int));obtain⟨c,ah⟩:=px (l:=met) (j:=i) (by have:=h.len;omega);have dt:cC met.length (I (i:Int))=some i:=vh (by have:=h.len;omega);have bQ:=Xt n inn i cS;have Xu:=h.met i;rw[ah]at Xu;have za:∀x,x<i+1->x<i\/x=i:=λx ad=>by omega
  left;by_cases ka:hasB inn i=true/\c=false
  .obtain⟨Co,rfl⟩:=ka;rw[Co]at bQ;have gU:i∉out:=λhm=>by simp[hm]at Xu
   obtain⟨aR,ay⟩:=h.Lc;have hO:tu nx inn S.length (λx=>x<i+1/\hasB inn x=true) out [(i,0)] (met.set i true):=by
    refine⟨⟨_,ay.start Co (by omega) gU⟩,by simpa using h.len,λx=>?_,λx ad=>?_⟩;.rw[Cq (by have:=h.len;omega),h.met x];simp
    rcases za x ad.1 with eE|rfl;.have:=h.has x ⟨eE,ad.2⟩;simp at this;exact .inl this
    exact .inr (by simp)
   obtain⟨n4,lk,bN,bO⟩:=aCs g n aN inn cS (I (i:Int)) hO;have aM:D.aW 2 [[I (i:Int),I 0]]=lI [(i,0)]:=rfl;have a2:dO 2 (D.agg [I (i:Int),I 0])=true:=rfl;refine⟨(n4,lk),?_,bO⟩;simp only[Ei,go_sem,bX,bQ,j9,dt,mM ah,ew,a2,fc,fG,tp,aM,bN,cf (bt:=false) (i:=i) (by omega)]
  refine⟨(out,met),?_,h.Lc,h.len,h.met,λx ad=>?_⟩;.cases Co:hasB inn i with|false=>rw[Co]at bQ;simp only[Ei,go_sem,bX,bQ,j9,fc,fG,cf (bt:=false) (i:=i) (by omega)]|true=>rw[Co]at bQ ka;cases c with|false=>exact absurd ⟨rfl,rfl⟩ ka|true=>simp only[Ei,go_sem,bX,bQ,j9,dt,mM ah,ew,fc,fG,cf (bt:=false) (i:=i) (by omega)]
  rcases za x ad.1 with eE|rfl;.exact h.has x ⟨eE,ad.2⟩
  refine .inl ?_;cases c with|false=>exact absurd ⟨ad.2,rfl⟩ ka|true=>simpa using Xu
 refine⟨⟨[],kV.nil⟩,by simp,λx=>?_,λx ad=>absurd ad.1 (xaH _)⟩;rw[xbh];split<;>simp
end
def nv(a b:Nat):Bool:=decide (a<=b)
def aiU(a:Nat):∀l:List Nat,sz nQ (a:Int) (ci l)=ci (sz nv a l)
 |[]=>rfl
 |b::r=>by
  have e:ci (b::r)=(b:Int)::ci r:=rfl;have d:nQ (a:Int) (b:Int)=nv a b:=by unfold nQ nv;congr 1;simp
  rw[e,sz,sz,d];cases nv a b with|true=>rfl|false=>rw[xae (by simp),xae (by simp),aiU a r];rfl
def aiV:∀l:List Nat,jk nQ (ci l)=ci (jk nv l)
 |[]=>rfl|a::r=>by have e:ci (a::r)=(a:Int)::ci r:=rfl;rw[e,jk,aiV r,aiU];rfl
def aCy(l:List Nat):kl (ci l)=cd l:=by simp[kl,ci,cd]
def aCz{l:List Nat}(h:l.Nodup):(jk nv l).Pairwise (·<·):=by have J:=Ht (le:=nv) (by intro a b c;simp[nv];omega) (by intro a b;simp[nv];omega) l;have aa:(jk nv l).Nodup:=(xU nv l).nodup_iff.2 h;refine(J.and aa).imp ?_;rintro a b ⟨ax,bj⟩;simp[nv]at ax;omega
def aCA(n:Nat)(l:List Nat)(h:l.length<=1000000000)(ar:l≠[]):Hu n [cd l]=some [D.aZ [],cd (jk nv l)]:=by have e:oU (bb (cd l))=some (ci l):=Xr l;have ah:(ci l).length<=1000000000/\ci l≠[]:=⟨by simpa[ci]using h,by cases l with|nil=>exact absurd rfl ar|cons=>simp[ci]⟩;show(ab (oU (bb (cd l))) λl=>if l.length<=1000000000/\l≠[]then some [D.aZ [],kl (jk nQ l)]else none)=_;rw[e,dQ,xac ah,aiV,aCy]
def FQ(p q:List Nat):Prop:=eA (ci p) (ci q)<0
theorem aCB(l:et):vT (l.map λs=>[cd s])=some (l.map ci):=by induction l with|nil=>rfl|cons a r ih=>rw[xaw];show(ab (oU (a.map λ(k:Nat)=>[I (k:Int)])) λx=>ab (vT (r.map λs=>[cd s])) λl=>some (x::l))=_;rw[Xr,ih];rfl
def aCC{a b:List Nat}(h:ci a=ci b):a=b:=by have:=congrArg (List.map Int.toNat) h;simpa[ci,List.map_map,Function.comp_def]using this
def aCD(n:Nat)(l:et)(h:l.length<=1000000000)(ay:l.Nodup)(al:∀x∈l,x.length<=1000000000):∃kc,DC n [c8 l]=some [D.aZ [],c8 kc]/\kc.Perm l/\kc.Pairwise FQ:=by
 have e:vT (bb (c8 l))=some (l.map ci):=aCB l;have lT:(l.map ci).Nodup:=by rw[List.nodup_iff_pairwise_ne]at ay⊢;rw[List.pairwise_map];exact ay.imp λh e=>h (aCC e)
 have ah:(l.map ci).length<=1000000000/\(l.map ci).Nodup/\∀x∈l.map ci,x.length<=1000000000:=⟨by simpa using h,lT,by intro x ad;obtain⟨y,aH,rfl⟩:=xaN.1 ad;simpa[ci]using al y aH⟩;have fI:DC n [c8 l]=some [D.aZ [],sy (jk iI (l.map ci))]:=by show(ab (vT (bb (c8 l))) λl=>if l.length<=1000000000/\l.Nodup/\(∀x∈l,x.length<=1000000000)then some [D.aZ [],sy (jk iI l)]else none)=_;rw[e,dQ,xac ah]
 rw[fI];have aU:=xU iI (l.map ci);have az:=Ht (le:=iI) Ti abt (l.map ci);generalize jk iI (l.map ci)=z at aU az;have bF:(z.map λs=>s.map Int.toNat).map ci=z:=by
  rw[List.map_map];have:∀s∈z,(ci∘λ(s:List Int)=>s.map Int.toNat) s=s:=by intro s az;obtain⟨y,aH,rfl⟩:=xaN.1 (aU.mem_iff.1 az);simp[ci,List.map_map,Function.comp_def]
  rw[List.map_congr_left this,List.map_id']
 have aCE:sy z=c8 (z.map λs=>s.map Int.toNat):=by rw[<-aiR,bF]
 refine⟨z.map λs=>s.map Int.toNat,?_,?_,?_⟩;.rw[aCE]
 .have:=aU.map λ(s:List Int)=>s.map Int.toNat;rw[List.map_map]at this;have a8:l.map ((λ(s:List Int)=>s.map Int.toNat)∘ci)=l:=by
   have:∀s∈l,((λ(s:List Int)=>s.map Int.toNat)∘ci) s=s:=λs _=>by simp[ci,List.map_map,Function.comp_def]
   rw[List.map_congr_left this,List.map_id']
  rwa [a8]at this
 have CI:z.Nodup:=aU.nodup_iff.2 lT;have ax:z.Pairwise λa b=>eA a b<0:=(az.and CI).imp λ{a b} ⟨J,aa⟩=>by
  simp only[iI,xaC]at J;rcases Int.lt_or_eq_of_le J with h|h
  .exact h
  exact absurd (DA h) aa
 rw[<-bF,List.pairwise_map]at ax;exact ax
section
variable(n:Nat)(inn:List Bool)(cS:inn.length<=1000000000)
include cS
theorem aCF(k:Nat)(p:List Bool×List Nat)(h:p.2.length<1000000000):Ek n [I (k:Int),.agg [cu inn],cu p.1,cd p.2]=some [D.aZ [],.agg [cu inn],cu (if hasB inn k=true then iB (k:Int) p else p).1,cd (if hasB inn k=true then iB (k:Int) p else p).2]:=by have bQ:=Xt n inn k cS;have hm:=Xk n (k:Int) p h;cases ag:hasB inn k with|true=>rw[ag]at bQ;simp only[Ek,go_sem,bQ,fG,fc,hm]|false=>rw[ag]at bQ;simp only[Ek,go_sem,bQ,fG,fc]
theorem aCG(l:List Nat)(p:List Bool×List Nat)(h:p.2.length+l.length<1000000000)(aN:l.length<n):JG n [cd l,.agg [cu inn],cu p.1,cd p.2]=some [D.aZ [],.agg [cu inn],cu (kx (hasB inn) l p).1,cd (kx (hasB inn) l p).2]:=by
 have ag:=dy (f:=Oo n) l (λi (p:List Bool×List Nat)=>[cd l,I l.length,I (i:Int),.agg [cu inn],cu p.1,cd p.2]) (λr p=>(.inl [.agg [cu inn],cu (kx (hasB inn) r p).1,cd (kx (hasB inn) r p).2]:List D⊕List D)) (λi p=>p.2.length+(l.length-i)<1000000000) ?_ ?_ n 0 p (by omega) (by omega) (xai _);.have bT:(I ((0:Nat):Int))=I 0:=rfl;rw[bT,xal]at ag;simp only[JG,go_sem,u9,fG,fc,ag]
 .intro p _;simp only[Oo,go_sem,yF ((l.length:Int)<l.length),fG,fc];rfl
 intro i a p aG ag aU;have:=Xl (a:Int) p;left;refine⟨if hasB inn a=true then iB (a:Int) p else p,?_,by rw[Xo],by split<;>omega⟩;simp only[Oo,go_sem,yT ((i:Int)<(l.length:Int)),wZ aG,ew,fG,fc,aCF n inn cS a p (by omega),cf (bt:=false) (i:=i) (by omega)]
end
structure FR(nx P:et)(inn:List Bool)(N:Nat)(M:Nat->Prop)(r:Nat)(part:List Nat)(p:List Bool×List Nat):Prop where
 bi:y7 (dv nx) (hasB inn) N (dv P) M r part p.2
 len:p.1.length=N
 met:∀x:Nat,p.1[x]?=some true↔M x\/x∈part++p.2
def Lb.e0{N:Nat}{nx P:et}(v:Lb N nx P){a:Nat}(h:a<N):b3 1 (c8 P) (I (a:Int))=some [cd (dv P a)]:=by
 have:P[a]?=some (dv P a):=by unfold dv;rw[xab (by rw[v.len];exact h)];rfl
 exact ah9 this
section
variable{N:Nat}{nx P:et}(g:lH N nx)(v:Lb N nx P)(n:Nat)(aN:100000000<n)(inn:List Bool)(cS:inn.length<=1000000000)
include g v aN cS
theorem aCH(QE gH ma:D)(aT:D.aW 1 (bb ma)=ma){M:Nat->Prop}{r:Nat}{part:List Nat}{p:List Bool×List Nat}(h:FR nx P inn N M r part p): ∃(Cu:List Nat)(lk:List Bool),bJ (JH n) n [QE,c8 P,gH,.agg [cu inn],ma,cd part,cu p.1,cd p.2]=some (.inl [QE,c8 P,gH,.agg [cu inn],ma,cd Cu,cu lk,cd []])/\FR nx P inn N M r Cu (lk,[]):=by
 have hle:=g.le;have H:=Cm (f:=JH n) (λ(s:List Nat×List Bool×List Nat)=>[QE,c8 P,gH,.agg [cu inn],ma,cd s.1,cu s.2.1,cd s.2.2]) (λs=>s.2.1.count false+s.2.2.length) (λs=>FR nx P inn N M r s.1 s.2) (λy=>∃(Cu:List Nat)(lk:List Bool),y=(.inl [QE,c8 P,gH,.agg [cu inn],ma,cd Cu,cu lk,cd []]:List D⊕(List D⊕(List D⊕(List D⊕D))))/\FR nx P inn N M r Cu (lk,[])) ?_ n (part,p) h ?_
 .obtain⟨y,J,Cu,lk,rfl,aa⟩:=H;exact⟨Cu,lk,J,aa⟩
 .rintro⟨part,met,todo⟩ h;have h:FR nx P inn N M r part (met,todo):=h;cases todo with
  |nil=>
   right;refine⟨_,?_,part,met,rfl,h⟩;have bT:decide ((0:Int)>0)=false:=by decide
   have aM:(((bb (cd [])).length:Nat):Int)=0:=rfl;simp only[JH,go_sem,aM,bT,fG,fc,aT]
  |cons i t=>
   left;obtain⟨_,Xq,_⟩:=h.bi.ok i (by simp);have jM:=v.tq i;have aiW:met.length=N:=h.len;have qi:part.length+(t.length+1)<=N:=by have:=wE N _ h.bi.pt λx ad=>(h.bi.ok x ad).2.1;simpa using this
   obtain⟨new,q⟩:=Cr (((dv P i).filter (hasB inn)).map λ(k:Nat)=>(k:Int)) (met,t);have qR:=q.oz;simp only at qR;have ka:∀j∈new,j∈dv P i/\hasB inn j=true/\j<N/\¬M j/\j∉part++i::t:=λj aA=>by
    obtain⟨J,aa⟩:=q.w1 j aA;obtain⟨ax,bj⟩:=Qy.1 aa;have ca:¬(M j\/j∈part++i::t):=by rw[<-h.met j];show¬met[j]?=some true;rw[show met[j]?=some false from J];simp
    exact⟨ax,bj,(g.qZ ((v.mem i j).1 ax)).1,λcQ=>ca (.inl cQ),λhm=>ca (.inr hm)⟩
   have fl:∀j∈dv P i,hasB inn j=true->M j\/j∈part++i::t\/j∈new:=λj aA ag=>by
    have aEQ:=(g.qZ ((v.mem i j).1 aA)).1;have J:=q.all j (Qy.2 ⟨aA,ag⟩) (by simp only;omega);rcases(q.met j).1 J with aa|aa
    .rcases(h.met j).1 aa with ax|ax;.exact .inl ax
     exact .inr (.inl ax)
    exact .inr (.inr aa)
   have eU:=h.bi.next (λj aA=>(v.mem i j).1 aA) q.Xm ka fl
   have mb:(bb (cd (i::t))).length=t.length+1:=by rw[qf];simp
   have aM:decide (((t.length+1:Nat):Int)>0)=true:=xao (by omega);have cK:(bb (cd (i::t)))[0]?=some [I (i:Int)]:=by simp[cd]
   have eK:bV (I (i:Int))=true:=rfl;have Cv:cT (part.length+1) 8=true:=K9 (by omega);have fP:=aCG n inn cS (dv P i) (met,t) (by simp only;omega) (by omega);refine⟨(part++[i],kx (hasB inn) (dv P i) (met,t)),?_,⟨?_,by rw[kx,q.len];exact h.len,λx=>?_⟩,by rw[kx,qR];simp only[xan];omega⟩
   .simp only[JH,go_sem,mb,aM,aiL,cK,ew,aiK,yT (1+t.length<=t.length+1),eK,qf,xan,xay,xax,Cv,v.e0 Xq,fG,fc,aiJ,fP,aT,u7]
   .rw[kx,q.todo];exact eU
   show(kx (hasB inn) (dv P i) (met,t)).1[x]?=some true↔M x\/x∈part++[i]++(kx (hasB inn) (dv P i) (met,t)).2;rw[kx,q.todo,q.met x];show met[x]?=some true\/_↔_;have:=h.met x;simp only at this;rw[this,or_assoc];refine or_congr_right ?_;simp only[xas,xam,xbF];constructor
   .rintro((h|h|h)|h);.exact .inl (.inl h)
    .exact .inl (.inr (.inl h))
    .exact .inr (.inl h)
    exact .inr (.inr h)
   rintro((h|h|h)|h|h);.exact .inl (.inl h)
   .exact .inl (.inr (.inl h))
   .simp at h
   .exact .inl (.inr (.inr h))
   exact .inr h
 have J:p.1.count false<=N:=by rw[<-h.len];exact List.count_le_length
 have aa:part.length+p.2.length<=N:=by have:=wE N _ h.bi.pt λx ad=>(h.bi.ok x ad).2.1;simpa using this
 simp only;omega
end
structure aiX(nx:et)(inn:List Bool)(N:Nat)(l:List Nat)(k:Nat)(out:et)(met:List Bool):Prop where
 QF:qY (dv nx) (hasB inn) N l k (λx=>met[x]?=some true)
 len:met.length=N
 hx:∀p∈out,(∃r,hasB inn r=true/\r<N/\∀x,x∈p↔nu (dv nx) (hasB inn) r x)/\p.Pairwise (·<·)
 Xv:∀x:Nat,met[x]?=some true->∃p∈out,x∈p
 sub:∀p∈out,∀x∈p,met[x]?=some true
 pt:out.Nodup
 tq:out.length+k<=l.length
section
variable{N:Nat}{nx P:et}(g:lH N nx)(v:Lb N nx P)(n:Nat)(aN:100000000<n)(inn:List Bool)(cS:inn.length<=1000000000)
include g v aN cS
theorem aCI(l:List Nat)(k0:Qv (dv nx) (hasB inn) l)(bE:∀x∈l,hasB inn x=true/\x<N)(fl:∀x,hasB inn x=true->x<N->x∈l)(FP:l.length<=N): ∃out:et,bJ (Em n) n [cd l,c8 P,I ((l.length:Int)-1),.agg [cu inn],c8 [],cu (List.replicate N false),cd []]=some (.inl [c8 out])/\pw (dv nx) (hasB inn) N out/\out.Nodup/\out.length<=N:=by
 have hle:=g.le;have H:=Cm (f:=Em n) (λ(s:Nat×et×List Bool)=>[cd l,c8 P,I ((s.1:Int)-1),.agg [cu inn],c8 s.2.1,cu s.2.2,cd []]) (λs=>s.1) (λs=>s.1<=l.length/\aiX nx inn N l s.1 s.2.1 s.2.2) (λy=>∃out:et,y=(.inl [c8 out]:List D⊕D)/\pw (dv nx) (hasB inn) N out/\out.Nodup/\out.length<=N) ?_ n (l.length,[],List.replicate N false) ?_ ?_
 .obtain⟨y,J,out,rfl,aa⟩:=H;exact⟨out,J,aa⟩
 .rintro⟨k,out,met⟩ ⟨ai,h⟩;have ai:k<=l.length:=ai;have h:aiX nx inn N l k out met:=h;cases k with
  |zero=>
   right;refine⟨_,?_,out,rfl,⟨h.hx,λx J aa=>?_⟩,h.pt,by have:=h.tq;omega⟩
   .have bT:decide ((((0:Nat):Int)-1)>=0)=false:=by decide
    simp only[Em,go_sem,bT,n2]
   obtain⟨j,aA⟩:=xaF.1 (fl x J aa);exact h.Xv x (h.QF.up j x (xai _) aA)
  |succ k=>
   left;have iY:k<l.length:=by omega
   have av:=xab iY;generalize l[k]=r at av;obtain⟨hl,aiY⟩:=bE r (xad av);have jM:=h.tq;have aiW:=h.len;have bT:((k+1:Nat):Int)-1=(k:Int):=by omega
   have aM:decide ((k:Int)>=0)=true:=xao (by omega);have a8:bD false .sub (I (k:Int)) (I 1)=some (I ((k:Int)-1)):=oo (by omega) (by omega);obtain⟨c,ah⟩:=px (l:=met) (j:=r) (by omega);have dt:cC met.length (I (r:Int))=some r:=vh (by omega);cases c with
   |true=>refine⟨(k,out,met),?_,⟨by simp only;omega,h.QF.skip av ah,h.len,h.hx,h.Xv,h.sub,h.pt,by simp only at*;omega⟩,by simp only;omega⟩;simp only[Em,go_sem,bT,aM,wZ av,ew,j9,dt,mM ah,n2,fG,fc,a8]
   |false=>
    have Le:=Xk n (r:Int) (met,[]) (by simp);have b0:iB (r:Int) (met,[])=(met.set r true,[r]):=by rw[iB,xac (by simp[ah])];simp
    rw[b0]at Le;have aCJ:FR nx P inn N (λx=>met[x]?=some true) r [] (met.set r true,[r]):=⟨y7.start hl aiY (by rw[ah];simp),by simpa using aiW,λx=>by show(met.set r true)[x]?=some true↔_;rw[Cq (by omega)];simp⟩
    obtain⟨part,lk,bN,bO⟩:=aCH g v n aN inn cS (cd l) (I (k:Int)) (c8 out) rfl aCJ;have eU:=bO.bi;have Xw:=aBZ k0 fl (λx y aH=>(g.qZ aH).2) h.QF av (by rw[ah];simp) eU λi j _ j0=>(v.mem i j).2 j0;have K8:r∈part:=(Xw r).2 (.refl r);have K7:part≠[]:=λe=>by subst e;simp at K8
    have lT:part.Nodup:=by simpa using eU.pt
    have aER:part.length<=N:=wE N part lT λx ad=>(eU.ok x (by simpa using ad)).2.1;have Vb:=aCA n part (by omega) K7;have fT:∀x,x∈jk nv part↔x∈part:=λx=>(xU nv part).mem_iff;have QG:∀x:Nat,lk[x]?=some true↔met[x]?=some true\/x∈part:=λx=>by have:=bO.met x;simpa using this
    have eK:bV (cd (jk nv part))=true:=rfl;have Cv:cT (out.length+1) 24=true:=fX (by omega) (by omega);have dJ:D.aW 1 ([]:List (List D))=cd []:=rfl;refine⟨(k,out++[jk nv part],lk),?_,⟨by simp only;omega,?_⟩,by simp only;omega⟩
    .simp only[Em,go_sem,bT,aM,wZ av,ew,j9,dt,mM ah,n2,fG,fc,Le,dJ,bN,Vb,eK,FI,xan,xay,xax,Cv,FJ,a8]
    have aCK:qY (dv nx) (hasB inn) N l k (λx=>lk[x]?=some true):=by
     have:=h.QF.next av Xw λx ad=>by obtain⟨a,b,_⟩:=eU.ok x (by simpa using ad);exact⟨a,b⟩
     have e:(λx:Nat=>lk[x]?=some true)=λx=>met[x]?=some true\/x∈part:=funext λx=>propext (QG x);rw[e];exact this
    refine⟨aCK,bO.len,?_,?_,?_,?_,by simp only[xaP,xan,xay];omega⟩
    .intro p aU;rcases xas.1 aU with aU|aU
     .exact h.hx p aU
     simp at aU;subst aU;exact⟨⟨r,hl,aiY,λx=>by rw[fT x];exact Xw x⟩,aCz lT⟩
    .intro x ad;rcases(QG x).1 ad with ad|ad
     .obtain⟨p,J,aa⟩:=h.Xv x ad;exact⟨p,xaZ _ J,aa⟩
     exact⟨jk nv part,by simp,(fT x).2 ad⟩
    .intro p aU x ad;rcases xas.1 aU with aU|aU
     .exact(QG x).2 (.inl (h.sub p aU x ad))
     simp at aU;subst aU;exact(QG x).2 (.inr ((fT x).1 ad))
    rw[xbE];refine⟨h.pt,by simp,?_⟩;intro a aG b aj e;simp at aj;subst aj;subst e;have:=h.sub _ aG r ((fT r).2 K8);rw[ah]at this;simp at this
 .refine⟨xaU _,?_,by simp,by simp,?_,by simp,by simp,by simp⟩
  .have e:(λx:Nat=>(List.replicate N false)[x]?=some true)=λ_=>False:=by
    funext x
    rw[xbh];split<;>simp
   show qY _ _ _ _ _ (λx:Nat=>(List.replicate N false)[x]?=some true);rw[e];exact qY.start
  intro x ad;simp only at ad;rw[xbh]at ad;split at ad<;>simp at ad
 simp only;omega
end
structure QH(N:Nat)(nx:et)(inn:List Bool)(out:et):Prop where
 Xx:pw (dv nx) (hasB inn) N out
 ord:out.Pairwise FQ
 len:out.length<=N
def pw.small{N:Nat}{nx:et}(g:lH N nx){inn:List Bool}{out:et}(h:pw (dv nx) (hasB inn) N out){p:List Nat}(aU:p∈out):(∀x∈p,x<N/\hasB inn x=true)/\p.length<=N/\p≠[]:=by
 obtain⟨⟨r,ey,ez,hQ⟩,C0⟩:=h.each p aU;have key:∀x∈p,x<N/\hasB inn x=true:=by
  intro x ad;obtain⟨J,_⟩:=(hQ x).1 ad;refine⟨?_,aiC J ey⟩;have gen:∀a b,fe (n3 (dv nx) (hasB inn)) a b->a<N->b<N:=by
   intro a b gg
   induction gg with|refl=>exact id|step h _ ih=>intro _;exact ih (g.qZ h.2.2).2
  exact gen r x J ez
 refine⟨key,wE N p (C0.imp λh=>Nat.ne_of_lt h) λx ad=>(key x ad).1,λe=>?_⟩;have:=(hQ r).2 (.refl r);rw[e]at this;simp at this
section
variable{S:e6}{nx:et}(dK:List Nat)(dL:List (List Bool))(g:lH S.length nx)(n:Nat)(aN:100000000<n)(inn:List Bool)(cS:inn.length<=1000000000)
include g aN cS
theorem aCL:∃out:et,yo n [l8 S nx dK dL,cu inn]=some (c8 out)/\QH S.length nx inn out:=by
 have hle:=g.le;obtain⟨l,mh,⟨aR,ln⟩,KW⟩:=aCx g n aN inn cS;obtain⟨P,ei,v⟩:=aiS dK dL g;have lT:l.Nodup:=by simpa using ln.pt
 have bE:∀x∈l,hasB inn x=true/\x<S.length:=λx ad=>ln.ok x (by simpa using ad);have aCM:=wE S.length l lT λx ad=>(bE x ad).2;obtain⟨out,eK,iW,QI,PX⟩:=aCI g v n aN inn cS l ln.K5 bE KW aCM;obtain⟨n4,s1,s2,iX⟩:=aCD n out (by omega) QI λp aU=>by have:=(iW.small g aU).2.1;omega
 refine⟨n4,?_,iW.perm s2,iX,by rw[s2.length_eq];exact PX⟩;have aM:Aq n [l8 S nx dK dL]=some (c8 P):=ei;have a8:D.fn (.func kJ) [] [.ref [cu inn] 0]=Xs inn:=rfl;have b0:bD false .sub (I (l.length:Int)) (I 1)=some (I ((l.length:Int)-1)):=oo (by omega) (by omega);have cK:D.aW 1 ([]:List (List D))=cd []:=rfl;have dJ:c8 []=cd []:=rfl;have fL:bV (cu inn)=true:=rfl;rw[dJ]at eK;simp only[yo,acR,go_sem,jd.1,jd.2.1,jd.2.2.1,jd.2.2.2.1,jd.2.2.2.2,FO,fL,a8,mh,aM,kv,y9 hle (show 1<=100 by omega),y8,u9,b0,cK,eK,n2,s1]
end
def js(N:Nat)(inn:List Bool):List Bool:=(List.range N).map (hasB inn)
def q0{N:Nat}{inn:List Bool}:(js N inn).length=N:=by simp[js]
def Xy{N:Nat}{inn:List Bool}{x:Nat}(h:x<N):(js N inn)[x]?=some (hasB inn x):=by simp[js,h]
def Xz{N:Nat}{inn:List Bool}{x:Nat}:(js N inn)[x]?=some true↔x<N/\hasB inn x=true:=by
 by_cases h:x<N;.rw[Xy h];simp[h]
 rw[xaM (by rw[q0];omega)];simp[h]
def aiZ{N:Nat}{nx:et}(g:lH N nx){inn:List Bool}{a b:Nat}(aG:hasB inn a=true):(b=a\/lG (l9 nx (js N inn)) a b)↔fe (n3 (dv nx) (hasB inn)) a b:=by
 constructor
 .have gen:∀a b,fe (l9 nx (js N inn)) a b->hasB inn a=true->fe (n3 (dv nx) (hasB inn)) a b:=by
   intro a b gg
   induction gg with
   |refl=>intro _;exact .refl _
   |step h _ ih=>intro aG;exact .step ⟨aG,(Xz.1 h.2).2,h.1⟩ (ih (Xz.1 h.2).2)
  rintro(rfl|h);.exact .refl _
  exact gen a b h.rc aG
 intro h;have:=(h.mono (F:=l9 nx (js N inn)) λx y ui=>⟨ui.2.2,Xz.2 ⟨(g.qZ ui.2.2).2,ui.2.1⟩⟩).dV;exact this.imp (λe=>e.symm) id
section
variable{S:e6}{nx:et}(dK:List Nat)(dL:List (List Bool))(g:lH S.length nx)(n:Nat)(aN:100000000<n)(inn:List Bool)(cS:inn.length<=1000000000)
include g aN cS
theorem aCN{i:Nat}(ag:i<S.length)(T:List Bool)(aES:T.length=S.length)(bp:∀x:Nat,T[x]?=some true↔lG (l9 nx (js S.length inn)) i x)(FT ma:D)(ay:D.aW 1 (bb FT)=FT)(aT:D.aW 1 (bb ma)=ma): ∃rest:List Nat,bJ (yv n) n [cu (js S.length inn),I (i:Int),cu T,I ((i+1:Nat):Int),cJ S,c8 nx,cd dK,fF dL,FT,ma,cd [i]]=some (.inl [cu (js S.length inn),I (i:Int),cJ S,c8 nx,cd dK,fF dL,FT,ma,cd (i::rest)])/\(i::rest).Pairwise (·<·)/\(∀x,x∈rest↔i<x/\x<S.length/\hasB inn x=true/\lG (l9 nx (js S.length inn)) i x/\lG (l9 nx (js S.length inn)) x i):=by
 have hle:=g.le;have H:=wW (f:=yv n) (List.replicate (S.length-(i+1)) ()) (λj (rest:List Nat)=>[cu (js S.length inn),I (i:Int),cu T,I ((i+1+j:Nat):Int),cJ S,c8 nx,cd dK,fF dL,FT,ma,cd (i::rest)]) (λj rest=>(i::rest).Pairwise (·<·)/\rest.length<=j/\∀x,x∈rest↔i<x/\x<i+1+j/\hasB inn x=true/\lG (l9 nx (js S.length inn)) i x/\lG (l9 nx (js S.length inn)) x i) (λy=>∃rest:List Nat,y=(.inl [cu (js S.length inn),I (i:Int),cJ S,c8 nx,cd dK,fF dL,FT,ma,cd (i::rest)]:List D⊕(List D⊕(List D⊕(List D⊕D))))/\(i::rest).Pairwise (·<·)/\(∀x,x∈rest↔i<x/\x<S.length/\hasB inn x=true/\lG (l9 nx (js S.length inn)) i x/\lG (l9 nx (js S.length inn)) x i)) ?_ ?_ n 0 [] ⟨by simp,by simp,λx=>⟨λh=>by simp at h,λh=>by omega⟩⟩ (xai _) (by simp;omega)
 .obtain⟨y,J,rest,rfl,aa,ax⟩:=H;exact⟨rest,J,aa,ax⟩
 .rintro rest ⟨J,_,aa⟩;simp only[xbI]at aa⊢;have e:i+1+(S.length-(i+1))=S.length:=by omega
  rw[e]at aa⊢;refine⟨_,?_,rest,rfl,J,aa⟩;simp only[yv,go_sem,l7,q0,yF ((S.length:Int)<S.length),ay,aT,fc]
 rintro j _ rest aA ⟨J,bI,aa⟩;have aA:j<S.length-(i+1):=by simpa using(xaa.1 aA).1
 generalize ai:i+1+j=k at aa⊢;have lz:k<S.length:=by omega
 have aM:i+1+(j+1)=k+1:=by omega
 have qh:=Xy (inn:=inn) lz;obtain⟨c,ah⟩:=px (l:=T) (j:=k) (by omega);obtain⟨R,ei,eu,gS⟩:=Xp dK dL g n (by omega) (js S.length inn) q0 lz;obtain⟨b,aj⟩:=px (l:=R) (j:=i) (by omega);have XA:=bp k;rw[ah]at XA;have XB:=gS i;rw[aj]at XB;have cq:=yT ((k:Int)<(S.length:Int));have eK:bV (I (k:Int))=true:=rfl;have Cv:cT ((i::rest).length+1) 8=true:=K9 (by simp;omega);have za:∀(Q:Nat->Prop)(x:Nat),(i<x/\x<k+1/\Q x)↔(i<x/\x<k/\Q x)\/(x=k/\Q k):=by
  intro Q x;constructor
  .rintro⟨J,aa,ax⟩;rcases xaT x k with h|h;.exact .inl ⟨J,h,ax⟩
   have:x=k:=by omega
   subst this;exact .inr ⟨rfl,ax⟩
  rintro(⟨J,aa,ax⟩|⟨rfl,ax⟩);.exact⟨J,by omega,ax⟩
  exact⟨by omega,by omega,ax⟩
 left;rw[aM];by_cases fl:hasB inn k=true/\c=true/\b=true
 .obtain⟨bN,rfl,rfl⟩:=fl;rw[bN]at qh;refine⟨rest++[k],?_,?_,by simp;omega,λx=>?_⟩;.simp only[yv,go_sem,l7,q0,cq,mL qh,mL ah,ew,FO,ei,mL aj,eK,qf,xan,xay,xax,ay,aT,fc,u7,xbd,cf (bt:=false) (i:=k) (by omega),show cT (rest.length+1+1) 8=true from Cv]
  .rw[<-xbd,List.pairwise_append];refine⟨J,by simp,?_⟩;intro a aG b aj;simp at aj;subst aj;rcases xam.1 aG with rfl|aG
   .omega
   exact((aa a).1 aG).2.1
  rw[xas,xbF,aa x,za (λx=>hasB inn x=true/\lG (l9 nx (js S.length inn)) i x/\lG (l9 nx (js S.length inn)) x i) x];refine or_congr_right ⟨λe=>⟨e,bN,XA.1 rfl,XB.1 rfl⟩,(·.1)⟩
 refine⟨rest,?_,J,by omega,λx=>?_⟩;.cases bN:hasB inn k with|false=>rw[bN]at qh;simp only[yv,go_sem,l7,q0,cq,mL qh,ew,ay,aT,fc,cf (bt:=false) (i:=k) (by omega)]|true=>rw[bN]at qh;cases c with|false=>simp only[yv,go_sem,l7,q0,cq,mL qh,mL ah,ew,ay,aT,fc,cf (bt:=false) (i:=k) (by omega)]|true=>cases b with|true=>exact absurd ⟨bN,rfl,rfl⟩ fl|false=>simp only[yv,go_sem,l7,q0,cq,mL qh,mL ah,ew,FO,ei,mL aj,ay,aT,fc,cf (bt:=false) (i:=k) (by omega)]
 rw[aa x,za (λx=>hasB inn x=true/\lG (l9 nx (js S.length inn)) i x/\lG (l9 nx (js S.length inn)) x i) x];refine⟨.inl,λh=>h.resolve_right ?_⟩;rintro⟨_,bN,bO,cx⟩;refine fl ⟨bN,?_,?_⟩;.have:=XA.2 bO;simpa using this
 have:=XB.2 cx;simpa using this
theorem aCO{hD iD:D}{N:Nat}{part:List Nat}(qi:part.length<=1000000)(aU:∀x∈part,x<N){done:List Bool}(tD:done.length=N)(ma:D)(aT:D.aW 1 (bb ma)=ma): ∃hV:List Bool,bJ (J0 n) n [hD,iD,I 0,cJ S,c8 nx,cd dK,fF dL,cu done,ma,cd part]=some (.inl [hD,iD,cJ S,c8 nx,cd dK,fF dL,cu hV,ma,cd part])/\hV.length=N/\∀x:Nat,hV[x]?=some true↔done[x]?=some true\/x∈part:=by
 have H:=wW (f:=J0 n) part (λj (hV:List Bool)=>[hD,iD,I (j:Int),cJ S,c8 nx,cd dK,fF dL,cu hV,ma,cd part]) (λj hV=>hV.length=N/\∀x:Nat,hV[x]?=some true↔done[x]?=some true\/x∈part.take j) (λy=>∃hV:List Bool,y=(.inl [hD,iD,cJ S,c8 nx,cd dK,fF dL,cu hV,ma,cd part]:List D⊕(List D⊕(List D⊕(List D⊕D))))/\hV.length=N/\∀x:Nat,hV[x]?=some true↔done[x]?=some true\/x∈part) ?_ ?_ n 0 done ⟨tD,by simp⟩ (xai _) (by omega);.obtain⟨y,J,hV,rfl,aa,ax⟩:=H;exact⟨hV,J,aa,ax⟩
 .rintro hV ⟨J,aa⟩;refine⟨_,?_,hV,rfl,J,λx=>by rw[aa x,List.take_length]⟩;simp only[J0,go_sem,qf,yF ((part.length:Int)<part.length),fG,fc,aT]
 rintro j k hV ai ⟨J,aa⟩;have aA:=(xaa.1 ai).1;have lz:=aU k (xad ai);obtain⟨c,ah⟩:=px (l:=hV) (j:=k) (by omega);have dt:cC hV.length (I (k:Int))=some k:=vh (by omega);have VD:cC part.length (I (j:Int))=some j:=by rw[j2,xac aA]
 have bL:(bb (cd part))[j]?=some [I (k:Int)]:=by simp[cd,ai]
 left;refine⟨hV.set k true,?_,by simpa using J,λx=>?_⟩;.simp only[J0,go_sem,qf,yT ((j:Int)<(part.length:Int)),VD,bL,ew,j9,dt,mM ah,tp,aT,fc,cf (bt:=false) (i:=j) (by omega)]
 rw[Cq (by omega),aa x,List.take_succ,ai];simp[or_assoc]
end
structure ai0(nx:et)(inn:List Bool)(N:Nat)(i:Nat)(out:et)(hV:List Bool):Prop where
 len:hV.length=N
 met:∀x:Nat,hV[x]?=some true↔∃p∈out,x∈p
 low:∀x,x<i->x<N->hasB inn x=true->hV[x]?=some true
 hx:∀p∈out,(∃r,hasB inn r=true/\r<N/\∀x,x∈p↔nu (dv nx) (hasB inn) r x)/\p.Pairwise (·<·)
 ay:∀p∈out,∃a s,p=a::s/\a<i
 ord:out.Pairwise FQ
 tq:out.length<=i
def aCP{a b:Nat}{s t:List Nat}(h:a<b):FQ (a::s) (b::t):=by show eA ((a:Int)::ci s) ((b:Int)::ci t)<0;rw[eA,xac (by omega)];omega
section
variable{S:e6}{nx:et}(dK:List Nat)(dL:List (List Bool))(g:lH S.length nx)(n:Nat)(aN:100000000<n)(inn:List Bool)(cS:inn.length<=1000000000)
include g aN cS
theorem aCQ:∃out:et,EG n [l8 S nx dK dL,cu inn]=some (c8 out)/\QH S.length nx inn out:=by
 have hle:=g.le;have H:=wW (f:=EF n) (List.replicate S.length ()) (λi (s:et×List Bool)=>[cu (js S.length inn),I (i:Int),cJ S,c8 nx,cd dK,fF dL,cu s.2,c8 s.1]) (λi s=>ai0 nx inn S.length i s.1 s.2) (λy=>∃out:et,y=(.inl [c8 out]:List D⊕D)/\QH S.length nx inn out) ?_ ?_ n 0 ([],List.replicate S.length false) ?_ (xai _) (by simp;omega)
 .obtain⟨y,J,out,rfl,aa⟩:=H;refine⟨out,?_,aa⟩;have bT:(I ((0:Nat):Int))=I 0:=rfl;rw[bT]at J;have bQ:=aCf dK dL g n (by omega) inn cS;have aM:cu ((List.range S.length).map (hasB inn))=cu (js S.length inn):=rfl;rw[aM]at bQ;have a8:D.aW 1 ([]:List (List D))=c8 []:=rfl;simp only[EG,ac7,go_sem,jd.1,jd.2.1,jd.2.2.1,jd.2.2.2.1,jd.2.2.2.2,FO,bQ,l7,q0,y9 hle (show 1<=100 by omega),y8,a8,J,n2]
 .rintro⟨out,hV⟩ h;simp only[xbI]at h⊢;refine⟨_,?_,out,rfl,⟨h.hx,λx J aa=>(h.met x).1 (h.low x aa aa J)⟩,h.ord,h.tq⟩;simp only[EF,go_sem,l7,q0,yF ((S.length:Int)<S.length),n2]
 .rintro i _ ⟨out,hV⟩ ag h;have ag:i<S.length:=by simpa using(xaa.1 ag).1
  have h:ai0 nx inn S.length i out hV:=h;have bX:=yT ((i:Int)<(S.length:Int));have qh:=Xy (inn:=inn) ag;obtain⟨c,ah⟩:=px (l:=hV) (j:=i) (by have:=h.len;omega);have dt:cC hV.length (I (i:Int))=some i:=vh (by have:=h.len;omega);left;by_cases ka:hasB inn i=true/\c=false
  .obtain⟨bN,rfl⟩:=ka;rw[bN]at qh;obtain⟨T,t1,t2,t3⟩:=Xp dK dL g n (by omega) (js S.length inn) q0 ag;obtain⟨rest,ey,ez,hQ⟩:=aCN dK dL g n aN inn cS ag T t2 t3 (cu hV) (c8 out) rfl rfl;have Wd:¬∃p∈out,i∈p:=λhm=>by
    have:=(h.met i).2 hm;rw[ah]at this;simp at this
   have ai1:∀x,hasB inn x=true->x<S.length->(nu (dv nx) (hasB inn) i x↔x∈i::rest):=by
    intro x ad FU;have aM:=aiZ g (inn:=inn) (a:=i) (b:=x) bN;have a8:=aiZ g (inn:=inn) (a:=x) (b:=i) ad;rw[xam,hQ x];constructor
    .rintro⟨s1,s2⟩;rcases Nat.lt_trichotomy x i with b6|rfl|tE;.exfalso;obtain⟨p,aU,aCR⟩:=(h.met x).1 (h.low x b6 FU ad);obtain⟨⟨r,_,_,av⟩,_⟩:=h.hx p aU;exact Wd ⟨p,aU,(av i).2 (((av x).1 aCR).trans ⟨s2,s1⟩)⟩
     .exact .inl rfl
     refine .inr ⟨tE,FU,ad,(aM.2 s1).resolve_left (by omega),(a8.2 s2).resolve_left (by omega)⟩
    rintro(rfl|⟨J,aa,ax,bj,ca⟩);.exact .refl _
    exact⟨aM.1 (.inr bj),a8.1 (.inr ca)⟩
   have fT:∀x,x∈i::rest↔nu (dv nx) (hasB inn) i x:=by
    intro x;constructor
    .intro ad;have eE:hasB inn x=true/\x<S.length:=by
      rcases xam.1 ad with rfl|ad;.exact⟨bN,ag⟩
      exact⟨((hQ x).1 ad).2.2.1,((hQ x).1 ad).2.1⟩
     exact(ai1 x eE.1 eE.2).2 ad
    intro az;have J:=aiC az.1 bN;have aa:x<S.length:=by
     have gen:∀a b,fe (n3 (dv nx) (hasB inn)) a b->a<S.length->b<S.length:=by
      intro a b gg
      induction gg with|refl=>exact id|step h _ ih=>intro _;exact ih (g.qZ h.2.2).2
     exact gen i x az.1 ag
    exact(ai1 x J aa).1 az
   have b6:∀x∈i::rest,x<S.length:=by
    intro x ad;rcases xam.1 ad with rfl|ad
    .exact ag
    exact((hQ x).1 ad).2.1
   have qi:(i::rest).length<=1000000:=by have:=wE S.length _ (ez.imp λh=>Nat.ne_of_lt h) b6;omega
   obtain⟨aCS,d1,d2,d3⟩:=aCO dK dL g n aN inn cS (hD:=cu (js S.length inn)) (iD:=I (i:Int)) qi b6 h.len (c8 out) rfl;have eK:bV (I (i:Int))=true:=rfl;have iW:bV (cd (i::rest))=true:=rfl;have b0:D.aW 1 [[I (i:Int)]]=cd [i]:=rfl;have Cv:cT (out.length+1) 24=true:=fX (by have:=h.tq;omega) (by have:=h.tq;omega);refine⟨(out++[i::rest],aCS),?_,d2,λx=>?_,λx ad FU Cp=>?_,?_,?_,?_,by have:=h.tq;simp;omega⟩
   .simp only[EF,go_sem,l7,q0,bX,mL qh,ew,j9,dt,mM ah,FO,t1,eK,cf (bt:=false) (i:=i) (by omega),fG,n2,fc,b0,ey,d1,iW,FI,xan,xay,xax,Cv,FJ]
   .rw[d3 x,h.met x];simp only[xas,xbF];constructor
    .rintro(⟨p,aU,ad⟩|ad);.exact⟨p,.inl aU,ad⟩
     exact⟨_,.inr rfl,ad⟩
    rintro⟨p,aU|rfl,ad⟩;.exact .inl ⟨p,aU,ad⟩
    exact .inr ad
   .rw[d3 x];rcases xaT x i with Lf|Lf
    .exact .inl (h.low x Lf FU Cp)
    have:x=i:=by omega
    subst this;exact .inr (by simp)
   .intro p aU;rcases xas.1 aU with aU|aU
    .exact h.hx p aU
    simp at aU;subst aU;exact⟨⟨i,bN,ag,fT⟩,ez⟩
   .intro p aU;rcases xas.1 aU with aU|aU
    .obtain⟨a,s,e,al⟩:=h.ay p aU;exact⟨a,s,e,by omega⟩
    simp at aU;subst aU;exact⟨i,rest,rfl,by omega⟩
   rw[List.pairwise_append];refine⟨h.ord,by simp,?_⟩;intro p aU q bU;simp at bU;subst bU;obtain⟨a,s,rfl,al⟩:=h.ay p aU;exact aCP al
  refine⟨(out,hV),?_,h.len,h.met,λx ad FU Cp=>?_,h.hx,λp aU=>?_,h.ord,by have:=h.tq;simp only;omega⟩;.cases bN:hasB inn i with|false=>rw[bN]at qh;simp only[EF,go_sem,l7,q0,bX,mL qh,ew,fG,n2,cf (bt:=false) (i:=i) (by omega)]|true=>rw[bN]at qh ka;cases c with|false=>exact absurd ⟨rfl,rfl⟩ ka|true=>simp only[EF,go_sem,l7,q0,bX,mL qh,ew,j9,dt,mM ah,fG,n2,cf (bt:=false) (i:=i) (by omega)]
  .rcases xaT x i with Lf|Lf;.exact h.low x Lf FU Cp
   have:x=i:=by omega
   subst this;cases c with|false=>exact absurd ⟨Cp,rfl⟩ ka|true=>exact ah
  obtain⟨a,s,e,al⟩:=h.ay p aU;exact⟨a,s,e,by omega⟩
 refine⟨by simp,λx=>?_,λx ad=>absurd ad (xaH _),by simp,by simp,by simp,by simp⟩;rw[xbh];split<;>simp
theorem aCT:∃out:et,yo n [l8 S nx dK dL,cu inn]=some (c8 out)/\EG n [l8 S nx dK dL,cu inn]=some (c8 out)/\QH S.length nx inn out:=by obtain⟨a,aI,a2⟩:=aCL dK dL g n aN inn cS;obtain⟨b,fH,hI⟩:=aCQ dK dL g n aN inn cS;have:a=b:=pw.eq (R:=FQ) (λx h=>by rw[FQ,Ak]at h;exact absurd h (by omega)) (λx y z h bB=>DB h bB) a2.Xx hI.Xx a2.ord hI.ord;subst this;exact⟨a,aI,fH,a2⟩
end
def aCU{m:au}(G:vb m):lH (dW m).length ((dW m).map (qW m)):=by
 have al:=G.len;refine⟨by simp,by omega,?_,?_⟩;.intro l eI;obtain⟨s,_,rfl⟩:=xaN.1 eI;have:=aiv (n1 m s) (dW m) 0;show(hW (n1 m s) 0 (dW m)).length<=_;omega
 intro l eI k ai;obtain⟨s,_,rfl⟩:=xaN.1 eI;have:=(ah6 (dW m) 0 k ai).2.1;omega
theorem XC(m:au):ps m=l8 (dW m) ((dW m).map (qW m)) (u6 m) ((dW m).map (lF m)):=rfl
def aCV(n:Nat)(S:e6)(A eG F:D)(t:List Int)(cL:S.length<=5000)(kp:∀s∈S,s.length<=1000000)(aP:t.length<=1000000000)(aN:10000000<n)(aG:dO 4 (.agg [cJ S,A,eG,F])=true):(t∉S/\yt n [.agg [cJ S,A,eG,F],cc t]=some (I (-1)))\/∃k:Nat,S[k]?=some t/\yt n [.agg [cJ S,A,eG,F],cc t]=some (I (k:Int)):=by
 have bc:ae (.agg [cJ S,A,eG,F]) 0=cJ S:=rfl;have c1:ae (.agg [cJ S,A,eG,F]) 1=A:=rfl;have c2:ae (.agg [cJ S,A,eG,F]) 2=eG:=rfl;have b8:ae (.agg [cJ S,A,eG,F]) 3=F:=rfl;have H:=wW (f:=JW n) S (λi (_:Unit)=>[cc t,I (i:Int),cJ S,A,eG,F]) (λi _=>∀j<i,S[j]?≠some t) (λy=>(y=(.inl []:List D⊕D)/\t∉S)\/∃k:Nat,S[k]?=some t/\y= .inr (I (k:Int))) ?_ ?_ n 0 () (λj aA=>absurd aA (xaH _)) (xai _) (by omega)
 .obtain⟨y,J,aa⟩:=H;have bT:(I ((0:Nat):Int))=I 0:=rfl;rw[bT]at J;rcases aa with⟨rfl,aa⟩|⟨k,aa,rfl⟩
  .exact .inl ⟨aa,by simp only[yt,UK,go_sem,aG,bc,c1,c2,b8,J]⟩
  exact .inr ⟨k,aa,by simp only[yt,UK,go_sem,aG,bc,c1,c2,b8,J]⟩
 .intro _ h;refine⟨_,?_,.inl ⟨rfl,λhm=>?_⟩⟩;.simp only[JW,go_sem,kv,yF ((S.length:Int)<S.length)]
  obtain⟨j,aA⟩:=xaF.1 hm;exact h j (xaa.1 aA).1 aA
 intro i s _ az h;have ag:=(xaa.1 az).1;have Kn:=kp s (xad az);have iV:=aiq n s t (by omega) (by omega) aP;have bX:=yT ((i:Int)<(S.length:Int));by_cases ft:s=t
 .rw[xao ft]at iV;right;refine⟨_,?_,.inr ⟨i,by rw[az,ft],rfl⟩⟩;simp only[JW,go_sem,kv,bX,oD az,ew,iV]
 rw[xat ft]at iV;left;refine⟨(),?_,λj aA=>?_⟩;.simp only[JW,go_sem,kv,bX,oD az,ew,iV,cf (bt:=false) (i:=i) (by omega)]
 rcases xaT j i with J|J;.exact h j J
 have:j=i:=by omega
 subst this;rw[az];simp[ft]
def aCW{m:au}(G:vb m)(n:Nat)(aN:2000000000<n)(t:List Int)(aP:t.length<=1000000000):∃k:Int,ys n [ps m,cc t]=some (I k)/\yt n [ps m,cc t]=some (I k):=by
 have al:=G.len;obtain⟨f1,f2⟩:=aBC G n aN (c8 ((dW m).map (qW m))) (cd (u6 m)) (fF ((dW m).map (lF m))) t aP rfl;rcases aCV n (dW m) (c8 ((dW m).map (qW m))) (cd (u6 m)) (fF ((dW m).map (lF m))) t (by omega) (λs az=>by have:=aik G s az;omega) aP (by omega) rfl with⟨ey,ez⟩|⟨k,ey,ez⟩
 .have:jD m t=false:=by
   cases h:jD m t with|false=>rfl|true=>exact absurd ((K3 G).2 h) ey
  exact⟨-1,f2 this,ez⟩
 obtain⟨j,E8,wM⟩:=f1 ((K3 G).1 (xad ey));have:j=k:=by
  have av:=Xc m;rcases Nat.lt_trichotomy j k with h|h|h
  .have:=av.lt E8 ey h;rw[Ak]at this;omega
  .exact h
  have:=av.lt ey E8 h;rw[Ak]at this;omega
 subst this;exact⟨j,wM,ez⟩
def ai2(n:Nat)(l:et)(al:l.length<=1000000)(az:∀s∈l,s.length<=100000000)(aN:1000000000<n):wB n [c8 l,c8 l]=some (aK true):=by rw[aBF];refine aBG n _ (by simp;omega) (by simp;omega) λs tl=>?_;obtain⟨t,aP,rfl⟩:=xaN.1 tl;have:=az t aP;simp;omega
theorem Qx{l:et}{s:List Nat}(h:s∈l):∃j,dv l j=s:=by obtain⟨j,aA⟩:=xaF.1 h;exact⟨j,by unfold dv;rw[aA];rfl⟩
def aCX{m:au}(hw:yV m)(al:WU m)(az:aiw m)(n:Nat)(aN:18446744073709551616<n)(t fr:List Int)(inn:List Bool)(aP:t.length<=1000000000)(qk:fr.length<=1000000000)(cS:inn.length<=1000000000):EH (n+400) [m.d,.agg [cc t,cc fr],cu inn]=some (aK true):=by
 have ct:=aAW n;obtain⟨b,aj,eU⟩:=aBP hw al az (n+400) (by omega);have dp:dO 2 (.agg [cc t,cc fr])=true/\ae (.agg [cc t,cc fr]) 0=cc t/\ae (.agg [cc t,cc fr]) 1=cc fr:=⟨rfl,rfl,rfl⟩;cases b with
 |false=>simp-implicitDefEqProofs only[EH,J1,go_sem,au.agg,au.bc,au.c1,au.c2,au.b8,au.c3,au.dq,au.dr,au.dG,au.eta,dp.1,aj,ct]
 |true=>
  obtain⟨cL,bm⟩:=eU rfl;have jH:∀x:Int,(x==x)=true:=λx=>beq_self_eq_true x;by_cases ai3:(fr.length:Int)>20
  .have d1:=xao ai3;simp-implicitDefEqProofs only[EH,J1,go_sem,au.agg,au.bc,au.c1,au.c2,au.b8,au.c3,au.dq,au.dr,au.dG,au.eta,dp.1,dp.2.2,aj,iy,d1,ct]
  have d1:=xat ai3;by_cases bF:(jC m).2.2=0
  .obtain⟨bN,bO⟩:=aBN hw cL (n+400) (by omega) bF (bm bF);obtain⟨G,_⟩:=aiu hw cL (n+400) (by omega) bF (bm bF);obtain⟨k,cN,ea⟩:=aCW G (n+400) (by omega) t aP;have g:=aCU G;have aET:=G.len;obtain⟨P,ei,v⟩:=aiS (u6 m) ((dW m).map (lF m)) g;rw[<-XC]at ei;have eu:Aq (n+400) [ps m]=some (c8 P):=ei;have gS:Nf (n+400) [ps m]=some (c8 P):=ei;have aCY:=ai2 (n+400) P (by rw[v.len];omega) (λs az=>by
    obtain⟨j,rfl⟩:=Qx az;have:=v.tq j;omega) (by omega)
   obtain⟨R,ey,ez,hQ⟩:=aCm (u6 m) ((dW m).map (lF m)) g (n+400) (by omega) fr (by omega) (by omega);rw[<-XC]at ey ez;have YK:=aBH (n+400) R (by omega) (by omega);obtain⟨out,eK,iW,QI⟩:=aCT (u6 m) ((dW m).map (lF m)) g (n+400) (by omega) inn cS;rw[<-XC]at eK iW;have pp:=ai2 (n+400) out (by have:=QI.len;omega) (λs az=>by have:=(QI.Xx.small g az).2.1;omega) (by omega);have bn:((0:Int) !=0)=false:=rfl;simp-implicitDefEqProofs only[EH,J1,go_sem,au.agg,au.bc,au.c1,au.c2,au.b8,au.c3,au.dq,au.dr,au.dG,au.eta,dp.1,dp.2.1,dp.2.2,aj,iy,d1,bN,bO,tn.agg,tn.bc,tn.c1,tn.c2,tn.b8,tn.eta,bn,cN,ea,jH,eu,gS,aCY,ey,ez,YK,eK,iW,pp,ct]
  obtain⟨bN,bO⟩:=aBM hw cL (n+400) (by omega) bF;have cp:=Qt bF;simp-implicitDefEqProofs only[EH,J1,go_sem,au.agg,au.bc,au.c1,au.c2,au.b8,au.c3,au.dq,au.dr,au.dG,au.eta,dp.1,dp.2.1,dp.2.2,aj,iy,d1,bN,bO,aBL,cp,jH,ct]
end Go.Am
