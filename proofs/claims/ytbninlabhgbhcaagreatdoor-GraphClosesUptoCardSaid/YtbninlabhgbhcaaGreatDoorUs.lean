/- Laws, on data. No condition. -/
import Derived.Test.YtbninlabhgbhcaaGreatDoorTs
set_option linter.all false
set_option linter.unnecessarySimpa false
namespace Go.Am
inductive fv(E:Nat->Nat->Prop):Nat->Nat->Prop where
 |refl (a:Nat):fv E a a
 |step {a b c:Nat}:E a b->fv E b c->fv E a c
def fv.one{E:Nat->Nat->Prop}{a b:Nat}(h:E a b):fv E a b:= .step h (.refl _)
def fv.trans{E:Nat->Nat->Prop}{a b c:Nat}(h:fv E a b)(k:fv E b c):fv E a c:=by induction h with|refl=>exact k|step h _ ih=>exact .step h (ih k)
def fv.mono{E F:Nat->Nat->Prop}(ey:∀a b,E a b->F a b){a b:Nat}(h:fv E a b):fv F a b:=by induction h with|refl=>exact .refl _|step h _ ih=>exact .step (ey _ _ h) ih
def fv.last{E:Nat->Nat->Prop}{a b c:Nat}(h:fv E a b)(k:E b c):fv E a c:=h.trans (.one k)
def o4(nx:Nat->List Nat)(bz:Nat->Bool)(a b:Nat):Prop:=bz a=true/\bz b=true/\b∈nx a
def Pf(nx:Nat->List Nat)(bz:Nat->Bool)(l:List Nat)(a b:Nat):Prop:=o4 nx bz a b/\a∈l/\b∈l
def Pg(nx:Nat->List Nat)(bz:Nat->Bool)(out:List Nat):Prop:=∀(f r:Nat),out[f]?=some r->∀x,fv (Pf nx bz (out.take (f+1))) x r->fv (o4 nx bz) r x
structure kG(nx:Nat->List Nat)(bz:Nat->Bool)(n:Nat)(out:List Nat)(hQ:List (Nat×Nat))(aR:List Nat):Prop where
 o5:(out++hQ.map (·.1)).Nodup
 ok:∀x∈out++hQ.map (·.1),bz x=true/\x<n
 pG:∀x∈out,∀y∈nx x,bz y=true->y∈out\/y∈hQ.map (·.1)
 Fz:∀(i u v a b:Nat),hQ[i]?=some (u,a)->hQ[i+1]?=some (v,b)->v∈nx u
 at_:∀(i v a:Nat),hQ[i]?=some (v,a)->a<=(nx v).length/\∀(j y:Nat),j<a->(nx v)[j]?=some y->bz y=true->y∈out\/y∈hQ.map (·.1)
 J4:Pg nx bz out
 Ph:aR.length=hQ.length
 g1:∀(i v a d:Nat),hQ[i]?=some (v,a)->aR[i]?=some d->d<=out.length/\(∀(j y:Nat),d<=j->out[j]?=some y->fv (o4 nx bz) v y)/\∀x∈out.take d,∀y∈nx x,bz y=true->y∈out.take d\/y∈(hQ.take i).map (·.1)
def ag1{l:List Nat}(h:l.Nodup){i j x:Nat}(af:l[i]?=some x)(aB:l[j]?=some x):i=j:=by
 obtain⟨J,rfl⟩:=xaa.1 af;obtain⟨aa,ax⟩:=xaa.1 aB;have aU:=List.pairwise_iff_getElem.1 h;rcases Nat.lt_trichotomy i j with al|al|al
 .exact absurd ax.symm (aU i j J aa al)
 .exact al
 exact absurd ax (aU j i aa J al)
def az6{nx:Nat->List Nat}{bz:Nat->Bool}:Pg nx bz []:=by intro f r h;simp at h
section
variable{nx:Nat->List Nat}{bz:Nat->Bool}{n:Nat}{out:List Nat}{hQ:List (Nat×Nat)}{aR:List Nat}
theorem kG.nil:kG nx bz n [] [] []:=⟨by simp,by simp,by simp,by simp,by simp,az6,rfl,by simp⟩
def kG.start(h:kG nx bz n out [] aR){i:Nat}(af:bz i=true)(aN:i<n)(hm:i∉out):kG nx bz n out [(i,0)] [out.length]:=by
 have eH:aR=[]:=List.length_eq_zero_iff.1 (by simpa using h.Ph);refine⟨?_,?_,?_,?_,?_,h.J4,rfl,?_⟩;.have:=h.o5;simp only[xbc,xav]at this;simp only[xau,xbc];rw[xbB];refine⟨this,by simp,?_⟩;intro a aH b aj;simp at aj;subst aj;intro e;subst e;exact hm aH
 .intro x ad;simp at ad;rcases ad with ad|rfl
  .exact h.ok x (by simp[ad])
  exact⟨af,aN⟩
 .intro x ad y aE cX;have:=h.pG x ad y aE cX;simp at this;exact .inl this
 .intro j u v a b J aa;simp at aa
 .intro j v a J;cases j with
  |zero=>simp at J;obtain⟨rfl,rfl⟩:=J;exact⟨xaj _,λj y aB=>absurd aB (xaJ _)⟩
  |succ j=>simp at J
 intro j v a d J aa;cases j with
 |zero=>
  simp at J aa;obtain⟨rfl,rfl⟩:=J;subst aa;refine⟨xaT _,λj y aB aE=>?_,λx ad y aE cX=>?_⟩;.have:=(xaa.1 aE).1;omega
  rw[List.take_length]at ad⊢;have:=h.pG x ad y aE cX;simp at this;exact .inl this
 |succ j=>simp at J
def kG.skip{w:List (Nat×Nat)}{v a y:Nat}(h:kG nx bz n out (w++[(v,a)]) aR)(aE:(nx v)[a]?=some y)(gP:bz y=true->y∈out\/y∈(w++[(v,a)]).map (·.1)):kG nx bz n out (w++[(v,a+1)]) aR:=by
 have hm:(w++[(v,a+1)]).map (·.1)=(w++[(v,a)]).map (·.1):=by simp
 have ht:∀(i:Nat)(u b:Nat),(w++[(v,a+1)])[i]?=some (u,b)->∃b',(w++[(v,a)])[i]?=some (u,b')/\(i<w.length->b'=b):=by
  intro i u b af;rcases Nat.lt_trichotomy i w.length with al|al|al
  .rw[xap al]at af⊢;exact⟨b,af,λ_=>rfl⟩
  .subst al;have e:(w++[(v,a)])[w.length]?=some (v,a):=by simp
   simp at af;obtain⟨rfl,rfl⟩:=af;exact⟨a,e,λh=>absurd h (by omega)⟩
  rw[xaR (by simp;omega)]at af;cases af
 refine⟨by rw[hm];exact h.o5,by rw[hm];exact h.ok,by rw[hm];exact h.pG,?_,?_,h.J4,by simpa using h.Ph,?_⟩;.intro i u fw b b' J aa;obtain⟨c,dS,_⟩:=ht i u b J;obtain⟨iw,gO,_⟩:=ht _ fw b' aa;exact h.Fz i u fw c iw dS gO
 .intro i u b af;rw[hm];rcases xbe i w.length with al|al
  .obtain⟨c,J,aa⟩:=ht i u b af;rw[aa al]at J;exact h.at_ i u b J
  have:i=w.length:=by have:=(xaa.1 af).1;simp at this;omega
  subst this;simp at af;obtain⟨rfl,rfl⟩:=af;obtain⟨g1,g2⟩:=h.at_ w.length v a (by simp);have zq:=(xaa.1 aE).1;refine⟨by omega,λj z aB bG cX=>?_⟩;rcases xbe j a with J5|J5
  .exact g2 j z J5 bG cX
  have:j=a:=by omega
  subst this;rw[aE]at bG;cases bG;exact gP cX
 intro i u b d J aa;obtain⟨c,dS,_⟩:=ht i u b J;obtain⟨b0,bR,cw⟩:=h.g1 i u c d dS aa;refine⟨b0,bR,λx ad z bG cX=>?_⟩;have bY:i<=w.length:=by have:=(xaa.1 J).1;simp at this;omega
 have:=cw x ad z bG cX;rw[xbr bY]at this⊢;exact this
def kG.push{w:List (Nat×Nat)}{v a y:Nat}(h:kG nx bz n out (w++[(v,a)]) aR)(aE:(nx v)[a]?=some y)(cX:bz y=true)(az7:y<n)(gP:¬(y∈out\/y∈(w++[(v,a)]).map (·.1))):kG nx bz n out (w++[(v,a+1)]++[(y,0)]) (aR++[out.length]):=by
 have gA:=xad aE;have hm:(w++[(v,a+1)]).map (·.1)=(w++[(v,a)]).map (·.1):=by simp
 have DS:(w++[(v,a+1)]++[(y,0)]).map (λ(p:Nat×Nat)=>p.1)=(w++[(v,a)]).map (λ(p:Nat×Nat)=>p.1)++[y]:=by simp
 have bJ:(w++[(v,a+1)]).length=w.length+1:=by simp
 have ht:∀(i:Nat)(u b:Nat),i<w.length+1->(w++[(v,a+1)]++[(y,0)])[i]?=some (u,b)->∃b',(w++[(v,a)])[i]?=some (u,b')/\(i<w.length->b'=b):=by
  intro i u b bY af;rw[xap (by omega)]at af;rcases xbe i w.length with al|al
  .rw[xap al]at af⊢;exact⟨b,af,λ_=>rfl⟩
  have:i=w.length:=by omega
  subst this;have e:(w++[(v,a)])[w.length]?=some (v,a):=by simp
  simp at af;obtain⟨rfl,rfl⟩:=af;exact⟨a,e,λh=>absurd h (by omega)⟩
 have I9:∀(i u b:Nat),¬i<w.length+1->(w++[(v,a+1)]++[(y,0)])[i]?=some (u,b)->i=w.length+1/\u=y/\b=0:=by
  intro i u b bY af;have J:=(xaa.1 af).1;have BC:i=w.length+1:=by simp at J;omega
  subst BC;rw[xaC (by omega)]at af;simp at af;exact⟨rfl,af.1.symm,af.2.symm⟩
 have EN:=h.Ph;refine⟨?_,?_,?_,?_,?_,h.J4,by simp at EN⊢;omega,?_⟩
 .rw[DS,<-xaK,xbB];refine⟨h.o5,by simp,?_⟩;intro p aU q bM;simp at bM;subst bM;intro e;subst e;rcases xas.1 aU with aU|aU
  .exact gP (.inl aU)
  exact gP (.inr aU)
 .intro x ad;rw[DS,<-xaK]at ad;rcases xas.1 ad with ad|ad
  .exact h.ok x ad
  simp at ad;subst ad;exact⟨cX,az7⟩
 .intro x ad z bG az8;rw[DS];rcases h.pG x ad z bG az8 with h|h
  .exact .inl h
  exact .inr (xaX _ h)
 .intro i u fw b b' J aa;by_cases af:i+1<w.length+1;.obtain⟨c,dS,_⟩:=ht i u b (by omega) J;obtain⟨iw,gO,_⟩:=ht _ fw b' af aa;exact h.Fz i u fw c iw dS gO
  obtain⟨aL,rfl,rfl⟩:=I9 _ fw b' af aa;have:i=w.length:=by omega
  subst this;obtain⟨c,dS,_⟩:=ht _ u b (by omega) J;simp at dS;rw[<-dS.1];exact gA
 .intro i u b af;rw[DS];by_cases bY:i<w.length+1
  .have aC:kG nx bz n out (w++[(v,a)]) aR:=h;rcases xbe i w.length with al|al
   .obtain⟨c,J,aa⟩:=ht i u b bY af;rw[aa al]at J;obtain⟨g1,g2⟩:=h.at_ i u b J;exact⟨g1,λj z aB bG cX=>(g2 j z aB bG cX).imp id (xaX _)⟩
   have:i=w.length:=by omega
   subst this;rw[xap (by omega)]at af;simp at af;obtain⟨rfl,rfl⟩:=af;obtain⟨g1,g2⟩:=h.at_ w.length v a (by simp);have zq:=(xaa.1 aE).1;refine⟨by omega,λj z aB bG cX=>?_⟩;rcases xbe j a with J5|J5
   .exact(g2 j z J5 bG cX).imp id (xaX _)
   have:j=a:=by omega
   subst this;rw[aE]at bG;cases bG;exact .inr (by simp)
  obtain⟨_,rfl,rfl⟩:=I9 _ u b bY af;exact⟨xaj _,λj z aB=>absurd aB (xaJ _)⟩
 intro i u b d J aa;by_cases bY:i<w.length+1;.obtain⟨c,dS,_⟩:=ht i u b bY J;rw[xap (by simp at EN;omega)]at aa;obtain⟨b0,bR,cw⟩:=h.g1 i u c d dS aa;refine⟨b0,bR,λx ad z bG cX=>?_⟩;have:=cw x ad z bG cX;rw[xaK,xbr (by omega)];rw[xbr (by omega)]at this;exact this
 obtain⟨rfl,rfl,rfl⟩:=I9 _ u b bY J;rw[xaC (by simp at EN;omega)]at aa;have ay:d=out.length:=by simp at EN;simp[EN]at aa;exact aa.symm
 subst ay;refine⟨xaT _,λj z aB bG=>?_,λx ad z bG cX=>?_⟩;.have:=(xaa.1 bG).1;omega
 rw[List.take_length]at ad⊢;have:=h.pG x ad z bG cX;rw[xbr (by omega),xbw (by omega),hm];exact this
def kG.chain(h:kG nx bz n out hQ aR):∀(k i u v a b:Nat),hQ[i]?=some (u,a)->hQ[i+k]?=some (v,b)->fv (o4 nx bz) u v
 |0,i,u,v,a,b,J,aa=>by rw[xbk,J]at aa;cases aa;exact .refl _
 |k+1,i,u,v,a,b,J,aa=>by have al:=(xaa.1 aa).1;have ax:hQ[i+1]?=some (hQ[i+1]'(by omega)):=xab (by omega);generalize (hQ[i+1]'(by omega))=p at ax;obtain⟨c,e⟩:=p;have ai:=h.Fz i u c a e J ax;have ok:∀(j x z:Nat),hQ[j]?=some (x,z)->bz x=true:=λj x z aB=>(h.ok x (xbN _ (xaO.2 ⟨_,xad aB,rfl⟩))).1;refine .step ⟨ok i u a J,ok _ c e ax,ai⟩ (kG.chain h k (i+1) c v e b ax ?_);rw[show i+1+k=i+(k+1) by omega];exact aa
def kG.fin{w:List (Nat×Nat)}{v a:Nat}(h:kG nx bz n out (w++[(v,a)]) aR)(aH:a=(nx v).length):kG nx bz n (out++[v]) w (aR.take w.length):=by
 have EN:aR.length=w.length+1:=by simpa using h.Ph
 have hm:(w++[(v,a)]).map (·.1)=w.map (·.1)++[v]:=by simp
 have kp:=h.o5;rw[hm]at kp;have ag2:v∉out/\v∉w.map (·.1):=by rw[<-xaK,xbB]at kp;refine⟨λaS=>kp.2.2 v (xaX _ aS) v (by simp) rfl,λaS=>kp.2.2 v (xbN _ aS) v (by simp) rfl⟩
 have aC2:bz v=true:=(h.ok v (by rw[hm];simp)).1;have ht:∀(i u b:Nat),w[i]?=some (u,b)->(w++[(v,a)])[i]?=some (u,b):=λi u b af=>by rw[xap (xaa.1 af).1];exact af
 have V6:(w++[(v,a)])[w.length]?=some (v,a):=by simp
 obtain⟨d,ay⟩:∃d,aR[w.length]?=some d:=⟨_,xab (by omega)⟩;obtain⟨d1,d2,d3⟩:=h.g1 w.length v a d V6 ay;have jj:∀y,y∈out\/y∈(w++[(v,a)]).map (·.1)->y∈out++[v]\/y∈w.map (·.1):=by
  intro y aE;rw[hm]at aE;rcases aE with aE|aE
  .exact .inl (xaX _ aE)
  rcases xas.1 aE with aE|aE;.exact .inr aE
  exact .inl (xbN _ aE)
 refine⟨?_,?_,?_,?_,?_,?_,by simp;omega,?_⟩
 .have:(out++(w.map (·.1)++[v])).Perm (out++[v]++w.map (·.1)):=by
   rw[xaK];exact List.Perm.append_left _ List.perm_append_comm
  exact this.nodup_iff.1 kp
 .intro x ad;refine h.ok x ?_;rw[hm];simp only[xas,xbO]at ad⊢;rcases ad with(ad|ad)|ad
  .exact .inl ad
  .exact .inr (.inr ad)
  exact .inr (.inl ad)
 .intro x ad y aE cX;rcases xas.1 ad with ad|ad
  .exact jj y (h.pG x ad y aE cX)
  simp at ad;subst ad;obtain⟨j,aB⟩:=xaG.1 aE;exact jj y ((h.at_ w.length x a V6).2 j y (by rw[aH];exact(xaa.1 aB).1) aB cX)
 .intro i u z b c J aa;exact h.Fz i u z b c (ht _ _ _ J) (ht _ _ _ aa)
 .intro i u b af;obtain⟨g1,g2⟩:=h.at_ i u b (ht _ _ _ af);exact⟨g1,λj y aB aE cX=>jj y (g2 j y aB aE cX)⟩
 .intro f r bk x ad;rcases xbe f out.length with al|al
  .rw[xap al]at bk;rw[xbr (by omega)]at ad;exact h.J4 f r bk x ad
  have afV:f=out.length:=by have:=(xaa.1 bk).1;simp at this;omega
  subst afV;simp at bk;subst bk;have az9:(out++[v]).take (out.length+1)=out++[v]:=xbw (by simp);rw[az9]at ad;have key:∀x z,fv (Pf nx bz (out++[v])) x z->(∃j,d<=j/\(out++[v])[j]?=some z)->x∈out++[v]->∃j,d<=j/\(out++[v])[j]?=some x:=by
   intro x z aU
   induction aU with
   |refl _=>intro h _;exact h
   | @step p q s kh ag3 ih=>
    intro bG Pj;obtain⟨j,Vx,wk⟩:=ih bG kh.2.2;obtain⟨i,af⟩:=xaG.1 Pj;rcases xbe i d with ag4|ag4
    .exfalso;have aAa:p∈out.take d:=by
      rw[xap (by omega)]at af;rw[List.mem_take_iff_getElem];obtain⟨J,aa⟩:=xaa.1 af;exact⟨i,by omega,aa⟩
     have bM:=d3 p aAa q kh.1.2.2 kh.1.2.1;have hw:((w++[(v,a)]).take w.length)=w:=by rw[xbr (xaT _),List.take_length]
     rw[hw]at bM;have aAb:q∈out++[v]:=kh.2.2;rcases bM with bM|bM
     .rw[List.mem_take_iff_getElem]at bM;obtain⟨BM,nH,rfl⟩:=bM;have aAc:(out++[v]).Nodup:=by
       rw[<-xaK,xbB]at kp;rw[xbB];refine⟨(xbB.1 kp.1).1,by simp,?_⟩;intro cI y4 b' fi;simp at fi;subst fi;intro e;subst e;exact ag2.1 y4
      have aL:(out++[v])[BM]?=some out[BM]:=by rw[xap (by omega),xab]
      have:=ag1 aAc aL wk;omega
     rcases xas.1 aAb with J|J;.rw[xbB]at kp;exact kp.2.2 q J q (xaX _ bM) rfl
     simp at J;subst J;exact ag2.2 bM
    exact⟨i,ag4,af⟩
  have x2:x∈out++[v]:=by cases ad with|refl=>simp|step h _=>exact h.2.1
  obtain⟨j,Vx,wk⟩:=key x v ad ⟨out.length,d1,by simp⟩ x2;rcases xbe j out.length with ct|ct;.rw[xap ct]at wk;exact d2 j x Vx wk
  have:j=out.length:=by have:=(xaa.1 wk).1;simp at this;omega
  subst this;simp at wk;subst wk;exact .refl _
 intro i u b e J aa;have bY:=(xaa.1 J).1;rw[xaL,xac bY]at aa;obtain⟨b0,bR,cw⟩:=h.g1 i u b e (ht _ _ _ J) aa;refine⟨by simp;omega,λj y aB aE=>?_,λx ad y aE cX=>?_⟩
 .rcases xbe j out.length with ct|ct;.rw[xap ct]at aE;exact bR j y aB aE
  have:j=out.length:=by have:=(xaa.1 aE).1;simp at this;omega
  subst this;simp at aE;subst aE;have:=h.chain (w.length-i) i u v b a (ht _ _ _ J) (by rw[show i+(w.length-i)=w.length by omega];exact V6);exact this
 rw[xbr b0]at ad⊢;have:=cw x ad y aE cX;rw[xbr (by omega)]at this;exact this
end
def nD(nx:Nat->List Nat)(bz:Nat->Bool)(a b:Nat):Prop:=fv (o4 nx bz) a b/\fv (o4 nx bz) b a
def nD.refl{nx:Nat->List Nat}{bz:Nat->Bool}(a:Nat):nD nx bz a a:=⟨.refl _,.refl _⟩
def nD.symm{nx:Nat->List Nat}{bz:Nat->Bool}{a b:Nat}(h:nD nx bz a b):nD nx bz b a:=⟨h.2,h.1⟩
def nD.trans{nx:Nat->List Nat}{bz:Nat->Bool}{a b c:Nat}(h:nD nx bz a b)(k:nD nx bz b c):nD nx bz a c:=⟨h.1.trans k.1,k.2.trans h.2⟩
def ag5(nx:Nat->List Nat)(bz:Nat->Bool)(M:Nat->Prop)(a b:Nat):Prop:=o4 nx bz a b/\¬M a/\¬M b
structure ys(nx:Nat->List Nat)(bz:Nat->Bool)(n:Nat)(prev:Nat->List Nat)(M:Nat->Prop)(r:Nat)(part todo:List Nat):Prop where
 o5:(part++todo).Nodup
 ok:∀x∈part++todo,bz x=true/\x<n/\¬M x
 to:∀x∈part++todo,fv (ag5 nx bz M) x r
 has:r∈part++todo
 cl:∀x∈part,∀j∈prev x,bz j=true->M j\/j∈part++todo
section
variable{nx:Nat->List Nat}{bz:Nat->Bool}{n:Nat}{prev:Nat->List Nat}{M:Nat->Prop}{r:Nat}
def ys.start(af:bz r=true)(aN:r<n)(cM:¬M r):ys nx bz n prev M r [] [r]:=⟨by simp,by simp;exact⟨af,aN,cM⟩,by simp;exact .refl _,by simp,by simp⟩
def ys.next{part todo new:List Nat}{i:Nat}(h:ys nx bz n prev M r part (i::todo))(aU:∀j∈prev i,i∈nx j) (kp:new.Nodup) (J:∀j∈new,j∈prev i/\bz j=true/\j<n/\¬M j/\j∉part++i::todo) (aa:∀j∈prev i,bz j=true->M j\/j∈part++i::todo\/j∈new):ys nx bz n prev M r (part++[i]) (todo++new):=by
 have e:part++[i]++(todo++new)=(part++i::todo)++new:=by simp
 have ag6:i∈part++i::todo:=by simp
 obtain⟨i1,i2,i3⟩:=h.ok i ag6;refine⟨?_,?_,?_,?_,?_⟩;.rw[e,xbB];refine⟨h.o5,kp,?_⟩;intro a aH b aj hf;subst hf;exact(J a aj).2.2.2.2 aH
 .intro x ad;rw[e]at ad;rcases xas.1 ad with ad|ad
  .exact h.ok x ad
  obtain⟨_,a,b,c,_⟩:=J x ad;exact⟨a,b,c⟩
 .intro x ad;rw[e]at ad;rcases xas.1 ad with ad|ad
  .exact h.to x ad
  obtain⟨p,a,b,c,_⟩:=J x ad;exact .step ⟨⟨a,i1,aU x p⟩,c,i3⟩ (h.to i ag6)
 .rw[e];exact xaX _ h.has
 intro x ad j aB cX;rw[e];rcases xas.1 ad with ad|ad
 .rcases h.cl x ad j aB cX with h|h;.exact .inl h
  exact .inr (xaX _ h)
 simp at ad;subst ad;rcases aa j aB cX with h|h|h
 .exact .inl h
 .exact .inr (xaX _ h)
 exact .inr (xbN _ h)
structure qp(nx:Nat->List Nat)(bz:Nat->Bool)(n:Nat)(l:List Nat)(k:Nat)(M:Nat->Prop):Prop where
 ok:∀x,M x->bz x=true/\x<n
 cl:∀x y,M x->nD nx bz x y->M y
 up:∀(j x:Nat),k<=j->l[j]?=some x->M x
def aAd{a b:Nat}(h:fv (o4 nx bz) a b)(aH:bz a=true):bz b=true:=by induction h with|refl=>exact aH|step h _ ih=>exact ih h.2.1
def aAe{l:List Nat}{k:Nat}{part:List Nat}(kL:Pg nx bz l)(ft:∀x,bz x=true->x<n->x∈l)(jt:∀x y,y∈nx x->y<n)(cM:qp nx bz n l (k+1) M)(av:l[k]?=some r)(aAf:¬M r)(e3:ys nx bz n prev M r part [])(aU:∀i j,j<n->i∈nx j->j∈prev i)(x:Nat):x∈part↔nD nx bz r x:=by
 have tb:=e3;rw[show part=part++[] by simp];constructor
 .intro ad;have hw:=e3.to x ad;obtain⟨x1,q5,Jy⟩:=e3.ok x ad;refine⟨?_,hw.mono λa b h=>h.1⟩;have ei:fv (Pf nx bz (l.take (k+1))) x r:=by
   have cX:∀a,bz a=true->a<n->¬M a->a∈l.take (k+1):=by
    intro a aH aN DM;obtain⟨j,aB⟩:=xaG.1 (ft a aH aN);rw[List.mem_take_iff_getElem];obtain⟨J,aa⟩:=xaa.1 aB;rcases xbe j (k+1)with h|h
    .exact⟨j,by omega,aa⟩
    exact absurd (cM.up j a h aB) DM
   have gen:∀a b,fv (ag5 nx bz M) a b->a<n->fv (Pf nx bz (l.take (k+1))) a b:=by
    intro a b hf
    induction hf with
    |refl=>intro _;exact .refl _
    | @step p q s kh _ ih=>intro J6;have bM:=jt p q kh.1.2.2;exact .step ⟨kh.1,cX p kh.1.1 J6 kh.2.1,cX q kh.1.2.1 bM kh.2.2⟩ (ih bM)
   exact gen x r hw q5
  exact kL k r av x ei
 rintro⟨J,aa⟩;have aAg:∀y,nD nx bz r y->¬M y:=λy aE aAh=>aAf (cM.cl y r aAh aE.symm);have aAi:r<n:=(e3.ok r e3.has).2.1;have gen:∀a b,fv (o4 nx bz) a b->a<n->b∈part++[]->fv (o4 nx bz) r a->fv (o4 nx bz) b r->a∈part++[]:=by
  intro a b hf
  induction hf with
  |refl=>intro _ h _ _;exact h
  | @step p q s kh ag3 ih=>
   intro J6 aC J7 D0;have aAj:=jt p q kh.2.2;have bM:=ih aAj aC (J7.last kh) D0;have LM:q∈part:=by simpa using bM
   have aAk:fv (o4 nx bz) p r:=(fv.step kh ag3).trans D0;rcases e3.cl q LM p (aU q p J6 kh.2.2) kh.1 with h|h
   .exact absurd h (aAg p ⟨J7,aAk⟩)
   exact h
 have OW:x<n:=by
  cases J with
  |refl=>exact aAi
  |step h aC=>
   have:∀a b,fv (o4 nx bz) a b->a<n->b<n:=by
    intro a b hf
    induction hf with|refl=>exact id|step h _ ih=>intro _;exact ih (jt _ _ h.2.2)
   exact this _ _ aC (jt _ _ h.2.2)
 exact gen x r aa OW e3.has J (.refl _)
def qp.next{l:List Nat}{k:Nat}{part:List Nat}(cM:qp nx bz n l (k+1) M)(av:l[k]?=some r)(V7:∀x,x∈part↔nD nx bz r x)(bD:∀x∈part,bz x=true/\x<n):qp nx bz n l k (λx=>M x\/x∈part):=by
 refine⟨?_,?_,?_⟩
 .rintro x (h|h);.exact cM.ok x h
  exact bD x h
 .rintro x y (h|h) aC;.exact .inl (cM.cl x y h aC)
  exact .inr ((V7 y).2 (((V7 x).1 h).trans aC))
 intro j x aB ad;rcases Nat.eq_or_lt_of_le aB with rfl|aB
 .rw[av]at ad;cases ad;exact .inr ((V7 r).2 (.refl r))
 exact .inl (cM.up j x aB ad)
def qp.skip{l:List Nat}{k:Nat}(cM:qp nx bz n l (k+1) M)(av:l[k]?=some r)(h:M r):qp nx bz n l k M:=⟨cM.ok,cM.cl,λj x aB ad=>by
  rcases Nat.eq_or_lt_of_le aB with rfl|aB;.rw[av]at ad;cases ad;exact h
  exact cM.up j x aB ad⟩
def qp.start{l:List Nat}:qp nx bz n l l.length (λ_=>False):=⟨λx h=>h.elim,λx y h=>h.elim,λj x aB ad=>absurd (xaa.1 ad).1 (by omega)⟩
end
def V8{α:Type}{R:α->α->Prop}(af:∀x,¬R x x)(aP:∀x y z,R x y->R y z->R x z):∀{l m:List α},l.Pairwise R->m.Pairwise R->(∀x,x∈l↔x∈m)->l=m
 |[],[],_,_,_=>rfl|[],b::s,_,_,h=>by have:=(h b).2 (by simp);simp at this|a::r,[],_,_,h=>by have:=(h a).1 (by simp);simp at this
 |a::r,b::s,J,aa,h=>by
  rw[xcr]at J aa;have hf:a=b:=by
   have aH:=(h a).1 (by simp);have aj:=(h b).2 (by simp);rcases xal.1 aH with e|aH
   .exact e
   rcases xal.1 aj with e|aj;.exact e.symm
   exact absurd (aP _ _ _ (J.1 b aj) (aa.1 a aH)) (af a)
  subst hf;rw[V8 af aP J.2 aa.2 λx=>?_];constructor
  .intro ad;rcases xal.1 ((h x).1 (xcm _ ad))with e|eF
   .subst e;exact absurd (J.1 x ad) (af x)
   exact eF
  intro ad;rcases xal.1 ((h x).2 (xcm _ ad))with e|eF
  .subst e;exact absurd (aa.1 x ad) (af x)
  exact eF
structure sN(nx:Nat->List Nat)(bz:Nat->Bool)(n:Nat)(out:List (List Nat)):Prop where
 each:∀p∈out,(∃r,bz r=true/\r<n/\∀x,x∈p↔nD nx bz r x)/\p.Pairwise (·<·)
 all:∀x,bz x=true->x<n->∃p∈out,x∈p
def sN.mem{nx:Nat->List Nat}{bz:Nat->Bool}{n:Nat}{l m:List (List Nat)}(h:sN nx bz n l)(k:sN nx bz n m){p:List Nat}(aU:p∈l):p∈m:=by
 obtain⟨⟨r,eM,eG,hF⟩,w5⟩:=h.each p aU;obtain⟨q,bM,aAl⟩:=k.all r eM eG;obtain⟨⟨s,s1,s2,iP⟩,agy⟩:=k.each q bM;have D0:=(iP r).1 aAl;have:p=q:=V8 (R:=(·<·)) (λx=>xbQ x) (λx y z=>xcl) w5 agy λx=>by rw[hF x,iP x];exact⟨λh=>D0.trans h,λh=>D0.symm.trans h⟩
 rw[this];exact bM
def sN.perm{nx:Nat->List Nat}{bz:Nat->Bool}{n:Nat}{l m:List (List Nat)}(h:sN nx bz n l)(aU:m.Perm l):sN nx bz n m:=⟨λp hm=>h.each p (aU.mem_iff.1 hm),λx J aa=>by obtain⟨p,rf,ad⟩:=h.all x J aa;exact⟨p,aU.mem_iff.2 rf,ad⟩⟩
def EO(E:Nat->Nat->Prop)(a b:Nat):Prop:=∃c,E a c/\fv E c b
def EO.rc{E:Nat->Nat->Prop}{a b:Nat}(h:EO E a b):fv E a b:=by obtain⟨c,J,aa⟩:=h;exact .step J aa
def fv.ed{E:Nat->Nat->Prop}{a b:Nat}(h:fv E a b):a=b\/EO E a b:=by cases h with|refl=>exact .inl rfl|step J aa=>exact .inr ⟨_,J,aa⟩
def fv.snoc{E:Nat->Nat->Prop}{a b c:Nat}(h:fv E a b)(k:E b c):EO E a c:=by cases h with|refl=>exact⟨c,k,.refl _⟩|step J aa=>exact⟨_,J,aa.last k⟩
structure BD(E:Nat->Nat->Prop)(jH V:Nat->Prop)(todo:List Nat):Prop where
 snd:∀x,V x->∃s,jH s/\EO E s x
 tod:∀x∈todo,jH x\/V x
 cl:∀x,jH x\/V x->x∉todo->∀y,E x y->V y
def BD.start{E:Nat->Nat->Prop}{jH:Nat->Prop}{todo:List Nat}(h:∀x,x∈todo↔jH x):BD E jH (λ_=>False) todo:=⟨λx h=>h.elim,λx ad=> .inl ((h x).1 ad),λx ad aN=>absurd ((h x).2 (ad.elim id False.elim)) aN⟩
def BD.next{E:Nat->Nat->Prop}{jH V V9:Nat->Prop}{i:Nat}{todo new:List Nat}(h:BD E jH V (i::todo))(gW:∀x,V9 x↔V x\/x∈new)(nE:∀x∈new,E i x)(ft:∀y,E i y->V9 y):BD E jH V9 (todo++new):=by
 refine⟨?_,?_,?_⟩
 .intro x ad;rcases(gW x).1 ad with ad|ad
  .exact h.snd x ad
  rcases h.tod i (by simp)with aC|aC;.exact⟨i,aC,x,nE x ad,.refl _⟩
  obtain⟨s,J,aa⟩:=h.snd i aC;exact⟨s,J,aa.rc.snoc (nE x ad)⟩
 .intro x ad;rcases xas.1 ad with ad|ad
  .exact(h.tod x (by simp[ad])).imp id λh=>(gW x).2 (.inl h)
  exact .inr ((gW x).2 (.inr ad))
 intro x ad aN y aE;rw[xas,not_or]at aN;by_cases ag7:x=i;.subst ag7;exact ft y aE
 refine(gW y).2 (.inl (h.cl x ?_ ?_ y aE))
 .rcases ad with ad|ad;.exact .inl ad
  rcases(gW x).1 ad with ad|ad;.exact .inr ad
  exact absurd ad aN.2
 intro hm;rcases xal.1 hm with e|hm
 .exact ag7 e
 exact aN.1 hm
def BD.done{E:Nat->Nat->Prop}{jH V:Nat->Prop}(h:BD E jH V [])(x:Nat):V x↔∃s,jH s/\EO E s x:=by
 refine⟨h.snd x,?_⟩;rintro⟨s,aC,c,J,aa⟩;have ai:=h.cl s (.inl aC) (by simp) c J;have gen:∀a b,fv E a b->V a->V b:=by
  intro a b hf
  induction hf with|refl=>exact id|step ax _ ih=>intro aH;exact ih (h.cl _ (.inr aH) (by simp) _ ax)
 exact gen c x aa ai
def yt{l:List Bool}{j:Nat}{b:Bool}(h:l[j]?=some b):(ba (cR l))[j]?=some [aI b]:=by simp[cR,h]
def Wa(l:List Bool)(j:Nat)(d:D)(c:Bool):D.aV 1 ((ba (cR l)).set j (iN [d] 0 [aI c]))=cR (l.set j c):=by have e:iN [d] 0 [aI c]=[aI c]:=rfl;rw[e];simp[cR,List.map_set]
def J8{l:List Bool}{j:Nat}(h:j<l.length):cL l.length (I (j:Int))=some j:=by rw[jZ,xac h]
def BE{j:Nat}{l:List Bool}(h:j<l.length):∃b,l[j]?=some b:=⟨_,xab h⟩
def Wb(N:Nat):D.aV 1 (List.replicate N [aI false])=cR (List.replicate N false):=by simp[cR]
def Pk{N k:Nat}(h:N<=5000)(ah:k<=100):mC k (I (N:Int)) (I (N:Int))=some N:=by
 unfold mC I;have:(k:Int)*(N:Int)<=281474976710656:=by
  have J:k*N<=100*5000:=Nat.mul_le_mul ah h;have aa:((k*N:Nat):Int)<=281474976710656:=by omega
  simpa using aa
 have c:0<=(N:Int)/\(N:Int)<=(N:Int)/\(k:Int)*(N:Int)<=281474976710656/\(N:Int)<=9223372036854775807:=⟨by omega,by omega,this,by omega⟩;simp only[xac c,Int.toNat_natCast]
def Wc{k:Nat}(h:k<=1000000000):cZ k 8=true:=fV (by omega) (by omega)
def kd(i:Int)(p:List Bool×List Nat):List Bool×List Nat:=if 0<=i/\p.1[i.toNat]?=some false then(p.1.set i.toNat true,p.2++[i.toNat])else p
def Wd(n:Nat)(i:Int)(p:List Bool×List Nat)(h:p.2.length<1000000000):qZ n [I i,cR p.1,cd p.2]=some [D.a6 [],cR (kd i p).1,cd (kd i p).2]:=by
 obtain⟨met,todo⟩:=p;have av:cZ (todo.length+1) 8=true:=Wc (by simp only at h;omega);by_cases au:0<=i
 .obtain⟨k,rfl⟩:∃k:Nat,i=(k:Int):=⟨i.toNat,by omega⟩;have gJ:=yT ((k:Int)>=0);by_cases al:k<met.length
  .obtain⟨b,aj⟩:=BE al;have b5:=yT ((k:Int)<(met.length:Int));cases b with
   |true=>
    have e:kd (k:Int) (met,todo)=(met,todo):=by rw[kd,xae];simp[aj]
    rw[e];simp only[qZ,go_sem,sK,gJ,b5,J8 al,yt aj,fN,iM,fm]
   |false=>
    have e:kd (k:Int) (met,todo)=(met.set k true,todo++[k]):=by rw[kd,xac (by simp[aj])];simp
    rw[e];simp only[qZ,go_sem,sK,pT,gJ,b5,J8 al,yt aj,fN,iM,fm,Wa,yq,xan,xaA,xay,av]
  have b5:=yF ((k:Int)<(met.length:Int));have e:kd (k:Int) (met,todo)=(met,todo):=by rw[kd,xae];simp[show met.length<=k by omega]
  rw[e];simp only[qZ,go_sem,sK,gJ,b5,iM,fm]
 have gJ:=yF (i>=0);have e:kd i (met,todo)=(met,todo):=by rw[kd,xae (by omega)]
 rw[e];simp only[qZ,go_sem,gJ,iM,fm]
def ag8(i:Int)(p:List Bool×List Nat):(kd i p).2.length<=p.2.length+1:=by unfold kd;split<;>simp
def pU(l:List Int)(p:List Bool×List Nat):List Bool×List Nat:=l.foldl (λp i=>kd i p) p
def ag9(n:Nat)(l:List Int)(p:List Bool×List Nat)(h:p.2.length+l.length<1000000000)(aN:l.length<n):AR n [cJ l,cR p.1,cd p.2]=some [D.a6 [],cR (pU l p).1,cd (pU l p).2]:=by
 have af:=dC (f:=M5 n) l (λi (p:List Bool×List Nat)=>[cJ l,I l.length,I (i:Int),cR p.1,cd p.2]) (λr p=>(.inl [cR (pU r p).1,cd (pU r p).2]:List D⊕List D)) (λi p=>p.2.length+(l.length-i)<1000000000) ?_ ?_ n 0 p (by omega) (by omega) (xaj _);.have b1:(I ((0:Nat):Int))=I 0:=rfl;rw[b1,xam]at af;simp only[AR,go_sem,sy,iM,fm,af]
 .intro p _;simp only[M5,go_sem,yF ((l.length:Int)<l.length),iM,fm,pU,List.foldl_nil]
 intro i a p aH af aU;have:=ag8 a p;left;refine⟨kd a p,?_,rfl,by omega⟩;simp only[M5,go_sem,yT ((i:Int)<(l.length:Int)),um aH,fN,iM,fm,Wd n a p (by omega),cm (bt:=false) (i:=i) (by omega)]
structure aAm(l:List Int)(p q:List Bool×List Nat)(new:List Nat):Prop where
 len:q.1.length=p.1.length
 todo:q.2=p.2++new
 met:∀x,q.1[x]?=some true↔p.1[x]?=some true\/x∈new
 We:new.Nodup
 yu:∀x∈new,p.1[x]?=some false/\(x:Int)∈l
 all:∀x:Nat,(x:Int)∈l->x<p.1.length->q.1[x]?=some true
 oI:q.1.count false+q.2.length=p.1.count false+p.2.length
def J9{l:List Bool}{k x:Nat}(ah:k<l.length):(l.set k true)[x]?=some true↔l[x]?=some true\/x=k:=by
 by_cases h:x=k;.subst h;simp[ah]
 rw[xck (xbV h)];simp[h]
def aha{l:List Bool}{k:Nat}(ah:l[k]?=some false):(l.set k true).count false+1=l.count false:=by obtain⟨J,aa⟩:=xaa.1 ah;have ai:0<l.count false:=List.count_pos_iff.2 (xad ah);rw[List.count_set J,aa];simp;omega
def EP:∀(l:List Int)(p:List Bool×List Nat),∃new,aAm l p (pU l p) new
 |[],p=>⟨[],rfl,by simp[pU],by simp[pU],.nil,by simp,by simp,rfl⟩
 |a::r,p=>by
  obtain⟨new,h⟩:=EP r (kd a p);have hm:pU (a::r) p=pU r (kd a p):=rfl;rw[hm];by_cases ai:0<=a/\p.1[a.toNat]?=some false
  .have e:kd a p=(p.1.set a.toNat true,p.2++[a.toNat]):=xac ai;rw[e]at h⊢;have ah:=(xaa.1 ai.2).1;have nE:a.toNat∉new:=by
    intro hm;have:=(h.yu _ hm).1;simp[ah]at this
   refine⟨a.toNat::new,by rw[h.len];simp,by rw[h.todo];simp,?_,List.nodup_cons.2 ⟨nE,h.We⟩,?_,?_,?_⟩;.intro x;rw[h.met x];show(p.1.set a.toNat true)[x]?=some true\/_↔_;rw[J9 ah,xal,or_assoc]
   .intro x ad;rcases xal.1 ad with rfl|ad
    .exact⟨ai.2,by rw[show((a.toNat:Nat):Int)=a by omega];simp⟩
    obtain⟨J,aa⟩:=h.yu x ad;have:x≠a.toNat:=λe=>nE (e▸ad);have J:(p.1.set a.toNat true)[x]?=some false:=J;rw[xck (xbV this)]at J;exact⟨J,xcm _ aa⟩
   .intro x ad al;rcases xal.1 ad with ad|ad
    .have:x=a.toNat:=by omega
     rw[h.met x];exact .inl ((J9 ah).2 (.inr this))
    exact h.all x ad (by simpa using al)
   have J:=h.oI;have aa:=aha ai.2;simp only[xaQ,xan,xaA]at J;omega
  have e:kd a p=p:=xae ai;rw[e]at h⊢;refine⟨new,h.len,h.todo,h.met,h.We,λx ad=>⟨(h.yu x ad).1,xcm _ (h.yu x ad).2⟩,?_,h.oI⟩;intro x ad al;rcases xal.1 ad with ad|ad
  .rw[h.met x];refine .inl ?_;obtain⟨b,aj⟩:=BE al;cases b with|true=>exact aj|false=>exact absurd ⟨by omega,by rw[<-ad];simpa using aj⟩ ai
  exact h.all x ad al
structure ln(N:Nat)(nx:er):Prop where
 len:nx.length=N
 le:N<=5000
 row:∀l∈nx,l.length<=5000
 lt:∀l∈nx,∀k∈l,k<N
def dN(nx:er)(a:Nat):List Nat:=(nx[a]?).getD []
def sO(S:fe)(nx:er)(e7:List Nat)(e8:List (List Bool)):D:= .agg [dm S,dn nx,cd e7,gx e8]
theorem uJ{S:fe}{nx:er}{e7:List Nat}{e8:List (List Bool)}:dV 4 (sO S nx e7 e8)=true/\ae (sO S nx e7 e8) 0=dm S/\ae (sO S nx e7 e8) 1=dn nx/\ae (sO S nx e7 e8) 2=cd e7/\ae (sO S nx e7 e8) 3=gx e8:=⟨rfl,rfl,rfl,rfl,rfl⟩
theorem Wf{S:fe}{nx:er}{e7:List Nat}{e8:List (List Bool)}:D.agg [dm S,dn nx,cd e7,gx e8]=sO S nx e7 e8:=rfl
section
variable{N:Nat}{nx:er}(g:ln N nx)
include g
theorem ln.eV{a:Nat}(h:a<N):bX 1 (dn nx) (I (a:Int))=some [cd (dN nx a)]:=by
 have:nx[a]?=some (dN nx a):=by unfold dN;rw[xab (by rw[g.len];exact h)];rfl
 exact Pd this
theorem ln.Wg{a:Nat}(h:a<N):dN nx a∈nx:=by
 have bC:a<nx.length:=by rw[g.len];exact h
 unfold dN;rw[xab bC];exact xaZ _
theorem ln.BF{a b:Nat}(h:b∈dN nx a):a<N/\b<N:=by
 rcases xbe a N with aH|aH;.exact⟨aH,g.lt _ (g.Wg aH) b h⟩
 unfold dN at h;rw[xaR (by rw[g.len];exact aH)]at h;simp at h
theorem ln.Pl(a:Nat):(dN nx a).length<=5000:=by
 rcases xbe a N with aH|aH;.exact g.row _ (g.Wg aH)
 unfold dN;rw[xaR (by rw[g.len];exact aH)];simp
end
def uK(nx:er)(a b:Nat):Prop:=b∈dN nx a
structure uL(E:Nat->Nat->Prop)(jH:Nat->Prop)(N:Nat)(p:List Bool×List Nat):Prop where
 len:p.1.length=N
 snd:∀x,p.1[x]?=some true->∃s,jH s/\fv E s x
 ahb:∀s,jH s->p.1[s]?=some true
 td:∀x∈p.2,p.1[x]?=some true
 cl:∀x,p.1[x]?=some true->x∉p.2->∀y,E x y->p.1[y]?=some true
def uL.done{E:Nat->Nat->Prop}{jH:Nat->Prop}{N:Nat}{p:List Bool×List Nat}(h:uL E jH N p)(au:p.2=[])(x:Nat):p.1[x]?=some true↔∃s,jH s/\fv E s x:=by
 refine⟨h.snd x,?_⟩;rintro⟨s,aC,av⟩;have gen:∀a b,fv E a b->p.1[a]?=some true->p.1[b]?=some true:=by
  intro a b hf
  induction hf with|refl=>exact id|step J _ ih=>intro aH;exact ih (h.cl _ aH (by rw[au];simp) _ J)
 exact gen s x av (h.ahb s aC)
def uL.start{nx:er}{N:Nat}(l:List Int):uL (uK nx) (λs=>(s:Int)∈l/\s<N) N (pU l (List.replicate N false,[])):=by
 obtain⟨new,h⟩:=EP l (List.replicate N false,[]);have au:∀x:Nat,(List.replicate N false)[x]?≠some true:=by intro x ad;rw[xca]at ad;split at ad<;>simp at ad
 have hm:∀x:Nat,(pU l (List.replicate N false,[])).1[x]?=some true↔x∈new:=λx=>by rw[h.met x];exact⟨λh=>h.resolve_left (au x),.inr⟩
 have aN:∀x∈new,(x:Int)∈l/\x<N:=λx ad=>⟨(h.yu x ad).2,by simpa using(xaa.1 (h.yu x ad).1).1⟩;have aP:=h.todo;simp only[xaM]at aP;refine⟨by rw[h.len];simp,λx ad=>⟨x,aN x ((hm x).1 ad),.refl _⟩,λs aC=>h.all s aC.1 (by simpa using aC.2),λx ad=>(hm x).2 (aP▸ad),λx ad eF=>absurd (aP▸(hm x).1 ad) eF⟩
def uL.next{nx:er}{N:Nat}(g:ln N nx){jH:Nat->Prop}{met:List Bool}{t:List Nat}{a:Nat}(h:uL (uK nx) jH N (met,t++[a])):uL (uK nx) jH N (pU ((dN nx a).map λ(k:Nat)=>(k:Int)) (met,t)):=by
 obtain⟨new,q⟩:=EP ((dN nx a).map λ(k:Nat)=>(k:Int)) (met,t);have ahc:∀y,((y:Nat):Int)∈(dN nx a).map (λ(k:Nat)=>(k:Int))↔y∈dN nx a:=by
  intro y;simp only[xaO];exact⟨λ⟨k,J,aa⟩=>by
                 have:k=y:=by omega
                 exact this▸J,λh=>⟨y,h,rfl⟩⟩
 have Wh:=h.td a (by simp);refine⟨by rw[q.len];exact h.len,?_,λs aC=>(q.met s).2 (.inl (h.ahb s aC)),?_,?_⟩
 .intro x ad;rcases(q.met x).1 ad with ad|ad
  .exact h.snd x ad
  obtain⟨s,J,aa⟩:=h.snd a Wh;exact⟨s,J,aa.last ((ahc x).1 (q.yu x ad).2)⟩
 .intro x ad;rw[q.todo]at ad;rcases xas.1 ad with ad|ad
  .exact(q.met x).2 (.inl (h.td x (by simp at ad⊢;exact .inl ad)))
  exact(q.met x).2 (.inr ad)
 intro x ad aN y aE;rw[q.todo,xas,not_or]at aN;by_cases ahd:x=a;.subst ahd;exact q.all y ((ahc y).2 aE) (by have:=(g.BF aE).2;have:=h.len;simp only at this⊢;omega)
 refine(q.met y).2 (.inl (h.cl x ?_ ?_ y aE));.exact((q.met x).1 ad).resolve_right aN.2
 intro hm;rcases xas.1 hm with hm|hm
 .exact aN.1 hm
 simp at hm;exact ahd hm
def aAn{l:List Nat}{a:Nat}:kN ((ba (cd (l++[a]))).length) none (some (I (l.length:Int)))=some (0,l.length):=by simp[kN,p3,I,cd]
section
variable{S:fe}{nx:er}(e7:List Nat)(e8:List (List Bool))(g:ln S.length nx)(n:Nat)(aN:10000000<n)
include g aN
theorem aAo(p:List Bool×List Nat){jH:Nat->Prop}(h:uL (uK nx) jH S.length p)(ai:p.1.count false+p.2.length<=S.length): ∃R:List Bool,bL (IK n) n [dm S,dn nx,cd e7,gx e8,cR p.1,cd p.2]=some (.inl [cR R,cd []])/\R.length=S.length/\∀x,R[x]?=some true↔∃s,jH s/\fv (uK nx) s x:=by
 have hle:=g.le;have H:=JY (f:=IK n) (λ(p:List Bool×List Nat)=>[dm S,dn nx,cd e7,gx e8,cR p.1,cd p.2]) (λp=>p.1.count false+p.2.length) (λp=>uL (uK nx) jH S.length p/\p.1.count false+p.2.length<=S.length) (λy=>∃R:List Bool,y=(.inl [cR R,cd []]:List D⊕D)/\R.length=S.length/\∀x,R[x]?=some true↔∃s,jH s/\fv (uK nx) s x) ?_ n p ⟨h,ai⟩ (by omega)
 .obtain⟨y,J,R,aa,ax,bh⟩:=H;exact⟨R,by rw[J,aa],ax,bh⟩
 rintro⟨met,todo⟩ ⟨h,ai⟩;simp only at ai;rcases List.eq_nil_or_concat todo with rfl|⟨t,a,rfl⟩
 .right;refine⟨_,?_,met,rfl,h.len,h.done rfl⟩;have b1:decide ((0:Int)>0)=false:=by decide
  have aL:(((ba (cd [])).length:Nat):Int)=0:=rfl;simp only[IK,go_sem,aL,b1,iM,fm]
 left;rw[List.concat_eq_append]at h ai⊢;have cf:=h.next g
 obtain⟨new,q⟩:=EP ((dN nx a).map λ(k:Nat)=>(k:Int)) (met,t);have Wh:=h.td a (by simp);have Wi:a<S.length:=by have:=(xaa.1 Wh).1;have:=h.len;simp only at*;omega
 have nX:=g.Pl a;have al:(ba (cd (t++[a]))).length=t.length+1:=by rw[pT];simp
 simp only[xaQ,xan,xaA]at ai;have we:=q.oI;simp only at we;have aL:decide (((t.length+1:Nat):Int)>0)=true:=xaq (by omega);have a7:bB false .sub (I ((t.length+1:Nat):Int)) (I 1)=some (I (t.length:Int)):=by rw[nU (by omega) (by omega)];congr 2;omega
 have bV:cL (t.length+1) (I (t.length:Int))=some t.length:=by rw[jZ,xac (by omega)]
 have cG:(ba (cd (t++[a])))[t.length]?=some [I (a:Int)]:=by simp[cd]
 have dI:kN (t.length+1) none (some (I (t.length:Int)))=some (0,t.length):=by rw[<-al];exact aAn
 have eL:D.aV 1 (((ba (cd (t++[a]))).drop 0).take t.length)=cd t:=by simp[cd]
 have lU:=ag9 n ((dN nx a).map λ(k:Nat)=>(k:Int)) (met,t) (by simp;omega) (by simp;omega);rw[<-azX]at lU;refine⟨_,?_,⟨cf,by rw[we];omega⟩,by simp only[we,xaQ,xan,xaA];omega⟩;simp only[IK,go_sem,al,aL,a7,bV,cG,fN,dI,yT (0+t.length<=t.length+1),g.eV Wi,iM,fm,eL,lU]
theorem Wj(l:List Int)(al:l.length<=100000000)(ahe:l.length<n): ∃R:List Bool,vM n [sO S nx e7 e8,cJ l]=some (cR R)/\R.length=S.length/\∀x,R[x]?=some true↔∃s:Nat,((s:Int)∈l/\s<S.length)/\fv (uK nx) s x:=by have hle:=g.le;have au:=uL.start (nx:=nx) (N:=S.length) l;obtain⟨new,q⟩:=EP l (List.replicate S.length false,[]);have ai:=q.oI;simp only[List.count_replicate_self,xaA,xbk]at ai;obtain⟨R,J,aa,ax⟩:=aAo e7 e8 g n aN _ au (by omega);have lU:=ag9 n l (List.replicate S.length false,[]) (by simp;omega) ahe;have aAp:D.aV 1 ([]:List (List D))=cd []:=rfl;refine⟨R,?_,aa,ax⟩;simp only[vM,abL,go_sem,uJ.1,uJ.2.1,uJ.2.2.1,uJ.2.2.2.1,uJ.2.2.2.2,o3,Pk hle (show 1<=100 by omega),Wb,aAp,lU,iM,fm,J]
end
def hasB(bz:List Bool)(k:Nat):Bool:=(bz[k]?).getD false
def pV(h:Nat->Bool)(l:List Nat)(p:List Bool×List Nat):List Bool×List Nat:=pU ((l.filter h).map λ(k:Nat)=>(k:Int)) p
def aAq(h:Nat->Bool)(k:Nat)(r:List Nat)(p:List Bool×List Nat):pV h (k::r) p=pV h r (if h k=true then kd (k:Int) p else p):=by
 unfold pV;by_cases ah:h k=true;.rw[List.filter_cons_of_pos ah,xac ah];rfl
 rw[List.filter_cons_of_neg ah,xae ah]
def ahf{l:List Nat}{h:Nat->Bool}{y:Nat}:((y:Nat):Int)∈(l.filter h).map (λ(k:Nat)=>(k:Int))↔y∈l/\h y=true:=by
 simp only[xaO,xcc];exact⟨λ⟨k,J,aa⟩=>by
                have:k=y:=by omega
                exact this▸J,λh=>⟨y,h,rfl⟩⟩
def aAr{i:Nat}{t:List Nat}:D.aV 1 (((ba (cd (i::t))).drop 1).take t.length)=cd t:=by have:(t.map λ(k:Nat)=>[I (k:Int)]).take t.length=t.map λ(k:Nat)=>[I (k:Int)]:=xbw (by simp);simp[cd,this]
def aAs{k:Nat}:kN (k+1) (some (I 1)) none=some (1,k):=by have:=Un (n:=k+1) (i:=1) (by omega);simpa using this
def aAt{k:Nat}:cL (k+1) (I 0)=some 0:=N4
section
variable{S:fe}{nx:er}(e7:List Nat)(e8:List (List Bool))(g:ln S.length nx)(n:Nat)(aN:10000000<n)
include g aN
end
section
variable{S:fe}{nx:er}(e7:List Nat)(e8:List (List Bool))(g:ln S.length nx)(n:Nat)(aN:10000000<n)
include g aN
end
def ci(l:List Nat):List Int:=l.map λ(k:Nat)=>(k:Int)
def ahg{acc:er}{k j:Nat}{l:List Nat}(ah:k<acc.length):dN (acc.set k l) j=if j=k then l else dN acc j:=by
 unfold dN;by_cases h:j=k;.subst h;simp[ah]
 rw[xck (xbV h),xae h]
def ahh(i:Nat):∀(ks:List Nat)(acc:er),(∀k∈ks,k<acc.length)->∃kq:er,zC (i:Int) (ci ks) (acc.map ci)=some (kq.map ci)/\kq.length=acc.length/\(∀j,(dN kq j).length<=(dN acc j).length+ks.length)/\∀j x,x∈dN kq j↔x∈dN acc j\/(x=i/\j∈ks)
 |[],acc,_=>⟨acc,rfl,rfl,λj=>xaT _,λj x=>by simp⟩
 |k::r,acc,h=>by
  have ah:=h k (by simp);obtain⟨kq,J,aa,ax,bh⟩:=ahh i r (acc.set k (dN acc k++[i])) (λbF fh=>by simpa using h bF (by simp[fh]));refine⟨kq,?_,by simpa using aa,λj=>?_,λj x=>?_⟩
  .have aL:ci (k::r)=(k:Int)::ci r:=rfl;have a7:((acc.map ci).set (k:Int).toNat (((acc.map ci)[(k:Int).toNat]?).getD []++[(i:Int)]))=(acc.set k (dN acc k++[i])).map ci:=by
    rw[List.map_set,Int.toNat_natCast]
    congr 1
    unfold dN;rw[xah,xab ah];simp[ci]
   rw[aL,zC,xac ⟨by omega,by simpa using ah⟩,a7];exact J
  .have:=ax j;rw[ahg ah]at this;by_cases aB:j=k;.rw[xac aB]at this;subst aB;simp at this⊢;omega
   rw[xae aB]at this;simp;omega
  rw[bh j x,ahg ah];by_cases aB:j=k
  .subst aB;rw[xac rfl];simp only[xas,xbO,xal,true_or,and_true,List.not_mem_nil,or_false];constructor
   .rintro((h|h)|h);.exact .inl h
    .exact .inr h
    exact .inr h.1
   rintro(h|h);.exact .inl (.inl h)
   exact .inl (.inr h)
  rw[xae aB,xal,or_iff_right aB]
def BG:er->Nat
 |[]=>0|l::r=>l.length+BG r
def ahi:∀l:er,nY (l.map ci)=BG l
 |[]=>rfl|l::r=>by simp[nY,BG,ahi r,ci]
def ahj{b:Nat}:∀{l:er},(∀x∈l,x.length<=b)->BG l<=l.length*b
 |[],_=>xaj _|a::r,h=>by have J:=h a (by simp);have aa:=ahj λx ad=>h x (xcm a ad);rw[BG,xan,Nat.succ_mul];omega
def ahk:∀(rows:er)(i:Nat)(acc:er),(∀l∈rows,∀k∈l,k<acc.length)->∃kq:er,tG i (rows.map ci) (acc.map ci)=some (kq.map ci)/\kq.length=acc.length/\(∀j,(dN kq j).length<=(dN acc j).length+BG rows)/\∀j x,x∈dN kq j↔x∈dN acc j\/∃d l,rows[d]?=some l/\x=i+d/\j∈l
 |[],i,acc,_=>⟨acc,rfl,rfl,λj=>xaT _,λj x=>by simp⟩
 |l::r,i,acc,h=>by
  obtain⟨aK,J,aa,ax,bh⟩:=ahh i l acc (h l (by simp));obtain⟨a2,g1,g2,g3,g4⟩:=ahk r (i+1) aK (λjT ew k ah=>by rw[aa];exact h jT (by simp[ew]) k ah);refine⟨a2,?_,by omega,λj=>?_,λj x=>?_⟩;.rw[xau,tG,J];exact g1
  .have:=ax j;have:=g3 j;rw[BG];omega
  rw[g4 j x,bh j x,or_assoc];refine or_congr_right ?_;constructor
  .rintro(⟨rfl,aB⟩|⟨d,jT,ay,rfl,aB⟩);.exact⟨0,l,rfl,rfl,aB⟩
   exact⟨d+1,jT,by simpa using ay,by omega,aB⟩
  rintro⟨d,jT,ay,rfl,aB⟩;cases d with|zero=>simp at ay;subst ay;exact .inl ⟨rfl,aB⟩|succ d=>exact .inr ⟨d,jT,by simpa using ay,by omega,aB⟩
theorem Wk(l:List Nat):oz (l.map λ(k:Nat)=>[I (k:Int)])=some (ci l):=by induction l with|nil=>rfl|cons a r ih=>rw[xau];show(ab (oz (r.map λ(k:Nat)=>[I (k:Int)])) λl=>some ((a:Int)::l))=_;rw[ih];rfl
theorem aAu(l:er):zB (l.map λs=>[cd s])=some (l.map ci):=by induction l with|nil=>rfl|cons a r ih=>rw[xau];show(ab (oz (a.map λ(k:Nat)=>[I (k:Int)])) λx=>ab (zB (r.map λs=>[cd s])) λl=>some (x::l))=_;rw[Wk,ih];rfl
def ahl(l:er):rT (l.map ci)=dn l:=by
 have:∀s:List Nat,j5 (ci s)=cd s:=λs=>by simp[j5,ci,cd]
 simp[rT,dn,this]
structure Ka(N:Nat)(nx P:er):Prop where
 len:P.length=N
 mem:∀j x,x∈dN P j↔j∈dN nx x
 Pm:∀j,(dN P j).length<=25000000
section
variable{S:fe}{nx:er}(e7:List Nat)(e8:List (List Bool))(g:ln S.length nx)
include g
theorem aAv:∃P,L5 [sO S nx e7 e8]=some (dn P)/\Ka S.length nx P:=by
 have hle:=g.le;obtain⟨P,J,aa,ax,bh⟩:=ahk nx 0 (List.replicate S.length []) (λl al k ah=>by simpa using g.lt l al k ah);have au:(List.replicate S.length ([]:List Nat)).map ci=List.replicate S.length []:=by simp[ci]
 rw[au]at J;have aC:=ahj g.row;rw[g.len]at aC;have afH:S.length*5000<=5000*5000:=xaB _ hle;have FK:∀j,dN (List.replicate S.length []) j=[]:=by intro j;unfold dN;rw[xca];split<;>rfl
 refine⟨P,?_,by simpa using aa,λj x=>?_,λj=>?_⟩
 .have aL:zD (dm S)=some S.length:=by simp[zD,dm]
  have a7:rowsOf (dn nx)=some (nx.map ci):=aAu nx;have ai:S.length<=1000000000/\(nx.map ci).length+nY (nx.map ci)<=1000000000:=by rw[ahi,xaY,g.len];omega
  show(ab (zD (dm S)) λN=>ab (rowsOf (dn nx)) λnx=>if N<=1000000000/\nx.length+nY nx<=1000000000 then ab (tG 0 nx (List.replicate N [])) λr=>some (rT r)else none)=_;rw[aL,dT,a7,dT,xac ai,J,dT,ahl]
 .rw[bh j x,FK j];constructor
  .rintro(h|⟨d,l,ay,rfl,aB⟩);.simp at h
   unfold dN;rw[xay,ay];exact aB
  intro h;have ad:=(g.BF h).1;exact .inr ⟨x,dN nx x,by unfold dN;rw[xab (by rw[g.len];exact ad)];rfl,by omega,h⟩
 have:=ax j;rw[FK j]at this;simp at this;omega
end
def lp(w:List (Nat×Nat)):D:= .aV 2 (w.map λp=>[I (p.1:Int),I (p.2:Int)])
def ahm(w:List (Nat×Nat)):(ba (lp w)).length=w.length:=by simp[lp]
theorem Pn(w:List (Nat×Nat)):D.aV 2 (ba (lp w))=lp w:=rfl
def aAw(w:List (Nat×Nat))(p:Nat×Nat):(ba (lp (w++[p])))[w.length]?=some [I (p.1:Int),I (p.2:Int)]:=by simp[lp]
def aAx(w:List (Nat×Nat))(p:Nat×Nat):D.aV 2 (((ba (lp (w++[p]))).drop 0).take w.length)=lp w:=by simp[lp]
def aAy(w:List (Nat×Nat))(p:Nat×Nat)(v a:Nat):(ba (lp (w++[p]))).set w.length (iN [I (v:Int),I (p.2:Int)] 1 [I (a:Int)])=ba (lp (w++[(v,a)])):=by have e:iN [I (v:Int),I (p.2:Int)] 1 [I (a:Int)]=[I (v:Int),I (a:Int)]:=rfl;rw[e];simp[lp]
def aAz(w:List (Nat×Nat))(y:Nat):D.aV 2 (ba (lp w)++[[I (y:Int),I 0]])=lp (w++[(y,0)]):=by simp[lp]
theorem Po(x y:D):bN false 1 1 [x,y]=some y:=rfl
theorem Pp(x y:D):bN false 1 0 [x,y]=some x:=rfl
def Wl(bz:List Bool):D:= .fn (.func kr) [] [.ref [cR bz] 0]
def Wm(n:Nat)(bz:List Bool)(k:Nat)(h:bz.length<=1000000000):ub n [I (k:Int),.ref [cR bz] 0]=some (aI (hasB bz k)):=by
 have e:bN false 1 0 [cR bz]=some (cR bz):=rfl;by_cases ai:k<bz.length
 .have uM:bz[k]?=some (hasB bz k):=by unfold hasB;rw[xab ai];rfl
  simp only[ub,M7,xam,go_sem,e,re,yT ((k:Int)<(bz.length:Int)),wy uM,fN]
 have uM:hasB bz k=false:=by unfold hasB;rw[xaR (by omega)];rfl
 rw[uM];simp only[ub,M7,xam,go_sem,e,re,yF ((k:Int)<(bz.length:Int))]
def o6(nx:er):List (Nat×Nat)->Nat
 |[]=>0|p::r=>(dN nx p.1).length-p.2+1+o6 nx r
def Pq(nx:er):∀(w z:List (Nat×Nat)),o6 nx (w++z)=o6 nx w+o6 nx z
 |[],z=>by simp[o6]|p::r,z=>by rw[xbt,o6,Pq nx r z,o6];omega
structure sP(nx:er)(bz:List Bool)(N:Nat)(A:Nat->Prop)(out:List Nat)(hQ:List (Nat×Nat))(met:List Bool):Prop where
 Kb:∃aR,kG (dN nx) (hasB bz) N out hQ aR
 len:met.length=N
 met:∀x:Nat,met[x]?=some true↔x∈out\/x∈hQ.map (·.1)
 has:∀x,A x->x∈out\/x∈hQ.map (·.1)
def sP.small{nx:er}{bz:List Bool}{N:Nat}{A:Nat->Prop}{out:List Nat}{hQ:List (Nat×Nat)}{met:List Bool}(h:sP nx bz N A out hQ met):out.length+hQ.length<=N:=by obtain⟨aR,ay⟩:=h.Kb;have:=vW N _ ay.o5 λx ad=>(ay.ok x ad).2;simpa using this
section
variable{S:fe}{nx:er}(g:ln S.length nx)(n:Nat)(aN:100000000<n)(bz:List Bool)(cX:bz.length<=1000000000)
include g aN cX
theorem aAA(oa:D){A:Nat->Prop}{out:List Nat}{hQ:List (Nat×Nat)}{met:List Bool}(h:sP nx bz S.length A out hQ met): ∃(sQ:List Nat)(k3:List Bool),bL (xR n) n [dn nx,.ref [cR bz] 0,I (S.length:Int),oa,cd out,cR met,lp hQ]=some (.inl [dn nx,.ref [cR bz] 0,I (S.length:Int),oa,cd sQ,cR k3])/\sP nx bz S.length A sQ [] k3:=by
 have hle:=g.le;have H:=JY (f:=xR n) (λ(s:List Nat×List (Nat×Nat)×List Bool)=>[dn nx,.ref [cR bz] 0,I (S.length:Int),oa,cd s.1,cR s.2.2,lp s.2.1]) (λs=>s.2.2.count false*5002+o6 nx s.2.1) (λs=>sP nx bz S.length A s.1 s.2.1 s.2.2) (λy=>∃(sQ:List Nat)(k3:List Bool),y=(.inl [dn nx,.ref [cR bz] 0,I (S.length:Int),oa,cd sQ,cR k3]:List D⊕(List D⊕(List D⊕(List D⊕D))))/\sP nx bz S.length A sQ [] k3) ?_ n (out,hQ,met) h ?_
 .obtain⟨y,J,sQ,k3,rfl,aa⟩:=H;exact⟨sQ,k3,J,aa⟩
 .rintro⟨out,hQ,met⟩ h;have h:sP nx bz S.length A out hQ met:=h;have NT:=h.small;rcases List.eq_nil_or_concat hQ with rfl|⟨w,⟨v,a⟩,rfl⟩
  .right;refine⟨_,?_,out,met,rfl,h⟩;have b1:decide ((0:Int)>0)=false:=by decide
   have aL:(((ba (lp [])).length:Nat):Int)=0:=rfl;simp only[xR,go_sem,aL,b1,iM,fm]
  left;rw[List.concat_eq_append]at h NT⊢;obtain⟨aR,ay⟩:=h.Kb;simp only[xaQ,xan,xaA,xay]at NT;obtain⟨q2,Pr⟩:=ay.ok v (by simp);obtain⟨zq,_⟩:=ay.at_ w.length v a (by simp);have nX:=g.Pl v;have al:(ba (lp (w++[(v,a)]))).length=w.length+1:=by rw[ahm];simp
  have aL:decide (((w.length+1:Nat):Int)>0)=true:=xaq (by omega);have a7:bB false .sub (I ((w.length+1:Nat):Int)) (I 1)=some (I (w.length:Int)):=by rw[nU (by omega) (by omega)];congr 2;omega
  have bV:cL (w.length+1) (I (w.length:Int))=some w.length:=by rw[jZ,xac (by omega)]
  have cG:=aAw w (v,a);have dI:kN (w.length+1) none (some (I (w.length:Int)))=some (0,w.length):=by simp[kN,p3,I]
  have e4:bZ (I (v:Int))=true:=rfl;have aAB:cZ (out.length+1) 8=true:=Wc (by omega);by_cases NI:a=(dN nx v).length
  .have Kc:((a:Int)==((dN nx v).length:Int))=true:=by simp[NI]
   refine⟨(out++[v],w,met),?_,⟨⟨_,ay.fin NI⟩,h.len,λx=>?_,λx ad=>?_⟩,?_⟩;.simp only[xR,go_sem,al,aL,a7,bV,cG,Po,Pp,g.eV Pr,fN,yr,Kc,e4,pT,xan,xaA,xay,aAB,dI,yT (w.length<=w.length+1),yq,iM,aAx,fm,Pn,xay]
   .rw[h.met x];simp only[List.map_append,xau,xbc,xas,xbO];rw[or_assoc,or_comm (a:=x=v)]
   .have:=h.has x ad;simp at this⊢;rcases this with h|h|h
    .exact .inl (.inl h)
    .exact .inr h
    exact .inl (.inr h)
   simp only[Pq,o6];omega
  have aAC:a<(dN nx v).length:=by omega
  have Kc:((a:Int)==((dN nx v).length:Int))=false:=by
   have:¬(a:Int)=((dN nx v).length:Int):=by omega
   simp[this]
  have aE:=xab aAC;generalize (dN nx v)[a]=y at aE;have aAD:=(g.BF (xad aE)).2;obtain⟨c,ai⟩:=BE (l:=met) (j:=y) (by have:=h.len;omega);have dR:cL met.length (I (y:Int))=some y:=J8 (by have:=h.len;omega);have bS:=Wm n bz y cX;have eL:=aAy w (v,a) v (a+1);have hw:o6 nx (w++[(v,a+1)])+1=o6 nx (w++[(v,a)]):=by simp only[Pq,o6];omega
  by_cases nE:hasB bz y=true/\c=false
  .obtain⟨af,rfl⟩:=nE;rw[af]at bS;have gP:¬(y∈out\/y∈(w++[(v,a)]).map (·.1)):=by
    rw[<-h.met y,ai];simp
   have mz:=ay.push aE af aAD gP;have kk:bZ (I (y:Int))=true:=rfl;have a2:dV 2 (D.agg [I (y:Int),I 0])=true:=rfl;have aAE:cZ (w.length+1+1) 16=true:=fV (by omega) (by omega);have ob:(ba (lp (w++[(v,a+1)]))).length=w.length+1:=by rw[ahm];simp
   have ahn:=aha ai;have Ks:=g.Pl y;refine⟨(out,w++[(v,a+1)]++[(y,0)],met.set y true),?_,⟨⟨_,mz⟩,by simpa using h.len,λx=>?_,λx ad=>?_⟩,?_⟩
   .simp only[xR,go_sem,al,aL,a7,bV,cG,Po,Pp,g.eV Pr,fN,yr,Kc,sL aE,cm (bt:=false) (i:=a) (by omega),bS,sK,dR,yt ai,kk,a2,eL,ob,xan,xaA,xay,aAE,Wa,iM,fm,Pn,aAz]
   .rw[J9 (by have:=h.len;omega),h.met x];simp only[List.map_append,xau,xbc,xas,xbO];constructor
    .rintro((h|h|h)|h);.exact .inl h
     .exact .inr (.inl (.inl h))
     .exact .inr (.inl (.inr h))
     exact .inr (.inr h)
    rintro(h|(h|h)|h);.exact .inl (.inl h)
    .exact .inl (.inr (.inl h))
    .exact .inl (.inr (.inr h))
    exact .inr h
   .have:=h.has x ad;simp only[List.map_append,xau,xbc,xas,xbO]at this⊢;rcases this with h|h
    .exact .inl h
    exact .inr (.inl h)
   simp only[Pq nx _ [(y,0)],o6];omega
  have cK:kG (dN nx) (hasB bz) S.length out (w++[(v,a+1)]) aR:=ay.skip aE λaf=>by rw[<-h.met y,ai];cases c with|true=>rfl|false=>exact absurd ⟨af,rfl⟩ nE
  have Kd:(w++[(v,a+1)]).map (·.1)=(w++[(v,a)]).map (·.1):=by simp
  refine⟨(out,w++[(v,a+1)],met),?_,⟨⟨_,cK⟩,h.len,λx=>by rw[Kd];exact h.met x,λx ad=>by rw[Kd];exact h.has x ad⟩,by simp only;omega⟩;cases af:hasB bz y with|false=>rw[af]at bS;simp only[xR,go_sem,al,aL,a7,bV,cG,Po,Pp,g.eV Pr,fN,yr,Kc,sL aE,cm (bt:=false) (i:=a) (by omega),bS,RL,eL,iM,fm,Pn]|true=>rw[af]at bS nE;cases c with|false=>exact absurd ⟨rfl,rfl⟩ nE|true=>simp only[xR,go_sem,al,aL,a7,bV,cG,Po,Pp,g.eV Pr,fN,yr,Kc,sL aE,cm (bt:=false) (i:=a) (by omega),bS,sK,dR,yt ai,RL,eL,iM,fm,Pn]
 have J:met.count false<=S.length:=by rw[<-h.len];exact List.count_le_length
 have aa:met.count false*5002<=5000*5002:=xaB _ (by omega);have ax:∀w:List (Nat×Nat),o6 nx w<=w.length*5001:=by
  intro w
  induction w with|nil=>exact xaj _|cons p r ih=>have:=g.Pl p.1;rw[o6,xan,Nat.succ_mul];omega
 have bh:=ax hQ;have b9:hQ.length*5001<=5000*5001:=xaB _ (by have:=h.small;omega);simp only;omega
end
section
variable{S:fe}{nx:er}(g:ln S.length nx)(n:Nat)(aN:100000000<n)(bz:List Bool)(cX:bz.length<=1000000000)
include g aN cX
theorem aAF:∃out:List Nat,Du n [dn nx,Wl bz]=some (cd out)/\(∃aR,kG (dN nx) (hasB bz) S.length out [] aR)/\∀x,hasB bz x=true->x<S.length->x∈out:=by
 have hle:=g.le;have bJ:nx.length=S.length:=g.len;have H:=OQ (f:=Dt n) nx (λi (s:List Nat×List Bool)=>[dn nx,.ref [cR bz] 0,I (S.length:Int),I (i:Int),cd s.1,cR s.2]) (λi s=>sP nx bz S.length (λx=>x<i/\hasB bz x=true) s.1 [] s.2) (λy=>∃(out:List Nat),y=(.inl [cd out]:List D⊕D)/\(∃aR,kG (dN nx) (hasB bz) S.length out [] aR)/\∀x,hasB bz x=true->x<S.length->x∈out) ?_ ?_ n 0 ([],List.replicate S.length false) ?_ (xaj _) (by omega)
 .obtain⟨y,J,out,rfl,aa,ax⟩:=H;have b1:(I ((0:Nat):Int))=I 0:=rfl;rw[b1]at J;refine⟨out,?_,aa,ax⟩;have aL:k9 kr (Wl bz)=some [.ref [cR bz] 0]:=nW;have a7:fA (dn nx)=some (I (S.length:Int)):=by simp[dn,bJ]
  have bV:D.aV 1 ([]:List (List D))=cd []:=rfl;simp only[Du,TA,aL,go_sem,a7,Pk hle (show 1<=100 by omega),Wb,bV,J,fm]
 .rintro⟨out,met⟩ h;have h:sP nx bz S.length (λx=>x<nx.length/\hasB bz x=true) out [] met:=h;refine⟨_,?_,out,rfl,h.Kb,λx J aa=>?_⟩
  .have:=yF ((nx.length:Int)<(S.length:Int));simp only[Dt,go_sem,this,fm]
  have:=h.has x ⟨by omega,J⟩;simpa using this
 .rintro i l ⟨out,met⟩ al h;have h:sP nx bz S.length (λx=>x<i/\hasB bz x=true) out [] met:=h;have af:=(xaa.1 al).1;have bY:=yT ((i:Int)<(S.length:Int));obtain⟨c,ai⟩:=BE (l:=met) (j:=i) (by have:=h.len;omega);have dR:cL met.length (I (i:Int))=some i:=J8 (by have:=h.len;omega);have bS:=Wm n bz i cX;have Wn:=h.met i;rw[ai]at Wn;have aho:∀x,x<i+1->x<i\/x=i:=λx ad=>by omega
  left;by_cases nE:hasB bz i=true/\c=false
  .obtain⟨BC,rfl⟩:=nE;rw[BC]at bS;have gP:i∉out:=λhm=>by simp[hm]at Wn
   obtain⟨aR,ay⟩:=h.Kb;have hO:sP nx bz S.length (λx=>x<i+1/\hasB bz x=true) out [(i,0)] (met.set i true):=by
    refine⟨⟨_,ay.start BC (by omega) gP⟩,by simpa using h.len,λx=>?_,λx ad=>?_⟩;.rw[J9 (by have:=h.len;omega),h.met x];simp
    rcases aho x ad.1 with eF|rfl;.have:=h.has x ⟨eF,ad.2⟩;simp at this;exact .inl this
    exact .inr (by simp)
   obtain⟨sQ,k3,b0,bR⟩:=aAA g n aN bz cX (I (i:Int)) hO;have aL:D.aV 2 [[I (i:Int),I 0]]=lp [(i,0)]:=rfl;have a2:dV 2 (D.agg [I (i:Int),I 0])=true:=rfl;refine⟨(sQ,k3),?_,bR⟩;simp only[Dt,go_sem,bY,bS,sK,dR,yt ai,fN,a2,fm,iM,Wa,aL,b0,cm (bt:=false) (i:=i) (by omega)]
  refine⟨(out,met),?_,h.Kb,h.len,h.met,λx ad=>?_⟩;.cases BC:hasB bz i with|false=>rw[BC]at bS;simp only[Dt,go_sem,bY,bS,sK,fm,iM,cm (bt:=false) (i:=i) (by omega)]|true=>rw[BC]at bS nE;cases c with|false=>exact absurd ⟨rfl,rfl⟩ nE|true=>simp only[Dt,go_sem,bY,bS,sK,dR,yt ai,fN,fm,iM,cm (bt:=false) (i:=i) (by omega)]
  rcases aho x ad.1 with eF|rfl;.exact h.has x ⟨eF,ad.2⟩
  refine .inl ?_;cases c with|false=>exact absurd ⟨ad.2,rfl⟩ nE|true=>simpa using Wn
 refine⟨⟨[],kG.nil⟩,by simp,λx=>?_,λx ad=>absurd ad.1 (xaJ _)⟩;rw[xca];split<;>simp
end
def mU(a b:Nat):Bool:=decide (a<=b)
def ahp(a:Nat):∀l:List Nat,rU nq (a:Int) (ci l)=ci (rU mU a l)
 |[]=>rfl
 |b::r=>by
  have e:ci (b::r)=(b:Int)::ci r:=rfl;have d:nq (a:Int) (b:Int)=mU a b:=by unfold nq mU;congr 1;simp
  rw[e,rU,rU,d];cases mU a b with|true=>rfl|false=>rw[xae (by simp),xae (by simp),ahp a r];rfl
def ahq:∀l:List Nat,iZ nq (ci l)=ci (iZ mU l)
 |[]=>rfl|a::r=>by have e:ci (a::r)=(a:Int)::ci r:=rfl;rw[e,iZ,ahq r,ahp];rfl
def aAG(l:List Nat):j5 (ci l)=cd l:=by simp[j5,ci,cd]
def aAH{l:List Nat}(h:l.Nodup):(iZ mU l).Pairwise (·<·):=by have J:=Gy (le:=mU) (by intro a b c;simp[mU];omega) (by intro a b;simp[mU];omega) l;have aa:(iZ mU l).Nodup:=(xt mU l).nodup_iff.2 h;refine(J.and aa).imp ?_;rintro a b ⟨ax,bh⟩;simp[mU]at ax;omega
def aAI(n:Nat)(l:List Nat)(h:l.length<=1000000000)(au:l≠[]):Gz n [cd l]=some [D.a6 [],cd (iZ mU l)]:=by have e:oz (ba (cd l))=some (ci l):=Wk l;have ai:(ci l).length<=1000000000/\ci l≠[]:=⟨by simpa[ci]using h,by cases l with|nil=>exact absurd rfl au|cons=>simp[ci]⟩;show(ab (oz (ba (cd l))) λl=>if l.length<=1000000000/\l≠[]then some [D.a6 [],j5 (iZ nq l)]else none)=_;rw[e,dT,xac ai,ahq,aAG]
def Ps(p q:List Nat):Prop:=hd (ci p) (ci q)<0
theorem aAJ(l:er):vp (l.map λs=>[cd s])=some (l.map ci):=by induction l with|nil=>rfl|cons a r ih=>rw[xau];show(ab (oz (a.map λ(k:Nat)=>[I (k:Int)])) λx=>ab (vp (r.map λs=>[cd s])) λl=>some (x::l))=_;rw[Wk,ih];rfl
def aAK{a b:List Nat}(h:ci a=ci b):a=b:=by have:=congrArg (List.map Int.toNat) h;simpa[ci,List.map_map,Function.comp_def]using this
def aAL(n:Nat)(l:er)(h:l.length<=1000000000)(ay:l.Nodup)(al:∀x∈l,x.length<=1000000000):∃jT,CM n [dn l]=some [D.a6 [],dn jT]/\jT.Perm l/\jT.Pairwise Ps:=by
 have e:vp (ba (dn l))=some (l.map ci):=aAJ l;have kp:(l.map ci).Nodup:=by rw[List.nodup_iff_pairwise_ne]at ay⊢;rw[List.pairwise_map];exact ay.imp λh e=>h (aAK e)
 have ai:(l.map ci).length<=1000000000/\(l.map ci).Nodup/\∀x∈l.map ci,x.length<=1000000000:=⟨by simpa using h,kp,by intro x ad;obtain⟨y,aE,rfl⟩:=xaO.1 ad;simpa[ci]using al y aE⟩;have fQ:CM n [dn l]=some [D.a6 [],rT (iZ iB (l.map ci))]:=by show(ab (vp (ba (dn l))) λl=>if l.length<=1000000000/\l.Nodup/\(∀x∈l,x.length<=1000000000)then some [D.a6 [],rT (iZ iB l)]else none)=_;rw[e,dT,xac ai]
 rw[fQ];have aU:=xt iB (l.map ci);have aC:=Gy (le:=iB) Sd aat (l.map ci);generalize iZ iB (l.map ci)=z at aU aC;have bG:(z.map λs=>s.map Int.toNat).map ci=z:=by
  rw[List.map_map];have:∀s∈z,(ci∘λ(s:List Int)=>s.map Int.toNat) s=s:=by intro s aC;obtain⟨y,aE,rfl⟩:=xaO.1 (aU.mem_iff.1 aC);simp[ci,List.map_map,Function.comp_def]
  rw[List.map_congr_left this,List.map_id']
 have aAM:rT z=dn (z.map λs=>s.map Int.toNat):=by rw[<-ahl,bG]
 refine⟨z.map λs=>s.map Int.toNat,?_,?_,?_⟩;.rw[aAM]
 .have:=aU.map λ(s:List Int)=>s.map Int.toNat;rw[List.map_map]at this;have a7:l.map ((λ(s:List Int)=>s.map Int.toNat)∘ci)=l:=by
   have:∀s∈l,((λ(s:List Int)=>s.map Int.toNat)∘ci) s=s:=λs _=>by simp[ci,List.map_map,Function.comp_def]
   rw[List.map_congr_left this,List.map_id']
  rwa [a7]at this
 have BU:z.Nodup:=aU.nodup_iff.2 kp;have ax:z.Pairwise λa b=>hd a b<0:=(aC.and BU).imp λ{a b} ⟨J,aa⟩=>by
  simp only[iB,xaz]at J;rcases Int.lt_or_eq_of_le J with h|h
  .exact h
  exact absurd (Gv h) aa
 rw[<-bG,List.pairwise_map]at ax;exact ax
section
variable(n:Nat)(bz:List Bool)(cX:bz.length<=1000000000)
include cX
theorem aAN(k:Nat)(p:List Bool×List Nat)(h:p.2.length<1000000000):Dv n [I (k:Int),.agg [cR bz],cR p.1,cd p.2]=some [D.a6 [],.agg [cR bz],cR (if hasB bz k=true then kd (k:Int) p else p).1,cd (if hasB bz k=true then kd (k:Int) p else p).2]:=by have bS:=Wm n bz k cX;have hm:=Wd n (k:Int) p h;cases af:hasB bz k with|true=>rw[af]at bS;simp only[Dv,go_sem,bS,iM,fm,hm]|false=>rw[af]at bS;simp only[Dv,go_sem,bS,iM,fm]
theorem aAO(l:List Nat)(p:List Bool×List Nat)(h:p.2.length+l.length<1000000000)(aN:l.length<n):IL n [cd l,.agg [cR bz],cR p.1,cd p.2]=some [D.a6 [],.agg [cR bz],cR (pV (hasB bz) l p).1,cd (pV (hasB bz) l p).2]:=by
 have af:=dC (f:=M9 n) l (λi (p:List Bool×List Nat)=>[cd l,I l.length,I (i:Int),.agg [cR bz],cR p.1,cd p.2]) (λr p=>(.inl [.agg [cR bz],cR (pV (hasB bz) r p).1,cd (pV (hasB bz) r p).2]:List D⊕List D)) (λi p=>p.2.length+(l.length-i)<1000000000) ?_ ?_ n 0 p (by omega) (by omega) (xaj _);.have b1:(I ((0:Nat):Int))=I 0:=rfl;rw[b1,xam]at af;simp only[IL,go_sem,yr,iM,fm,af]
 .intro p _;simp only[M9,go_sem,yF ((l.length:Int)<l.length),iM,fm];rfl
 intro i a p aH af aU;have:=ag8 (a:Int) p;left;refine⟨if hasB bz a=true then kd (a:Int) p else p,?_,by rw[aAq],by split<;>omega⟩;simp only[M9,go_sem,yT ((i:Int)<(l.length:Int)),sL aH,fN,iM,fm,aAN n bz cX a p (by omega),cm (bt:=false) (i:=i) (by omega)]
end
structure ER(nx P:er)(bz:List Bool)(N:Nat)(M:Nat->Prop)(r:Nat)(part:List Nat)(p:List Bool×List Nat):Prop where
 bi:ys (dN nx) (hasB bz) N (dN P) M r part p.2
 len:p.1.length=N
 met:∀x:Nat,p.1[x]?=some true↔M x\/x∈part++p.2
def Ka.eV{N:Nat}{nx P:er}(v:Ka N nx P){a:Nat}(h:a<N):bX 1 (dn P) (I (a:Int))=some [cd (dN P a)]:=by
 have:P[a]?=some (dN P a):=by unfold dN;rw[xab (by rw[v.len];exact h)];rfl
 exact Pd this
section
variable{N:Nat}{nx P:er}(g:ln N nx)(v:Ka N nx P)(n:Nat)(aN:100000000<n)(bz:List Bool)(cX:bz.length<=1000000000)
include g v aN cX
theorem aAP(Pt gv ES:D)(aT:D.aV 1 (ba ES)=ES){M:Nat->Prop}{r:Nat}{part:List Nat}{p:List Bool×List Nat}(h:ER nx P bz N M r part p): ∃(BH:List Nat)(k3:List Bool),bL (IM n) n [Pt,dn P,gv,.agg [cR bz],ES,cd part,cR p.1,cd p.2]=some (.inl [Pt,dn P,gv,.agg [cR bz],ES,cd BH,cR k3,cd []])/\ER nx P bz N M r BH (k3,[]):=by
 have hle:=g.le;have H:=JY (f:=IM n) (λ(s:List Nat×List Bool×List Nat)=>[Pt,dn P,gv,.agg [cR bz],ES,cd s.1,cR s.2.1,cd s.2.2]) (λs=>s.2.1.count false+s.2.2.length) (λs=>ER nx P bz N M r s.1 s.2) (λy=>∃(BH:List Nat)(k3:List Bool),y=(.inl [Pt,dn P,gv,.agg [cR bz],ES,cd BH,cR k3,cd []]:List D⊕(List D⊕(List D⊕(List D⊕D))))/\ER nx P bz N M r BH (k3,[])) ?_ n (part,p) h ?_
 .obtain⟨y,J,BH,k3,rfl,aa⟩:=H;exact⟨BH,k3,J,aa⟩
 .rintro⟨part,met,todo⟩ h;have h:ER nx P bz N M r part (met,todo):=h;cases todo with
  |nil=>
   right;refine⟨_,?_,part,met,rfl,h⟩;have b1:decide ((0:Int)>0)=false:=by decide
   have aL:(((ba (cd [])).length:Nat):Int)=0:=rfl;simp only[IM,go_sem,aL,b1,iM,fm,aT]
  |cons i t=>
   left;obtain⟨_,Wo,_⟩:=h.bi.ok i (by simp);have jA:=v.Pm i;have ahr:met.length=N:=h.len;have rf:part.length+(t.length+1)<=N:=by have:=vW N _ h.bi.o5 λx ad=>(h.bi.ok x ad).2.1;simpa using this
   obtain⟨new,q⟩:=EP (((dN P i).filter (hasB bz)).map λ(k:Nat)=>(k:Int)) (met,t);have we:=q.oI;simp only at we;have nE:∀j∈new,j∈dN P i/\hasB bz j=true/\j<N/\¬M j/\j∉part++i::t:=λj aB=>by
    obtain⟨J,aa⟩:=q.yu j aB;obtain⟨ax,bh⟩:=ahf.1 aa;have b9:¬(M j\/j∈part++i::t):=by rw[<-h.met j];show¬met[j]?=some true;rw[show met[j]?=some false from J];simp
    exact⟨ax,bh,(g.BF ((v.mem i j).1 ax)).1,λcM=>b9 (.inl cM),λhm=>b9 (.inr hm)⟩
   have ft:∀j∈dN P i,hasB bz j=true->M j\/j∈part++i::t\/j∈new:=λj aB af=>by
    have aC3:=(g.BF ((v.mem i j).1 aB)).1;have J:=q.all j (ahf.2 ⟨aB,af⟩) (by simp only;omega);rcases(q.met j).1 J with aa|aa
    .rcases(h.met j).1 aa with ax|ax;.exact .inl ax
     exact .inr (.inl ax)
    exact .inr (.inr aa)
   have e3:=h.bi.next (λj aB=>(v.mem i j).1 aB) q.We nE ft
   have mW:(ba (cd (i::t))).length=t.length+1:=by rw[pT];simp
   have aL:decide (((t.length+1:Nat):Int)>0)=true:=xaq (by omega);have cG:(ba (cd (i::t)))[0]?=some [I (i:Int)]:=by simp[cd]
   have e4:bZ (I (i:Int))=true:=rfl;have Wp:cZ (part.length+1) 8=true:=Wc (by omega);have fP:=aAO n bz cX (dN P i) (met,t) (by simp only;omega) (by omega);refine⟨(part++[i],pV (hasB bz) (dN P i) (met,t)),?_,⟨?_,by rw[pV,q.len];exact h.len,λx=>?_⟩,by rw[pV,we];simp only[xan];omega⟩
   .simp only[IM,go_sem,mW,aL,aAt,cG,fN,aAs,yT (1+t.length<=t.length+1),e4,pT,xan,xaA,xay,Wp,v.eV Wo,iM,fm,aAr,fP,aT,yq]
   .rw[pV,q.todo];exact e3
   show(pV (hasB bz) (dN P i) (met,t)).1[x]?=some true↔M x\/x∈part++[i]++(pV (hasB bz) (dN P i) (met,t)).2;rw[pV,q.todo,q.met x];show met[x]?=some true\/_↔_;have:=h.met x;simp only at this;rw[this,or_assoc];refine or_congr_right ?_;simp only[xas,xal,xbO];constructor
   .rintro((h|h|h)|h);.exact .inl (.inl h)
    .exact .inl (.inr (.inl h))
    .exact .inr (.inl h)
    exact .inr (.inr h)
   rintro((h|h|h)|h|h);.exact .inl (.inl h)
   .exact .inl (.inr (.inl h))
   .simp at h
   .exact .inl (.inr (.inr h))
   exact .inr h
 have J:p.1.count false<=N:=by rw[<-h.len];exact List.count_le_length
 have aa:part.length+p.2.length<=N:=by have:=vW N _ h.bi.o5 λx ad=>(h.bi.ok x ad).2.1;simpa using this
 simp only;omega
end
structure ahs(nx:er)(bz:List Bool)(N:Nat)(l:List Nat)(k:Nat)(out:er)(met:List Bool):Prop where
 Pu:qp (dN nx) (hasB bz) N l k (λx=>met[x]?=some true)
 len:met.length=N
 hC:∀p∈out,(∃r,hasB bz r=true/\r<N/\∀x,x∈p↔nD (dN nx) (hasB bz) r x)/\p.Pairwise (·<·)
 Wq:∀x:Nat,met[x]?=some true->∃p∈out,x∈p
 sub:∀p∈out,∀x∈p,met[x]?=some true
 o5:out.Nodup
 Pm:out.length+k<=l.length
section
variable{N:Nat}{nx P:er}(g:ln N nx)(v:Ka N nx P)(n:Nat)(aN:100000000<n)(bz:List Bool)(cX:bz.length<=1000000000)
include g v aN cX
theorem aAQ(l:List Nat)(kL:Pg (dN nx) (hasB bz) l)(bD:∀x∈l,hasB bz x=true/\x<N)(ft:∀x,hasB bz x=true->x<N->x∈l)(ahe:l.length<=N): ∃out:er,bL (Dw n) n [cd l,dn P,I ((l.length:Int)-1),.agg [cR bz],dn [],cR (List.replicate N false),cd []]=some (.inl [dn out])/\sN (dN nx) (hasB bz) N out/\out.Nodup/\out.length<=N:=by
 have hle:=g.le;have H:=JY (f:=Dw n) (λ(s:Nat×er×List Bool)=>[cd l,dn P,I ((s.1:Int)-1),.agg [cR bz],dn s.2.1,cR s.2.2,cd []]) (λs=>s.1) (λs=>s.1<=l.length/\ahs nx bz N l s.1 s.2.1 s.2.2) (λy=>∃out:er,y=(.inl [dn out]:List D⊕D)/\sN (dN nx) (hasB bz) N out/\out.Nodup/\out.length<=N) ?_ n (l.length,[],List.replicate N false) ?_ ?_
 .obtain⟨y,J,out,rfl,aa⟩:=H;exact⟨out,J,aa⟩
 .rintro⟨k,out,met⟩ ⟨ah,h⟩;have ah:k<=l.length:=ah;have h:ahs nx bz N l k out met:=h;cases k with
  |zero=>
   right;refine⟨_,?_,out,rfl,⟨h.hC,λx J aa=>?_⟩,h.o5,by have:=h.Pm;omega⟩
   .have b1:decide ((((0:Nat):Int)-1)>=0)=false:=by decide
    simp only[Dw,go_sem,b1,rb]
   obtain⟨j,aB⟩:=xaG.1 (ft x J aa);exact h.Wq x (h.Pu.up j x (xaj _) aB)
  |succ k=>
   left;have jY:k<l.length:=by omega
   have av:=xab jY;generalize l[k]=r at av;obtain⟨hk,aht⟩:=bD r (xad av);have jA:=h.Pm;have ahr:=h.len;have b1:((k+1:Nat):Int)-1=(k:Int):=by omega
   have aL:decide ((k:Int)>=0)=true:=xaq (by omega);have a7:bB false .sub (I (k:Int)) (I 1)=some (I ((k:Int)-1)):=nU (by omega) (by omega);obtain⟨c,ai⟩:=BE (l:=met) (j:=r) (by omega);have dR:cL met.length (I (r:Int))=some r:=J8 (by omega);cases c with
   |true=>refine⟨(k,out,met),?_,⟨by simp only;omega,h.Pu.skip av ai,h.len,h.hC,h.Wq,h.sub,h.o5,by simp only at*;omega⟩,by simp only;omega⟩;simp only[Dw,go_sem,b1,aL,sL av,fN,sK,dR,yt ai,rb,iM,fm,a7]
   |false=>
    have Kd:=Wd n (r:Int) (met,[]) (by simp);have bV:kd (r:Int) (met,[])=(met.set r true,[r]):=by rw[kd,xac (by simp[ai])];simp
    rw[bV]at Kd;have aAR:ER nx P bz N (λx=>met[x]?=some true) r [] (met.set r true,[r]):=⟨ys.start hk aht (by rw[ai];simp),by simpa using ahr,λx=>by show(met.set r true)[x]?=some true↔_;rw[J9 (by omega)];simp⟩
    obtain⟨part,k3,b0,bR⟩:=aAP g v n aN bz cX (cd l) (I (k:Int)) (dn out) rfl aAR;have e3:=bR.bi;have ET:=aAe kL ft (λx y aE=>(g.BF aE).2) h.Pu av (by rw[ai];simp) e3 λi j _ kj=>(v.mem i j).2 kj;have J7:r∈part:=(ET r).2 (.refl r);have J6:part≠[]:=λe=>by subst e;simp at J7
    have kp:part.Nodup:=by simpa using e3.o5
    have aC4:part.length<=N:=vW N part kp λx ad=>(e3.ok x (by simpa using ad)).2.1;have Ua:=aAI n part (by omega) J6;have gA:∀x,x∈iZ mU part↔x∈part:=λx=>(xt mU part).mem_iff;have Pv:∀x:Nat,k3[x]?=some true↔met[x]?=some true\/x∈part:=λx=>by have:=bR.met x;simpa using this
    have e4:bZ (cd (iZ mU part))=true:=rfl;have Wp:cZ (out.length+1) 24=true:=fV (by omega) (by omega);have dI:D.aV 1 ([]:List (List D))=cd []:=rfl;refine⟨(k,out++[iZ mU part],k3),?_,⟨by simp only;omega,?_⟩,by simp only;omega⟩
    .simp only[Dw,go_sem,b1,aL,sL av,fN,sK,dR,yt ai,rb,iM,fm,Kd,dI,b0,Ua,e4,J1,xan,xaA,xay,Wp,J2,a7]
    have aAS:qp (dN nx) (hasB bz) N l k (λx=>k3[x]?=some true):=by
     have:=h.Pu.next av ET λx ad=>by obtain⟨a,b,_⟩:=e3.ok x (by simpa using ad);exact⟨a,b⟩
     have e:(λx:Nat=>k3[x]?=some true)=λx=>met[x]?=some true\/x∈part:=funext λx=>propext (Pv x);rw[e];exact this
    refine⟨aAS,bR.len,?_,?_,?_,?_,by simp only[xaQ,xan,xaA];omega⟩
    .intro p aU;rcases xas.1 aU with aU|aU
     .exact h.hC p aU
     simp at aU;subst aU;exact⟨⟨r,hk,aht,λx=>by rw[gA x];exact ET x⟩,aAH kp⟩
    .intro x ad;rcases(Pv x).1 ad with ad|ad
     .obtain⟨p,J,aa⟩:=h.Wq x ad;exact⟨p,xaX _ J,aa⟩
     exact⟨iZ mU part,by simp,(gA x).2 ad⟩
    .intro p aU x ad;rcases xas.1 aU with aU|aU
     .exact(Pv x).2 (.inl (h.sub p aU x ad))
     simp at aU;subst aU;exact(Pv x).2 (.inr ((gA x).1 ad))
    rw[xbB];refine⟨h.o5,by simp,?_⟩;intro a aH b aj e;simp at aj;subst aj;subst e;have:=h.sub _ aH r ((gA r).2 J7);rw[ai]at this;simp at this
 .refine⟨xaT _,?_,by simp,by simp,?_,by simp,by simp,by simp⟩
  .have e:(λx:Nat=>(List.replicate N false)[x]?=some true)=λ_=>False:=by
    funext x
    rw[xca];split<;>simp
   show qp _ _ _ _ _ (λx:Nat=>(List.replicate N false)[x]?=some true);rw[e];exact qp.start
  intro x ad;simp only at ad;rw[xca]at ad;split at ad<;>simp at ad
 simp only;omega
end
structure ahu(N:Nat)(nx:er)(bz:List Bool)(out:er):Prop where
 EU:sN (dN nx) (hasB bz) N out
 ord:out.Pairwise Ps
 len:out.length<=N
def sN.small{N:Nat}{nx:er}(g:ln N nx){bz:List Bool}{out:er}(h:sN (dN nx) (hasB bz) N out){p:List Nat}(aU:p∈out):(∀x∈p,x<N/\hasB bz x=true)/\p.length<=N/\p≠[]:=by
 obtain⟨⟨r,eM,eG,hF⟩,w5⟩:=h.each p aU;have key:∀x∈p,x<N/\hasB bz x=true:=by
  intro x ad;obtain⟨J,_⟩:=(hF x).1 ad;refine⟨?_,aAd J eM⟩;have gen:∀a b,fv (o4 (dN nx) (hasB bz)) a b->a<N->b<N:=by
   intro a b hf
   induction hf with|refl=>exact id|step h _ ih=>intro _;exact ih (g.BF h.2.2).2
  exact gen r x J eG
 refine⟨key,vW N p (w5.imp λh=>Nat.ne_of_lt h) λx ad=>(key x ad).1,λe=>?_⟩;have:=(hF r).2 (.refl r);rw[e]at this;simp at this
section
variable{S:fe}{nx:er}(e7:List Nat)(e8:List (List Bool))(g:ln S.length nx)(n:Nat)(aN:100000000<n)(bz:List Bool)(cX:bz.length<=1000000000)
include g aN cX
theorem aAT:∃out:er,AS n [sO S nx e7 e8,cR bz]=some (dn out)/\ahu S.length nx bz out:=by
 have hle:=g.le;obtain⟨l,mu,⟨aR,k5⟩,JV⟩:=aAF g n aN bz cX;obtain⟨P,eQ,v⟩:=aAv e7 e8 g;have kp:l.Nodup:=by simpa using k5.o5
 have bD:∀x∈l,hasB bz x=true/\x<S.length:=λx ad=>k5.ok x (by simpa using ad);have aAU:=vW S.length l kp λx ad=>(bD x ad).2;obtain⟨out,e4,kk,yv,OG⟩:=aAQ g v n aN bz cX l k5.J4 bD JV aAU;obtain⟨sQ,s1,s2,iP⟩:=aAL n out (by omega) yv λp aU=>by have:=(kk.small g aU).2.1;omega
 refine⟨sQ,?_,kk.perm s2,iP,by rw[s2.length_eq];exact OG⟩;have aL:L6 n [sO S nx e7 e8]=some (dn P):=eQ;have a7:D.fn (.func kr) [] [.ref [cR bz] 0]=Wl bz:=rfl;have bV:bB false .sub (I (l.length:Int)) (I 1)=some (I ((l.length:Int)-1)):=nU (by omega) (by omega);have cG:D.aV 1 ([]:List (List D))=cd []:=rfl;have dI:dn []=cd []:=rfl;have fx:bZ (cR bz)=true:=rfl;rw[dI]at e4;simp only[AS,abO,go_sem,uJ.1,uJ.2.1,uJ.2.2.1,uJ.2.2.2.1,uJ.2.2.2.2,Wf,fx,a7,mu,aL,o3,Pk hle (show 1<=100 by omega),Wb,yr,bV,cG,e4,rb,s1]
end
section
variable{S:fe}{nx:er}(e7:List Nat)(e8:List (List Bool))(g:ln S.length nx)(n:Nat)(aN:100000000<n)(bz:List Bool)(cX:bz.length<=1000000000)
include g aN cX
end
section
variable{S:fe}{nx:er}(e7:List Nat)(e8:List (List Bool))(g:ln S.length nx)(n:Nat)(aN:100000000<n)(bz:List Bool)(cX:bz.length<=1000000000)
include g aN cX
end
def aAV{m:ar}(G:EJ m):ln (eU m).length ((eU m).map (qo m)):=by
 have al:=G.len;refine⟨by simp,by omega,?_,?_⟩;.intro l ew;obtain⟨s,_,rfl⟩:=xaO.1 ew;have:=agZ (nC m s) (eU m) 0;show(hP (nC m s) 0 (eU m)).length<=_;omega
 intro l ew k ah;obtain⟨s,_,rfl⟩:=xaO.1 ew;have:=(agL (eU m) 0 k ah).2.1;omega
theorem aAW(m:ar):sJ m=sO (eU m) ((eU m).map (qo m)) (wx m) ((eU m).map (lR m)):=rfl
theorem Wg{l:er}{s:List Nat}(h:s∈l):∃j,dN l j=s:=by obtain⟨j,aB⟩:=xaG.1 h;exact⟨j,by unfold dN;rw[aB];rfl⟩
def lq(x:Nat):er->Nat
 |[]=>0|p::r=>(if x∈p then 1 else 0)+lq x r
def ahv(x:Nat):∀(l m:er),lq x (l++m)=lq x l+lq x m
 |[],m=>by simp[lq]|p::r,m=>by rw[xbt,lq,ahv x r m,lq];omega
def Wr{x:Nat}:∀{l:er},(∀p∈l,x∉p)->lq x l=0
 |[],_=>rfl|p::r,h=>by rw[lq,xae (h p (by simp)),Wr λq bM=>h q (by simp[bM])]
def ahw{x:Nat}:∀{l:er},l.Pairwise Ps->(∀p∈l,∀q∈l,x∈p->x∈q->p=q)->(∃p∈l,x∈p)->lq x l=1
 |[],_,_,h=>by obtain⟨p,aU,_⟩:=h;simp at aU
 |p::r,aT,hu,h=>by
  rw[xcr]at aT;rw[lq];by_cases ad:x∈p;.rw[xac ad,Wr λq bM EV=>?_];have:=hu p (by simp) q (by simp[bM]) ad EV;subst this;have:=aT.1 p bM;rw[Ps,Sa]at this;omega
  rw[xae ad,ahw aT.2 (λa aH b aj=>hu a (by simp[aH]) b (by simp[aj]))];obtain⟨q,bM,EV⟩:=h;rcases xal.1 bM with rfl|bM
  .exact absurd EV ad
  exact⟨q,bM,EV⟩
def Pw{l:List Nat}{j k:Nat}(h:l[j]?=some k):(ba (cd l))[j]?=some [I (k:Int)]:=by simp[cd,h]
def aAX(l:List Nat)(j k:Nat)(d:D):D.aV 1 ((ba (cd l)).set j (iN [d] 0 [I (k:Int)]))=cd (l.set j k):=by have e:iN [d] 0 [I (k:Int)]=[I (k:Int)]:=rfl;rw[e];simp[cd,List.map_set]
section
variable{S:fe}{nx:er}(e7:List Nat)(e8:List (List Bool))(g:ln S.length nx)(n:Nat)(aN:1000000000<n)
include g aN
theorem aAY(R:List Bool)(gQ:R.length=S.length)(ha:∀x y:Nat,R[x]?=some true->y∈dN nx x->R[y]?=some true)(oa:D):bL (I1 n) n [oa,cR R,dn nx,I (S.length:Int),I 0,dm S,dn nx,cd e7,gx e8]=some (.inl [oa,cR R,dm S,dn nx,cd e7,gx e8]):=by
 have hle:=g.le;have bJ:=g.len;have H:=dC (f:=I1 n) nx (λi (_:Unit)=>[oa,cR R,dn nx,I (S.length:Int),I (i:Int),dm S,dn nx,cd e7,gx e8]) (λ_ _=>(.inl [oa,cR R,dm S,dn nx,cd e7,gx e8]:List D⊕D)) (λ_ _=>True) ?_ ?_ n 0 () trivial (by omega) (xaj _)
 .exact H
 .intro _ _;simp only[I1,go_sem,bJ,yF ((S.length:Int)<S.length)]
 intro i l _ al af _;have bY:=yT ((i:Int)<(S.length:Int));have gA:=xad al;have adz:=g.row l gA;have aAZ:dN nx i=l:=by unfold dN;rw[al];rfl
 have Ev:=dC (f:=I0 n) l (λj (_:Unit)=>[oa,cR R,I (i:Int),dn nx,I (S.length:Int),I (i:Int),cd l,I (l.length:Int),I (j:Int),dm S,dn nx,cd e7,gx e8]) (λ_ _=>(.inl [oa,cR R,dn nx,I (S.length:Int),I (i:Int),dm S,dn nx,cd e7,gx e8]:List D⊕(List D⊕(List D⊕(List D⊕D))))) (λ_ _=>True) ?_ ?_ n 0 () trivial (by omega) (xaj _);.left;refine⟨(),?_,rfl,trivial⟩;have b1:(I ((0:Nat):Int))=I 0:=rfl;rw[b1]at Ev;simp only[I1,go_sem,bY,Pd al,fN,yr,Ev,cm (bt:=false) (i:=i) (by omega)]
 .intro _ _;simp only[I0,go_sem,yF ((l.length:Int)<l.length)]
 intro j k _ ah aB _;have ma:=g.lt l gA k (xad ah);have ct:=yT ((j:Int)<(l.length:Int));have d1:=yF ((k:Int)<0);have d2:=yF ((k:Int)>=(R.length:Int));obtain⟨c,ai⟩:=BE (l:=R) (j:=i) (by omega);obtain⟨e,he⟩:=BE (l:=R) (j:=k) (by omega);left;refine⟨(),?_,rfl,trivial⟩;cases c with|false=>simp only[I0,go_sem,ct,sL ah,fN,d1,re,d2,wy ai,cm (bt:=false) (i:=j) (by omega)]|true=>have:=ha i k ai (by rw[aAZ];exact xad ah);rw[he]at this;cases this;simp only[I0,go_sem,ct,sL ah,fN,d1,re,d2,wy ai,wy he,cm (bt:=false) (i:=j) (by omega)]
theorem aA0{R:List Bool}(gQ:R.length=S.length){T:List Bool}(bl:T.length=S.length){a:Nat}{s:List Nat}(b5:∀x∈a::s,x<S.length)(kp:(a::s).Nodup)(jj:∀x∈a::s,T[x]?=some true)(aA1:∀x∈a::s,fv (uK nx) x a)(oa lS Px Py:D)(b:Nat->Nat)(aj:∀x,b x<=1000000){M:List Nat}(cM:M.length=S.length)(Ws:∀x,x<S.length->M[x]?=some (b x)): ∃dP:List Nat,bL (I2 n) n [oa,cR R,cd (a::s),cR T,lS,Px,Py,cd (a::s),I ((a::s).length:Int),I 0,dm S,dn nx,cd e7,gx e8,cd M]=some (.inl [oa,cR R,lS,Px,Py,dm S,dn nx,cd e7,gx e8,cd dP])/\dP.length=S.length/\∀x,x<S.length->dP[x]?=some (b x+if x∈a::s then 1 else 0):=by
 have hle:=g.le;have rf:(a::s).length<=S.length:=vW _ _ kp b5;have H:=OQ (f:=I2 n) (a::s) (λj (M:List Nat)=>[oa,cR R,cd (a::s),cR T,lS,Px,Py,cd (a::s),I ((a::s).length:Int),I (j:Int),dm S,dn nx,cd e7,gx e8,cd M]) (λj M=>M.length=S.length/\∀x,x<S.length->M[x]?=some (b x+if x∈(a::s).take j then 1 else 0)) (λy=>∃dP:List Nat,y=(.inl [oa,cR R,lS,Px,Py,dm S,dn nx,cd e7,gx e8,cd dP]:List D⊕(List D⊕(List D⊕(List D⊕D))))/\dP.length=S.length/\∀x,x<S.length->dP[x]?=some (b x+if x∈a::s then 1 else 0)) ?_ ?_ n 0 M ⟨cM,λx ad=>by simpa using Ws x ad⟩ (xaj _) (by omega)
 .obtain⟨y,J,dP,rfl,aa,ax⟩:=H;exact⟨dP,J,aa,ax⟩
 .rintro M ⟨J,aa⟩;refine⟨_,?_,M,rfl,J,λx ad=>by rw[aa x ad,List.take_length]⟩;simp only[I2,go_sem,yF ((((a::s).length:Nat):Int)<((a::s).length:Nat)),fm]
 rintro j k M ah ⟨J,aa⟩;have aB:=(xaa.1 ah).1;have l1:=xad ah;have ma:=b5 k l1;have ct:=yT ((j:Int)<((a::s).length:Int));have d1:=yF ((k:Int)<0);have d2:=yF ((k:Int)>=(R.length:Int));have Ke:((T.length:Int) !=(R.length:Int))=false:=by simp[bl,gQ]
 obtain⟨B,fJ,hV,ko⟩:=Wj e7 e8 g n (by omega) [(k:Int)] (by simp) (by simp;omega);have aA2:B[a]?=some true:=(ko a).2 ⟨k,⟨by simp,ma⟩,aA1 k l1⟩;have Kf:((B.length:Int) !=(R.length:Int))=false:=by simp[hV,gQ]
 have aL:D.aV 1 [[I (k:Int)]]=cJ [(k:Int)]:=rfl;have e4:bZ (I (k:Int))=true:=rfl;have Wt:bX 1 (cd (a::s)) (I 0)=some [I (a:Int)]:=sL (j:=0) rfl;have dR:cL M.length (I (k:Int))=some k:=by rw[jZ,xac (by omega)]
 have ahx:=aa k ma;have ta:k∉(a::s).take j:=by
  intro hm;obtain⟨i,af⟩:=xaG.1 hm;rw[xaL]at af;split at af;.have:=ag1 kp af ah;omega
  cases af
 rw[xae ta,xbk]at ahx;have aC5:=aj k;have kk:bZ (I ((b k+1:Nat):Int))=true:=rfl;left;refine⟨M.set k (b k+1),?_,by simpa using J,λx ad=>?_⟩
 .simp only[I2,go_sem,ct,sL ah,fN,d1,re,d2,Ke,wy (jj k l1),e4,aL,Wf,fJ,Kf,Wt,wy aA2,pT,dR,Pw ahx,cm (bt:=false) (i:=b k) (by omega),kk,aAX,cm (bt:=false) (i:=j) (by omega)]
 by_cases Jd:x=k
 .subst Jd;have:x∈(a::s).take (j+1):=by rw[List.take_succ,ah];simp
  rw[xac this,List.getElem?_set_self (by omega)]
 rw[xck (xbV Jd),aa x ad];have:x∈(a::s).take (j+1)↔x∈(a::s).take j:=by rw[List.take_succ,ah];simp[Jd]
 simp only[this]
end
section
variable{S:fe}{nx:er}(e7:List Nat)(e8:List (List Bool))(g:ln S.length nx)(n:Nat)(aN:1000000000<n)
include g aN
theorem aA3{R:List Bool}(gQ:R.length=S.length){bz:List Bool}{out:er}(aT:ahu S.length nx bz out): ∃M:List Nat,bL (I3 n) n [cR bz,cR R,dn out,I (out.length:Int),I 0,dm S,dn nx,cd e7,gx e8,cd (List.replicate S.length 0)]=some (.inl [cR bz,cd M])/\M.length=S.length/\∀x,x<S.length->M[x]?=some (lq x out):=by
 have hle:=g.le;have Fb:=aT.len;have H:=OQ (f:=I3 n) out (λj (M:List Nat)=>[cR bz,cR R,dn out,I (out.length:Int),I (j:Int),dm S,dn nx,cd e7,gx e8,cd M]) (λj M=>M.length=S.length/\∀x,x<S.length->M[x]?=some (lq x (out.take j))) (λy=>∃M:List Nat,y=(.inl [cR bz,cd M]:List D⊕D)/\M.length=S.length/\∀x,x<S.length->M[x]?=some (lq x out)) ?_ ?_ n 0 (List.replicate S.length 0) ⟨by simp,λx ad=>by simp[ad,lq]⟩ (xaj _) (by omega)
 .obtain⟨y,J,dP,rfl,aa,ax⟩:=H;exact⟨dP,J,aa,ax⟩
 .rintro M ⟨J,aa⟩;refine⟨_,?_,M,rfl,J,λx ad=>by rw[aa x ad,List.take_length]⟩;simp only[I3,go_sem,yF ((out.length:Int)<out.length),fm]
 rintro j p M aU ⟨J,aa⟩;have aB:=(xaa.1 aU).1;have Pj:=xad aU;obtain⟨cS,e2,lE⟩:=aT.EU.small g Pj;obtain⟨⟨r,eM,eG,hF⟩,w5⟩:=aT.EU.each p Pj;obtain⟨a,s,rfl⟩:∃a s,p=a::s:=by cases p with|nil=>exact absurd rfl lE|cons a s=>exact⟨a,s,rfl⟩
 have Wi:=(cS a (by simp)).1;have ct:=yT ((j:Int)<(out.length:Int));have d0:(((a::s).length:Int)==0)=false:=by
  have:¬((a::s).length:Int)=0:=by simp;omega
  simp only[beq_eq_false_iff_ne,ne_eq,this,xcb]
 have d1:=yF ((a:Int)<0);have d2:=yF ((a:Int)>=(R.length:Int));have Wt:bX 1 (cd (a::s)) (I 0)=some [I (a:Int)]:=sL (j:=0) rfl;have e4:bZ (I (a:Int))=true:=rfl;have aL:D.aV 1 [[I (a:Int)]]=cJ [(a:Int)]:=rfl;obtain⟨T,t1,t2,t3⟩:=Wj e7 e8 g n (by omega) [(a:Int)] (by simp) (by simp;omega);have ey:∀x y,fv (o4 (dN nx) (hasB bz)) x y->fv (uK nx) x y:=λx y h=>h.mono λ_ _ h=>h.2.2;have ET:∀x∈a::s,nD (dN nx) (hasB bz) a x:=λx ad=>((hF a).1 (by simp)).symm.trans ((hF x).1 ad);have aA4:∀x,lq x (out.take j)<=1000000:=by
  intro x;have:∀l:er,lq x l<=l.length:=by
   intro l
   induction l with|nil=>exact xaT _|cons q r ih=>rw[lq,xan];split<;>omega
  have:=this (out.take j);have ax:(out.take j).length<=j:=by simp;omega
  omega
 obtain⟨dP,b0,bR,cw⟩:=aA0 e7 e8 g n aN gQ t2 (λx ad=>(cS x ad).1) (w5.imp λh=>Nat.ne_of_lt h) (λx ad=>(t3 x).2 ⟨a,⟨by simp,Wi⟩,ey _ _ (ET x ad).1⟩) (λx ad=>ey _ _ (ET x ad).2) (cR bz) (dn out) (I (out.length:Int)) (I (j:Int)) (λx=>lq x (out.take j)) aA4 J aa;left;refine⟨dP,?_,bR,λx ad=>?_⟩;.simp only[I3,go_sem,ct,Pd aU,fN,yr,d0,Wt,d1,re,d2,e4,aL,Wf,t1,fm,b0,cm (bt:=false) (i:=j) (by omega)]
 rw[cw x ad,List.take_succ,aU];simp[ahv,lq]
theorem aA5{bz:List Bool}(cX:bz.length<=1000000000){M:List Nat}(cM:M.length=S.length)(Ws:∀x,x<S.length->M[x]?=some (if hasB bz x=true then 1 else 0)):bL (A1 n) n [cR bz,I (S.length:Int),I 0,cd M]=some (.inl []):=by
 have hle:=g.le;have H:=dC (f:=A1 n) M (λi (_:Unit)=>[cR bz,I (S.length:Int),I (i:Int),cd M]) (λ_ _=>(.inl []:List D⊕D)) (λ_ _=>True) ?_ ?_ n 0 () trivial (by omega) (xaj _)
 .exact H
 .intro _ _;simp only[A1,go_sem,cM,yF ((S.length:Int)<S.length)]
 intro i k _ ah af _;have Wo:i<S.length:=by omega
 have bY:=yT ((i:Int)<(S.length:Int));have dR:cL M.length (I (i:Int))=some i:=by rw[jZ,xac af]
 have yw:=Ws i Wo;have ahy:(((0:Nat):Int)==1)=false:=rfl;have aA6:(((1:Nat):Int)==1)=true:=rfl;have g0:decide (((0:Nat):Int)>1)=false:=rfl;have g1:decide (((1:Nat):Int)>1)=false:=rfl;have ahz:(false !=false)=false:=rfl;have aA7:(true !=true)=false:=rfl;left;refine⟨(),?_,rfl,trivial⟩;by_cases ai:i<bz.length
 .have uM:bz[i]?=some (hasB bz i):=by unfold hasB;rw[xab ai];rfl
  have Pz:=yT ((i:Int)<(bz.length:Int));cases q:hasB bz i with|true=>rw[q]at uM yw;rw[xac rfl]at yw;simp only[A1,go_sem,bY,pT,dR,Pw yw,fN,aA6,re,Pz,wy uM,RS,aA7,g1,fm,cm (bt:=false) (i:=i) (by omega)]|false=>rw[q]at uM yw;rw[xae (by simp)]at yw;simp only[A1,go_sem,bY,pT,dR,Pw yw,fN,ahy,re,Pz,wy uM,RS,ahz,g0,fm,cm (bt:=false) (i:=i) (by omega)]
 have uM:hasB bz i=false:=by unfold hasB;rw[xaR (by omega)];rfl
 have Pz:=yF ((i:Int)<(bz.length:Int));rw[uM,xae (by simp)]at yw;simp only[A1,go_sem,bY,pT,dR,Pw yw,fN,ahy,re,Pz,RS,ahz,g0,fm,cm (bt:=false) (i:=i) (by omega)]
end
def aA8{m:ar}(hw:yd m)(al:VO m)(aC:ag0 m)(n:Nat)(aN:18446744073709551616<n)(a:Int)(bz:List Bool)(cX:bz.length<=1000000000):A2 (n+400) [m.d,I a,cR bz]=some (aI true):=by
 have ck:=azk n;obtain⟨b,aj,e3⟩:=az5 hw al aC (n+400) (by omega);cases b with
 |false=>simp-implicitDefEqProofs only[A2,DL,go_sem,ar.agg,ar.bf,ar.c1,ar.c2,ar.b4,ar.cT,ar.dp,ar.dq,ar.dE,ar.eta,aj,ck]
 |true=>
  obtain⟨cK,bk⟩:=e3 rfl;by_cases bG:(jo m).2.2=0
  .obtain⟨b0,bR⟩:=az3 hw cK (n+400) (by omega) bG (bk bG);obtain⟨G,_⟩:=agY hw cK (n+400) (by omega) bG (bk bG);have g:=aAV G;have aA9:=g.le;have bn:((0:Int) !=0)=false:=rfl;obtain⟨R,eM,eG,hF⟩:=Wj (wx m) ((eU m).map (lR m)) g (n+400) (by omega) [a] (by simp) (by show 1<n+400;omega);obtain⟨out,e4,yv⟩:=aAT (wx m) ((eU m).map (lR m)) g (n+400) (by omega) bz cX;obtain⟨M,m1,m2,m3⟩:=aA3 (wx m) ((eU m).map (lR m)) g (n+400) (by omega) eG yv;have ahn:∀x,x<(eU m).length->lq x out=if hasB bz x=true then 1 else 0:=by
    intro x ad;by_cases af:hasB bz x=true;.rw[xac af];refine ahw yv.ord ?_ (yv.EU.all x af ad);intro p aU q bM Wu EV;obtain⟨⟨c,c1,c2,b4⟩,cT⟩:=yv.EU.each p aU;obtain⟨⟨e,aL,a7,bV⟩,cG⟩:=yv.EU.each q bM;have lC:nD (dN ((eU m).map (qo m))) (hasB bz) c e:=((b4 x).1 Wu).trans ((bV x).1 EV).symm;exact V8 (R:=(·<·)) (λx=>xbQ x) (λx y z=>xcl) cT cG λy=>by rw[b4 y,bV y];exact⟨λh=>lC.symm.trans h,λh=>lC.trans h⟩
    rw[xae af];exact Wr λp aU Wu=>af ((yv.EU.small g aU).1 x Wu).2
   have Wv:=aA5 g (n+400) (by omega) cX m2 λx ad=>by rw[m3 x ad,ahn x ad]
   have oM:=aAY (wx m) ((eU m).map (lR m)) g (n+400) (by omega) R eG (λx y ad aE=>by obtain⟨s,s1,s2⟩:=(hF x).1 ad;exact(hF y).2 ⟨s,s1,s2.last aE⟩) (cR bz);rw[<-aAW]at eM e4;have hC:D.aV 1 [[I a]]=cJ [a]:=rfl;have Ww:bZ (I a)=true:=rfl;have Ke:((R.length:Int) !=((eU m).length:Int))=false:=by simp[eG]
   have Wx:fA (dn ((eU m).map (qo m)))=some (I ((eU m).length:Int)):=by simp[dn]
   have Kf:(((eU m).length:Int) !=((eU m).length:Int))=false:=by simp
   have mk:mC 8 (I (R.length:Int)) (I (R.length:Int))=some (eU m).length:=by rw[eG];exact Pk aA9 (by omega)
   have Wy:D.aV 1 (List.replicate (eU m).length [I 0])=cd (List.replicate (eU m).length 0):=by simp[cd]
   have Wz:fA (dn out)=some (I (out.length:Int)):=by simp[dn]
   have WA:(((ba (cd M)).length:Nat):Int)=((eU m).length:Int):=by rw[pT,m2]
   by_cases au:a>=0
   .by_cases J:a<(R.length:Int);.obtain⟨k,rfl⟩:∃k:Nat,a=(k:Int):=⟨a.toNat,by omega⟩;have ah:R[k]?=some true:=(hF k).2 ⟨k,⟨by simp,by omega⟩,.refl _⟩;simp-implicitDefEqProofs only[A2,DL,go_sem,ar.agg,ar.bf,ar.c1,ar.c2,ar.b4,ar.cT,ar.dp,ar.dq,ar.dE,ar.eta,aj,b0,kF.agg,kF.bf,kF.c1,kF.c2,kF.b4,kF.eta,bn,Ww,hC,eM,re,o3,Ke,Wx,Kf,xaq au,xaq J,wy ah,fN,oM,mk,e4,Wz,Wy,m1,WA,fm,Wv,ck]
    simp-implicitDefEqProofs only[A2,DL,go_sem,ar.agg,ar.bf,ar.c1,ar.c2,ar.b4,ar.cT,ar.dp,ar.dq,ar.dE,ar.eta,aj,b0,kF.agg,kF.bf,kF.c1,kF.c2,kF.b4,kF.eta,bn,Ww,hC,eM,re,o3,Ke,Wx,Kf,xaq au,xaD J,fN,oM,mk,e4,Wz,Wy,m1,WA,fm,Wv,ck]
   simp-implicitDefEqProofs only[A2,DL,go_sem,ar.agg,ar.bf,ar.c1,ar.c2,ar.b4,ar.cT,ar.dp,ar.dq,ar.dE,ar.eta,aj,b0,kF.agg,kF.bf,kF.c1,kF.c2,kF.b4,kF.eta,bn,Ww,hC,eM,re,o3,Ke,Wx,Kf,xaD au,fN,oM,mk,e4,Wz,Wy,m1,WA,fm,Wv,ck]
  obtain⟨b0,bR⟩:=az2 hw cK (n+400) (by omega) bG;have cp:=Pe bG;have bf:ae EM 0=da:=rfl;have jJ:((0:Int)==0)=true:=rfl;have vV:fA da=some (I 0):=rfl;simp-implicitDefEqProofs only[A2,DL,go_sem,ar.agg,ar.bf,ar.c1,ar.c2,ar.b4,ar.cT,ar.dp,ar.dq,ar.dE,ar.eta,aj,b0,az1,cp,bf,vV,jJ,ck]
end Go.Am
