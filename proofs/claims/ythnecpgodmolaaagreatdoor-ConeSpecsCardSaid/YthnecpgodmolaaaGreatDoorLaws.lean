/- The laws, on data. No condition. -/
import Derived.Test.YthnecpgodmolaaaGreatDoorEngD
import Derived.Test.YthnecpgodmolaaaGreatDoorCode
import Derived.Test.YthnecpgodmolaaaGreatDoorEngS
set_option linter.all false
set_option linter.unnecessarySimpa false
namespace Go.Am
def hk(op:Int):Int×Int:=if op=1\/op=2\/op=3\/op=4 then(0,0)else if op=5 then(1,1)else if op=6\/op=7 then(1,64)else if op=18 then(3,3)else if op<1\/op>18 then(-1,-1)else(2,2)
def Dx(op:Int):Bool:=op==3||op==4
def iz(t:Tm):Int:=if(hk t.op).1<0 then 11
 else if(t.num<(if t.op=1 then-255 else 0))\/t.num>(if t.op=1 then 255 else if t.op=2 then 1 else 0)then 2
 else if(if Dx t.op then t.name=⟨#[]⟩\/t.name.size>24 else t.name≠⟨#[]⟩)then 12
 else if(t.aT.length:Int)<(hk t.op).1\/(t.aT.length:Int)>(hk t.op).2 then 3 else 0
def atu(n:Nat)(op:Int):F8 n [J op]=some (.a1 [J (hk op).1,J (hk op).2]):=by
 rcases LB op with rfl|rfl|rfl|rfl|rfl|rfl|rfl|rfl|rfl|rfl|rfl|rfl|rfl|rfl|rfl|rfl|rfl|rfl|h
 case inr.inr.inr.inr.inr.inr.inr.inr.inr.inr.inr.inr.inr.inr.inr.inr.inr.inr=>
  have e:∀k:Int,1<=k->k<=18->(op==k)=false:=λk ab af=>by simp;omega
  have aZ:hk op=(-1,-1):=by unfold hk;repeat(first|rw[xaa (by omega)]|rw[xad (by omega)])
  simp[F8,aak,e,aZ]
 all_goals rfl
def atv(n:Nat)(op:Int):CZ n [J op]=some (.a1 [J (hk op).1,J (hk op).2]):=by
 rcases LB op with rfl|rfl|rfl|rfl|rfl|rfl|rfl|rfl|rfl|rfl|rfl|rfl|rfl|rfl|rfl|rfl|rfl|rfl|h
 case inr.inr.inr.inr.inr.inr.inr.inr.inr.inr.inr.inr.inr.inr.inr.inr.inr.inr=>
  have e:∀k:Int,1<=k->k<=18->(op==k)=false:=λk ab af=>by simp;omega
  have aZ:hk op=(-1,-1):=by unfold hk;repeat(first|rw[xaa (by omega)]|rw[xad (by omega)])
  rcases h with h|h;.simp[CZ,Te,e,aZ,h]
  have:¬op<1:=by omega
  simp[CZ,Te,e,aZ,h,this]
 all_goals rfl
def atw(s:ByteArray):decide (s=⟨#[]⟩)=decide ((s.size:Int)<1):=by
 have:s=⟨#[]⟩↔(s.size:Int)<1:=by
  constructor;.rintro rfl;decide
  intro h;have:s.size=0:=by omega
  cases s with|mk a=>congr;exact xbf this
 simp[this]
def atx(n:Nat)(t:Tm):F9 n [t.d]=some (J (iz t)):=by
 cases t with|mk op num s b ks=>
 have ak:=atu n op;have jG:a4 4 (Tm.d (.mk op num s b ks))=true:=Tm.oN _;have bJ:ad (Tm.d (.mk op num s b ks)) 0=J op:=rfl;have aJ:ad (Tm.d (.mk op num s b ks)) 1=J num:=rfl;have aZ:ad (Tm.d (.mk op num s b ks)) 2=aC s:=rfl;have bN:ad (Tm.d (.mk op num s b ks)) 3=cl 4 b (Tm.rows ks):=rfl;generalize Tm.d (.mk op num s b ks)=x at*;simp only[iz,Tm.op,Tm.num,Tm.name,Tm.aT];simp only[F9,aal,jG,bJ,aJ,aZ,bN,s6,ak,eL,RA,xbv,xcd,Fw,l0];by_cases au:(hk op).1<0
 .simp[au]
 simp only[au,xbU,xav,xaI,BS,eL,l0];simp[Dx];grind
def ac4(n:Nat)(t:Tm)(deep:Int):zW n [t.d,J deep]=some (J (if deep>64 then 17 else iz t)):=by
 cases t with|mk op num s b ks=>
 have ak:=atv n op;have jG:a4 4 (Tm.d (.mk op num s b ks))=true:=Tm.oN _;have bJ:ad (Tm.d (.mk op num s b ks)) 0=J op:=rfl;have aJ:ad (Tm.d (.mk op num s b ks)) 1=J num:=rfl;have aZ:ad (Tm.d (.mk op num s b ks)) 2=aC s:=rfl;have bN:ad (Tm.d (.mk op num s b ks)) 3=cl 4 b (Tm.rows ks):=rfl;have cO:D.agg [J op,J num,aC s,cl 4 b (Tm.rows ks)]=(Tm.d (.mk op num s b ks)):=rfl;have aH:=atw s;simp only[iz,Tm.op,Tm.num,Tm.name,Tm.aT];simp only[zW,abg,jG,bJ,aJ,aZ,bN,cO,s6,ak,eL,RA,xbv,xcd,Fw,oL,l0];by_cases aA:deep>64
 .simp[aA]
 by_cases au:(hk op).1<0;.simp[au]
 simp only[au,aA,xbU,xav,xaI,BS,eL,l0];simp[Dx];simp at aH;grind
mutual
def df:Tm->Int->Int->Int×Int
 | .mk op n s b ks,deep,k=>if deep>64 then(17,k+1)else if iz (.mk op n s b ks)≠0 then(iz (.mk op n s b ks),k+1)else if k+1>4096 then(4,k+1)else fD ks (deep+1) (k+1)
def fD:List Tm->Int->Int->Int×Int
 |[],_,k=>(0,k)|t::r,deep,k=>if(df t deep k).1≠0 then df t deep k else fD r deep (df t deep k).2
end
theorem vx(t:Tm)(deep k:Int):df t deep k=if deep>64 then(17,k+1)else if iz t≠0 then(iz t,k+1)else if k+1>4096 then(4,k+1)else fD t.aT (deep+1) (k+1):=by cases t;rw[df];rfl
def Dy(t:Tm):∀(deep k:Int),k+1<=(df t deep k).2/\((df t deep k).1=0->(df t deep k).2<=4096):=by
 refine Tm.ind (P:=λt=>∀(deep k:Int),k+1<=(df t deep k).2/\((df t deep k).1=0->(df t deep k).2<=4096)) ?_ t;intro t ih deep k;rw[vx];split;.simp
 split;.rename_i h;simp[h]
 split;.simp
 have key:∀(l:List Tm)(deep k:Int),(∀x∈l,∀(deep k:Int),k+1<=(df x deep k).2/\((df x deep k).1=0->(df x deep k).2<=4096))->k<=4096->k<=(fD l deep k).2/\((fD l deep k).1=0->(fD l deep k).2<=4096):=by
  intro l
  induction l with
  |nil=>intro deep k _ h;simp[fD,h]
  |cons a r l4=>
   intro deep k h ak;rw[fD];have ab:=h a (by simp) deep k;split
   .rename_i af;exact⟨by omega,λaw=>absurd aw af⟩
   rename_i af;simp only[ne_eq,Decidable.not_not]at af;have aw:=l4 deep (df a deep k).2 (λx ag=>h x (by simp[ag])) (ab.2 af);exact⟨by omega,aw.2⟩
 have:=key t.aT (deep+1) (k+1) ih (by omega);exact this
def ac5:∀(n:Nat)(t:Tm)(deep k:Int),t.bm<n->t.cm->0<=deep->deep<=65->0<=k->k<=4096->tF n [t.d,J deep,J k]=some (.a1 [J (df t deep k).1,J (df t deep k).2])
 |0,t,_,_,h,_,_,_,_,_=>absurd h (xay _)
 |n+1,t,deep,k,aL,bk,ab,af,aw,a5=>by
  have aU:=ac4 n t deep;rw[vx];simp[tF,Tf,lC (bt:=false) (i:=k) (by omega) (by omega),aU];by_cases aA:64<deep;.simp[aA]
  simp[aA];by_cases hw:iz t=0
  case neg=>simp[hw]
  simp[hw];by_cases ao:4096<k+1;.simp[ao]
  simp[ao];have ar:=dD (f:=MQ (tF n) n) t.aT (λi s=>[J deep,J s,J (i:Int),J t.op,J t.num,aC t.name,cl 4 t.nl (Tm.rows t.aT)]) (λr (s:Int)=>if(fD r (deep+1) s).1=0 then(Sum.inl [J (fD r (deep+1) s).2]:List D⊕D)else .inr (.a1 [J (fD r (deep+1) s).1,J (fD r (deep+1) s).2])) (λi s=>0<=s/\s<=4096) ?_ ?_ n 0 (k+1) ⟨by omega,by omega⟩ (by have:=t.j6;omega) (xai _)
  .have bJ:(J ((0:Nat):Int))=J 0:=rfl;rw[bJ]at ar;rw[ar];simp only[xam,eL];by_cases au:(fD t.aT (deep+1) (k+1)).1=0;.simp[au]
   simp[au]
  .intro s aH;simp[MQ,fD]
  intro i a s aF ah aH;have hm:=xac aF;have bC:=Tm.je hm;have b5:=bk.len;have av:=ac5 n a (deep+1) s (by omega) (bk.gz hm) (by omega) (by omega) aH.1 aH.2;have jC:=Dy a (deep+1) s;simp[MQ,ah,Tm.gX aF,lC (bt:=false) (i:=deep) (by omega) (by omega),av,b1 (bt:=false) (i:=i) (by omega),fD];by_cases au:(df a (deep+1) s).1=0
  .left;simp only[au];exact⟨(df a (deep+1) s).2,by simp,by simp,by omega,jC.2 au⟩
  right;simp[au]
def T7(n:Nat)(t:Tm)(aL:t.bm<n)(bk:t.cm):vm n [t.d]=some (J (df t 1 0).1):=by have:=ac5 n t 1 0 aL bk (by omega) (by omega) (by omega) (by omega);simp[vm,abh,this]
def aty(n:Nat)(t:Tm)(deep k w:Int)(ab:0<=k)(af:k<=4096):∃e,e=(if deep>64 then 17 else if iz t≠0 then iz t else if k+1>4096 then 4 else 0)/\Ga n [t.d,J deep,J k,J w]=some [ay (decide (e=0)),J (k+1),J e]:=by refine⟨_,rfl,?_⟩;have aU:=atx n t;simp[Ga,lC (bt:=false) (i:=k) (by omega) (by omega),aU];by_cases bP:64<deep<;>by_cases b6:iz t=0<;>by_cases cA:4096<k+1<;>simp[bP,b6,cA]
def ac6:∀(n:Nat)(t:Tm)(deep k w:Int),t.bm<n->t.cm->0<=deep->deep<=65->0<=k->k<=4096->u0 n [t.d,J deep,J k,J w]=some [ay (decide ((df t deep k).1=0)),J (df t deep k).2,J (df t deep k).1]
 |0,t,_,_,_,h,_,_,_,_,_=>absurd h (xay _)
 |n+1,t,deep,k,w,aL,bk,ab,af,aw,a5=>by
  obtain⟨e,he,aU⟩:=aty n t deep k w aw a5;rw[vx];simp[u0,R3,aU];by_cases Iv:e=0
  case neg=>simp[Iv];grind
  have ao:¬deep>64/\iz t=0/\¬k+1>4096:=by grind
  simp[Iv,ao];have ar:=dD (f:=LU (u0 n) n) t.aT (λi (s:Int×Int)=>[J deep,cl 4 t.nl (Tm.rows t.aT),J t.aT.length,J (i:Int),J s.1,J s.2]) (λr (s:Int×Int)=>if(fD r (deep+1) s.1).1=0 then(Sum.inl [J (fD r (deep+1) s.1).2,J 0]:List D⊕List D)else .inr [ay false,J (fD r (deep+1) s.1).2,J (fD r (deep+1) s.1).1]) (λi s=>0<=s.1/\s.1<=4096/\s.2=0) ?_ ?_ n 0 (k+1,0) ⟨by simp;omega,by simp;omega,rfl⟩ (by have:=t.j6;omega) (xai _)
  .have bJ:(J ((0:Nat):Int))=J 0:=rfl;rw[bJ]at ar;rw[ar];simp only[xam,eL];by_cases au:(fD t.aT (deep+1) (k+1)).1=0;.simp[au]
   simp[au]
  .intro s aH;simp[LU,fD,aH.2.2]
  intro i a s aF ah aH;have hm:=xac aF;have bC:=Tm.je hm;have b5:=bk.len;have av:=ac6 n a (deep+1) s.1 s.2 (by omega) (bk.gz hm) (by omega) (by omega) aH.1 aH.2.1;have jC:=Dy a (deep+1) s.1;simp[LU,ah,Tm.gX aF,lC (bt:=false) (i:=deep) (by omega) (by omega),av,b1 (bt:=false) (i:=i) (by omega),fD];by_cases au:(df a (deep+1) s.1).1=0
  .left;exact⟨(df a (deep+1) s.1).2,0,by simp[au],by simp[au],by omega,jC.2 au,rfl⟩
  right;simp[au]
def Nf(n:Nat)(t:Tm)(aL:t.bm<n)(bk:t.cm):tk n [t.d]=some (J (df t 1 0).1):=by have:=ac6 n t 1 0 0 aL bk (by omega) (by omega) (by omega) (by omega);simp[tk,aam,this]
def atz{α:Type}(A B:List α)(z s:α):(((A++B++[z]).take (A.length+1)++(((A++B++[z]).drop A.length).take (B.length+1)).take (min ((((A++B++[z]).drop A.length).take (B.length+1)).length) B.length)++(A++B++[z]).drop (A.length+1+min ((((A++B++[z]).drop A.length).take (B.length+1)).length) B.length)).set A.length s)=A++s::B:=by
 have aJ:(A++B++[z]).drop A.length=B++[z]:=by rw[xaO,List.drop_left]
 have aZ:(B++[z]).take (B.length+1)=B++[z]:=xbJ (by simp);rw[aJ,aZ];have bN:min (B++[z]).length B.length=B.length:=by simp
 rw[bN];have cO:(B++[z]).take B.length=B:=List.take_left;have eg:(A++B++[z]).drop (A.length+1+B.length)=[]:=xci (by simp;omega);rw[cO,eg,xaD];obtain⟨w,hw⟩:∃w,(A++B++[z]).take (A.length+1)=A++[w]:=by rw[xaO,List.take_append];cases B with|nil=>exact⟨z,by rw[xbJ (by omega)];simp⟩|cons b B=>exact⟨b,by rw[xbJ (by omega)];simp⟩
 rw[hw,xaO];simp
def Ng{n i:Nat}(h:i<=n):ly n (some (J (i:Int))) none=some (i,n-i):=by simp[ly,rj,J,h]
theorem atA(l:List ByteArray):aq (bx l)=l.map λs=>[aC s]:=rfl
def ac7(n:Nat)(s:ByteArray)(l:List ByteArray)(aH:fN l)(aL:l.length+2<n)(ar:l.length<1000000000):w7 n [aC s,bx l]=some [bx (gr s l)]:=by
 obtain⟨a,b,rfl,af,aw,a5,ca,cP⟩:=RP s aH;have es:=atA (a++b);have key:bp (Gb n) n [aC s,J ((a++b).length:Int),bx (a++b)]=some (.inl [aC s,J (a.length:Int),bx (a++b)]):=by
  refine nu (λj=>[aC s,J (((a++b).length-j:Nat):Int),bx (a++b)]) b.length (by simp) ?_ ?_ (by simp at aL;omega)
  .intro j aN;have b5:(a++b).length=a.length+b.length:=by simp
   obtain⟨m,hm⟩:∃m:Nat,(a++b).length-j=m+1:=⟨(a++b).length-j-1,by omega⟩;have T8:(a++b).length-(j+1)=m:=by omega
   have lR:(a++b)[m]?=b[m-a.length]?:=xaJ (by omega);have cu:m-a.length<b.length:=by omega
   have atB:=xab cu;rw[atB]at lR;have aj:=aw _ (xaY cu);generalize b[m-a.length]=x at*;have oW:ai false .sub (J ((m+1:Nat):Int)) (J 1)=some (J (m:Int)):=by rw[my (by omega) (by omega)];congr 2;omega
   have vy:b9 (aq (bx (a++b))).length (J (m:Int))=some m:=by rw[oK,xad (by rw[es];simp at b5⊢;omega)]
   have e0:(aq (bx (a++b)))[m]?=some [aC x]:=by rw[es,xaj,lR];rfl
   have jC:((m+1:Nat):Int)>0:=by omega
   simp only[hm,T8];simp only[Gb,n1,pE,oL,xat jC,eL,eb,xaH,oW,vy,e0,iV,xbv,LC,aj,dQ,l0];rfl
  have b5:(a++b).length-b.length=a.length:=by simp
  simp only[b5];by_cases au:a.length=0
  .have:¬((a.length:Int)>0):=by omega
   simp only[Gb,n1,pE,oL,xaE this,eL,eb,xav,xaI,dQ,l0,Ry];rfl
  obtain⟨m,hm⟩:∃m:Nat,a.length=m+1:=⟨a.length-1,by omega⟩;have cu:m<a.length:=by omega
  have lR:(a++b)[m]?=a[m]?:=xaL cu;rw[xab cu]at lR;have aF:=af _ (xaY cu);generalize a[m]=x at*;have oW:ai false .sub (J ((m+1:Nat):Int)) (J 1)=some (J (m:Int)):=by rw[my (by omega) (by simp at ar;omega)];congr 2;omega
  have vy:b9 (aq (bx (a++b))).length (J (m:Int))=some m:=by rw[oK,xad (by rw[es];simp;omega)]
  have e0:(aq (bx (a++b)))[m]?=some [aC x]:=by rw[es,xaj,lR];rfl
  have jC:((m+1:Nat):Int)>0:=by omega
  simp only[hm];simp only[Gb,n1,pE,oL,xat jC,eL,eb,xaH,oW,vy,e0,iV,xbv,LC,aF,dQ,l0,xav,xaI,Ry];rfl
 have nL:D.ax 1 (aq (bx (a++b)))=bx (a++b):=rfl;have ac8:(aq (bx (a++b))).length=(a++b).length:=by rw[es];simp
 by_cases hB:s∈a++b
 .obtain⟨cD,rfl⟩:=a5 hB;rw[LF aH hB];have fy:(cD++[s]).length=cD.length+1:=by simp
  have oW:ai false .sub (J ((cD.length+1:Nat):Int)) (J 1)=some (J (cD.length:Int)):=by rw[my (by omega) (by simp at ar;omega)];congr 2;omega
  have vy:b9 ((cD++[s]++b).length) (J (cD.length:Int))=some cD.length:=by rw[oK,xad (by simp)]
  have e0:(aq (bx (cD++[s]++b)))[cD.length]?=some [aC s]:=by rw[es];simp
  have jC:((cD.length+1:Nat):Int)>0:=by omega
  rw[fy]at key;simp only[w7,n1,pE,ac8,nL,key,eL,qs,oL,xat jC,eb,xaH,oW,vy,e0,iV,xbv,RD,xbi,dQ,l0]
 rw[cP hB];have FA:=ca hB;have atC:aa (bL (ay (decide ((a.length:Int)>0))) true (aa (ai false .sub (J (a.length:Int)) (J 1)) λcp=>aa (b9 (a++b).length cp) λtj=>aa ((aq (bx (a++b)))[tj]?) λza=>aa (a3 false 1 0 za) λdq=>aa (ai false .eql dq (aC s)) λv30=>some v30)) (λv30=>aa (bZ (ay (decide ((a.length:Int)>0))) v30 (ay false)) λea=>some ea)=some (ay false):=by
  by_cases au:a.length=0
  .have:¬((a.length:Int)>0):=by omega
   simp only[xaE this,eb,xav,xaI,eL,dQ]
  obtain⟨m,hm⟩:∃m:Nat,a.length=m+1:=⟨a.length-1,by omega⟩;have cu:m<a.length:=by omega
  have lR:(a++b)[m]?=a[m]?:=xaL cu;rw[xab cu]at lR;have cR:a[m]≠s:=λe=>FA (by rw[<-e];exact xaY cu);generalize a[m]=x at*;have oW:ai false .sub (J ((m+1:Nat):Int)) (J 1)=some (J (m:Int)):=by rw[my (by omega) (by simp at ar;omega)];congr 2;omega
  have vy:b9 (a++b).length (J (m:Int))=some m:=by rw[oK,xad (by simp;omega)]
  have e0:(aq (bx (a++b)))[m]?=some [aC x]:=by rw[es,xaj,lR];rfl
  have jC:((m+1:Nat):Int)>0:=by omega
  rw[hm];simp only[xat jC,eb,xaH,oW,eL,vy,e0,iV,xbv,RD,xaE cR,dQ]
 obtain⟨v30,bA,bB⟩:=fw atC;obtain⟨ea,cz,ey⟩:=fw bB;cases ey;have dB:c1 ((a++b).length+1) 16=true:=fU (by omega) (by omega);have g8:=b1 (bt:=false) (i:=a.length) (by simp at ar;omega);have kh:aq (bx (a++b))++[[aC ⟨#[]⟩]]=(a.map λs=>[aC s])++(b.map λs=>[aC s])++[[aC ⟨#[]⟩]]:=by rw[es];simp
 have atD:((a.map λs=>[aC s])++(b.map λs=>[aC s])++[[aC ⟨#[]⟩]]:List (List D)).length=a.length+b.length+1:=by simp;omega
 have bP:ly (a.length+b.length+1) (some (J ((a.length+1:Nat):Int))) none=some (a.length+1,b.length):=by rw[Ng (by omega)];congr 2;omega
 have b6:ly (a.length+b.length+1) (some (J (a.length:Int))) none=some (a.length,b.length+1):=by rw[Ng (by omega)];congr 2;omega
 have Lo:=atz (a.map λs=>[aC s]) (b.map λs=>[aC s]) [aC ⟨#[]⟩] [aC s];simp only[xaS]at Lo;have Py:∀(X:List (List D)) (w:List D),X[a.length]?=some w->dF w 0 [aC s]=[aC s]->(X.set a.length (dF w 0 [aC s]))=X.set a.length [aC s]:=λX w _ h=>by rw[h]
 generalize kS:(((a.map λs=>[aC s])++(b.map λs=>[aC s])++[[aC ⟨#[]⟩]]:List (List D)).take (a.length+1)++((((a.map λs=>[aC s])++(b.map λs=>[aC s])++[[aC ⟨#[]⟩]]:List (List D)).drop a.length).take (b.length+1)).take (min (((((a.map λs=>[aC s])++(b.map λs=>[aC s])++[[aC ⟨#[]⟩]]:List (List D)).drop a.length).take (b.length+1)).length) b.length)++((a.map λs=>[aC s])++(b.map λs=>[aC s])++[[aC ⟨#[]⟩]]:List (List D)).drop (a.length+1+min (((((a.map λs=>[aC s])++(b.map λs=>[aC s])++[[aC ⟨#[]⟩]]:List (List D)).drop a.length).take (b.length+1)).length) b.length))=X at*;have aBm:X.length=a.length+b.length+1:=by have:=congrArg List.length Lo;simp at this;omega
 have vy:b9 X.length (J (a.length:Int))=some a.length:=by rw[oK,xad (by omega)]
 have hw:∃x,X[a.length]?=some [x]:=by
  have hm:∀w∈X,∃x,w=[x]:=by
   rw[<-kS];intro w hw;have hB:w∈((a.map λs=>[aC s])++(b.map λs=>[aC s])++[[aC ⟨#[]⟩]]:List (List D)):=by
    rcases xar.1 hw with hw|hw
    .rcases xar.1 hw with hw|hw;.exact xbk hw
     exact xbr (xbk (xbk hw))
    exact xbr hw
   rcases xar.1 hB with hB|hB
   .rcases xar.1 hB with hB|hB;.obtain⟨x,_,rfl⟩:=xax.1 hB;exact⟨_,rfl⟩
    obtain⟨x,_,rfl⟩:=xax.1 hB;exact⟨_,rfl⟩
   simp at hB;exact⟨_,hB⟩
  have cu:a.length<X.length:=by omega
  obtain⟨x,ag⟩:=hm _ (xaY cu);exact⟨x,by rw[xab cu,ag]⟩
 obtain⟨x,ag⟩:=hw;have T9:dF [x] 0 [aC s]=[aC s]:=rfl;have d1:decide (a.length+(b.length+1)<=a.length+b.length+1)=true:=xat (by omega);have d2:decide (a.length+1+b.length<=a.length+b.length+1)=true:=xat (by omega);have q3:bu (aC s)=true:=rfl;have nI:([[aC ⟨#[]⟩]]:List (List D)).length=1:=rfl;simp only[w7,n1,pE,ac8,nL,key,eL,qs,oL];rw[bA];simp only[eL,cz,l0,xav,xaI,nI,dB,s6,g8,kh,atD,bP,b6,d1,d2,kS,vy,q3,ag,T9,Lo];simp[bx]
def eG(nl:Bool)(l:List ByteArray):D:=cl 1 nl (l.map λs=>[aC s])
def ac9(l:List ByteArray):eG false l=bx l:=by simp[eG,bx,cl]
def ada{nl:Bool}{l:List ByteArray}(h:l≠[]):eG nl l=bx l:=by cases l with|nil=>exact absurd rfl h|cons a r=>simp[eG,bx,cl]
def ic(nl:Bool)(l:List ByteArray):bK (eG nl l)=some (J l.length):=by simp[eG]
def mF{nl:Bool}{l:List ByteArray}{i:Nat}{s:ByteArray}(h:l[i]?=some s):bn 1 (eG nl l) (J (i:Int))=some [aC s]:=by unfold eG;rw[FB];simp[h]
def atE(s:ByteArray)(l:List ByteArray):gr s l≠[]:=by cases l with|nil=>simp[gr]|cons a r=>rw[gr];split<;>(try split)<;>simp
def atF(n:Nat)(nl:Bool)(l:List ByteArray)(s:ByteArray)(aL:l.length<n)(ar:l.length<1000000000):HA n [eG nl l,aC s]=some (ay (l.any λx=>decide (x=s))):=by
 have ah:=dD (f:=Hz n) l (λi (_:Unit)=>[eG nl l,aC s,J (i:Int)]) (λr _=>if r.any (λx=>decide (x=s))=true then(.inr (ay true):List D⊕D)else .inl []) (λ_ _=>True) (λ_ _=>by simp[Hz,ic]) ?_ n 0 () trivial (by omega) (xai _)
 .have bJ:(J ((0:Nat):Int))=J 0:=rfl;rw[bJ]at ah;simp only[xam]at ah;simp only[HA,abc,ah,eL];by_cases h:l.any (λx=>decide (x=s))=true;.rw[xad h,h];rfl
  rw[xaa h];cases bj:l.any (λx=>decide (x=s))with|false=>rfl|true=>exact absurd bj h
 intro i x _ ag ah _;by_cases h:x=s;.right;simp[Hz,ic,ah,mF ag,h]
 left;exact⟨(),by simp[Hz,ic,ah,mF ag,h,b1 (bt:=false) (i:=i) (by omega)],by simp only[List.any_cons,xaE h,xbO],trivial⟩
def wf(s:ByteArray):List ByteArray->Bool->List ByteArray->Bool×List ByteArray
 |[],d,o=>(d,o)|x::r,d,o=>if(!d&&blt s x)=true then wf s r true (o++[s,x])else wf s r d (o++[x])
def adb(s:ByteArray):∀(l o:List ByteArray),wf s l true o=(true,o++l)
 |[],o=>by simp[wf]|x::r,o=>by rw[wf];simp[adb s r]
def ade(s:ByteArray):∀(a b o:List ByteArray),(∀x∈a,blt s x=false)->wf s (a++b) false o=wf s b false (o++a)
 |[],b,o,_=>by simp|x::a,b,o,h=>by rw[xbN,wf];have:=h x (by simp);simp[this,ade s a b _ (λy aP=>h y (by simp[aP]))]
def atG(s:ByteArray):∀(b o:List ByteArray),(∀x∈b,blt s x=true)->wf s b false o=(match b with|[]=>(false,o)|_=>(true,o++s::b))
 |[],o,_=>rfl|x::r,o,h=>by rw[wf];have:=h x (by simp);simp[this,adb]
@[simp] theorem Ap (p:List ByteArray) (x:ByteArray):D.ax 1 (aq (bx p)++[[aC x]])=bx (p++[x]):=by simp[bx]
@[simp] theorem Ua (p:List ByteArray):(aq (bx p)).length=p.length:=by simp[bx]
@[simp] theorem aBn (p:List ByteArray):D.ax 1 (aq (bx p))=bx p:=rfl
def atH(n:Nat)(nl:Bool)(l:List ByteArray)(s:ByteArray)(aH:fN l)(aL:l.length+2<n)(ar:l.length<1000000000):zT n [eG nl l,aC s]=some (bx (gr s l)):=by
 have hB:=atF n nl l s (by omega) ar;by_cases hm:s∈l;.have:l.any (λx=>decide (x=s))=true:=xbs.2 ⟨s,hm,by simp⟩;rw[this]at hB;rw[LF aH hm];simp only[zT,MN,hB,eL,l0,xaH];rw[ada (List.ne_nil_of_mem hm)]
 have FA:l.any (λx=>decide (x=s))=false:=by cases h:l.any (λx=>decide (x=s))with|false=>rfl|true=>obtain⟨x,ab,af⟩:=xbs.1 h;simp at af;subst af;exact absurd ab hm
 rw[FA]at hB;obtain⟨a,b,fp,af,aw,a5,ca,cP⟩:=RP s aH;have hw:wf s l false []=wf s b false a:=by rw[fp,ade s a b _ af];simp
 have nz:=dD (f:=CY n) l (λi (p:Bool×List ByteArray)=>[eG nl l,aC s,ay p.1,J (i:Int),bx p.2]) (λr p=>(.inl [aC s,ay (wf s r p.1 p.2).1,bx (wf s r p.1 p.2).2]:List D⊕D)) (λi p=>p.2.length<=i+(if p.1=true then 1 else 0)) (λp _=>by simp[CY,ic,wf]) ?_ n 0 (false,[]) (by simp) (by omega) (xai _)
 .have bJ:(J ((0:Nat):Int))=J 0:=rfl;have aJ:bx []= .ax 1 []:=rfl;rw[bJ,aJ]at nz;simp only[xam,hw]at nz;rw[cP hm];have Kf:a.length<=l.length:=by rw[fp];simp
  cases b with|nil=>simp only[wf]at nz;have dB:c1 (a.length+1) 16=true:=fU (by omega) (by omega);simp[zT,MN,hB,nz,dB]|cons c r=>have aj:=atG s (c::r) a aw;simp only at aj;rw[aj]at nz;simp[zT,MN,hB,nz]
 intro i x p ag ah aU;left;have aF:=b1 (bt:=false) (i:=i) (by omega);have oG:p.2.length<=i+1:=by split at aU<;>omega
 have e8:c1 (p.2.length+1) 16=true:=fU (by omega) (by omega);have ef:c1 (p.2.length+1+1) 16=true:=fU (by omega) (by omega);obtain⟨d,o⟩:=p;simp only at aU e8 ef;cases d with
 |true=>
  refine⟨(true,o++[x]),?_,by rw[wf];simp,?_⟩;.simp[CY,ic,ah,mF ag,e8,aF]
  simp at aU⊢;omega
 |false=>
  cases aj:blt s x
  .refine⟨(false,o++[x]),?_,by rw[wf];simp[aj],?_⟩;.simp[CY,ic,ah,mF ag,e8,aF,LC,aj,-RE]
   simp at aU⊢;omega
  refine⟨(true,o++[s]++[x]),?_,by rw[wf];simp[aj],?_⟩;.simp[CY,ic,ah,mF ag,e8,ef,aF,LC,aj,-RE]
  simp at aU⊢;omega
mutual
def db(o:Int):Tm->List ByteArray->List ByteArray
 | .mk op _ s _ ks,l=>ka o ks (if op=o then gr s l else l)
def ka(o:Int):List Tm->List ByteArray->List ByteArray
 |[],l=>l|t::r,l=>ka o r (db o t l)
end
theorem tP(o:Int)(t:Tm)(l:List ByteArray):db o t l=ka o t.aT (if t.op=o then gr t.name l else l):=by cases t;rw[db];rfl
mutual
def m5(o:Int):∀(t:Tm)(l:List ByteArray),fN l->fN (db o t l)/\(db o t l).length<=l.length+t.bm
 | .mk op n s b ks,l,h=>by
  rw[db];have ab:fN (if op=o then gr s l else l):=by split;exact w1 h;exact h
  have af:(if op=o then gr s l else l).length<=l.length+1:=by split;exact yV l;omega
  have:=adf o ks _ ab;exact⟨this.1,by simp only[Tm.bm];omega⟩
def adf(o:Int):∀(ks:List Tm)(l:List ByteArray),fN l->fN (ka o ks l)/\(ka o ks l).length<=l.length+Tm.ds ks
 |[],l,h=>⟨h,by simp[ka,Tm.ds]⟩|t::r,l,h=>by rw[ka];have ab:=m5 o t l h;have af:=adf o r _ ab.1;exact⟨af.1,by simp only[Tm.ds];omega⟩
end
theorem adg{l:List Tm}{i:Nat}{a:Tm}(h:l[i]?=some a):Tm.ds (l.drop i)=1+a.bm+Tm.ds (l.drop (i+1)):=by obtain⟨ab,af⟩:=xae.1 h;rw[xaW ab,af];rfl
def adh(nl:Bool)(s:ByteArray)(l:List ByteArray):eG nl (gr s l)=bx (gr s l):=ada (atE s l)
def Ub(o:Int):∀(n:Nat)(t:Tm)(nl:Bool)(l:List ByteArray),t.bm+l.length+10<n->t.cm->fN l->l.length+t.bm<1000000000->rV n [t.d,J o,eG nl l]=some (eG nl (db o t l))
 |0,t,_,_,h,_,_,_=>absurd h (xay _)
 |n+1,t,nl,l,aL,bk,aH,aj=>by
  have b5:=bk.len;have Dz:=t.j6;show HB (rV n) n t.d (J o) (eG nl l)=_;rw[tP];generalize iU:(if t.op=o then gr t.name l else l)=kr;have ab:fN kr:=by rw[<-iU];split;exact w1 aH;exact aH
  have af:kr.length<=l.length+1:=by rw[<-iU];split;exact yV l;omega
  have atI:Tm.ds t.aT+2=t.bm:=by cases t;simp[Tm.bm,Tm.aT];omega
  have ar:=dD (f:=MO (rV n) n) t.aT (λi (p:List ByteArray)=>[J o,eG nl p,J (i:Int),J t.op,J t.num,aC t.name,cl 4 t.nl (Tm.rows t.aT)]) (λr p=>(.inl [eG nl (ka o r p)]:List D⊕D)) (λi p=>fN p/\p.length+Tm.ds (t.aT.drop i)<=kr.length+Tm.ds t.aT) (λp _=>by simp[MO,ka]) ?_ n 0 kr ⟨ab,by simp⟩ (by omega) (xai _)
  .have bJ:(J ((0:Nat):Int))=J 0:=rfl;rw[bJ]at ar;simp only[xam]at ar;by_cases aG:t.op=o;.rw[xad aG]at iU;have hw:=atH n nl l t.name aH (by omega) (by omega);rw[iU,<-iU,<-adh nl,iU]at hw;simp[HB,aG,hw];rw[aG]at ar;rw[ar];rfl
   rw[xaa aG]at iU;subst iU;simp[HB,aG,ar]
  intro i a p aF ah aU;have hm:=xac aF;have bC:=Tm.je hm;have aA:=adg aF;have av:=Ub o n a nl p (by omega) (bk.gz hm) aU.1 (by omega);have Nh:=m5 o a p aU.1;left;refine⟨db o a p,?_,by rw[ka],Nh.1,by omega⟩;simp[MO,ah,Tm.gX aF,av,b1 (bt:=false) (i:=i) (by omega)]
def Iw(n:Nat)(t:Tm)(aL:t.bm+10<n)(bk:t.cm)(aj:t.bm<1000000000):pR n [t.d]=some (.a1 [eG true (db 3 t []),eG true (db 4 t [])]):=by have aw:=Ub 3 n t true [] (by simp;omega) bk trivial (by simp;omega);have a5:=Ub 4 n t true [] (by simp;omega) bk trivial (by simp;omega);have e:eG true []=eM:=rfl;rw[e]at aw a5;simp[pR,abd,aw,a5]
def atJ(n:Nat)(t:Tm)(fz:D)(p q:List ByteArray)(aU:fN p)(bj:fN q)(aL:p.length+q.length+5<n)(aj:p.length+q.length<1000000000):zb n [t.d,fz,bx p,bx q]=some [ay true,bx (if t.op=3 then gr t.name p else p),bx (if t.op=4 then gr t.name q else q)]:=by
 have gk:=ac7 n t.name p aU (by omega) (by omega);have hv:=ac7 n t.name q bj (by omega) (by omega);by_cases aw:t.op=3
 .simp[zb,aw,gk]
 by_cases a5:t.op=4;.simp[zb,aw,a5,hv]
 simp[zb,aw,a5]
def Uc:∀(n:Nat)(t:Tm)(deep:Int)(p q:List ByteArray),t.bm+p.length+q.length+t.bm+20<n->t.cm->fN p->fN q->0<=deep->deep+t.bm<1000000000->p.length+q.length+t.bm+t.bm<1000000000->rM n [t.d,J deep,bx p,bx q]=some [ay true,bx (db 3 t p),bx (db 4 t q)]
 |0,t,_,_,_,h,_,_,_,_,_,_=>absurd h (xay _)
 |n+1,t,deep,p,q,aL,bk,aU,bj,aBo,Fz,aj=>by
  have b5:=bk.len;have Dz:=t.j6;have atI:Tm.ds t.aT+2=t.bm:=by cases t;simp[Tm.bm,Tm.aT];omega
  have ab:=atJ n t (J deep) p q aU bj (by omega) (by omega);rw[tP,tP];generalize adi:(if t.op=3 then gr t.name p else p)=DA at*;generalize adj:(if t.op=4 then gr t.name q else q)=xz at*;have dE:fN DA:=by rw[<-adi];split;exact w1 aU;exact aU
  have di:DA.length<=p.length+1:=by rw[<-adi];split;exact yV p;omega
  have bA:fN xz:=by rw[<-adj];split;exact w1 bj;exact bj
  have bB:xz.length<=q.length+1:=by rw[<-adj];split;exact yV q;omega
  have ar:=dD (f:=LV (rM n) n) t.aT (λi (z:List ByteArray×List ByteArray)=>[J deep,cl 4 t.nl (Tm.rows t.aT),J t.aT.length,J (i:Int),bx z.1,bx z.2]) (λr z=>(.inl [bx (ka 3 r z.1),bx (ka 4 r z.2)]:List D⊕List D)) (λi z=>fN z.1/\fN z.2/\z.1.length+Tm.ds (t.aT.drop i)<=DA.length+Tm.ds t.aT/\z.2.length+Tm.ds (t.aT.drop i)<=xz.length+Tm.ds t.aT) (λz _=>by simp[LV,ka]) ?_ n 0 (DA,xz) ⟨dE,bA,by simp,by simp⟩ (by omega) (xai _);.have bJ:(J ((0:Nat):Int))=J 0:=rfl;rw[bJ]at ar;simp only[xam]at ar;simp[rM,R4,ab,ar]
  intro i a z aF ah bC;obtain⟨iZ,pf,adk,adl⟩:=bC;have hm:=xac aF;have aBp:=Tm.je hm;have aA:=adg aF;have av:=Uc n a (deep+1) z.1 z.2 (by omega) (bk.gz hm) iZ pf (by omega) (by omega) (by omega);have k2:=m5 3 a z.1 iZ;have qh:=m5 4 a z.2 pf;left;refine⟨(db 3 a z.1,db 4 a z.2),?_,by simp[ka],k2.1,qh.1,by simp only;omega,by simp only;omega⟩;simp[LV,ah,Tm.gX aF,av,lC (bt:=false) (i:=deep) (by omega) (by omega),b1 (bt:=false) (i:=i) (by omega)]
def Ix(n:Nat)(t:Tm)(aL:t.bm+t.bm+30<n)(bk:t.cm)(aj:t.bm<100000000):pI n [t.d]=some (.a1 [bx (db 3 t []),bx (db 4 t [])]):=by have h:=Uc n t 1 [] [] (by simp;omega) bk trivial trivial (by omega) (by omega) (by simp;omega);have e:bx []= .ax 1 []:=rfl;have gb:∀l,bu (bx l)=true:=λ_=>rfl;rw[e]at h;simp[pI,aan,h,gb]
mutual
def hK:Tm->Tm->Bool
 | .mk o n s _ ks,u=>decide (o=u.op)&&decide (n=u.num)&&decide (s=u.name)&&decide (ks.length=u.aT.length)&&n7 ks u.aT
def n7:List Tm->List Tm->Bool
 |a::r,b::q=>hK a b&&n7 r q|[],_=>true|_::_,[]=>true
end
theorem DB(t u:Tm):hK t u=(decide (t.op=u.op)&&decide (t.num=u.num)&&decide (t.name=u.name)&&decide (t.aT.length=u.aT.length)&&n7 t.aT u.aT):=by cases t;rw[hK];rfl
def atK(t u:Tm):(t.op=u.op/\t.num=u.num/\t.name=u.name/\t.aT.length=u.aT.length)\/(hK t u=false/\¬(t.op=u.op/\t.num=u.num/\t.name=u.name/\t.aT.length=u.aT.length)):=by
 by_cases h:t.op=u.op/\t.num=u.num/\t.name=u.name/\t.aT.length=u.aT.length;.exact .inl h
 refine .inr ⟨?_,h⟩;rw[DB];by_cases ab:t.op=u.op
 .by_cases af:t.num=u.num
  .by_cases aw:t.name=u.name;.have a5:¬t.aT.length=u.aT.length:=λa5=>h ⟨ab,af,aw,a5⟩;simp[a5]
   simp[aw]
  simp[af]
 simp[ab]
def tQ:List bc->Nat->List (Value×D)->List (Value×D)
 |[],_,M=>M|v::r,i,M=>tQ r (i+1) (if(gH M v.name).isSome then M else(nr .string M (aC v.name) (J i)).getD [])
def Ud:∀(r:List bc)(i:Nat)(M:List (Value×D)),lD M->lD (tQ r i M)/\∀x,gH (tQ r i M) x=match gH M x with|some d=>some d|none=>(dt r x).map λj=>J ((i+j:Nat):Int)
 |[],i,M,h=>⟨h,λx=>by simp only[tQ,dt,List.findIdx?_nil];cases gH M x<;>rfl⟩
 |v::r,i,M,h=>by
  rw[tQ];have e:∀x,dt (v::r) x=if v.name=x then some 0 else(dt r x).map (·+1):=by intro x;simp[dt,xbY]
  by_cases aH:(gH M v.name).isSome
  .rw[xad aH];obtain⟨ab,af⟩:=Ud r (i+1) M h;refine⟨ab,λx=>?_⟩;rw[af x,e x];cases ag:gH M x with
   |some d=>rfl
   |none=>
    have cR:¬v.name=x:=by rintro rfl;simp[ag]at aH
    simp only[cR,xaI,Option.map_map]
    congr 1
    funext j
    simp only[Function.comp]
    congr 2
    omega
  rw[xaa aH];obtain⟨cY,dE,di,eY,_⟩:=B3 h v.name (J i);rw[dE,xbe];obtain⟨ab,af⟩:=Ud r (i+1) cY di;refine⟨ab,λx=>?_⟩;rw[af x,eY x,e x];by_cases ag:x=v.name
  .subst ag;have aL:gH M v.name=none:=by simpa using aH
   simp[aL]
  have cR:¬v.name=x:=λh=>ag h.symm;simp only[ag,cR,xaI];cases b8:gH M x with
  |some d=>rfl
  |none=>
   simp only[Option.map_map]
   congr 1
   funext j
   simp only[Function.comp]
   congr 2
   omega
def Ni(M:List (Value×D))(vs:List bc):Prop:=lD M/\∀x,gH M x=(dt vs x).map λ(j:Nat)=>J (j:Int)
def Ue(n:Nat)(vs:List bc)(aL:vs.length<n)(ar:vs.length<1000000000000):∃M,u1 n [aQ vs]=some (.mp M)/\Ni M vs:=by
 have au:lD []:=by intro e he;cases he
 obtain⟨ab,af⟩:=Ud vs 0 [] au;refine⟨tQ vs 0 [],?_,ab,λx=>by rw[af x];simp only[gH,xaw]⟩;have ah:=dD (f:=Ge n) vs (λi (M:List (Value×D))=>[aQ vs,J vs.length,J (i:Int),.mp M]) (λr M=>(Sum.inl [.mp (tQ r (vs.length-r.length) M)]:List D⊕D)) (λi M=>lD M) (λM _=>by simp[Ge,tQ]) ?_ n 0 [] au (by omega) (xai _)
 .have bJ:(J ((0:Nat):Int))=J 0:=rfl;rw[bJ]at ah;simp[u1,aap,ec,ah]
 intro i a M aF ah dY;left;have e:vs.length-(a::vs.drop (i+1)).length=i:=by simp;omega
 have dw:vs.length-(vs.drop (i+1)).length=i+1:=by simp;omega
 have aw:=yS dY (z:= .int .i64 0) (x:=a.name);cases b8:gH M a.name with|some d=>rw[b8]at aw;refine⟨M,by simp[Ge,ah,fs aF,aw,b1 (bt:=false) (i:=i) (by omega)],?_,dY⟩;rw[e,tQ,b8,dw];rfl|none=>rw[b8]at aw;obtain⟨cY,dE,di,eY,_⟩:=B3 dY a.name (J i);refine⟨cY,by simp[Ge,ah,fs aF,aw,dE,b1 (bt:=false) (i:=i) (by omega)],?_,di⟩;rw[e,tQ,b8,dw];simp only[Option.isSome_none,xav,xaI,dE,xbe]
def adm(n:Nat)(vs:List bc)(x:ByteArray)(aL:vs.length<n)(ar:vs.length<1000000000000):xl n [aQ vs,aC x]=some (J (match dt vs x with|some i=>(i:Int)|none=>-1)):=by
 have ah:=dD (f:=HE n) vs (λi (_:Unit)=>[aQ vs,aC x,J (i:Int)]) (λr _=>match dt r x with|some j=>(Sum.inr (J ((vs.length-r.length+j:Nat):Int)):List D⊕D)|none=> .inl []) (λ_ _=>True) (λ_ _=>by simp[HE,ec,dt]) ?_ n 0 () trivial (by omega) (xai _);.have bJ:(J ((0:Nat):Int))=J 0:=rfl;rw[bJ]at ah;simp only[xl,abi,ah,xam,eL];cases dt vs x<;>simp
 intro i a _ aF ah _;have e:vs.length-(a::vs.drop (i+1)).length=i:=by simp;omega
 have dw:vs.length-(vs.drop (i+1)).length=i+1:=by simp;omega
 have nK:dt (a::vs.drop (i+1)) x=if a.name=x then some 0 else(dt (vs.drop (i+1)) x).map (·+1):=by simp[dt,xbY]
 have ae:a.cells[0]?=some (aC a.name):=rfl;by_cases ag:a.name=x;.right;rw[nK,xad ag,e];simp[HE,ec,ah,fs aF,ae,ag]
 left;refine⟨(),by simp[HE,ec,ah,fs aF,ae,ag,b1 (bt:=false) (i:=i) (by omega)],?_,trivial⟩;rw[nK,xaa ag,e,dw];cases dt (vs.drop (i+1)) x with|none=>rfl|some j=>simp;omega
def dK(l:List bc)(t:Tm):List Nat:=(db 3 t []).filterMap (dt l)
def nA{l:List bc}{t:Tm}:∀k∈dK l t,k<l.length:=by intro k ak;obtain⟨x,_,ag⟩:=List.mem_filterMap.1 ak;obtain⟨_,_,_,h⟩:=RS ag;exact h
def DC(t:Tm):(db 3 t []).length<=t.bm:=by have:=(m5 3 t [] trivial).2;simpa using this
def Nj(l:List bc)(t:Tm):(dK l t).length<=t.bm:=xbZ (List.length_filterMap_le _ _) (DC t)
structure ie(B:Nat)(l:List bc):Prop where
 len:l.length<=B
 e:∀d∈l,d.e.cm/\d.e.bm<=B
 b:B<=1000000
def to(l:List bc)(i:Nat):List Nat:=match l[i]? with|some d=>dK l d.e|none=>[]
def lH{l:List bc}(i:Nat):∀k∈to l i,k<l.length:=by
 unfold to;split;.exact nA
 intro k ak;cases ak
def DD{l:List bc}{i:Nat}{d:bc}(h:l[i]?=some d):to l i=dK l d.e:=by simp[to,h]
def n8{l:List ByteArray}{i:Nat}{s:ByteArray}(h:l[i]?=some s):bn 1 (bx l) (J (i:Int))=some [aC s]:=by simp[bx,h]
def l5(l:List ByteArray):bK (bx l)=some (J l.length):=by simp[bx]
def atL(n:Nat)(l:List bc)(t:Tm){B:Nat}(ar:l.length<=B)(bk:t.cm)(aM:t.bm<=B)(gL:B<=1000000)(aL:2*B+100<n):HG n [t.d,aQ l]=some (da (dK l t)):=by
 have cc:=Iw n t (by omega) bk (by omega);have cR:=DC t;have ah:=dD (f:=HF n) (db 3 t []) (λi (s:List Nat)=>[aQ l,eG true (db 3 t []),J (i:Int),da s]) (λr s=>(.inl [da (s++r.filterMap (dt l))]:List D⊕D)) (λi s=>s.length<=i) (λs _=>by simp[HF,ic,da]) ?_ n 0 [] (by simp) (by omega) (xai _)
 .have bJ:(J ((0:Nat):Int))=J 0:=rfl;have aJ:da []=D.ax 1 []:=rfl;have cJ:∀x,D.ax 1 (aq (da x))=da x:=λ_=>rfl;rw[bJ,aJ]at ah;simp only[xam,xaG]at ah;simp only[HG,abj,go_sem,cc,ah,cJ];rfl
 intro i a s aF ah aH;have ag:=mF (nl:=true) aF;have iG:=adm n l a (by omega) (by omega);have cJ:∀x,D.ax 1 (aq (da x))=da x:=λ_=>rfl;left;cases aA:dt l a with
 |none=>rw[aA]at iG;refine⟨s,?_,by simp[aA],by omega⟩;simp only[HF,go_sem,ic,yT ((i:Int)<((db 3 t []).length:Int)),ag,iV,iG,yF ((-1:Int)>=0),cJ,b1 (bt:=false) (i:=i) (by omega)]
 |some k=>
  rw[aA]at iG;have dB:c1 (s.length+1) 8=true:=fU (by omega) (by omega);have aZ:D.ax 1 (aq (da s)++[[J (k:Int)]])=da (s++[k]):=by simp[da]
  have bN:(aq (da s)).length=s.length:=by simp[da]
  refine⟨s++[k],?_,by simp[aA],by simp;omega⟩;simp only[HF,go_sem,ic,yT ((i:Int)<((db 3 t []).length:Int)),ag,iV,iG,yT ((k:Int)>=0),cJ,aZ,bN,xao,xaq,xaw,dB,b1 (bt:=false) (i:=i) (by omega)]
def adn(n:Nat)(l:List Nat)(k:Nat)(d:D)(aA:d=da l\/(l=[]/\d=eM))(ar:l.length<1000000000)(aL:l.length+5<n):xm n [d,J (k:Int)]=some (ay (decide (k∈l))):=by
 rcases aA with rfl|⟨rfl,rfl⟩
 case inr=>obtain⟨m,rfl⟩:∃m,n=m+1:=⟨n-1,by omega⟩;simp[xm,Tg,jN,C0]
 have ah:=dD (f:=C0 n) l (λi (_:Unit)=>[da l,J (k:Int),J (i:Int)]) (λr _=>if k∈r then(.inr (ay true):List D⊕D)else .inl []) (λi s=>True) (λs _=>by simp[C0,pG]) ?_ n 0 () trivial (by omega) (xai _);.have bJ:(J ((0:Nat):Int))=J 0:=rfl;rw[bJ]at ah;simp only[xam]at ah;by_cases h:k∈l<;>simp only[h,xaH,xaI]at ah<;>simp[xm,Tg,ah,h]
 intro i a s aF ah _;have ag:=uV aF;by_cases ado:a=k
 .right;subst ado;simp[C0,pG,ah,ag]
 left;have atM:¬((a:Int)=(k:Int)):=by omega
 have atN:¬k=a:=λh=>ado h.symm;refine⟨(),by simp[C0,pG,ah,ag,atM,b1 (bt:=false) (i:=i) (by omega)],by simp[atN],trivial⟩
def atO(n:Nat)(l:List bc){B:Nat}(ar:ie B l)(aL:4*B+200<n):Gg n [aQ l]=some (h1 (l.map λd=>dK l d.e)):=by
 have b5:=ar.len;have tR:=ar.b;obtain⟨M,gx,kk,r4⟩:=Ue n l (by omega) (by omega);have cJ:∀x,D.ax 1 (aq (da x))=da x:=λ_=>rfl;have Nk:∀x,D.ax 1 (aq (h1 x))=h1 x:=λ_=>rfl;have ah:=dD (f:=LX n) l (λi (s:List (List Nat))=>[.mp M,aQ l,J l.length,J (i:Int),h1 s]) (λr s=>(.inl [h1 (s++r.map λd=>dK l d.e)]:List D⊕D)) (λi s=>s.length=i) (λs _=>by simp[LX,h1]) ?_ n 0 [] rfl (by omega) (xai _)
 .have bJ:(J ((0:Nat):Int))=J 0:=rfl;have aJ:h1 []=D.ax 1 []:=rfl;rw[bJ,aJ]at ah;simp only[xam,xaG]at ah;simp only[Gg,aaq,go_sem,gx,ec,ah,Nk]
 intro i a acc aF ah atP;have hm:=xac aF;have atQ:=ar.e a hm;have cc:=Ix n a.e (by omega) atQ.1 (by omega);have cR:=DC a.e;have aN:=dD (f:=Gf n) (db 3 a.e []) (λj (s:List Nat)=>[.mp M,aQ l,J l.length,J (i:Int),bx (db 3 a.e []),J (db 3 a.e []).length,J (j:Int),h1 acc,da s]) (λr s=>(.inl [.mp M,aQ l,J l.length,J (i:Int),h1 acc,da (s++r.filterMap (dt l))]:List D⊕(List D⊕(List D⊕(List D⊕D))))) (λj s=>s.length<=j) (λs _=>by simp[Gf,da,h1]) ?_ n 0 [] (by simp) (by omega) (xai _)
 .have bJ:(J ((0:Nat):Int))=J 0:=rfl;have aJ:da []=D.ax 1 []:=rfl;rw[bJ,aJ]at aN;simp only[xam,xaG]at aN;have dB:c1 (acc.length+1) 24=true:=fU (by omega) (by omega);have aZ:D.ax 1 (aq (h1 acc)++[[da (dK l a.e)]])=h1 (acc++[dK l a.e]):=by simp[h1]
  have bN:(aq (h1 acc)).length=acc.length:=by simp[h1]
  have cO:(db 3 a.e []).filterMap (dt l)=dK l a.e:=rfl;have gb:∀x,bu (da x)=true:=λ_=>rfl;rw[cO]at aN;left;refine⟨acc++[dK l a.e],?_,by simp,by simp[atP]⟩;simp only[LX,go_sem,yT ((i:Int)<(l.length:Int)),fs aF,bc.FE,bc.agg,bc.bP,bc.b6,bc.cA,bc.dC,Tm.FD,cc,l5,Nk,aN,cJ,gb,aZ,bN,xao,xaq,xaw,dB,b1 (bt:=false) (i:=i) (by omega)]
 intro j b s aj aN aH;have ag:=n8 aj;have hH:=yS kk (z:= .int .i64 0) (x:=b);have adp:=r4 b;left;cases aA:dt l b with
 |none=>rw[adp,aA]at hH;simp only[xbm]at hH;refine⟨s,?_,by simp[aA],by omega⟩;simp only[Gf,go_sem,yT ((j:Int)<((db 3 a.e []).length:Int)),ag,iV,lz,hH,cJ,Nk,b1 (bt:=false) (i:=j) (by omega)]
 |some k=>
  rw[adp,aA]at hH;simp only[xaQ]at hH;have dB:c1 (s.length+1) 8=true:=fU (by omega) (by omega);have aZ:D.ax 1 (aq (da s)++[[J (k:Int)]])=da (s++[k]):=by simp[da]
  have bN:(aq (da s)).length=s.length:=by simp[da]
  refine⟨s++[k],?_,by simp[aA],by simp;omega⟩;simp only[Gf,go_sem,yT ((j:Int)<((db 3 a.e []).length:Int)),ag,iV,lz,hH,cJ,Nk,aZ,bN,xao,xaq,xaw,dB,b1 (bt:=false) (i:=j) (by omega)]
def hS(to:Nat->List Nat):Nat->List Nat->List Nat->List Nat
 |0,_,S=>S|n+1,ks,S=>ks.foldl (λS k=>if k∈S then S else hS to n (to k) (S++[k])) S
inductive kt(to:Nat->List Nat):Nat->Nat->Prop where
 |refl (i:Nat):kt to i i
 |step (i j k:Nat) (h:j∈to i) (bD:kt to j k):kt to i k
def kt.trans{to:Nat->List Nat}{i j k:Nat}(h:kt to i j)(bD:kt to j k):kt to i k:=by induction h with|refl=>exact bD|step a b c fp _ ih=>exact .step a b _ fp (ih bD)
def iW(N:Nat)(S:List Nat):Prop:=S.Nodup/\∀x∈S,x<N
def adq:∀(N:Nat)(S:List Nat),S.Nodup->(∀x∈S,x<N)->S.length<=N
 |0,S,_,h=>by cases S with|nil=>simp|cons a r=>exact absurd (h a (by simp)) (xay _)
 |N+1,S,aL,h=>by
  have ab:=adq N (S.erase N) (aL.erase N) (λx ag=>by
   have af:=h x (List.mem_of_mem_erase ag);have aw:x≠N:=by rintro rfl;exact aL.not_mem_erase ag
   omega)
  have a5:=List.length_erase (a:=N) (l:=S);split at a5<;>omega
def iW.len{N:Nat}{S:List Nat}(h:iW N S):S.length<=N:=adq N S h.1 h.2
def iW.lt{N k:Nat}{S:List Nat}(h:iW N S)(ak:k<N)(aL:k∉S):S.length<N:=by have af:iW N (S++[k]):=⟨by rw[List.nodup_append];exact⟨h.1,by simp,by intro a aF b aj;simp at aj;subst aj;rintro rfl;exact aL aF⟩,by intro x ag;rcases xar.1 ag with ag|ag;exact h.2 x ag;simp at ag;omega⟩;have:=af.len;simp at this;omega
def iW.snoc{N k:Nat}{S:List Nat}(h:iW N S)(ak:k<N)(aL:k∉S):iW N (S++[k]):=⟨by rw[List.nodup_append];exact⟨h.1,by simp,by intro a aF b aj;simp at aj;subst aj;rintro rfl;exact aL aF⟩,by intro x ag;rcases xar.1 ag with ag|ag;exact h.2 x ag;simp at ag;omega⟩
structure adr(to:Nat->List Nat)(N:Nat)(ks S R:List Nat):Prop where
 inv:iW N R
 pre:∃T,R=S++T
 mem:∀k∈ks,k∈R
 vz:∀x∈R,x∉S->∀y∈to x,y∈R
 r5:∀x∈R,x∈S\/∃k∈ks,kt to k x
def DE{to:Nat->List Nat}{N:Nat}(k4:∀i,∀k∈to i,k<N):∀(n:Nat)(ks S:List Nat),iW N S->(∀k∈ks,k<N)->N-S.length<n->adr to N ks S (hS to n ks S)
 |0,_,_,_,_,h=>absurd h (xay _)
 |n+1,ks,S,ei,eO,aL=>by
  rw[hS]
  induction ks generalizing S with
  |nil=>exact⟨ei,⟨[],by simp⟩,by simp,λx ag aL=>absurd ag aL,λx ag=> .inl ag⟩
  |cons k r ih=>
   rw[xby];by_cases ak:k∈S
   .rw[xad ak];have h:=ih S ei (λx ag=>eO x (by simp[ag])) aL;obtain⟨T,bf⟩:=h.pre;refine⟨h.inv,h.pre,?_,h.vz,λx ag=>?_⟩
    .intro x ag;rcases xak.1 ag with rfl|ag
     .rw[bf];simp[ak]
     exact h.mem x ag
    rcases h.r5 x ag with ab|⟨j,ab,af⟩;.exact .inl ab
    exact .inr ⟨j,by simp[ab],af⟩
   rw[xaa ak];have oX:=eO k (by simp);have cu:=ei.lt oX ak;have au:=DE k4 n (to k) (S++[k]) (ei.snoc oX ak) (k4 k) (by simp;omega);obtain⟨fM,DF⟩:=au.pre;have h:=ih (hS to n (to k) (S++[k])) au.inv (λx ag=>eO x (by simp[ag])) (by rw[DF];simp;omega);obtain⟨T,bf⟩:=h.pre;have atS:k∈hS to n (to k) (S++[k]):=by rw[DF];simp
   refine⟨h.inv,⟨[k]++fM++T,by rw[bf,DF];simp⟩,?_,?_,?_⟩
   .intro x ag;rcases xak.1 ag with rfl|ag
    .rw[bf];exact xbQ _ atS
    exact h.mem x ag
   .intro x ag Uf y aP;by_cases Nl:x∈hS to n (to k) (S++[k])
    .by_cases Nm:x∈S++[k]
     .have atT:x=k:=by
       rcases xar.1 Nm with h|h;.exact absurd h Uf
       simpa using h
      subst atT;rw[bf];exact xbQ _ (au.mem y aP)
     rw[bf];exact xbQ _ (au.vz x Nl Nm y aP)
    exact h.vz x ag Nl y aP
   intro x ag;rcases h.r5 x ag with ab|⟨j,ab,af⟩
   .rcases au.r5 x ab with aw|⟨j,aw,a5⟩
    .rcases xar.1 aw with aw|aw;.exact .inl aw
     simp at aw;subst aw;exact .inr ⟨x,by simp,.refl x⟩
    exact .inr ⟨k,by simp,.step k j x aw a5⟩
   exact .inr ⟨j,by simp[ab],af⟩
def Ug{to:Nat->List Nat}{N:Nat}(k4:∀i,∀k∈to i,k<N):∀(n m:Nat)(ks S:List Nat),iW N S->(∀k∈ks,k<N)->N-S.length<n->N-S.length<m->hS to n ks S=hS to m ks S
 |0,_,_,_,_,_,h,_=>absurd h (xay _)|_+1,0,_,_,_,_,_,h=>absurd h (xay _)
 |n+1,m+1,ks,S,ei,eO,aL,hm=>by
  rw[hS,hS]
  induction ks generalizing S with
  |nil=>rfl
  |cons k r ih=>
   rw[xby,xby];by_cases ak:k∈S;.rw[xad ak,xad ak];exact ih S ei (λx ag=>eO x (by simp[ag])) aL hm
   rw[xaa ak,xaa ak];have oX:=eO k (by simp);have cu:=ei.lt oX ak;have e:=Ug k4 n m (to k) (S++[k]) (ei.snoc oX ak) (k4 k) (by simp;omega) (by simp;omega);have au:=DE k4 n (to k) (S++[k]) (ei.snoc oX ak) (k4 k) (by simp;omega);obtain⟨fM,DF⟩:=au.pre;rw[<-e];exact ih _ au.inv (λx ag=>eO x (by simp[ag])) (by rw[DF];simp;omega) (by rw[DF];simp;omega)
def k9(l:List bc)(ks:List Nat):List Nat:=hS (to l) (l.length+1) ks []
def xA(l:List bc)(ks:List Nat)(ak:∀k∈ks,k<l.length):adr (to l) l.length ks [] (k9 l ks):=DE (λi k ak=>lH i k ak) _ ks [] ⟨by simp,by simp⟩ ak (by simp)
def vA(l:List bc)(ks:List Nat)(ak:∀k∈ks,k<l.length)(x:Nat):x∈k9 l ks↔∃k∈ks,kt (to l) k x:=by
 have h:=xA l ks ak;constructor
 .intro ag;rcases h.r5 x ag with ab|ab
  .cases ab
  exact ab
 rintro⟨k,fO,av⟩;have hb:∀a b,kt (to l) a b->a∈k9 l ks->b∈k9 l ks:=by
  intro a b fp
  induction fp with|refl=>exact λh=>h|step i j k gR _ ih=>exact λah=>ih (h.vz i ah (by simp) j gR)
 exact hb k x av (h.mem k fO)
def jw(l:List bc)(i:Nat):Bool:=decide (i∈k9 l (to l i))
def Uh(l:List bc)(i:Nat):jw l i=true↔∃k∈to l i,kt (to l) k i:=by unfold jw;rw[xaC,vA l _ (lH i)]
def ads{to:Nat->List Nat}:∀(n:Nat)(ks S:List Nat),∃T,hS to n ks S=S++T
 |0,ks,S=>⟨[],by simp[hS]⟩
 |n+1,ks,S=>by
  rw[hS]
  induction ks generalizing S with
  |nil=>exact⟨[],by simp⟩
  |cons k r ih=>
   rw[xby];split;.exact ih S
   obtain⟨fM,au⟩:=ads n (to k) (S++[k]);obtain⟨T,bf⟩:=ih (hS to n (to k) (S++[k]));exact⟨[k]++fM++T,by rw[bf,au];simp⟩
def la(S:List Nat)(d:D)(s:List Nat):D:=if s.length=S.length then d else da s
def Ui(l:List bc){B:Nat}(ar:ie B l):∀(n:Nat)(t:Tm)(S:List Nat)(d:D),d=da S\/(S=[]/\d=eM)->t.cm->t.bm<=B->iW l.length S->l.length-S.length+4*B+300<n->qB n [t.d,aQ l,d]=some (la S d (hS (to l) n (dK l t) S))
 |0,_,_,_,_,_,_,_,h=>absurd h (xay _)
 |n+1,t,S,d,aA,bk,aM,ei,aL=>by
  have b5:=ar.len;have tR:=ar.b;have Iy:=Nj l t;have atU:=atL n l t b5 bk aM tR (by omega);have atV:∀T,la S d (S++T)=da (S++T)\/(S++T=[]/\la S d (S++T)=eM):=by
   intro T;unfold la;split
   .rename_i h;have:T=[]:=by simpa using h
    subst this;rcases aA with rfl|⟨rfl,rfl⟩
    .left;simp
    right;simp
   exact .inl rfl
  have bJ:(J ((0:Nat):Int))=J 0:=rfl;have atW:la S d S=d:=by simp[la]
  rw[hS];have dv:=dD (f:=HH (qB n) n) (dK l t) (λi (s:List Nat)=>[aQ l,la S d s,da (dK l t),J (i:Int)]) (λr s=>(.inl [la S d (r.foldl (λS k=>if k∈S then S else hS (to l) n (to l k) (S++[k])) s)]:List D⊕D)) (λi s=>iW l.length s/\∃T,s=S++T) (λs _=>by simp[HH,pG]) ?_ n 0 S ⟨ei,[],by simp⟩ (by omega) (xai _)
  .rw[bJ,atW]at dv;simp only[xam]at dv;show MR (qB n) n t.d (aQ l) d=_;simp only[MR,go_sem,atU,dv]
  rintro i k s ak ah ⟨ab,T,bf⟩;have yG:=xac ak;have oX:=nA k yG;obtain⟨Nn,A8⟩:∃Nn,l[k]?=some Nn:=⟨l[k],xab oX⟩;have ig:=ar.e Nn (xac A8);have gu:=ab.len;have aw:=atV T;rw[<-bf]at aw;have aBq:S.length<=s.length:=by rw[bf];simp
  have No:=adn n s k (la S d s) aw (by omega) (by omega);left;by_cases eO:k∈s
  .refine⟨s,?_,?_,ab,T,bf⟩;.simp only[HH,go_sem,pG,yT ((i:Int)<((dK l t).length:Int)),uV ak,iV,No,xat eO,b1 (bt:=false) (i:=i) (by omega)]
   simp only[xby,xad eO]
  have cu:=ab.lt oX eO;have Iz:=ab.snoc oX eO;have aV:=Ui l ar n Nn.e (s++[k]) (da (s++[k])) (.inl rfl) ig.1 ig.2 Iz (by simp;omega);have lA:=DE (λi k ak=>lH i k ak) n (to l k) (s++[k]) Iz (λx ag=>lH k x ag) (by simp;omega);rw[<-DD A8]at aV;obtain⟨Uj,IA⟩:=ads (to:=to l) n (to l k) (s++[k]);have a2:la (s++[k]) (da (s++[k])) (hS (to l) n (to l k) (s++[k]))=da (hS (to l) n (to l k) (s++[k])):=by
   unfold la;split
   .rename_i h;rw[IA]at h⊢;have:Uj=[]:=by simpa using h
    subst this;simp
   rfl
  have bb:la S d (hS (to l) n (to l k) (s++[k]))=da (hS (to l) n (to l k) (s++[k])):=by unfold la;rw[xaa];rw[IA,bf];simp<;>omega
  rw[a2]at aV;obtain⟨q,bA,bB⟩:∃q,kn (la S d s)=some (q,s.map λ(i:Nat)=>[J (i:Int)])/\(decide (q=1\/(s.map λ(i:Nat)=>[J (i:Int)])=[])&&decide (0<1))=true:=by
   rcases aw with aw|⟨aw,a5⟩;.rw[aw];exact⟨1,rfl,by simp⟩
   rw[a5,aw];exact⟨0,rfl,by simp⟩
  have atX:c1 (s.map λ(i:Nat)=>[J (i:Int)]).length 8=true:=fU (by simp;omega) (by simp;omega);have IB:c1 ((s.map λ(i:Nat)=>[J (i:Int)]).length+1) 8=true:=fU (by simp;omega) (by simp;omega);have aZ:D.ax 1 ((s.map λ(i:Nat)=>[J (i:Int)])++[[J (k:Int)]])=da (s++[k]):=by simp[da]
  refine⟨hS (to l) n (to l k) (s++[k]),?_,?_,lA.inv,T++[k]++Uj,?_⟩;.rw[bb];simp only[HH,go_sem,pG,yT ((i:Int)<((dK l t).length:Int)),uV ak,iV,No,xaE eO,fs A8,bc.g6,bA,bB,xaq,atX,xaG,xao,xaw,IB,aZ,aV,b1 (bt:=false) (i:=i) (by omega)]
  .simp only[xby,xaa eO]
  rw[IA,bf];simp
def atY(l:List bc){B:Nat}(ar:ie B l)(n:Nat)(i:Nat)(ah:i<l.length)(aL:6*B+400<n):HJ n [aQ l,J (i:Int)]=some (ay (jw l i)):=by
 have b5:=ar.len;have tR:=ar.b;obtain⟨d,aA⟩:∃d,l[i]?=some d:=⟨l[i],xab ah⟩;have ig:=ar.e d (xac aA);have aj:=Ui l ar n d.e [] eM (.inr ⟨rfl,rfl⟩) ig.1 ig.2 ⟨by simp,by simp⟩ (by simp;omega);have bd:=Ug (λi k ak=>lH (l:=l) i k ak) n (l.length+1) (dK l d.e) [] ⟨by simp,by simp⟩ nA (by simp;omega) (by simp);have lA:=xA l (dK l d.e) nA;have hb:=lA.inv.len;rw[bd]at aj;have ao:hS (to l) (l.length+1) (dK l d.e) []=k9 l (dK l d.e):=rfl;rw[ao]at aj;have No:=adn n (k9 l (dK l d.e)) i (la [] eM (k9 l (dK l d.e))) (by
  unfold la;split;.rename_i h;exact .inr ⟨xaF h,rfl⟩
  exact .inl rfl) (by omega) (by omega)
 simp only[HJ,abk,go_sem,fs aA,bc.g6,aj,No,jw,DD aA]
def Uk(l:List bc){B:Nat}(ar:ie B l):∀(n:Nat)(i:Nat)(S:List Nat)(M:List (Value×D)),i<l.length->jO M S->iW l.length S->l.length-S.length+2*B+100<n-> ∃cY,rN n [J (i:Int),h1 (l.map λd=>dK l d.e),.mp M]=some [D.a1 [],h1 (l.map λd=>dK l d.e),.mp cY]/\jO cY (hS (to l) n (to l i) S)
 |0,_,_,_,_,_,_,h=>absurd h (xay _)
 |n+1,i,S,M,ah,dY,ei,aL=>by
  have b5:=ar.len;have tR:=ar.b;obtain⟨d,aA⟩:∃d,l[i]?=some d:=⟨l[i],xab ah⟩;have ig:=ar.e d (xac aA);have Iy:=Nj l d.e;have ag:bn 1 (h1 (l.map λd=>dK l d.e)) (J (i:Int))=some [da (dK l d.e)]:=amy (by simp[aA]);have bJ:(J ((0:Nat):Int))=J 0:=rfl;rw[DD aA,hS];have key:∀(m j:Nat)(s:List Nat)(M:List (Value×D)),jO M s->iW l.length s->S.length<=s.length->(dK l d.e).length-j<m->j<=(dK l d.e).length-> ∃cY,bp (Gh (rN n) n) m [da (dK l d.e),J (dK l d.e).length,J (j:Int),h1 (l.map λd=>dK l d.e),.mp M]=some (.inl [h1 (l.map λd=>dK l d.e),.mp cY])/\jO cY (((dK l d.e).drop j).foldl (λS k=>if k∈S then S else hS (to l) n (to l k) (S++[k])) s):=by
   intro m
   induction m with
   |zero=>intro j s M _ _ _ h _;exact absurd h (xay _)
   |succ m ih=>
    intro j s M dY aH T9 hm aN;rw[jN];by_cases cN:j<(dK l d.e).length
    .have ak:=xab cN;generalize (dK l d.e)[j]=k at ak;have yG:=xac ak;have oX:=nA k yG;have r6:(dK l d.e).drop j=k::(dK l d.e).drop (j+1):=by
      obtain⟨bA,bB⟩:=xae.1 ak;rw[xaW bA,bB]
     rw[r6,xby];have Np:=dY.look (i:=k) (z:= .bool false);by_cases eO:k∈s
     .rw[xad eO];obtain⟨cY,aV,a2⟩:=ih (j+1) s M dY aH T9 (by omega) cN;refine⟨cY,?_,a2⟩;simp only[Gh,go_sem,yT ((j:Int)<((dK l d.e).length:Int)),uV ak,iV,Np,xat eO,b1 (bt:=false) (i:=j) (by omega),aV]
     rw[xaa eO];obtain⟨vB,dE,di⟩:=dY.put k;rw[xaa eO]at di;have Iz:=aH.snoc oX eO;have cu:=aH.lt oX eO;obtain⟨M2,e8,ef⟩:=Uk l ar n k (s++[k]) vB oX di Iz (by simp;omega);have lA:=DE (λi k ak=>lH i k ak) n (to l k) (s++[k]) Iz (λx ag=>lH k x ag) (by simp;omega);obtain⟨Uj,IA⟩:=lA.pre;obtain⟨cY,aV,a2⟩:=ih (j+1) _ M2 ef lA.inv (by rw[IA];simp;omega) (by omega) cN;refine⟨cY,?_,a2⟩;simp only[Gh,go_sem,yT ((j:Int)<((dK l d.e).length:Int)),uV ak,iV,Np,xaE eO,dE,e8,b1 (bt:=false) (i:=j) (by omega),aV]
    have:j=(dK l d.e).length:=by omega
    subst this;refine⟨M,?_,by simpa using dY⟩;simp only[Gh,go_sem,yF (((dK l d.e).length:Int)<(dK l d.e).length)]
  obtain⟨cY,aV,a2⟩:=key n 0 S M dY ei (xan _) (by omega) (xai _);rw[bJ]at aV;refine⟨cY,?_,by simpa using a2⟩;show LY (rN n) n _=_;simp only[LY,go_sem,ag,iV,pG,aV]
inductive xB(o:Int)(x:ByteArray):Tm->Prop where
 |here (t:Tm) (h:t.op=o) (bD:t.name=x):xB o x t
 |gz (t k:Tm) (h:k∈t.aT) (bD:xB o x k):xB o x t
def Nq{s x:ByteArray}:∀{l:List ByteArray},x∈gr s l↔x=s\/x∈l
 |[]=>by simp[gr]
 |a::r=>by
  rw[gr];split;.rename_i h;subst h;simp
  split;.simp
  rw[xak,Nq,xak];constructor
  .rintro(h|h|h);.exact .inr (.inl h)
   .exact .inl h
   exact .inr (.inr h)
  rintro(h|h|h);.exact .inr (.inl h)
  .exact .inl h
  exact .inr (.inr h)
def adt(o:Int)(x:ByteArray)(t:Tm):∀l,x∈db o t l↔x∈l\/xB o x t:=by
 refine Tm.ind (P:=λt=>∀l,x∈db o t l↔x∈l\/xB o x t) ?_ t;intro t ih l;have key:∀(ks:List Tm),(∀k∈ks,∀l,x∈db o k l↔x∈l\/xB o x k)->∀l,x∈ka o ks l↔x∈l\/∃k∈ks,xB o x k:=by
  intro ks
  induction ks with
  |nil=>intro _ l;simp[ka]
  |cons a r l4=>intro h l;rw[ka,l4 (λk ak=>h k (by simp[ak])),h a (by simp)];simp only[xak,exists_eq_or_imp,or_assoc]
 rw[tP,key t.aT ih];constructor
 .rintro(h|⟨k,ak,h⟩)
  .split at h
   .rename_i aG;rcases Nq.1 h with rfl|h
    .exact .inr (.here t aG rfl)
    exact .inl h
   exact .inl h
  exact .inr (.gz t k ak h)
 rintro(h|h)
 .left;split;.exact Nq.2 (.inr h)
  exact h
 cases h with|here _ ab af=>left;rw[xad ab];exact Nq.2 (.inl af.symm)|gz _ k ak h=>exact .inr ⟨k,ak,h⟩
def Nr{l:List bc}{t:Tm}{i:Nat}:i∈dK l t↔∃x,xB 3 x t/\dt l x=some i:=by
 unfold dK;rw[List.mem_filterMap];constructor;.rintro⟨x,ab,af⟩;exact⟨x,((adt 3 x t []).1 ab).resolve_left (by simp),af⟩
 rintro⟨x,ab,af⟩;exact⟨x,(adt 3 x t []).2 (.inr ab),af⟩
def Ul{l:List bc}{t k:Tm}(ak:k∈t.aT):∀i∈dK l k,i∈dK l t:=by intro i ah;obtain⟨x,ab,af⟩:=Nr.1 ah;exact Nr.2 ⟨x,.gz t k ak ab,af⟩
def xC(l:List bc)(t:Tm):Bool:=t.op==3&&(dt l t.name).isSome
def kT(l:List bc):Nat->Tm->Tm->Prop
 |0,_,_=>False|h+1,t,X=>(t.op=3/\∃i d,dt l t.name=some i/\l[i]?=some d/\kT l h d.e X)\/(xC l t=false/\∃ks,X= .mk t.op t.num t.name t.nl ks/\ks.length=t.aT.length/\∀(j:Nat)(a b:Tm),t.aT[j]?=some a->ks[j]?=some b->kT l h a b)
def kT.mono{l:List bc}:∀{h bD:Nat}{t X:Tm},h<=bD->kT l h t X->kT l bD t X
 |0,_,_,_,_,H=>H.elim|h+1,0,_,_,hle,_=>absurd hle (by omega)
 |h+1,bD+1,t,X,hle,H=>by
  rcases H with⟨ab,i,d,af,aw,a5⟩|⟨ab,ks,af,aw,a5⟩;.exact .inl ⟨ab,i,d,af,aw,a5.mono (by omega)⟩
  exact .inr ⟨ab,ks,af,aw,λj a b aF aj=>(a5 j a b aF aj).mono (by omega)⟩
def adu:∀{A B:List Nat},A.Nodup->(∀x∈A,x∈B)->A.length<=B.length
 |[],B,_,_=>by simp
 |a::A,B,aL,h=>by
  have aF:=h a (by simp);have ab:=adu (A:=A) (B:=B.erase a) (List.nodup_cons.1 aL).2 (λx ag=>by
   have cR:x≠a:=by rintro rfl;exact(List.nodup_cons.1 aL).1 ag
   exact(List.mem_erase_of_ne cR).2 (h x (by simp[ag])))
  have af:=List.length_erase_of_mem aF;have aw:0<B.length:=List.length_pos_of_mem aF;simp;omega
def Aq(l:List bc)(i:Nat):Nat:=(k9 l (to l i)).length
def atZ{l:List bc}{i j:Nat}(aN:j∈to l i)(av:jw l j=false):Aq l j<Aq l i:=by
 have ah:=xA l (to l i) (lH i);have at0:=xA l (to l j) (lH j);have at1:j∉k9 l (to l j):=by
  intro h;have:jw l j=true:=by simp[jw,h]
  rw[av]at this;cases this
 have oW:∀x∈k9 l (to l j)++[j],x∈k9 l (to l i):=by
  intro x ag;rcases xar.1 ag with ag|ag
  .obtain⟨k,ab,af⟩:=(vA l _ (lH j) x).1 ag;exact(vA l _ (lH i) x).2 ⟨j,aN,.step j k x ab af⟩
  simp at ag;subst ag;exact ah.mem _ aN
 have:=adu (A:=k9 l (to l j)++[j]) (B:=k9 l (to l i)) (by rw[List.nodup_append];exact⟨at0.inv.1,by simp,by intro a aF b aj;simp at aj;subst aj;rintro rfl;exact at1 aF⟩) oW;simp at this;unfold Aq;omega
def DG(l:List bc)(t:Tm):Prop:=∀x∈k9 l (dK l t),jw l x=false
def Um{α:Type}{P:Nat->Tm->α->Prop}:∀(ks:List Tm),(∀(j:Nat)(a:Tm),ks[j]?=some a->∃b,P j a b)->∃r:List α,r.length=ks.length/\∀(j:Nat)(a:Tm)(b:α),ks[j]?=some a->r[j]?=some b->P j a b
 |[],_=>⟨[],rfl,by intro j a b h;simp at h⟩
 |k::r,h=>by obtain⟨b,aj⟩:=h 0 k rfl;obtain⟨ki,ab,af⟩:=Um (P:=λj=>P (j+1)) r (λj a aF=>h (j+1) a (by simpa using aF));refine⟨b::ki,by simp[ab],?_⟩;intro j a c aF ao;cases j with|zero=>simp at aF ao;subst aF;subst ao;exact aj|succ j=>exact af j a c (by simpa using aF) (by simpa using ao)
def at2{l:List bc}{B:Nat}(ar:ie B l):∀(r:Nat)(t:Tm),t.bm<=B->DG l t->(∀k∈dK l t,Aq l k<r)->∃X,kT l (r*(B+1)+t.bm) t X:=by
 intro r
 induction r with
 |zero=>
  intro t;refine Tm.ind (P:=λt=>t.bm<=B->DG l t->(∀k∈dK l t,Aq l k<0)->∃X,kT l (0*(B+1)+t.bm) t X) ?_ t;intro t ih aM DH ak;have iv:dK l t=[]:=by cases h:dK l t with|nil=>rfl|cons a q=>exact absurd (ak a (by rw[h];simp)) (xay _)
  have kZ:xC l t=false:=by cases h:xC l t with|false=>rfl|true=>simp only[xC,xal,xbz,Option.isSome_iff_exists]at h;obtain⟨ab,i,af⟩:=h;have:i∈dK l t:=Nr.2 ⟨_,.here t ab rfl,af⟩;rw[iv]at this;cases this
  obtain⟨ks,ab,af⟩:=Um (P:=λj a b=>kT l (t.bm-1) a b) t.aT (λj a aF=>by
   have hm:=xac aF;have bC:=Tm.je hm;have adv:dK l a=[]:=by cases h:dK l a with|nil=>rfl|cons b q=>have:=Ul hm b (by rw[h];simp);rw[iv]at this;cases this
   obtain⟨X,kS⟩:=ih a hm (by omega) (λx ag=>by rw[adv]at ag;simp[k9,hS]at ag) (by rw[adv];simp);exact⟨X,kS.mono (by omega)⟩)
  have bC:=t.j6;refine⟨.mk t.op t.num t.name t.nl ks,?_⟩;have e:0*(B+1)+t.bm=(t.bm-1)+1:=by omega
  rw[e];exact .inr ⟨kZ,ks,rfl,ab,af⟩
 |succ r l4=>
  intro t;refine Tm.ind (P:=λt=>t.bm<=B->DG l t->(∀k∈dK l t,Aq l k<r+1)->∃X,kT l ((r+1)*(B+1)+t.bm) t X) ?_ t;intro t ih aM DH ak;have bC:=t.j6;have e:(r+1)*(B+1)+t.bm=((r+1)*(B+1)+(t.bm-1))+1:=by omega
  cases aL:xC l t with
  |true=>
   simp only[xC,xal,xbz,Option.isSome_iff_exists]at aL;obtain⟨ab,i,af⟩:=aL;obtain⟨d,aw,a5,ca⟩:=RS af;have ah:i∈dK l t:=Nr.2 ⟨_,.here t ab rfl,af⟩;have k4:=DD aw;have at3:=ar.e d (xac aw);have hb:=xA l (dK l t) nA;obtain⟨X,kS⟩:=l4 d.e at3.2 (λx ag=>DH x (by
    obtain⟨k,bA,bB⟩:=(vA l _ nA x).1 ag;rw[<-k4]at bA;exact(vA l _ nA x).2 ⟨i,ah,.step i k x bA bB⟩)) (λk dk=>by
    rw[<-k4]at dk;have rf:k∈k9 l (dK l t):=(vA l _ nA k).2 ⟨i,ah,.step i k k dk (.refl k)⟩;have:=atZ dk (DH k rf);have:=ak i ah;omega)
   refine⟨X,?_⟩;rw[e];exact .inl ⟨ab,i,d,af,aw,kS.mono (by have:(r+1)*(B+1)=r*(B+1)+(B+1):=Nat.succ_mul _ _;omega)⟩
  |false=>
   obtain⟨ks,ab,af⟩:=Um (P:=λj a b=>kT l ((r+1)*(B+1)+(t.bm-1)) a b) t.aT (λj a aF=>by
    have hm:=xac aF;have aBr:=Tm.je hm;obtain⟨X,kS⟩:=ih a hm (by omega) (λx ag=>DH x (by obtain⟨k,bA,bB⟩:=(vA l _ nA x).1 ag;exact(vA l _ nA x).2 ⟨k,Ul hm k bA,bB⟩)) (λk dk=>ak k (Ul hm k dk))
    exact⟨X,kS.mono (by omega)⟩)
   refine⟨.mk t.op t.num t.name t.nl ks,?_⟩;rw[e];exact .inr ⟨aL,ks,rfl,ab,af⟩
def at4(l:List bc)(i:Nat):Aq l i<=l.length:=(xA l (to l i) (lH i)).inv.len
def at5{l:List bc}{B:Nat}(ar:ie B l){t:Tm}(aM:t.bm<=B)(h:DG l t):∃X,kT l ((l.length+1)*(B+1)+B) t X:=by obtain⟨X,kS⟩:=at2 ar (l.length+1) t aM h (λk _=>by have:=at4 l k;omega);exact⟨X,kS.mono (by omega)⟩
mutual
def e5:Tm->Int->Int->Tm×Int
 | .mk o m s b ks,deep,n=>if ks.isEmpty then(.mk o m s b ks,n+1)else(.mk o m s false (gv ks deep (n+1)).1,(gv ks deep (n+1)).2)
def gv:List Tm->Int->Int->List Tm×Int
 |[],_,n=>([],n)|k::r,deep,n=>if deep<=64/\n<=4096 then((e5 k (deep+1) n).1::(gv r deep (e5 k (deep+1) n).2).1,(gv r deep (e5 k (deep+1) n).2).2)else(fM::(gv r deep n).1,(gv r deep n).2)
end
mutual
def gI:Tm->Tm
 | .mk o m s b ks=> .mk o m s false (n9 ks)
def n9:List Tm->List Tm
 |[]=>[]|k::r=>gI k::n9 r
end
def adw:∀l:List Tm,(n9 l).length=l.length
 |[]=>rfl|k::r=>by simp[n9,adw r]
def Ns:∀(l:List Tm)(d n:Int),(gv l d n).1.length=l.length
 |[],_,_=>rfl|k::r,d,n=>by rw[gv];split<;>simp[Ns r]
def at6(o m:Int)(s:ByteArray)(n:Nat):Int:=if(hk o).1<0 then 11
 else if(m<(if o=1 then-255 else 0))\/m>(if o=1 then 255 else if o=2 then 1 else 0)then 2
 else if(if Dx o then s=⟨#[]⟩\/s.size>24 else s≠⟨#[]⟩)then 12
 else if(n:Int)<(hk o).1\/(n:Int)>(hk o).2 then 3 else 0
theorem adx(o m:Int)(s:ByteArray)(b:Bool)(ks:List Tm):iz (.mk o m s b ks)=at6 o m s ks.length:=rfl
def ady{o m:Int}{s:ByteArray}{b b':Bool}{ks ks':List Tm}(h:ks.length=ks'.length):iz (.mk o m s b ks)=iz (.mk o m s b' ks'):=by rw[adx,adx,h]
mutual
def Un:∀(X:Tm)(deep n:Int),n<=4096->(df (e5 X deep n).1 deep n).1=(df X deep n).1/\((df X deep n).1=0->(df X deep n).2=(e5 X deep n).2/\(df (e5 X deep n).1 deep n).2=(e5 X deep n).2/\hK (e5 X deep n).1 (gI X)=true)
 | .mk o m s b ks,deep,n,aL=>by
  rw[e5];cases ks with
  |nil=>
   simp only[List.isEmpty_nil,xaH,true_and];intro h;rw[df]at h⊢;split at h;.cases h
   split at h;.rename_i af;exact absurd h af
   split at h;.cases h
   rename_i ab af aw;rw[xaa ab,xaa af,xaa aw];simp[fD,gI,n9,DB,Tm.op,Tm.num,Tm.name,Tm.aT,n7]
  |cons k r=>
   simp only[List.isEmpty_cons,xav,xaI];rw[df,df,ady (b':=b) (ks':=k::r) (Ns (k::r) deep (n+1))];by_cases ab:deep>64;.rw[xad ab,xad ab];simp
   rw[xaa ab,xaa ab];by_cases af:iz (.mk o m s b (k::r))≠0;.rw[xad af,xad af];exact⟨rfl,λh=>absurd h af⟩
   rw[xaa af,xaa af];by_cases aw:n+1>4096;.rw[xad aw,xad aw];simp
   rw[xaa aw,xaa aw];obtain⟨aV,a2⟩:=adz (k::r) deep (n+1) (by omega) (by omega);refine⟨aV,λh=>?_⟩;obtain⟨bA,bB,cz⟩:=a2 h;refine⟨bA,bB,?_⟩;rw[DB];simp only[gI,Tm.op,Tm.num,Tm.name,Tm.aT,cz,Ns,adw];simp
def adz:∀(ks:List Tm)(deep n:Int),deep<=64->n<=4096->(fD (gv ks deep n).1 (deep+1) n).1=(fD ks (deep+1) n).1/\((fD ks (deep+1) n).1=0->(fD ks (deep+1) n).2=(gv ks deep n).2/\(fD (gv ks deep n).1 (deep+1) n).2=(gv ks deep n).2/\n7 (gv ks deep n).1 (n9 ks)=true)
 |[],deep,n,_,_=>by simp[gv,fD,n9,n7]
 |k::r,deep,n,aA,aL=>by
  rw[gv,xad ⟨aA,aL⟩,fD,fD];obtain⟨aV,a2⟩:=Un k (deep+1) n aL;have aU:=Dy k (deep+1) n;by_cases h:(df k (deep+1) n).1=0
  .obtain⟨bA,bB,cz⟩:=a2 h;have bD:=aV.trans h;simp only[h,bD,ne_eq,xbF,xaI,bA,bB];have hle:(e5 k (deep+1) n).2<=4096:=by rw[<-bA];exact aU.2 h
   obtain⟨dE,di⟩:=adz r deep (e5 k (deep+1) n).2 aA hle;refine⟨dE,λh=>?_⟩;obtain⟨s1,s2,gF⟩:=di h;exact⟨s1,s2,by rw[n9,n7,cz,gF];rfl⟩
  have bD:(df (e5 k (deep+1) n).1 (deep+1) n).1≠0:=by rw[aV];exact h
  simp only[ne_eq,h,bD,xcc,xaH];exact⟨aV,λbI=>bI.elim⟩
end
def Tm.adA(l:List Tm)(t:Tm):Tm.rows (l++[t])=Tm.rows l++[t.cells]:=by simp[Tm.mz]
def at7(o m:Int)(s:ByteArray)(b:Bool)(ks:List Tm):gI (.mk o m s b ks)= .mk o m s false (n9 ks):=by rw[gI]
def Nt{α β:Type}{a:List α}{b:List β}{i:Nat}{x:α×β}(h:(a.zip b)[i]?=some x):a[i]?=some x.1/\b[i]?=some x.2:=by rw[List.getElem?_zip_eq_some]at h;exact h
def Uo{α β:Type}{a:List α}{b:List β}(h:b.length=a.length):(a.zip b).map (·.2)=b:=List.map_snd_zip (by omega)
def Up{l:List bc}{B:Nat}(ar:ie B l):∀(h n:Nat)(t X:Tm)(deep k:Int),kT l h t X->t.cm->t.bm<=B->1<=deep->deep<=65->0<=k->k<=4096->h+2*B+100<n->rY n [t.d,aQ l,J deep,J k]=some (.a1 [if(df X deep k).1=0 then(gI X).d else fM.d,J (df X deep k).2,J (df X deep k).1])
 |0,_,_,_,_,_,H,_,_,_,_,_,_,_=>H.elim|h+1,0,_,_,_,_,_,_,_,_,_,_,_,aL=>absurd aL (xay _)
 |h+1,n+1,t,X,deep,k,H,bk,aM,ab,af,aw,a5,aL=>by
  have b5:=ar.len;have tR:=ar.b;have iG:=adm n l t.name (by omega) (by omega);have aU:=ac4 n t deep;have hzero:D.agg [J 0,J 0,aC ⟨#[]⟩,D.val (.slice none 0 0)]=fM.d:=LI.symm;rcases H with⟨aG,i,d,ah,aA,kS⟩|⟨iv,ks,rfl,eO,Ar⟩
  .have ig:=ar.e d (xac aA);have av:=Up ar h n d.e X deep k kS ig.1 ig.2 ab af aw a5 (by omega);simp only[ah]at iG;show rX (rY n) n t.d (aQ l) (J deep) (J k)=_;have DI:((3:Int)==3)=true:=rfl;by_cases au:(df X deep k).1=0
   .simp only[au,xaH]at av⊢;simp only[rX,go_sem,aG,DI,iG,yT ((i:Int)>=0),fs aA,bc.g6,av]
   simp only[au,xaI]at av⊢;simp only[rX,go_sem,aG,DI,iG,yT ((i:Int)>=0),fs aA,bc.g6,av]
  have hw:iz (.mk t.op t.num t.name t.nl ks)=iz t:=by have:=ady (o:=t.op) (m:=t.num) (s:=t.name) (b:=t.nl) (b':=t.nl) eO;rw[this];cases t;rfl
  have IC:(t.op==3)=false/\True\/(t.op==3)=true/\xl n [aQ l,aC t.name]=some (J (-1)):=by
   by_cases aw:t.op=3
   .right;have Uq:dt l t.name=none:=by simpa[xC,aw]using iv
    rw[Uq]at iG;exact⟨by simp[aw],iG⟩
   left;simp[aw]
  have ID:decide ((-1:Int)>=0)=false:=by decide
  show rX (rY n) n t.d (aQ l) (J deep) (J k)=_;rw[vx,hw];by_cases bP:64<deep
  .have r7:((17:Int) !=0)=true:=rfl;rcases IC with⟨aH,oY⟩|⟨aH,oY⟩<;>
   simp only[rX,go_sem,aH,oY,ID,lC (bt:=false) (i:=k) (by omega) (by omega),aU,gt_iff_lt,bP,hzero,r7,show¬((17:Int)=0) by omega]
  by_cases b6:iz t=0
  case neg=>
   have r7:(iz t !=0)=true:=by simpa using b6
   rcases IC with⟨aH,oY⟩|⟨aH,oY⟩<;>
   simp only[rX,go_sem,aH,oY,ID,lC (bt:=false) (i:=k) (by omega) (by omega),aU,gt_iff_lt,bP,hzero,r7,b6,ne_eq,xcc]
  have pT:((0:Int) !=0)=false:=rfl;by_cases cA:4096<k+1
  .rcases IC with⟨aH,oY⟩|⟨aH,oY⟩<;>
   simp only[rX,go_sem,aH,oY,ID,lC (bt:=false) (i:=k) (by omega) (by omega),aU,gt_iff_lt,bP,hzero,b6,pT,ne_eq,xbF,xbi,cA,show¬((4:Int)=0) by omega]
  have dv:=dD (f:=HK (rY n) n) (t.aT.zip ks) (λi (s:Int×List Tm)=>[aQ l,J deep,J s.1,J (i:Int),J t.op,J t.num,aC t.name,cl 4 t.nl (Tm.rows t.aT),J 0,J 0,aC ⟨#[]⟩,eM,.ax 4 (Tm.rows s.2)]) (λr (s:Int×List Tm)=>if(fD (r.map (·.2)) (deep+1) s.1).1=0 then(Sum.inl [J (fD (r.map (·.2)) (deep+1) s.1).2,J t.op,J t.num,aC t.name,cl 4 t.nl (Tm.rows t.aT),J 0,J 0,aC ⟨#[]⟩,eM,.ax 4 (Tm.rows (s.2++n9 (r.map (·.2))))]:List D⊕D)else .inr (.a1 [fM.d,J (fD (r.map (·.2)) (deep+1) s.1).2,J (fD (r.map (·.2)) (deep+1) s.1).1])) (λi s=>0<=s.1/\s.1<=4096/\s.2.length=i) ?_ ?_ n 0 (k+1,[]) ⟨by simp;omega,by simp;omega,rfl⟩ (by have:=t.j6;simp[eO];omega) (xai _)
  .have bJ:(J ((0:Nat):Int))=J 0:=rfl;have nm:Tm.rows []=[]:=rfl;simp only[xam,Uo eO,bJ,nm,xaG]at dv;have oo:(Tm.mk t.op t.num t.name t.nl ks).aT=ks:=rfl;have ml:(gI (.mk t.op t.num t.name t.nl ks)).d=D.agg [J t.op,J t.num,aC t.name,.ax 4 (Tm.rows (n9 ks))]:=by rw[at7,Tm.j7];simp[cl,Tm.op,Tm.num,Tm.name,Tm.nl,Tm.aT]
   by_cases au:(fD ks (deep+1) (k+1)).1=0
   .simp only[au,xaH]at dv;rcases IC with⟨aH,oY⟩|⟨aH,oY⟩<;>
    simp only[rX,go_sem,aH,oY,ID,lC (bt:=false) (i:=k) (by omega) (by omega),aU,gt_iff_lt,bP,hzero,b6,pT,ne_eq,xbF,xbU,cA,dv,oo,au,ml]
   simp only[au,xaI]at dv;rcases IC with⟨aH,oY⟩|⟨aH,oY⟩<;>
   simp only[rX,go_sem,aH,oY,ID,lC (bt:=false) (i:=k) (by omega) (by omega),aU,gt_iff_lt,bP,hzero,b6,pT,ne_eq,xbF,xbU,cA,dv,oo,au]
  .intro s _;have e:((t.aT.zip ks).length:Int)=t.aT.length:=by simp[eO]
   simp only[HK,go_sem,e,yF ((t.aT.length:Int)<t.aT.length),xbq,fD,n9,xaD]
  rintro i ⟨a,b⟩ s fp ah ⟨bA,bB,cz⟩;obtain⟨aF,aj⟩:=Nt fp;simp only at aF aj;have hm:=xac aF;have bC:=Tm.je hm;have b5:=bk.len;have cd:(i:Int)<t.aT.length:=by have:=(xae.1 aF).1;omega
  have av:=Up ar h n a b (deep+1) s.1 (Ar i a b aF aj) (bk.gz hm) (by omega) (by omega) (by omega) bA bB (by omega);have jC:=Dy b (deep+1) s.1;have dB:c1 (s.2.length+1) 56=true:=fU (by omega) (by omega);by_cases au:(df b (deep+1) s.1).1=0
  .simp only[au,xaH]at av;left;refine⟨((df b (deep+1) s.1).2,s.2++[gI b]),?_,?_,by simp;omega,by simpa using jC.2 au,by simp[cz]⟩;.have bN:[J (gI b).op,J (gI b).num,aC (gI b).name,cl 4 (gI b).nl (Tm.rows (gI b).aT)]=(gI b).cells:=((gI b).nw).symm;simp only[HK,go_sem,xat cd,Tm.gX aF,lC (bt:=false) (i:=deep) (by omega) (by omega),av,pT,bN,Tm.adA,xao,xaq,xaw,dB,b1 (bt:=false) (i:=i) (by omega)]
   simp only[xaA,fD,au,ne_eq,xbF,xaI,n9,xaO,xbj]
  simp only[au,xaI]at av;have r7:((df b (deep+1) s.1).1 !=0)=true:=by simpa using au
  right;simp only[HK,go_sem,xat cd,Tm.gX aF,lC (bt:=false) (i:=deep) (by omega) (by omega),av,r7,hzero,xaA,fD,ne_eq,au,xcc]
theorem Ur(t:Tm)(deep n:Int):e5 t deep n=if t.aT.isEmpty then(t,n+1)else(.mk t.op t.num t.name false (gv t.aT deep (n+1)).1,(gv t.aT deep (n+1)).2):=by cases t;rw[e5];rfl
def adB(t:Tm):∀(deep n:Int),n+1<=(e5 t deep n).2/\(n<=4096->(e5 t deep n).2<=4097):=by
 refine Tm.ind (P:=λt=>∀(deep n:Int),n+1<=(e5 t deep n).2/\(n<=4096->(e5 t deep n).2<=4097)) ?_ t;intro t ih deep n;have key:∀(ks:List Tm),(∀k∈ks,∀(deep n:Int),n+1<=(e5 k deep n).2/\(n<=4096->(e5 k deep n).2<=4097))->∀(n:Int),n<=(gv ks deep n).2/\(n<=4097->(gv ks deep n).2<=4097):=by
  intro ks
  induction ks with
  |nil=>intro _ n;simp[gv]
  |cons a r l4=>
   intro h n;have ab:=h a (by simp) (deep+1) n;rw[gv];split
   .have af:=l4 (λk ak=>h k (by simp[ak])) (e5 a (deep+1) n).2;simp only;constructor;.omega
    intro _;exact af.2 (by omega)
   exact l4 (λk ak=>h k (by simp[ak])) n
 rw[Ur];split;.simp only[Int.le_refl,true_and];omega
 have:=key t.aT ih (n+1);simp only;constructor;.omega
 intro _;exact this.2 (by omega)
def adC{l:List bc}{B:Nat}(ar:ie B l){M:List (Value×D)}(dY:Ni M l)(r:List D->Option (List D))(fS:Nat)(deep vC:Int):∀(h n:Nat)(t X:Tm),kT l h t X->t.cm->t.bm<=B->h<n-> ∃(t':Tm)(bD:Nat)(ks:List Tm),bD<h/\t'.cm/\t'.bm<=B/\X= .mk t'.op t'.num t'.name t'.nl ks/\ks.length=t'.aT.length/\(∀(j:Nat)(a b:Tm),t'.aT[j]?=some a->ks[j]?=some b->kT l bD a b)/\bp (Gj r fS) n [J deep,.mp M,aQ l,J vC,J t.op,J t.num,aC t.name,cl 4 t.nl (Tm.rows t.aT),J 0,J 0,aC ⟨#[]⟩,eM]=some (.inl [J deep,J vC,J t'.op,J t'.num,aC t'.name,cl 4 t'.nl (Tm.rows t'.aT),J 0,J 0,aC ⟨#[]⟩,eM,.mp M,aQ l])
 |0,_,_,_,H,_,_,_=>H.elim|h+1,0,_,_,_,_,_,aL=>absurd aL (xay _)
 |h+1,n+1,t,X,H,bk,aM,aL=>by
  have hH:=yS dY.1 (z:= .int .i64 0) (x:=t.name);rw[dY.2]at hH;rcases H with⟨aG,i,d,ah,aA,kS⟩|⟨iv,ks,rfl,eO,Ar⟩
  .have ig:=ar.e d (xac aA);have DI:((3:Int)==3)=true:=rfl;rw[ah]at hH;simp only[xaQ]at hH;obtain⟨t',bD,ks,aV,a2,bb,cS,hr,r8,rv⟩:=adC ar dY r fS deep vC h n d.e X kS ig.1 ig.2 (by omega);refine⟨t',bD,ks,by omega,a2,bb,cS,hr,r8,?_⟩;rw[jN,<-rv];simp only[Gj,go_sem,aG,DI,lz,hH,fs aA,bc.g6]
  refine⟨t,h,ks,by omega,bk,aM,rfl,eO,Ar,?_⟩;rw[jN];by_cases aw:t.op=3
  .have Uq:dt l t.name=none:=by simpa[xC,aw]using iv
   have DI:((3:Int)==3)=true:=rfl;rw[Uq]at hH;simp only[xbm]at hH;simp only[Gj,go_sem,aw,DI,lz,hH]
  have aH:(t.op==3)=false:=by simp[aw]
  simp only[Gj,go_sem,aH]
def adD{s:List Tm}{x:Tm}{i k:Nat}(ah:s.length=i)(ak:i<k):(Tm.rows (s++List.replicate (k-i) fM)).set i x.cells=Tm.rows ((s++[x])++List.replicate (k-(i+1)) fM):=by
 obtain⟨m,rfl⟩:∃m,k=i+1+m:=⟨k-(i+1),by omega⟩;have aJ:i+1+m-i=m+1:=by omega
 have aZ:i+1+m-(i+1)=m:=by omega
 subst ah;rw[aJ,aZ];simp[Tm.mz,List.replicate_succ]
def aua{s:List Tm}{i k:Nat}(ah:s.length=i)(ak:i<k):(Tm.rows (s++List.replicate (k-i) fM))[i]?=some fM.cells:=by
 obtain⟨m,rfl⟩:∃m,k=i+1+m:=⟨k-(i+1),by omega⟩;have aJ:i+1+m-i=m+1:=by omega
 subst ah;rw[aJ];simp[Tm.mz,List.replicate_succ]
def aub{t:Nat}(h:t<=1000000):rl 56 (J (t:Int)) (J (t:Int))=some t:=by simp only[rl,J];rw[xad ⟨by omega,by omega,by omega,by omega⟩];simp
def adE{l:List bc}{B:Nat}(ar:ie B l){M:List (Value×D)}(dY:Ni M l):∀(n h:Nat)(t X:Tm)(deep k:Int),kT l h t X->t.cm->t.bm<=B->1<=deep->deep<=65->0<=k->k<=4096->h+2*B+100<n->tl n [t.d,J deep,.mp M,aQ l,J k]=some [(e5 X deep k).1.d,.mp M,aQ l,J (e5 X deep k).2]
 |0,_,_,_,_,_,_,_,_,_,_,_,_,aL=>absurd aL (xay _)
 |n+1,h,t0,X,deep,k,H,auc,aud,ab,af,aw,a5,aL=>by
  have b5:=ar.len;have tR:=ar.b;obtain⟨t,bD,ks,aV,bk,aM,rfl,eO,Ar,rv⟩:=adC ar dY (tl n) n deep k h n t0 X H auc aud (by omega);have oo:(Tm.mk t.op t.num t.name t.nl ks).aT=ks:=rfl;have adF:∀(b:Bool)(r:List Tm),(Tm.mk t.op t.num t.name b r).d=D.agg [J t.op,J t.num,aC t.name,cl 4 b (Tm.rows r)]:=λb r=>by rw[Tm.j7];rfl
  have oC:=t.j6;have bJ:(J ((0:Nat):Int))=J 0:=rfl;show Gk (tl n) n _=_;rw[Ur,oo];cases dk:t.aT with
  |nil=>
   have aue:ks=[]:=by rw[dk]at eO;exact xaF eO
   subst aue;rw[dk]at rv;have pT:((((Tm.rows []).length:Nat):Int)==0)=true:=rfl;simp only[Gk,go_sem,rv,lC (bt:=false) (i:=k) (by omega) (by omega),List.isEmpty_nil,adF];simp
  |cons ae jH=>
   have cR:¬ks.isEmpty=true:=by cases ks with|nil=>rw[dk]at eO;simp at eO|cons _ _=>simp
   have auf:((t.aT.length:Int)==0)=false:=by rw[dk];simp;omega
   rw[xaa cR];show _=some [(Tm.mk t.op t.num t.name false (gv ks deep (k+1)).1).d,.mp M,aQ l,J (gv ks deep (k+1)).2];clear dk;have dv:=dD (f:=Ch (tl n) n) (t.aT.zip ks) (λi (s:Int×List Tm)=>[J deep,cl 4 t.nl (Tm.rows t.aT),J t.aT.length,J (i:Int),J s.1,J t.op,J t.num,aC t.name,cl 4 t.nl (Tm.rows t.aT),J 0,J 0,aC ⟨#[]⟩,eM,.ax 4 (Tm.rows (s.2++List.replicate (t.aT.length-i) fM)),.mp M,aQ l]) (λr (s:Int×List Tm)=>(Sum.inl [J t.op,J t.num,aC t.name,cl 4 t.nl (Tm.rows t.aT),J 0,J 0,aC ⟨#[]⟩,eM,.ax 4 (Tm.rows (s.2++(gv (r.map (·.2)) deep s.1).1)),.mp M,aQ l,J (gv (r.map (·.2)) deep s.1).2]:List D⊕List D)) (λi s=>0<=s.1/\s.1<=4097/\s.2.length=i) ?_ ?_ n 0 (k+1,[]) ⟨by simp;omega,by simp;omega,rfl⟩ (by simp[eO];omega) (xai _)
   .have nm:Tm.rows (List.replicate t.aT.length fM)=List.replicate t.aT.length [J 0,J 0,aC ⟨#[]⟩,D.val (.slice none 0 0)]:=by
     rw[Tm.mz,List.map_replicate];rfl
    simp only[xam,Uo eO,bJ,xaG,Nat.sub_zero,nm]at dv;have IE:=aub (t:=t.aT.length) (by omega);simp only[Gk,go_sem,rv,lC (bt:=false) (i:=k) (by omega) (by omega),auf,IE,dv,adF,B0]
   .intro s aH;have e:(t.aT.zip ks).length=t.aT.length:=by simp[eO]
    simp only[e,Ch,go_sem,yF ((t.aT.length:Int)<t.aT.length),xbq,gv,Nat.sub_self,List.replicate_zero,xaD]
   rintro i ⟨a,b⟩ s fp ah ⟨bA,bB,cz⟩;obtain⟨aF,aj⟩:=Nt fp;simp only at aF aj;have hm:=xac aF;have bC:=Tm.je hm;have Us:=(xae.1 aF).1;have cd:(i:Int)<t.aT.length:=by omega
   left;by_cases ao:deep<=64/\s.1<=4096
   .have av:=adE ar dY n bD a b (deep+1) s.1 (Ar i a b aF aj) (bk.gz hm) (by omega) (by omega) (by omega) bA ao.2 (by omega);have jC:=adB b (deep+1) s.1;have fV:b9 (s.2++List.replicate (t.aT.length-i) fM).length (J (i:Int))=some i:=by
     rw[oK,xad];simp;omega
    have hb:dF fM.cells 0 [J (e5 b (deep+1) s.1).1.op,J (e5 b (deep+1) s.1).1.num,aC (e5 b (deep+1) s.1).1.name,cl 4 (e5 b (deep+1) s.1).1.nl (Tm.rows (e5 b (deep+1) s.1).1.aT)]=(e5 b (deep+1) s.1).1.cells:=by rw[Tm.nw (e5 b (deep+1) s.1).1];rfl
    refine⟨((e5 b (deep+1) s.1).2,s.2++[(e5 b (deep+1) s.1).1]),?_,?_,by simp;omega,by simpa using jC.2 ao.2,by simp[cz]⟩;.simp only[Ch,go_sem,xat cd,Tm.gX aF,xat ao.1,xat ao.2,lC (bt:=false) (i:=deep) (by omega) (by omega),av,fV,aua cz Us,hb,adD cz Us,b1 (bt:=false) (i:=i) (by omega)]
    simp only[xaA,gv,xad ao,xaO,xbj]
   refine⟨(s.1,s.2++[fM]),?_,?_,by simpa using bA,by simpa using bB,by simp[cz]⟩
   .have aBs:=adD (x:=fM) cz Us;have bf:Tm.rows (s.2++List.replicate (t.aT.length-i) fM)=Tm.rows (s.2++[fM]++List.replicate (t.aT.length-(i+1)) fM):=by
     obtain⟨m,hm⟩:∃m,t.aT.length=i+1+m:=⟨t.aT.length-(i+1),by omega⟩;have aJ:i+1+m-i=m+1:=by omega
     have aZ:i+1+m-(i+1)=m:=by omega
     rw[hm,aJ,aZ];simp[List.replicate_succ]
    by_cases E7:deep<=64;.have pk:¬s.1<=4096:=λh=>ao ⟨E7,h⟩;simp only[Ch,go_sem,xat cd,Tm.gX aF,xat E7,xaE pk,bf,b1 (bt:=false) (i:=i) (by omega)]
    simp only[Ch,go_sem,xat cd,Tm.gX aF,xaE E7,bf,b1 (bt:=false) (i:=i) (by omega),xbx]
   simp only[xaA,gv,xaa ao,xaO,xbj]
def As(l:List bc)(S:List Nat):Prop:=∀x∈S,∀y∈to l x,y∈S
def As.r5{l:List bc}{S:List Nat}(h:As l S){a b:Nat}(av:kt (to l) a b)(aF:a∈S):b∈S:=by induction av with|refl=>exact aF|step i j k gR _ ih=>exact ih (h i aF j gR)
def adG(l:List bc)(i n:Nat)(S:List Nat)(ab:iW l.length S)(af:As l S)(aL:l.length<n):iW l.length (hS (to l) n (to l i) S)/\As l (hS (to l) n (to l i) S)/\∀x,x∈hS (to l) n (to l i) S↔x∈S\/∃k∈to l i,kt (to l) k x:=by
 have h:=DE (λi k ak=>lH i k ak) n (to l i) S ab (λx ag=>lH i x ag) (by omega);obtain⟨T,bf⟩:=h.pre;have ao:As l (hS (to l) n (to l i) S):=by
  intro x ag y aP;by_cases aH:x∈S;.rw[bf];simp[af x aH y aP]
  exact h.vz x ag aH y aP
 refine⟨h.inv,ao,λx=>⟨h.r5 x,?_⟩⟩;rintro(ag|⟨k,ak,av⟩);.rw[bf];simp[ag]
 exact ao.r5 av (h.mem k ak)
def adH(l:List bc){B:Nat}(ar:ie B l)(n:Nat)(aL:3*B+200<n)(fr:List Nat)(qf:∀i∈fr,i<l.length)(ml:fr.length<1000000000):∀(m j:Nat)(S:List Nat)(M:List (Value×D)),jO M S->iW l.length S->As l S->fr.length-j<m->j<=fr.length-> ∃cY nB,bp (LZ n) m [da fr,J fr.length,J (j:Int),.mp M,h1 (l.map λd=>dK l d.e)]=some (.inl [.mp cY])/\jO cY nB/\iW l.length nB/\∀x,x∈nB↔x∈S\/∃i∈fr.drop j,∃k∈to l i,kt (to l) k x
 |0,_,_,_,_,_,_,h,_=>absurd h (xay _)
 |m+1,j,S,M,dY,ei,cf,hm,aN=>by
  have b5:=ar.len;rw[jN];by_cases cN:j<fr.length
  .have ak:=xab cN;generalize fr[j]=i at ak;have ah:=qf i (xac ak);have r6:fr.drop j=i::fr.drop (j+1):=by
    obtain⟨bA,bB⟩:=xae.1 ak;rw[xaW bA,bB]
   have gu:=ei.len;obtain⟨vB,e8,ef⟩:=Uk l ar n i S M ah dY ei (by omega);obtain⟨bP,b6,cA⟩:=adG l i n S ei cf (by omega);obtain⟨cY,nB,aV,a2,bb,cS⟩:=adH l ar n aL fr qf ml m (j+1) _ vB ef bP b6 (by omega) cN;refine⟨cY,nB,?_,a2,bb,λx=>?_⟩;.simp only[LZ,go_sem,yT ((j:Int)<(fr.length:Int)),uV ak,iV,e8,b1 (bt:=false) (i:=j) (by omega),aV]
   rw[cS,cA,r6];simp only[xak,exists_eq_or_imp,or_assoc]
  have:j=fr.length:=by omega
  subst this;refine⟨M,S,?_,dY,ei,λx=>by simp⟩;simp only[LZ,go_sem,yF ((fr.length:Int)<fr.length)]
def adI(l:List bc){B:Nat}(ar:ie B l)(n:Nat)(aL:3*B+200<n)(fr:List Nat)(qf:∀i∈fr,i<l.length)(ml:fr.length<1000000000):∀(m j:Nat)(S:List Nat)(M:List (Value×D)),jO M S->iW l.length S->As l S->fr.length-j<m->j<=fr.length-> ∃cY nB,bp (L0 n) m [da fr,J fr.length,J (j:Int),.mp M,h1 (l.map λd=>dK l d.e)]=some (.inl [.mp cY])/\jO cY nB/\iW l.length nB/\∀x,x∈nB↔x∈S\/∃i∈fr.drop j,∃k∈to l i,kt (to l) k x
 |0,_,_,_,_,_,_,h,_=>absurd h (xay _)
 |m+1,j,S,M,dY,ei,cf,hm,aN=>by
  have b5:=ar.len;rw[jN];by_cases cN:j<fr.length
  .have ak:=xab cN;generalize fr[j]=i at ak;have ah:=qf i (xac ak);have r6:fr.drop j=i::fr.drop (j+1):=by
    obtain⟨bA,bB⟩:=xae.1 ak;rw[xaW bA,bB]
   have gu:=ei.len;obtain⟨vB,e8,ef⟩:=Uk l ar n i S M ah dY ei (by omega);obtain⟨bP,b6,cA⟩:=adG l i n S ei cf (by omega);obtain⟨cY,nB,aV,a2,bb,cS⟩:=adI l ar n aL fr qf ml m (j+1) _ vB ef bP b6 (by omega) cN;refine⟨cY,nB,?_,a2,bb,λx=>?_⟩;.simp only[L0,go_sem,yT ((j:Int)<(fr.length:Int)),uV ak,iV,e8,b1 (bt:=false) (i:=j) (by omega),aV]
   rw[cS,cA,r6];simp only[xak,exists_eq_or_imp,or_assoc]
  have:j=fr.length:=by omega
  subst this;refine⟨M,S,?_,dY,ei,λx=>by simp⟩;simp only[L0,go_sem,yF ((fr.length:Int)<fr.length)]
theorem Ut(l:List bc):bu (aQ l)=true:=rfl
theorem adJ(l:List (List Nat)):bu (h1 l)=true:=rfl
def aug(l:List bc){B:Nat}(ar:ie B l)(n:Nat)(aL:3*B+200<n)(fr:List Nat)(qf:∀i∈fr,i<l.length)(ml:fr.length<n)(Uu:fr.length<1000000000): ∃M S,Gi n [h1 (l.map λd=>dK l d.e),da fr]=some [.mp M]/\jO M S/\∀x,x∈S↔∃i∈fr,∃k∈to l i,kt (to l) k x:=by have bJ:(J ((0:Nat):Int))=J 0:=rfl;obtain⟨M,S,aV,a2,bb,cS⟩:=adH l ar n aL fr qf Uu n 0 [] [] jO.nil ⟨by simp,by simp⟩ (by intro x ag;cases ag) (by omega) (xai _);refine⟨M,S,?_,a2,λx=>by rw[cS];simp⟩;rw[bJ]at aV;simp only[Gi,go_sem,adJ,pG,aV]
def auh(l:List bc){B:Nat}(ar:ie B l)(n:Nat)(aL:3*B+200<n)(fr:List Nat)(qf:∀i∈fr,i<l.length)(ml:fr.length<n)(Uu:fr.length<1000000000): ∃M S,Cg n [h1 (l.map λd=>dK l d.e),da fr]=some (.mp M)/\jO M S/\∀x,x∈S↔∃i∈fr,∃k∈to l i,kt (to l) k x:=by have bJ:(J ((0:Nat):Int))=J 0:=rfl;obtain⟨M,S,aV,a2,bb,cS⟩:=adI l ar n aL fr qf Uu n 0 [] [] jO.nil ⟨by simp,by simp⟩ (by intro x ag;cases ag) (by omega) (xai _);refine⟨M,S,?_,a2,λx=>by rw[cS];simp⟩;rw[bJ]at aV;simp only[Cg,aar,go_sem,adJ,pG,aV]
def aui(l:List bc){B:Nat}(ar:ie B l)(n:Nat)(aL:3*B+200<n)(i:Nat)(ah:i<l.length): ∃M,Cg n [h1 (l.map λd=>dK l d.e),D.ax 1 [[J (i:Int)]]]=some (.mp M)/\j4 (.int .i64) (.bool false) false M (J (i:Int))=some (ay (jw l i)):=by
 obtain⟨M,S,aV,a2,bb⟩:=auh l ar n aL [i] (by simpa using ah) (by simp;omega) (by simp);refine⟨M,aV,?_⟩;rw[a2.look (z:= .bool false)];have:(i∈S)↔jw l i=true:=by rw[bb,Uh];simp
 congr 2
 by_cases h:i∈S;.rw[this.1 h];simp[h]
 have bD:jw l i=false:=by cases af:jw l i with|false=>rfl|true=>exact absurd (this.2 af) h
 rw[bD];simp[h]
def r9(l:List bc)(t:Tm):Bool:=(k9 l (dK l t)).all λx=>!jw l x
def auj(l:List bc)(t:Tm):r9 l t=true↔DG l t:=by simp[r9,DG]
def auk(n:Nat)(l:List bc){M:List (Value×D)}(dY:Ni M l)(N t:D)(n2:List ByteArray)(a b c d e f g h:D)(ab:n2.length<n)(af:n2.length<100000000):bp (Ci n) n [aQ l,.mp M,N,bx n2,J n2.length,J 0,a,b,c,d,e,f,g,h,D.ax 1 []]=some (.inl [aQ l,N,a,b,c,d,e,f,g,h,da (n2.filterMap (dt l))]):=by
 have bJ:(J ((0:Nat):Int))=J 0:=rfl;have aJ:da []=D.ax 1 []:=rfl;have cJ:∀x,D.ax 1 (aq (da x))=da x:=λ_=>rfl;have aN:=dD (f:=Ci n) n2 (λj (s:List Nat)=>[aQ l,.mp M,N,bx n2,J n2.length,J (j:Int),a,b,c,d,e,f,g,h,da s]) (λr s=>(.inl [aQ l,N,a,b,c,d,e,f,g,h,da (s++r.filterMap (dt l))]:List D⊕D)) (λj s=>s.length<=j) ?_ ?_ n 0 [] (by simp) (by omega) (xai _)
 .rw[bJ,aJ]at aN;simpa using aN
 .intro s _;simp only[Ci,go_sem,yF ((n2.length:Int)<n2.length),cJ,List.filterMap_nil,xaD]
 intro j b' s aj aN aH;have ag:=n8 aj;have hH:=yS dY.1 (z:= .int .i64 0) (x:=b');rw[dY.2]at hH;left;cases aA:dt l b' with
 |none=>rw[aA]at hH;simp only[xbm]at hH;refine⟨s,?_,by simp[aA],by omega⟩;simp only[Ci,go_sem,yT ((j:Int)<(n2.length:Int)),ag,iV,lz,hH,cJ,b1 (bt:=false) (i:=j) (by omega)]
 |some k=>
  rw[aA]at hH;simp only[xaQ]at hH;have dB:c1 (s.length+1) 8=true:=fU (by omega) (by omega);have aZ:D.ax 1 (aq (da s)++[[J (k:Int)]])=da (s++[k]):=by simp[da]
  have bN:(aq (da s)).length=s.length:=by simp[da]
  refine⟨s++[k],?_,by simp[aA],by simp;omega⟩;simp only[Ci,go_sem,yT ((j:Int)<(n2.length:Int)),ag,iV,lz,hH,cJ,aZ,bN,xao,xaq,xaw,dB,b1 (bt:=false) (i:=j) (by omega)]
def adK(n:Nat)(fr:List Nat)(L N a b c d e f g h:D)(af:fr.length<100000000):∀(m j:Nat)(S:List Nat)(M:List (Value×D)),jO M S->fr.length-j<m->j<=fr.length-> ∃cY nB,bp (L1 n) m [L,N,da fr,J fr.length,J (j:Int),a,b,c,d,e,f,g,h,.mp M]=some (.inl [L,N,a,b,c,d,e,f,g,h,.mp cY])/\jO cY nB/\∀x,x∈nB↔x∈S\/x∈fr.drop j
 |0,_,_,_,_,h,_=>absurd h (xay _)
 |m+1,j,S,M,dY,hm,aN=>by
  rw[jN];by_cases cN:j<fr.length
  .have ak:=xab cN;generalize fr[j]=i at ak;have r6:fr.drop j=i::fr.drop (j+1):=by
    obtain⟨bA,bB⟩:=xae.1 ak;rw[xaW bA,bB]
   obtain⟨vB,dE,di⟩:=dY.put i;obtain⟨cY,nB,aV,a2,bb⟩:=adK n fr L N a b c d e f g h af m (j+1) _ vB di (by omega) cN;refine⟨cY,nB,?_,a2,λx=>?_⟩;.simp only[L1,go_sem,yT ((j:Int)<(fr.length:Int)),uV ak,iV,dE,b1 (bt:=false) (i:=j) (by omega),aV]
   rw[bb,r6,xak];by_cases ah:i∈S
   .rw[xad ah];constructor
    .rintro(h|h);.exact .inl h
     exact .inr (.inr h)
    rintro(h|rfl|h);.exact .inl h
    .exact .inl ah
    exact .inr h
   rw[xaa ah];simp only[xar,List.mem_singleton,or_assoc]
  have:j=fr.length:=by omega
  subst this;refine⟨M,S,?_,dY,λx=>by simp⟩;simp only[L1,go_sem,yF ((fr.length:Int)<fr.length)]
def aul(n:Nat)(l:List bc){B:Nat}(ar:ie B l)(aL:3*B+200<n){M:List (Value×D)}{S:List Nat}(dY:jO M S)(a b c d e f g h:D):bp (zi n) n [aQ l,h1 (l.map λd=>dK l d.e),J l.length,J 0,a,b,c,d,e,f,g,h,.mp M]=some (if(List.range l.length).all (λi=>!(decide (i∈S)&&jw l i))then .inl [aQ l,a,b,c,d,e,f,g,h]else .inr (.a1 [fM.d,J 14])):=by
 have b5:=ar.len;have tR:=ar.b;have bJ:(J ((0:Nat):Int))=J 0:=rfl;have hzero:D.agg [J 0,J 0,aC ⟨#[]⟩,D.val (.slice none 0 0)]=fM.d:=LI.symm;have aN:=dD (f:=zi n) (List.range l.length) (λj (s:Unit)=>[aQ l,h1 (l.map λd=>dK l d.e),J l.length,J (j:Int),a,b,c,d,e,f,g,h,.mp M]) (λr s=>(if r.all (λi=>!(decide (i∈S)&&jw l i))then .inl [aQ l,a,b,c,d,e,f,g,h]else .inr (.a1 [fM.d,J 14]):List D⊕D)) (λj s=>True) ?_ ?_ n 0 () trivial (by simp;omega) (xai _)
 .rw[bJ]at aN;simpa using aN
 .intro s _;rw[List.length_range];simp only[zi,go_sem,yF ((l.length:Int)<l.length),List.all_nil]
 intro j b' s aj aN aH;rw[List.length_range]at aN;have IF:b'=j:=by rw[xbT aN]at aj;exact(xaV aj).symm
 subst IF;have hH:=dY.look (i:=b') (z:= .bool false);obtain⟨M2,e8,ef⟩:=aui l ar n aL b' aN;have cJ:lz (D.mp M2)=some M2:=rfl;by_cases ei:b'∈S
 .by_cases av:jw l b'=true;.right;rw[av]at ef;simp only[zi,go_sem,yT ((b':Int)<(l.length:Int)),hH,xat ei,e8,cJ,ef,hzero,xbP,av,xbx]
  have nP:jw l b'=false:=by simpa using av
  left;rw[nP]at ef;refine⟨(),?_,by simp only[xbP,nP,Bool.and_false,Bool.not_false,xbw],trivial⟩;simp only[zi,go_sem,yT ((b':Int)<(l.length:Int)),hH,xat ei,e8,cJ,ef,b1 (bt:=false) (i:=b') (by omega)]
 left;refine⟨(),?_,by simp only[xbP,xaE ei,xbx,Bool.not_false,xbw],trivial⟩;have aJ:∀(x:Option D)(f:D->Option (List D⊕(List D⊕D))),aa (bL (ay false) true x) (λv=>aa (bZ (ay false) v (ay false)) f)=f (ay false):=λ_ _=>rfl;simp only[zi,go_sem,yT ((b':Int)<(l.length:Int)),hH,xaE ei,aJ,b1 (bt:=false) (i:=b') (by omega)]
inductive sa(C:Nat):Tm->Prop where
 |mk (o m:Int) (s:ByteArray) (b:Bool) (ks:List Tm) (ar:ks.length<=C) (ak:∀k∈ks,sa C k):sa C (.mk o m s b ks)
def kT.ok{l:List bc}{B:Nat}(ar:ie B l):∀{h:Nat}{t X:Tm},kT l h t X->t.cm->t.bm<=B->X.cm/\sa B X
 |0,_,_,H,_,_=>H.elim
 |h+1,t,X,H,bk,aM=>by
  rcases H with⟨aG,i,d,ah,aA,kS⟩|⟨iv,ks,rfl,eO,Ar⟩;.have ig:=ar.e d (xac aA);exact kS.ok ar ig.1 ig.2
  have key:∀k∈ks,k.cm/\sa B k:=by intro k ak;obtain⟨j,aN⟩:=xaU.1 ak;have cN:=(xae.1 aN).1;have aF:t.aT[j]?=some (t.aT[j]'(by omega)):=xab (by omega);have hm:=xac aF;have bC:=Tm.je hm;exact(Ar j _ k aF aN).ok ar (bk.gz hm) (by omega)
  have oC:=t.j6;have b5:=bk.len;obtain⟨dE,di,eY⟩:(-9223372036854775808<=t.op/\t.op<=9223372036854775807)/\(-9223372036854775808<=t.num/\t.num<=9223372036854775807)/\t.name.size<=140737488355328:=by cases bk with|mk o n s b ks aG aL aH ar ak=>exact⟨aG,aL,aH⟩
  exact⟨.mk _ _ _ _ _ dE di eY (by omega) λk ak=>(key k ak).1,.mk _ _ _ _ _ (by omega) λk ak=>(key k ak).2⟩
def sa.gz{C:Nat}{t k:Tm}(h:sa C t)(ak:k∈t.aT):sa C k:=by cases h with|mk o m s b ks ar fO=>exact fO k ak
def sa.len{C:Nat}{t:Tm}(h:sa C t):t.aT.length<=C:=by cases h;assumption
theorem Tm.At(t:Tm):t.bm=2+Tm.ds t.aT:=by cases t;rw[Tm.bm];rfl
def aum(C:Nat)(X:Tm):∀(deep n:Int),X.cm->sa C X->(e5 X deep n).1.cm/\((e5 X deep n).1.bm:Int)<=(2+3*(C:Int))*((e5 X deep n).2-n):=by
 refine Tm.ind (P:=λX=>∀(deep n:Int),X.cm->sa C X->(e5 X deep n).1.cm/\((e5 X deep n).1.bm:Int)<=(2+3*(C:Int))*((e5 X deep n).2-n)) ?_ X;intro t ih deep n bk hw;generalize fj:(2+3*(C:Int))=K at*;have key:∀(ks:List Tm),(∀k∈ks,∀(deep n:Int),(e5 k deep n).1.cm/\((e5 k deep n).1.bm:Int)<=K*((e5 k deep n).2-n))->∀(n:Int),(∀k∈(gv ks deep n).1,k.cm)/\(Tm.ds (gv ks deep n).1:Int)<=K*((gv ks deep n).2-n)+3*(ks.length:Int):=by
  intro ks
  induction ks with
  |nil=>intro _ n;simp[gv,Tm.ds]
  |cons a r l4=>
   intro h n;have ab:=h a (by simp) (deep+1) n;rw[gv];split
   .have af:=l4 (λk ak=>h k (by simp[ak])) (e5 a (deep+1) n).2;refine⟨?_,?_⟩
    .intro k ak;rcases xak.1 ak with rfl|ak
     .exact ab.1
     exact af.1 k ak
    have e:K*((gv r deep (e5 a (deep+1) n).2).2-n)=K*((e5 a (deep+1) n).2-n)+K*((gv r deep (e5 a (deep+1) n).2).2-(e5 a (deep+1) n).2):=by rw[<-Int.mul_add];congr 1;omega
    simp only[Tm.ds,xao];rw[e];omega
   have af:=l4 (λk ak=>h k (by simp[ak])) n;refine⟨?_,?_⟩
   .intro k ak;rcases xak.1 ak with rfl|ak
    .exact RQ
    exact af.1 k ak
   have e:fM.bm=2:=rfl;simp only[Tm.ds,xao,e];omega
 rw[Ur];split
 .rename_i he;have:t.aT=[]:=by simpa using he
  have aJ:t.bm=2:=by rw[Tm.At,this];rfl
  refine⟨bk,?_⟩;simp only[aJ];have aZ:K*(n+1-n)=K:=by rw[show n+1-n=(1:Int) by omega];exact Int.mul_one K
  rw[aZ];omega
 obtain⟨cB,dx⟩:=key t.aT (λk ak deep n=>ih k ak deep n (bk.gz ak) (hw.gz ak)) (n+1);have b5:=bk.len;have aBt:=hw.len;obtain⟨dE,di,eY⟩:(-9223372036854775808<=t.op/\t.op<=9223372036854775807)/\(-9223372036854775808<=t.num/\t.num<=9223372036854775807)/\t.name.size<=140737488355328:=by cases bk with|mk o n s b ks aG aL aH ar ak=>exact⟨aG,aL,aH⟩
 refine⟨.mk _ _ _ _ _ dE di eY (by rw[Ns];omega) cB,?_⟩;rw[Tm.At];have e:K*((gv t.aT deep (n+1)).2-n)=K+K*((gv t.aT deep (n+1)).2-(n+1)):=by
  have:(gv t.aT deep (n+1)).2-n=1+((gv t.aT deep (n+1)).2-(n+1)):=by omega
  rw[this,Int.mul_add,Int.mul_one]
 show((2+Tm.ds (gv t.aT deep (n+1)).1:Nat):Int)<=_;rw[e];omega
def adL{l:List bc}{B h:Nat}(ar:ie B l){t X:Tm}(H:kT l h t X)(bk:t.cm)(aM:t.bm<=B):(e5 X 1 0).1.cm/\(e5 X 1 0).1.bm<=8194+12291*B:=by obtain⟨ab,af⟩:=H.ok ar bk aM;obtain⟨aw,a5⟩:=aum B X 1 0 ab af;refine⟨aw,?_⟩;have aU:=adB X 1 0;have oG:=aU.2 (by omega);have hm:(2+3*(B:Int))*((e5 X 1 0).2-0)<=(2+3*(B:Int))*4097:=Int.mul_le_mul_of_nonneg_left (by omega) (by omega);omega
def aun{l:List bc}{B:Nat}(ar:ie B l)(n h:Nat)(t X:Tm)(H:kT l h t X)(bk:t.cm)(aM:t.bm<=B)(aL:h+2*B+200<n):Gl n [t.d,aQ l]=some (e5 X 1 0).1.d:=by have b5:=ar.len;have tR:=ar.b;obtain⟨M,gx,kk⟩:=Ue n l (by omega) (by omega);have av:=adE ar kk n h t X 1 0 H bk aM (by omega) (by omega) (by omega) (by omega) (by omega);have gb:bu (D.mp M)=true:=rfl;simp only[Gl,aas,go_sem,Ut,gx,gb,av]
def Uv{l:List bc}{B:Nat}(ar:ie B l)(n:Nat)(t:Tm)(bk:t.cm)(aM:t.bm<=B)(aL:20000*B+20000<n):((df t 1 0).1≠0->mB n [t.d,aQ l]=some (.a1 [fM.d,J (df t 1 0).1]))/\((df t 1 0).1=0->r9 l t=false->mB n [t.d,aQ l]=some (.a1 [fM.d,J 14]))/\(∀h X,(df t 1 0).1=0->r9 l t=true->kT l h t X->h+2*B+200<n->mB n [t.d,aQ l]=some (.a1 [if(df (e5 X 1 0).1 1 0).1=0 then(e5 X 1 0).1.d else fM.d,J (df (e5 X 1 0).1 1 0).1])):=by
 have b5:=ar.len;have tR:=ar.b;have hzero:D.agg [J 0,J 0,aC ⟨#[]⟩,D.val (.slice none 0 0)]=fM.d:=LI.symm;have cf:=Nf n t (by omega) bk;obtain⟨M,gx,kk⟩:=Ue n l (by omega) (by omega);have bO:=atO n l ar (by omega);have cc:=Ix n t (by omega) bk (by omega);have cR:=DC t;have hZ:=auk n l kk (h1 (l.map λd=>dK l d.e)) fM.d (db 3 t []) (J t.op) (J t.num) (aC t.name) (cl 4 t.nl (Tm.rows t.aT)) (J 0) (J 0) (aC ⟨#[]⟩) eM (by omega) (by omega);have cO:(db 3 t []).filterMap (dt l)=dK l t:=rfl;rw[cO]at hZ;have Np:=Nj l t;obtain⟨vB,auo,e8,ef,jK⟩:=aug l ar n (by omega) (dK l t) nA (by omega) (by omega);obtain⟨M2,adM,s1,s2,gF⟩:=adK n (dK l t) (aQ l) (h1 (l.map λd=>dK l d.e)) (J t.op) (J t.num) (aC t.name) (cl 4 t.nl (Tm.rows t.aT)) (J 0) (J 0) (aC ⟨#[]⟩) eM (by omega) n 0 auo vB ef (by omega) (xai _);have adN:∀x,x∈adM↔x∈k9 l (dK l t):=by
  intro x;rw[gF,jK,vA l _ nA,xam];constructor
  .rintro(⟨i,ah,k,ak,av⟩|h);.exact⟨i,ah,.step i k x ak av⟩
   exact⟨x,h,.refl x⟩
  rintro⟨i,ah,av⟩;cases av with|refl=>exact .inr ah|step _ k _ ak av=>exact .inl ⟨i,ah,k,ak,av⟩
 have xD:=aul n l ar (by omega) s2 (J t.op) (J t.num) (aC t.name) (cl 4 t.nl (Tm.rows t.aT)) (J 0) (J 0) (aC ⟨#[]⟩) eM;have gB:(List.range l.length).all (λi=>!(decide (i∈adM)&&jw l i))=r9 l t:=by
  rw[Bool.eq_iff_iff];simp only[r9,xaz,xbX,xcb,Bool.and_eq_false_imp,xaC];constructor;.intro h x ag;exact h x ((xA l _ nA).inv.2 x ag) ((adN x).2 ag)
  intro h x ag Nm;exact h x ((adN x).1 Nm)
 rw[gB]at xD;have bJ:(J ((0:Nat):Int))=J 0:=rfl;rw[bJ]at s1;have cJ:∀x,D.ax 1 (aq (da x))=da x:=λ_=>rfl;have pT:((0:Int) !=0)=false:=rfl;have eg:∀x,(aq (da x)).length=x.length:=λx=>by simp[da]
 refine⟨λau=>?_,λau av=>?_,λh X au av H Bd=>?_⟩
 .have r7:((df t 1 0).1 !=0)=true:=by simpa using au
  simp only[mB,Gm,go_sem,cf,r7,hzero]
 .rw[av]at xD;simp only[xav,xaI]at xD;simp only[mB,Gm,go_sem,cf,au,pT,gx,bO,cc,l5,hZ,cJ,eg,e8,pG,s1,ec,xD]
 rw[av]at xD;simp only[xaH]at xD;have iG:=aun ar n h t X H bk aM Bd;obtain⟨f1,f2⟩:=adL ar H bk aM;have Uw:=Nf n (e5 X 1 0).1 (by omega) f1;by_cases aw:(df (e5 X 1 0).1 1 0).1=0
 .rw[aw]at Uw;simp only[mB,Gm,go_sem,cf,au,pT,gx,bO,cc,l5,hZ,cJ,eg,e8,pG,s1,ec,xD,iG,Uw,aw]
 have r7:((df (e5 X 1 0).1 1 0).1 !=0)=true:=by simpa using aw
 simp only[mB,Gm,go_sem,cf,au,pT,gx,bO,cc,l5,hZ,cJ,eg,e8,pG,s1,ec,xD,iG,Uw,aw,r7,hzero]
def Ux{l:List bc}{B:Nat}(ar:ie B l)(n:Nat)(t:Tm)(bk:t.cm)(aM:t.bm<=B)(aL:20000*B+20000<n):((df t 1 0).1≠0->mE n [t.d,aQ l]=some (.a1 [fM.d,J (df t 1 0).1]))/\((df t 1 0).1=0->r9 l t=false->mE n [t.d,aQ l]=some (.a1 [fM.d,J 14]))/\(∀h X,(df t 1 0).1=0->r9 l t=true->kT l h t X->h+2*B+200<n->mE n [t.d,aQ l]=some (.a1 [if(df X 1 0).1=0 then(gI X).d else fM.d,J (df X 1 0).1])):=by
 have b5:=ar.len;have tR:=ar.b;have hzero:D.agg [J 0,J 0,aC ⟨#[]⟩,D.val (.slice none 0 0)]=fM.d:=LI.symm;have cf:=T7 n t (by omega) bk;have Np:=Nj l t;have aj:=Ui l ar n t [] eM (.inr ⟨rfl,rfl⟩) bk aM ⟨by simp,by simp⟩ (by simp;omega);have aup:hS (to l) n (dK l t) []=k9 l (dK l t):=Ug (λi k ak=>lH i k ak) n _ (dK l t) [] ⟨by simp,by simp⟩ nA (by simp;omega) (by simp);rw[aup]at aj;have hL:=xA l (dK l t) nA;have hb:=hL.inv.len;have bJ:(J ((0:Nat):Int))=J 0:=rfl;have pT:((0:Int) !=0)=false:=rfl;generalize PM:k9 l (dK l t)=C at*;have Uy:bK (la [] eM C)=some (J C.length):=by
  unfold la;split;.rename_i h;rw[h];rfl
  exact pG C
 have adO:∀(i x:Nat),C[i]?=some x->bn 1 (la [] eM C) (J (i:Int))=some [J (x:Int)]:=by
  intro i x ag;unfold la;split;.rename_i h;have:C=[]:=xaF h;subst this;simp at ag
  exact uV ag
 have nz:=dD (f:=HM n) C (λi (s:Unit)=>[aQ l,la [] eM C,J (i:Int),J t.op,J t.num,aC t.name,cl 4 t.nl (Tm.rows t.aT),J 0,J 0,aC ⟨#[]⟩,eM]) (λr s=>(if r.all (λx=>!jw l x)then .inl [aQ l,J t.op,J t.num,aC t.name,cl 4 t.nl (Tm.rows t.aT),J 0,J 0,aC ⟨#[]⟩,eM]else .inr (.a1 [fM.d,J 14]):List D⊕D)) (λi s=>True) ?_ ?_ n 0 () trivial (by omega) (xai _)
 .rw[bJ,xam]at nz;have DH:C.all (λx=>!jw l x)=r9 l t:=by rw[r9,PM]
  rw[DH]at nz;refine⟨λau=>?_,λau av=>?_,λh X au av H Bd=>?_⟩
  .have r7:((df t 1 0).1 !=0)=true:=by simpa using au
   simp only[mE,HN,go_sem,cf,r7,hzero]
  .rw[av]at nz;simp only[xav,xaI]at nz;simp only[mE,HN,go_sem,cf,au,pT,aj,nz]
  rw[av]at nz;simp only[xaH]at nz;have aU:=Up ar h n t X 1 0 H bk aM (by omega) (by omega) (by omega) (by omega) (by omega);by_cases aw:(df X 1 0).1=0
  .simp only[aw,xaH]at aU;simp only[mE,HN,go_sem,cf,au,pT,aj,nz,aU,aw]
  simp only[aw,xaI]at aU;simp only[mE,HN,go_sem,cf,au,pT,aj,nz,aU,aw]
 .intro s _;simp only[HM,go_sem,Uy,yF ((C.length:Int)<C.length),List.all_nil]
 intro i x s ag ah aH;have auq:=xac ag;have av:=atY l ar n x (hL.inv.2 x auq) (by omega);cases Nu:jw l x with
 |true=>right;rw[Nu]at av;simp only[HM,go_sem,Uy,yT ((i:Int)<(C.length:Int)),adO i x ag,iV,av,hzero,xbP,Nu,xbx]
 |false=>left;rw[Nu]at av;refine⟨(),?_,by simp only[xbP,Nu,Bool.not_false,xbw],trivial⟩;simp only[HM,go_sem,Uy,yT ((i:Int)<(C.length:Int)),adO i x ag,iV,av,b1 (bt:=false) (i:=i) (by omega)]
mutual
def jP:Tm->Tm
 | .mk o m s b ks=> .mk o m s (b&&ks.isEmpty) (xE ks)
def xE:List Tm->List Tm
 |[]=>[]|k::r=>jP k::xE r
end
def adP:∀l:List Tm,xE l=l.map jP
 |[]=>rfl|k::r=>by rw[xE,adP r];rfl
theorem IG(t:Tm):jP t= .mk t.op t.num t.name (t.nl&&t.aT.isEmpty) (t.aT.map jP):=by cases t;rw[jP,adP];rfl
mutual
def adQ:∀(X:Tm)(deep n:Int),n<=4096->(df X deep n).1=0->(e5 X deep n).1=jP X
 | .mk o m s b ks,deep,n,aL=>by
  intro h;rw[e5,jP];cases ks with
  |nil=>simp[xE]
  |cons k r=>
   simp only[List.isEmpty_cons,xav,xaI,Bool.and_false];rw[df]at h;by_cases ab:deep>64;.rw[xad ab]at h;cases h
   rw[xaa ab]at h;by_cases af:iz (.mk o m s b (k::r))≠0;.rw[xad af]at h;exact absurd h af
   rw[xaa af]at h;by_cases aw:n+1>4096;.rw[xad aw]at h;cases h
   rw[xaa aw]at h;rw[adR (k::r) deep (n+1) (by omega) (by omega) h]
def adR:∀(ks:List Tm)(deep n:Int),deep<=64->n<=4096->(fD ks (deep+1) n).1=0->(gv ks deep n).1=xE ks
 |[],deep,n,_,_=>by simp[gv,xE]
 |k::r,deep,n,aA,aL=>by
  intro h;rw[gv,xad ⟨aA,aL⟩,xE];rw[fD]at h;obtain⟨aV,a2⟩:=Un k (deep+1) n aL;by_cases au:(df k (deep+1) n).1=0;.simp only[au,ne_eq,xbF,xaI]at h;obtain⟨bA,bB,cz⟩:=a2 au;have aU:=(Dy k (deep+1) n).2 au;rw[bA]at h aU;rw[adQ k (deep+1) n aL au,adR r deep _ aA aU h]
  simp only[ne_eq,au,xcc,xaH]at h
end
def Uz(t:Tm):(jP t).bm=t.bm:=by
 refine Tm.ind (P:=λt=>(jP t).bm=t.bm) ?_ t;intro t ih;have key:∀l:List Tm,(∀k∈l,(jP k).bm=k.bm)->Tm.ds (l.map jP)=Tm.ds l:=by
  intro l
  induction l with
  |nil=>intro _;rfl
  |cons a r l4=>intro h;simp only[xaA,Tm.ds];rw[h a (by simp),l4 λk ak=>h k (by simp[ak])]
 rw[Tm.At,Tm.At t,IG];show 2+Tm.ds (t.aT.map jP)=_;rw[key _ ih]
def adS:∀(ks:List Tm),(∀k∈ks,∀(deep n:Int),(df k deep n).1=0->(k.bm:Int)+1<=3*((df k deep n).2-n))->∀(deep n:Int),(fD ks deep n).1=0->(Tm.ds ks:Int)<=3*((fD ks deep n).2-n)
 |[],_,deep,n,_=>by simp[fD,Tm.ds]
 |k::r,ak,deep,n,h=>by
  rw[fD]at h⊢;by_cases au:(df k deep n).1=0;.simp only[au,ne_eq,xbF,xaI]at h⊢;have ab:=ak k (by simp) deep n au;have af:=adS r (λk fO=>ak k (by simp[fO])) deep _ h;simp only[Tm.ds];omega
  simp only[ne_eq,au,xcc,xaH]at h
def aur(t:Tm):∀(deep n:Int),(df t deep n).1=0->(t.bm:Int)+1<=3*((df t deep n).2-n):=by
 refine Tm.ind (P:=λt=>∀(deep n:Int),(df t deep n).1=0->(t.bm:Int)+1<=3*((df t deep n).2-n)) ?_ t;intro t ih deep n h;rw[vx]at h⊢;by_cases ab:deep>64;.rw[xad ab]at h;cases h
 rw[xaa ab]at h⊢;by_cases af:iz t≠0;.rw[xad af]at h;exact absurd h af
 rw[xaa af]at h⊢;by_cases aw:n+1>4096;.rw[xad aw]at h;cases h
 rw[xaa aw]at h⊢;have:=adS t.aT ih (deep+1) (n+1) h;rw[Tm.At];omega
def m6(op:Int):Int:=if op=1 then 0 else if op=3\/op=4\/op=5\/op=9\/op=13 then 2 else if op=2\/op=6\/op=7\/op=8\/op=10\/op=11\/op=12 then 1 else-1
def aus(n:Nat)(op:Int):Gc n [J op]=some (J (m6 op)):=by
 rcases LB op with rfl|rfl|rfl|rfl|rfl|rfl|rfl|rfl|rfl|rfl|rfl|rfl|rfl|rfl|rfl|rfl|rfl|rfl|h
 case inr.inr.inr.inr.inr.inr.inr.inr.inr.inr.inr.inr.inr.inr.inr.inr.inr.inr=>
  have e:∀k:Int,1<=k->k<=18->(op==k)=false:=λk ab af=>by simp;omega
  have aZ:m6 op=-1:=by unfold m6;repeat(first|rw[xaa (by omega)]|rw[xad (by omega)])
  simp[Gc,aao,e,aZ]
 all_goals rfl
def aut(n:Nat)(op:Int):C7 n [J op]=some (J (m6 op)):=by
 rcases LB op with rfl|rfl|rfl|rfl|rfl|rfl|rfl|rfl|rfl|rfl|rfl|rfl|rfl|rfl|rfl|rfl|rfl|rfl|h
 case inr.inr.inr.inr.inr.inr.inr.inr.inr.inr.inr.inr.inr.inr.inr.inr.inr.inr=>
  have e:∀k:Int,1<=k->k<=18->(op==k)=false:=λk ab af=>by simp;omega
  have aZ:m6 op=-1:=by unfold m6;repeat(first|rw[xaa (by omega)]|rw[xad (by omega)])
  simp[C7,abv,e,aZ]
 all_goals rfl
def sb(t:Tm):Int:=if(df t 1 0).1≠0 then(df t 1 0).1 else if 0<(db 4 t []).length then 24 else 0
def oZ(t:Tm):Bool:=t.op==0&&(t.num==0&&(decide (t.name=⟨#[]⟩)&&decide (t.aT.length=0)))
def kb(f:Fm):Int:=if m6 f.op<0 then 11 else if f.op=1/\sb f.e≠0 then sb f.e
 else if(f.aT.length:Int)≠m6 f.op\/(f.op≠1/\oZ f.e=false)then 3 else 0
def auu(n:Nat)(f:Fm)(aL:2*f.e.bm+40<n)(bk:f.cm)(aj:f.e.bm<100000000):ze n [f.d]=some (J (if f.op≠1 then 0 else sb f.e)):=by
 have ab:=Nf n f.e (by omega) bk.e;have af:=Ix n f.e (by omega) bk.e aj;by_cases aG:f.op=1
 case neg=>simp[ze,LW,aG]
 unfold sb;by_cases ao:(df f.e 1 0).1=0
 .have cO:bK (bx (db 4 f.e []))=some (J (db 4 f.e []).length):=by simp[bx]
  by_cases a5:0<(db 4 f.e []).length<;>simp[ze,LW,aG,ab,ao,af,cO,a5]
 simp[ze,LW,aG,ab,ao]
def auv(n:Nat)(t:Tm):HY n [t.d]=some (ay (oZ t)):=by unfold oZ;simp[HY,abw];by_cases ab:t.op=0<;>by_cases af:t.num=0<;>by_cases aw:t.name=⟨#[]⟩<;>by_cases a5:t.aT=[]<;>simp[ab,af,aw,a5]
def auw(n:Nat)(f:Fm)(aL:2*f.e.bm+40<n)(bk:f.cm)(aj:f.e.bm<100000000):vp n [f.d]=some (J (kb f)):=by
 have ab:=T7 n f.e (by omega) bk.e;have af:=Iw n f.e (by omega) bk.e (by omega);have ak:=aut n f.op;have bC:=auv n f.e;have cO:bK (eG true (db 4 f.e []))=some (J (db 4 f.e []).length):=ic _ _;unfold kb;by_cases au:m6 f.op<0
 .simp[vp,C8,ak,au]
 by_cases aG:f.op=1
 .unfold sb;have cB:m6 1=0:=rfl;rw[aG,cB]at ak;by_cases ao:(df f.e 1 0).1=0
  .by_cases a5:0<(db 4 f.e []).length;.simp[vp,C8,ak,aG,ab,ao,af,cO,a5,cB]
   simp[vp,C8,ak,aG,ab,ao,af,cO,a5,cB];by_cases ca:f.aT=[]<;>simp[ca]
  simp[vp,C8,ak,aG,ab,ao,cB]
 simp[vp,C8,ak,au,aG,bC];by_cases ca:(f.aT.length:Int)=m6 f.op;.cases cP:oZ f.e<;>simp[ca,cP]
 simp[ca]
mutual
def h3:Fm->Int->Int->Int×Int
 | .mk o t b ks,deep,k=>if deep>64 then(17,k+1)else if kb (.mk o t b ks)≠0 then(kb (.mk o t b ks),k+1)else if k+1>4096 then(4,k+1)else jQ ks (deep+1) (k+1)
def jQ:List Fm->Int->Int->Int×Int
 |[],_,k=>(0,k)|t::r,deep,k=>if(h3 t deep k).1≠0 then h3 t deep k else jQ r deep (h3 t deep k).2
end
theorem vD(t:Fm)(deep k:Int):h3 t deep k=if deep>64 then(17,k+1)else if kb t≠0 then(kb t,k+1)else if k+1>4096 then(4,k+1)else jQ t.aT (deep+1) (k+1):=by cases t;rw[h3];rfl
mutual
def l6:Fm->Int->Int->Int×Int
 | .mk o t b ks,deep,k=>if deep>64 then(17,k)else if kb (.mk o t b ks)≠0 then(kb (.mk o t b ks),k)else if k+1>4096 then(4,k+1)else oa ks (deep+1) (k+1)
def oa:List Fm->Int->Int->Int×Int
 |[],_,k=>(0,k)|t::r,deep,k=>if(l6 t deep k).1≠0 then l6 t deep k else oa r deep (l6 t deep k).2
end
theorem adT(t:Fm)(deep k:Int):l6 t deep k=if deep>64 then(17,k)else if kb t≠0 then(kb t,k)else if k+1>4096 then(4,k+1)else oa t.aT (deep+1) (k+1):=by cases t;rw[l6];rfl
def adU(t:Fm):∀deep k,(l6 t deep k).1=(h3 t deep k).1/\((l6 t deep k).1=0->(l6 t deep k).2=(h3 t deep k).2):=by
 refine Fm.ind (P:=λt=>∀deep k,(l6 t deep k).1=(h3 t deep k).1/\((l6 t deep k).1=0->(l6 t deep k).2=(h3 t deep k).2)) ?_ t;intro t ih deep k;rw[adT,vD];split;.simp
 split;.rename_i h;simp[h]
 split;.simp
 have key:∀(l:List Fm),(∀x∈l,∀deep k,(l6 x deep k).1=(h3 x deep k).1/\((l6 x deep k).1=0->(l6 x deep k).2=(h3 x deep k).2))->∀deep k,(oa l deep k).1=(jQ l deep k).1/\((oa l deep k).1=0->(oa l deep k).2=(jQ l deep k).2):=by
  intro l
  induction l with
  |nil=>intro _ deep k;simp[oa,jQ]
  |cons a r l4=>
   intro h deep k;rw[oa,jQ];have ab:=h a (by simp) deep k;by_cases af:(h3 a deep k).1=0
   .have aw:=ab.1.trans af;have a5:=ab.2 aw;simp only[af,aw,ne_eq,xbF,xaI,a5];exact l4 (λx ag=>h x (by simp[ag])) deep _
   have aw:(l6 a deep k).1≠0:=by rw[ab.1];exact af
   simp only[ne_eq,af,aw,xcc,xaH];exact⟨ab.1,λh=>h.elim⟩
 exact key t.aT ih _ _
def adV(t:Fm):∀(deep k:Int),k+1<=(h3 t deep k).2/\((h3 t deep k).1=0->(h3 t deep k).2<=4096):=by
 refine Fm.ind (P:=λt=>∀(deep k:Int),k+1<=(h3 t deep k).2/\((h3 t deep k).1=0->(h3 t deep k).2<=4096)) ?_ t;intro t ih deep k;rw[vD];split;.simp
 split;.rename_i h;simp[h]
 split;.simp
 have key:∀(l:List Fm)(deep k:Int),(∀x∈l,∀(deep k:Int),k+1<=(h3 x deep k).2/\((h3 x deep k).1=0->(h3 x deep k).2<=4096))->k<=4096->k<=(jQ l deep k).2/\((jQ l deep k).1=0->(jQ l deep k).2<=4096):=by
  intro l
  induction l with
  |nil=>intro deep k _ h;simp[jQ,h]
  |cons a r l4=>
   intro deep k h ak;rw[jQ];have ab:=h a (by simp) deep k;split
   .rename_i af;exact⟨by omega,λaw=>absurd aw af⟩
   rename_i af;simp only[ne_eq,Decidable.not_not]at af;have aw:=l4 deep (h3 a deep k).2 (λx ag=>h x (by simp[ag])) (ab.2 af);exact⟨by omega,aw.2⟩
 exact key t.aT (deep+1) (k+1) ih (by omega)
def adW:∀(n:Nat)(t:Fm)(deep k:Int),2*t.bm+40<n->t.cm->t.bm<100000000->0<=deep->deep<=65->0<=k->k<=4096->tH n [t.d,J deep,J k]=some (.a1 [J (l6 t deep k).1,J (l6 t deep k).2])
 |0,t,_,_,h,_,_,_,_,_,_=>absurd h (xay _)
 |n+1,t,deep,k,aL,bk,aj,ab,af,aw,a5=>by
  have IH:=t.yX;have aU:=auw n t (by omega) bk (by omega);rw[adT];simp[tH,Tw,lC (bt:=false) (i:=k) (by omega) (by omega),aU];by_cases aA:64<deep
  .simp[aA]
  simp[aA];by_cases hw:kb t=0
  case neg=>simp[hw]
  simp[hw];by_cases ao:4096<k+1;.simp[ao]
  simp[ao];have ar:=dD (f:=MU (tH n) n) t.aT (λi s=>[J deep,J s,J (i:Int),J t.op,J t.e.op,J t.e.num,aC t.e.name,cl 4 t.e.nl (Tm.rows t.e.aT),cl 6 t.nl (Fm.rows t.aT)]) (λr (s:Int)=>if(oa r (deep+1) s).1=0 then(Sum.inl [J (oa r (deep+1) s).2]:List D⊕D)else .inr (.a1 [J (oa r (deep+1) s).1,J (oa r (deep+1) s).2])) (λi s=>0<=s/\s<=4096) ?_ ?_ n 0 (k+1) ⟨by omega,by omega⟩ (by have:=t.j6;omega) (xai _)
  .have bJ:(J ((0:Nat):Int))=J 0:=rfl;rw[bJ]at ar;rw[ar];simp only[xam,eL];by_cases au:(oa t.aT (deep+1) (k+1)).1=0;.simp[au]
   simp[au]
  .intro s aH;simp[MU,oa]
  intro i a s aF ah aH;have hm:=xac aF;have bC:=Fm.je hm;have b5:=bk.len;have av:=adW n a (deep+1) s (by omega) (bk.gz hm) (by omega) (by omega) (by omega) aH.1 aH.2;have jC:=adV a (deep+1) s;have UA:=adU a (deep+1) s;simp[MU,ah,Fm.gX aF,lC (bt:=false) (i:=deep) (by omega) (by omega),av,b1 (bt:=false) (i:=i) (by omega),oa];by_cases au:(l6 a (deep+1) s).1=0
  .left;simp only[au];have ca:=UA.2 au;have cP:=UA.1▸au;refine⟨(l6 a (deep+1) s).2,by simp,by simp,by omega,by rw[ca];exact jC.2 (by rw[<-UA.1];exact au)⟩
  right;simp[au]
def hT(f:Fm):Int:=(h3 f 1 0).1
def Nv(n:Nat)(f:Fm)(aL:2*f.bm+50<n)(bk:f.cm)(aj:f.bm<100000000):vq n [f.d]=some (J (hT f)):=by have:=adW n f 1 0 (by omega) bk aj (by omega) (by omega) (by omega) (by omega);have e:=(adU f 1 0).1;simp[vq,abx,this,e,hT]
def auy(n:Nat)(f:Fm)(deep k w:Int)(aL:2*f.bm+40<n)(bk:f.cm)(aj:f.bm<100000000)(ab:0<=k)(af:k<=4096):∃e,e=(if deep>64 then 17 else if kb f≠0 then kb f else if k+1>4096 then 4 else w)/\Gd n [f.d,J deep,J k,J w]=some [ay (decide (e=0)),J (k+1),J e]:=by
 refine⟨_,rfl,?_⟩;have IH:=f.yX;have aU:=auu n f (by omega) bk (by omega);have ak:=aus n f.op;have b5:bK (cl 6 f.nl (Fm.rows f.aT))=some (J f.aT.length):=by simp
 have auz:(f.e.op==0&&(f.e.num==0&&(decide (f.e.name=⟨#[]⟩)&&decide (f.e.aT.length=0))))=oZ f.e:=rfl;have iU:((f.e.aT.length:Int)==0)=decide (f.e.aT.length=0):=by by_cases h:f.e.aT.length=0<;>simp[h]
 unfold kb;simp only[Gd,go_sem,Tm.B1,lC (bt:=false) (i:=k) (by omega) (by omega),aU,ak,iU,Bool.and_assoc,auz];have hw:(w==0)=decide (w=0):=by by_cases h:w=0<;>simp[h]
 generalize oZ f.e=gq;by_cases bP:64<deep;.simp[bP]
 by_cases b6:m6 f.op<0;.simp[bP,b6]
 by_cases cA:f.op=1
 .have cB:m6 1=0:=rfl;by_cases dC:sb f.e=0;.by_cases eC:f.aT=[]<;>by_cases eD:4096<k+1<;>simp[bP,b6,cA,dC,eC,eD,cB,hw]
  simp[bP,b6,cA,dC,cB]
 by_cases eC:(f.aT.length:Int)=m6 f.op<;>by_cases eD:4096<k+1<;>cases gq<;>simp[bP,b6,cA,eC,eD,hw]
def adX:∀(n:Nat)(t:Fm)(deep k:Int),2*t.bm+45<n->t.cm->t.bm<100000000->0<=deep->deep<=65->0<=k->k<=4096->vr n [t.d,J deep,J k,J 0]=some [ay (decide ((h3 t deep k).1=0)),J (h3 t deep k).2,J (h3 t deep k).1]
 |0,t,_,_,h,_,_,_,_,_,_=>absurd h (xay _)
 |n+1,t,deep,k,aL,bk,aj,ab,af,aw,a5=>by
  obtain⟨e,he,aU⟩:=auy n t deep k 0 (by omega) bk aj aw a5;rw[vD];simp only[vr,TG,go_sem,aU];by_cases Iv:e=0
  case neg=>simp[Iv];grind
  have ao:¬deep>64/\kb t=0/\¬k+1>4096:=by grind
  simp[Iv,ao];have ar:=dD (f:=M1 (vr n) n) t.aT (λi (s:Int)=>[J deep,cl 6 t.nl (Fm.rows t.aT),J t.aT.length,J (i:Int),J s,J 0]) (λr (s:Int)=>if(jQ r (deep+1) s).1=0 then(Sum.inl [J (jQ r (deep+1) s).2,J 0]:List D⊕List D)else .inr [ay false,J (jQ r (deep+1) s).2,J (jQ r (deep+1) s).1]) (λi s=>0<=s/\s<=4096) ?_ ?_ n 0 (k+1) ⟨by omega,by omega⟩ (by have:=t.j6;omega) (xai _)
  .have bJ:(J ((0:Nat):Int))=J 0:=rfl;rw[bJ]at ar;rw[ar];simp only[xam,eL];by_cases au:(jQ t.aT (deep+1) (k+1)).1=0;.simp[au]
   simp[au]
  .intro s aH;simp[M1,jQ]
  intro i a s aF ah aH;have hm:=xac aF;have bC:=Fm.je hm;have b5:=bk.len;have av:=adX n a (deep+1) s (by omega) (bk.gz hm) (by omega) (by omega) (by omega) aH.1 aH.2;have jC:=adV a (deep+1) s;simp[M1,ah,Fm.gX aF,lC (bt:=false) (i:=deep) (by omega) (by omega),av,b1 (bt:=false) (i:=i) (by omega),jQ];by_cases au:(h3 a (deep+1) s).1=0
  .left;exact⟨(h3 a (deep+1) s).2,by simp[au],by simp[au],by omega,jC.2 au⟩
  right;simp[au]
def Nw(n:Nat)(f:Fm)(aL:2*f.bm+50<n)(bk:f.cm)(aj:f.bm<100000000):vt n [f.d]=some (J (hT f)):=by have:=adX n f 1 0 (by omega) bk aj (by omega) (by omega) (by omega) (by omega);simp[vt,abI,this,hT]
def adY:∀(n:Nat)(t u:Tm),t.bm<n->t.cm->u.cm->tK n [t.d,u.d]=some (ay (hK t u))
 |0,t,_,h,_,_=>absurd h (xay _)
 |n+1,t,u,aL,bk,Nx=>by
  have b5:=bk.len;show Ia (tK n) n t.d u.d=_;rcases atK t u with⟨ab,af,aw,a5⟩|⟨bd,ao⟩
  .have ar:=dD (f:=H9 (tK n) n) t.aT (λi (_:Unit)=>[J (i:Int),J t.op,J t.num,aC t.name,cl 4 t.nl (Tm.rows t.aT),J u.op,J u.num,aC u.name,cl 4 u.nl (Tm.rows u.aT)]) (λr _=>if n7 r (u.aT.drop (t.aT.length-r.length))=true then(.inl []:List D⊕D)else .inr (ay false)) (λ_ _=>True) (λ_ _=>by simp[H9,n7]) ?_ n 0 () trivial (by have:=t.j6;omega) (xai _)
   .have bJ:(J ((0:Nat):Int))=J 0:=rfl;rw[bJ]at ar;simp only[xam,Nat.sub_self]at ar;have nM:hK t u=n7 t.aT u.aT:=by rw[DB];simp[ab,af,aw,a5]
    rw[nM];cases aH:n7 t.aT u.aT<;>rw[aH]at ar<;>rw[ab,af,aw]at ar<;>simp[Ia,ab,af,aw,a5,ar]
   intro i a _ aF ah _;have hm:=xac aF;have bC:=Tm.je hm;have Au:i<u.aT.length:=by omega
   have aj:=xab Au;have av:=adY n a u.aT[i] (by omega) (bk.gz hm) (Nx.gz (xaY Au));have e:t.aT.length-(a::t.aT.drop (i+1)).length=i:=by simp;omega
   have dw:t.aT.length-(t.aT.drop (i+1)).length=i+1:=by rw[xcg];omega
   have r6:u.aT.drop i=u.aT[i]::u.aT.drop (i+1):=xaW Au;rw[e,r6,n7,dw];cases aH:hK a u.aT[i];.right;simp[H9,ah,Tm.gX aF,Tm.gX aj,av,aH]
   left;exact⟨(),by simp[H9,ah,Tm.gX aF,Tm.gX aj,av,aH,b1 (bt:=false) (i:=i) (by omega)],by simp,trivial⟩
  rw[bd];by_cases ab:t.op=u.op<;>by_cases af:t.num=u.num<;>by_cases aw:t.name=u.name<;>simp[Ia,ab,af,aw];have a5:¬((t.aT.length:Int)=(u.aT.length:Int)):=λa5=>ao ⟨ab,af,aw,by omega⟩;simp[a5]
mutual
def vE:Fm->Fm->Bool
 | .mk o t _ ks,u=>decide (o=u.op)&&(hK t u.e&&(decide (ks.length=u.aT.length)&&tS ks u.aT))
def tS:List Fm->List Fm->Bool
 |a::r,b::q=>vE a b&&tS r q|[],_=>true|_::_,[]=>true
end
theorem Ny(t u:Fm):vE t u=(decide (t.op=u.op)&&(hK t.e u.e&&(decide (t.aT.length=u.aT.length)&&tS t.aT u.aT))):=by cases t;rw[vE];rfl
def UB:∀(n:Nat)(t u:Fm),t.bm<n->t.cm->u.cm->n6 n [t.d,u.d]=some (ay (vE t u))
 |0,t,_,h,_,_=>absurd h (xay _)
 |n+1,t,u,aL,bk,Nx=>by
  have b5:=bk.len;have IH:=t.yX;have gu:=t.j6;have bf:=adY n t.e u.e (by omega) bk.e Nx.e;rw[Ny];by_cases bP:t.op=u.op
  case neg=>simp[n6,Dp,bP]
  cases b6:hK t.e u.e;.simp[n6,Dp,bP,bf,b6]
  by_cases cA:t.aT.length=u.aT.length
  case neg=>
   have sc:¬((t.aT.length:Int)=(u.aT.length:Int)):=by omega
   simp[n6,Dp,bP,bf,b6,cA,sc]
  have ar:=dD (f:=Ib (n6 n) n) t.aT (λi (_:Unit)=>[J (i:Int),J t.op,J t.e.op,J t.e.num,aC t.e.name,cl 4 t.e.nl (Tm.rows t.e.aT),cl 6 t.nl (Fm.rows t.aT),J u.op,J u.e.op,J u.e.num,aC u.e.name,cl 4 u.e.nl (Tm.rows u.e.aT),cl 6 u.nl (Fm.rows u.aT)]) (λr _=>if tS r (u.aT.drop (t.aT.length-r.length))=true then(.inl []:List D⊕D)else .inr (ay false)) (λ_ _=>True) (λ_ _=>by simp[Ib,tS]) ?_ n 0 () trivial (by omega) (xai _);.have bJ:(J ((0:Nat):Int))=J 0:=rfl;rw[bJ]at ar;simp only[xam,Nat.sub_self]at ar;rw[bP]at ar;cases aH:tS t.aT u.aT<;>rw[aH]at ar<;>simp[n6,Dp,bP,bf,b6,cA,ar]
  intro i a _ aF ah _;have hm:=xac aF;have bC:=Fm.je hm;have Au:i<u.aT.length:=by omega
  have aj:=xab Au;have av:=UB n a u.aT[i] (by omega) (bk.gz hm) (Nx.gz (xaY Au));have e:t.aT.length-(a::t.aT.drop (i+1)).length=i:=by simp;omega
  have dw:t.aT.length-(t.aT.drop (i+1)).length=i+1:=by rw[xcg];omega
  have r6:u.aT.drop i=u.aT[i]::u.aT.drop (i+1):=xaW Au;rw[e,r6,tS,dw];cases aH:vE a u.aT[i];.right;simp[Ib,ah,Fm.gX aF,Fm.gX aj,av,aH]
  left;exact⟨(),by simp[Ib,ah,Fm.gX aF,Fm.gX aj,av,aH,b1 (bt:=false) (i:=i) (by omega)],by simp,trivial⟩
mutual
def nC:Tm->Int->Int
 | .mk _ _ _ _ ks,m=>hU ks m
def hU:List Tm->Int->Int
 |[],m=>m|t::r,m=>if 0<=m then hU r (nC t (m-1))else m
end
mutual
def qI:Fm->Int->Int
 | .mk _ e _ ks,m=>pU ks (nC e (m-1))
def pU:List Fm->Int->Int
 |[],m=>m|t::r,m=>if 0<=m then pU r (qI t m)else m
end
theorem adZ(t:Tm)(m:Int):nC t m=hU t.aT m:=by cases t;rw[nC];rfl
theorem auA(t:Fm)(m:Int):qI t m=pU t.aT (nC t.e (m-1)):=by cases t;rw[qI];rfl
mutual
def II:∀(t:Tm)(m:Int),-1<=m->-1<=nC t m/\nC t m<=m/\(0<=nC t m->5*nC t m+t.bm<=5*m+2)
 | .mk o n s b ks,m,h=>by have:=o0 ks m h;rw[nC];simp only[Tm.bm];omega
def o0:∀(l:List Tm)(m:Int),-1<=m->-1<=hU l m/\hU l m<=m/\(0<=hU l m->5*hU l m+Tm.ds l<=5*m)
 |[],m,h=>by simp only[hU,Tm.ds];omega
 |t::r,m,h=>by
  rw[hU];split;.have ab:=II t (m-1) (by omega);have af:=o0 r (nC t (m-1)) ab.1;simp only[Tm.ds];omega
  omega
end
mutual
def UC:∀(t:Fm)(m:Int),0<=m->-1<=qI t m/\qI t m<=m-1/\(0<=qI t m->5*qI t m+t.bm+1<=5*m)
 | .mk o e b ks,m,h=>by have ab:=II e (m-1) (by omega);have af:=ad0 ks (nC e (m-1)) ab.1;rw[qI];simp only[Fm.bm];omega
def ad0:∀(l:List Fm)(m:Int),-1<=m->-1<=pU l m/\pU l m<=m/\(0<=pU l m->5*pU l m+Fm.ds l<=5*m)
 |[],m,h=>by simp only[pU,Fm.ds];omega
 |t::r,m,h=>by
  rw[pU];split;.have ab:=UC t m (by omega);have af:=ad0 r (qI t m) ab.1;simp only[Fm.ds];omega
  omega
end
def ad1:∀(n:Nat)(t:Tm)(m:Int),t.bm+5<n->t.cm->-1<=m->m<1000000->tc n [t.d,J m]=some (J (nC t m))
 |0,t,_,h,_,_,_=>absurd h (xay _)
 |n+1,t,m,aL,bk,ab,af=>by
  have b5:=bk.len;have Dz:=t.j6;have ar:=dD (f:=FI (tc n) n) t.aT (λi (s:Int)=>[J s,J (i:Int),J t.op,J t.num,aC t.name,cl 4 t.nl (Tm.rows t.aT)]) (λr s=>(.inl [J (hU r s)]:List D⊕D)) (λi s=>-1<=s/\s<=m) (λs _=>by simp[FI,hU]) ?_ n 0 m (by omega) (by omega) (xai _)
  .have bJ:(J ((0:Nat):Int))=J 0:=rfl;rw[bJ]at ar;simp only[xam]at ar;rw[adZ];simp only[tc,RU,go_sem,ar]
  intro i a s aF ah aH;have hm:=xac aF;have bC:=Tm.je hm;by_cases au:0<=s
  .have av:=ad1 n a (s-1) (by omega) (bk.gz hm) (by omega) (by omega);have aj:=II a (s-1) (by omega);left;refine⟨nC a (s-1),?_,by simp[hU,au],by omega⟩;simp only[FI,go_sem,yT ((i:Int)<(t.aT.length:Int)),yT (s>=0),Tm.gX aF,my (bt:=false) (a:=s) (b:=1) (by omega) (by omega),av,b1 (bt:=false) (i:=i) (by omega)]
  right;simp only[FI,go_sem,yT ((i:Int)<(t.aT.length:Int)),yF (s>=0),hU,xaa au]
def ad2:∀(n:Nat)(t:Fm)(m:Int),t.bm+10<n->t.cm->0<=m->m<1000000->te n [t.d,J m]=some (J (qI t m))
 |0,t,_,h,_,_,_=>absurd h (xay _)
 |n+1,t,m,aL,bk,ab,af=>by
  have b5:=bk.len;have Dz:=t.j6;have IH:=t.yX;have aj:=II t.e (m-1) (by omega);have bf:=ad1 n t.e (m-1) (by omega) bk.e (by omega) (by omega);have ar:=dD (f:=FJ (te n) n) t.aT (λi (s:Int)=>[J s,J (i:Int),J t.op,J t.e.op,J t.e.num,aC t.e.name,cl 4 t.e.nl (Tm.rows t.e.aT),cl 6 t.nl (Fm.rows t.aT)]) (λr s=>(.inl [J (pU r s)]:List D⊕D)) (λi s=>-1<=s/\s<=m) (λs _=>by simp[FJ,pU]) ?_ n 0 (nC t.e (m-1)) (by omega) (by omega) (xai _)
  .have bJ:(J ((0:Nat):Int))=J 0:=rfl;rw[bJ]at ar;simp only[xam]at ar;rw[auA];simp only[te,RV,go_sem,my (bt:=false) (a:=m) (b:=1) (by omega) (by omega),bf,ar]
  intro i a s aF ah aH;have hm:=xac aF;have bC:=Fm.je hm;by_cases au:0<=s
  .have av:=ad2 n a s (by omega) (bk.gz hm) (by omega) (by omega);have aj:=UC a s (by omega);left;refine⟨qI a s,?_,by simp[pU,au],by omega⟩;simp only[FJ,go_sem,yT ((i:Int)<(t.aT.length:Int)),yT (s>=0),Fm.gX aF,av,b1 (bt:=false) (i:=i) (by omega)]
  right;simp only[FJ,go_sem,yT ((i:Int)<(t.aT.length:Int)),yF (s>=0),pU,xaa au]
def IJ(f:Fm)(m:Int):Bool:=decide (qI f m>=0)
def auB(n:Nat)(f:Fm)(m:Int)(aL:f.bm+20<n)(bk:f.cm)(ab:0<=m)(af:m<1000000):FL n [f.d,J m]=some (ay (IJ f m)):=by have:=ad2 n f m (by omega) bk ab af;simp[FL,Z7,this,IJ]
def auC{f:Fm}{m:Int}(h:IJ f m=true)(hm:0<=m):(f.bm:Int)+1<=5*m:=by have ab:=xba h;have af:=(UC f m hm).2.2 ab;omega
def nD(t:Fm):Prop:=∃deep k,(h3 t deep k).1=0
def nD.one{t:Fm}(h:nD t):kb t=0:=by
 obtain⟨d,k,h⟩:=h;rw[vD]at h;split at h;.cases h
 split at h;.rename_i af;exact absurd h af
 rename_i af;simpa using af
def auD{l:List Fm}{d k:Int}(h:(jQ l d k).1=0):∀x∈l,nD x:=by
 induction l generalizing k with
 |nil=>intro x ag;cases ag
 |cons a r ih=>
  intro x ag;rw[jQ]at h;by_cases af:(h3 a d k).1=0
  .simp only[af,ne_eq,xbF,xaI]at h;rcases xak.1 ag with rfl|ag
   .exact⟨d,k,af⟩
   exact ih h x ag
  simp only[ne_eq,af,xcc,xaH]at h
def nD.gz{t k:Fm}(h:nD t)(ak:k∈t.aT):nD k:=by
 obtain⟨d,n,h⟩:=h;rw[vD]at h;split at h;.cases h
 split at h;.rename_i af;exact absurd h af
 split at h;.cases h
 exact auD h k ak
def nD.len{t:Fm}(h:nD t):(t.aT.length:Int)=m6 t.op/\¬m6 t.op<0:=by
 have ab:=h.one;unfold kb at ab;split at ab;.cases ab
 rename_i af;refine⟨?_,af⟩;split at ab;.rename_i aw;exact absurd ab aw.2
 split at ab;.cases ab
 rename_i a5;simp only[not_or,Decidable.not_not,ne_eq]at a5;exact a5.1
def T.vF(t:Tm):[J t.op,J t.num,aC t.name,cl 4 t.nl (Tm.rows t.aT)]=t.cells:=(Tm.nw t).symm
def F.ad3(t:Fm):[J t.op,J t.e.op,J t.e.num,aC t.e.name,cl 4 t.e.nl (Tm.rows t.e.aT),cl 6 t.nl (Fm.rows t.aT)]=t.cells:=(Fm.nw t).symm
def adA(s:List Fm)(p:Fm):Fm.rows (s++[p])=Fm.rows s++[p.cells]:=by simp[Fm.mz]
theorem T.xF(t:Tm):D.agg t.cells=t.d:=rfl
theorem F.xF(t:Fm):D.agg t.cells=t.d:=rfl
structure Y where
 b:Bool
 lo:Int
 ah:Int
deriving DecidableEq
def Y.cells(y:Y):List D:=[ay y.b,J y.lo,J y.ah]
def Y.d(y:Y):D:= .agg [ay y.b,J y.lo,J y.ah]
def fW:Y:=⟨false,0,0⟩
def lb:Y:=⟨true,0,0⟩
def Y.lI(y:Y):Prop:=(y.b=true->y.lo=0/\y.ah=0)/\-1048576<=y.lo/\y.lo<=y.ah/\y.ah<=1048576
@[simp] theorem Y.oN (y:Y):a4 3 y.d=true:=rfl
@[simp] theorem Y.a8 (y:Y):ad y.d 0=ay y.b:=rfl
@[simp] theorem Y.bP (y:Y):ad y.d 1=J y.lo:=rfl
@[simp] theorem Y.b6 (y:Y):ad y.d 2=J y.ah:=rfl
@[simp] theorem Y.FD (y:Y):D.agg [ay y.b,J y.lo,J y.ah]=y.d:=rfl
@[simp high] theorem Y.a3 (y:Y):Go.Am.a3 true 3 0 y.cells=some y.d:=rfl
@[simp] theorem Y.gd (y:Y):y.cells[0]?=some (ay y.b):=rfl
@[simp] theorem Y.g6 (y:Y):y.cells[1]?=some (J y.lo):=rfl
@[simp] theorem Y.amb (y:Y):y.cells[2]?=some (J y.ah):=rfl
@[simp] theorem Y.flat (y:Y):y.d.flat=true:=rfl
@[simp] theorem aBu (y:Y) (e:Int):(D.a1 [y.d,J e]).flat=true:=rfl
def kc(lo ah:Int):Y×Int:=if lo< -1048576\/ah>1048576\/lo>ah\/ah-lo>4096 then(fW,2)else(⟨false,lo,ah⟩,0)
def DJ{lo ah:Int}(h:(kc lo ah).2=0):(kc lo ah).1.lI:=by
 unfold kc at*;split at h;.cases h
 rename_i ao;rw[xaa ao];exact⟨by simp,by simp;omega,by simp;omega,by simp;omega⟩
theorem ad4(lo ah:Int):(D.a1 [(kc lo ah).1.d,J (kc lo ah).2])=if lo< -1048576\/ah>1048576\/lo>ah\/ah-lo>4096 then D.a1 [.agg [ay false,J 0,J 0],J 2]else D.a1 [.agg [ay false,J lo,J ah],J 0]:=by unfold kc;split<;>rfl
def vG(n:Nat)(lo ah:Int):rO n [J lo,J ah]=some (.a1 [(kc lo ah).1.d,J (kc lo ah).2]):=by rw[ad4];have a5:-1048576<=lo->ah<=1048576->lo<=ah->IntKind.i64.wrap (ah-lo)=ah-lo:=λ_ _ _=>wrap64 _ (by omega) (by omega);simp[rO,aau,RC,-ZO,-Zs];grind
def IK(n:Nat)(lo ah:Int):qC n [J lo,J ah]=some (.a1 [(kc lo ah).1.d,J (kc lo ah).2]):=by
 have hw:IntKind.i64.wrap (-1048576)=-1048576:=by decide
 rw[ad4];have a5:-1048576<=lo->ah<=1048576->lo<=ah->IntKind.i64.wrap (ah-lo)=ah-lo:=λ_ _ _=>wrap64 _ (by omega) (by omega);simp[qC,abl,RC,hw,-ZO,-Zs];grind
def gZ(l:List Y):D:= .ax 3 (l.map Y.cells)
def IL{l:List Y}{i:Nat}{y:Y}(h:l[i]?=some y):bn 3 (gZ l) (J (i:Int))=some y.cells:=by simp[gZ,h]
def auE(n:Nat)(l:List Y)(aL:l.length<n)(ar:l.length<1000000000):Gs n [gZ l]=some (.a1 [(if l.all Y.b then lb else fW).d,J (if l.all Y.b then 0 else 13)]):=by
 have ah:=dD (f:=Gq n) l (λi (s:Unit)=>[gZ l,J l.length,J (i:Int),ay false,J 0,J 0]) (λr _=>if r.all Y.b then(Sum.inl [ay false,J 0,J 0]:List D⊕D)else .inr (.a1 [fW.d,J 13])) (λ_ _=>True) (λ_ _=>by simp[Gq]) ?_ n 0 () trivial (by omega) (xai _)
 .have bJ:(J ((0:Nat):Int))=J 0:=rfl;rw[bJ]at ah;have b5:bK (gZ l)=some (J l.length):=by simp[gZ]
  simp only[Gs,aav,b5,eL,ah,xam];by_cases h:l.all Y.b=true;.simp only[h,xaH,qs];rfl
  simp only[h,xav,xaI,Fv]
 intro i a _ aF ah _;have:=IL aF;cases aj:a.b
 .right;simp[Gq,ah,this,b1 (bt:=false) (i:=i) (by omega),aj];rfl
 left;exact⟨(),by simp[Gq,ah,this,b1 (bt:=false) (i:=i) (by omega),aj],by simp[aj],trivial⟩
def auF(n:Nat)(l:List Y)(aL:l.length<n)(ar:l.length<1000000000):HR n [gZ l]=some (ay (l.all Y.b)):=by
 have b5:bK (gZ l)=some (J l.length):=by simp[gZ]
 have ah:=dD (f:=HQ n) l (λi (s:Unit)=>[gZ l,J (i:Int)]) (λr _=>if r.all Y.b then(Sum.inl []:List D⊕D)else .inr (ay false)) (λ_ _=>True) (λ_ _=>by simp[HQ,b5]) ?_ n 0 () trivial (by omega) (xai _)
 .have bJ:(J ((0:Nat):Int))=J 0:=rfl;rw[bJ]at ah;simp only[HR,abn,eL,ah,xam];by_cases h:l.all Y.b=true;.simp only[h,xaH,qs,eL]
  simp only[h,xav,xaI,Fv,eL]
 intro i a _ aF ah _;have:=IL aF;cases aj:a.b
 .right;simp[HQ,b5,ah,this,b1 (bt:=false) (i:=i) (by omega),aj]
 left;exact⟨(),by simp[HQ,b5,ah,this,b1 (bt:=false) (i:=i) (by omega),aj],by simp[aj],trivial⟩
def sd(a b:Int):Int:=if b<a then b else a
def hz(a b:Int):Int:=if b>a then b else a
def UD(a b:Int):lT true [J a,J b]=some (J (hz a b)):=ZI a b
def UE(a b:Int):lT false [J a,J b]=some (J (sd a b)):=ZJ a b
theorem auG(a b c d:Int):lT true [J a,J b,J c,J d]=some (J (hz (hz (hz a b) c) d)):=rfl
theorem auH(a b c d:Int):lT false [J a,J b,J c,J d]=some (J (sd (sd (sd a b) c) d)):=rfl
def xG{x y:Int}(ag:-1048576<=x/\x<=1048576)(aP:-1048576<=y/\y<=1048576):-1099511627776<=x*y/\x*y<=1099511627776:=by
 have ab:x.natAbs<=1048576:=by omega
 have af:y.natAbs<=1048576:=by omega
 have aw:(x*y).natAbs<=1048576*1048576:=by rw[Int.natAbs_mul];exact Nat.mul_le_mul ab af
 omega
def Nz(a b:Y):Int:=sd (sd (sd (a.lo*b.lo) (a.lo*b.ah)) (a.ah*b.lo)) (a.ah*b.ah)
def NA(a b:Y):Int:=hz (hz (hz (a.lo*b.lo) (a.lo*b.ah)) (a.ah*b.lo)) (a.ah*b.ah)
def tT(op:Int)(a b:Y):Y×Int:=if op=15 then kc (a.lo-b.ah) (a.ah-b.lo)else if op=14 then kc (a.lo+b.lo) (a.ah+b.ah)else kc (Nz a b) (NA a b)
def auI(n:Nat)(op:Int)(a b:Y)(aF:a.lI)(aj:b.lI):zj n [J op,a.d,b.d]=some (.a1 [(tT op a b).1.d,J (tT op a b).2]):=by
 obtain⟨_,an,ba,b2⟩:=aF;obtain⟨_,dP,gw,h7⟩:=aj;have k2:IntKind.i64.wrap (-b.ah)=-b.ah:=wrap64 _ (by omega) (by omega);have qh:IntKind.i64.wrap (-b.lo)=-b.lo:=wrap64 _ (by omega) (by omega);by_cases ab:op=15
 .subst ab;have aJ:a.lo+-b.ah=a.lo-b.ah:=by omega
  have aZ:a.ah+-b.lo=a.ah-b.lo:=by omega
  simp(disch:=omega) [zj,L2,tT,k2,qh,gy,vG,aJ,aZ]
 by_cases af:op=14;.subst af;simp(disch:=omega) [zj,L2,tT,gy,vG]
 have gx:=xG (x:=a.lo) (y:=b.lo) (by omega) (by omega);have kk:=xG (x:=a.lo) (y:=b.ah) (by omega) (by omega);have r4:=xG (x:=a.ah) (y:=b.lo) (by omega) (by omega);have auJ:=xG (x:=a.ah) (y:=b.ah) (by omega) (by omega);simp(disch:=omega) [zj,L2,tT,ab,af,Lr,vG,auG,auH,Nz,NA]
def auK(n:Nat)(a b:Y)(aL:6<=n)(aF:a.lI)(aj:b.lI):HS n [a.d,b.d]=some (.a1 [J (Nz a b),J (NA a b)]):=by
 obtain⟨_,an,ba,b2⟩:=aF;obtain⟨_,dP,gw,h7⟩:=aj;have gx:=xG (x:=a.lo) (y:=b.lo) (by omega) (by omega);have kk:=xG (x:=a.lo) (y:=b.ah) (by omega) (by omega);have r4:=xG (x:=a.ah) (y:=b.lo) (by omega) (by omega);have auJ:=xG (x:=a.ah) (y:=b.ah) (by omega) (by omega);obtain⟨k,rfl⟩:∃k,n=k+4:=⟨n-4,by omega⟩;have DA:b9 4 (J 0)=some 0:=rfl;have dE:b9 4 (J 1)=some 1:=rfl;have di:b9 4 (J 2)=some 2:=rfl;have eY:b9 4 (J 3)=some 3:=rfl;unfold Nz NA;simp(disch:=omega) [HS,abo,Lr,DA];generalize a.lo*b.lo=w at*;generalize a.lo*b.ah=x at*;generalize a.ah*b.lo=y at*;generalize a.ah*b.ah=z at*;have jR:sd w x=sd w x:=rfl;have step:∀(p q:Int)(i j:Int)(r:Int),i+1=j->(b9 4 (J i)=some i.toNat)->i<4->0<=i->([[J w],[J x],[J y],[J z]]:List (List D))[i.toNat]?=some [J r]->MS (k+4) [J p,J q,J i,.ax 1 [[J w],[J x],[J y],[J z]]]=some (.inl [J (sd p r),J (hz q r),J j,.ax 1 [[J w],[J x],[J y],[J z]]]):=by intro p q i j r au ab af aw a5;subst au;simp(disch:=omega) [MS,ab,af,a5,UD,UE,gy]
 rw[jN,step w w 1 2 x rfl rfl (by omega) (by omega) rfl];simp only[eL];rw[jN,step _ _ 2 3 y rfl rfl (by omega) (by omega) rfl];simp only[eL];rw[jN,step _ _ 3 4 z rfl rfl (by omega) (by omega) rfl];simp only[eL];rw[jN];simp[MS]
def Valid(t:Tm):Prop:=∃deep k:Int,(df t deep k).1=0
def Valid.NB{t:Tm}(h:Valid t):iz t=0:=by
 obtain⟨deep,k,h⟩:=h;rw[vx]at h;split at h;.cases h
 split at h;.assumption
 rename_i ao;simpa using ao
def ad5:∀(l:List Tm)(deep k:Int),(fD l deep k).1=0->∀x∈l,Valid x
 |[],_,_,_,x,ag=>by cases ag
 |a::r,deep,k,h,x,ag=>by
  rw[fD]at h;split at h;.rename_i ao;exact absurd h ao
  rename_i ao;rcases xak.1 ag with rfl|ag
  .exact⟨deep,k,by simpa using ao⟩
  exact ad5 r deep _ h x ag
def Valid.gz{t x:Tm}(h:Valid t)(ag:x∈t.aT):Valid x:=by
 have hw:=h.NB;obtain⟨deep,k,h⟩:=h;rw[vx]at h;split at h;.cases h
 split at h;.rename_i ao;exact absurd hw ao
 split at h;.cases h
 exact ad5 _ _ _ h x ag
def Valid.op{t:Tm}(h:Valid t):1<=t.op/\t.op<=18:=by
 have hw:=h.NB;unfold iz at hw;split at hw;.cases hw
 rename_i ao;unfold hk at ao;refine xbC λaL=>?_;simp only[show¬(t.op=1\/t.op=2\/t.op=3\/t.op=4) by omega,show¬t.op=5 by omega,show¬(t.op=6\/t.op=7) by omega,show¬t.op=18 by omega,show(t.op<1\/t.op>18) by omega,xaH,xaI]at ao;exact ao (by decide)
def ad6{t:Tm}(hw:iz t=0):¬(hk t.op).1<0/\¬((t.num<(if t.op=1 then-255 else 0))\/t.num>(if t.op=1 then 255 else if t.op=2 then 1 else 0))/\ ¬(if Dx t.op then t.name=⟨#[]⟩\/t.name.size>24 else t.name≠⟨#[]⟩)/\¬((t.aT.length:Int)<(hk t.op).1\/(t.aT.length:Int)>(hk t.op).2):=by
 unfold iz at hw;by_cases ab:(hk t.op).1<0;.rw[xad ab]at hw;cases hw
 rw[xaa ab]at hw;by_cases af:(t.num<(if t.op=1 then-255 else 0))\/t.num>(if t.op=1 then 255 else if t.op=2 then 1 else 0);.rw[xad af]at hw;cases hw
 rw[xaa af]at hw;by_cases aw:(if Dx t.op then t.name=⟨#[]⟩\/t.name.size>24 else t.name≠⟨#[]⟩);.rw[xad aw]at hw;cases hw
 rw[xaa aw]at hw;by_cases a5:((t.aT.length:Int)<(hk t.op).1\/(t.aT.length:Int)>(hk t.op).2);.rw[xad a5]at hw;cases hw
 exact⟨ab,af,aw,a5⟩
def Valid.len{t:Tm}(h:Valid t):(hk t.op).1<=t.aT.length/\(t.aT.length:Int)<=(hk t.op).2:=by have:=(ad6 h.NB).2.2.2;omega
def Valid.num{t:Tm}(h:Valid t):-255<=t.num/\t.num<=255/\(t.op≠1->0<=t.num/\t.num<=1)/\(t.op≠1->t.op≠2->t.num=0):=by
 have af:=(ad6 h.NB).2.1;by_cases bP:t.op=1;.simp only[bP,xaH]at af;exact⟨by omega,by omega,by omega,by omega⟩
 by_cases b6:t.op=2;.simp only[bP,b6,xaH,xaI]at af;exact⟨by omega,by omega,by omega,by omega⟩
 simp only[bP,b6,xaI]at af;exact⟨by omega,by omega,by omega,by omega⟩
def ld(t:Tm)(l:List Y):Y×Int:=if 5<=t.op/\t.op<=9 then if l.all Y.b then(lb,0)else(fW,13)
 else match l with
  |[a,b,c]=>if(!a.b||(b.b !=c.b))then(fW,13)else if b.b then(lb,0)else kc (sd b.lo c.lo) (hz b.ah c.ah)
  |[a,b]=>if t.op=10\/t.op=11 then if a.b !=b.b then(fW,13)else(lb,0)
   else if(a.b||b.b)then(fW,13)
   else if t.op=12\/t.op=13 then(lb,0)
   else if t.op=17 then(match t.aT[1]? with
    |some k=>if k.op≠1\/k.num<1 then(fW,2)else kc 0 (k.num-1)
    |none=>(fW,0))
   else tT t.op a b
  |_=>(fW,0)
theorem ad7{α:Type}{l:List α}(h:l.length=3):∃a b c,l=[a,b,c]:=by match l,h with|[a,b,c],_=>exact⟨a,b,c,rfl⟩
theorem NC{α:Type}{l:List α}(h:l.length=2):∃a b,l=[a,b]:=by match l,h with|[a,b],_=>exact⟨a,b,rfl⟩
theorem ad8{op:Int}(h:op=18):hk op=(3,3):=by subst h;rfl
def ad9{op:Int}(h:8<=op/\op<=17):hk op=(2,2):=by unfold hk;rw[xaa (by omega),xaa (by omega),xaa (by omega),xaa (by omega),xaa (by omega)]
def aea{l:List Tm}{b:Bool}{t:Tm}(h:l[1]?=some t):bn 4 (cl 4 b (Tm.rows l)) (J 1)=some t.cells:=Tm.gX (i:=1) h
def ND{l:List Y}{y:Y}(h:l[0]?=some y):bn 3 (gZ l) (J 0)=some y.cells:=IL (i:=0) h
def NF{l:List Y}{y:Y}(h:l[1]?=some y):bn 3 (gZ l) (J 1)=some y.cells:=IL (i:=1) h
def aeb{l:List Y}{y:Y}(h:l[2]?=some y):bn 3 (gZ l) (J 2)=some y.cells:=IL (i:=2) h
set_option maxHeartbeats 1000000 in
def auL(n:Nat)(t:Tm)(l:List Y)(a6:Valid t)(cu:l.length=t.aT.length)(eI:5<=t.op)(b8:∀y∈l,y.lI)(aL:100<n):zZ n [t.d,gZ l]=some (.a1 [(ld t l).1.d,J (ld t l).2]):=by
 have auM:=a6.op;have b5:=a6.len;have a8:=Tm.uT t;have cA:=Tm.wZ t;have lf:=Tm.oN t;have iX:D.agg [ay false,J 0,J 0]=fW.d:=rfl;have lg:D.agg [ay true,J 0,J 0]=lb.d:=rfl;have ak:=ad9 (op:=t.op);have UF:=ad8 (op:=t.op);have auN:l.length<=64:=by
  have:(hk t.op).2<=64:=by unfold hk;repeat(first|split|decide)
  omega
 have aM:=auF n l (by omega) (by omega);by_cases ab:t.op<=9
 .have e:ld t l=if l.all Y.b then(lb,0)else(fW,13):=by unfold ld;rw[xad ⟨eI,ab⟩]
  rw[e];have ao:t.op=5\/t.op=6\/t.op=7\/t.op=8\/t.op=9:=by omega
  generalize t.op=op at*;generalize l.all Y.b=q at*;rcases ao with rfl|rfl|rfl|rfl|rfl<;>simp[zZ,MT,lf,a8,aM,iX,lg]<;>cases q<;>simp
 by_cases af:t.op=18;.rw[UF af]at b5;obtain⟨a,b,c,rfl⟩:=ad7 (l:=l) (by simp at b5;omega);have ph:=ND (l:=[a,b,c]) rfl;have aV:=NF (l:=[a,b,c]) rfl;have a2:=aeb (l:=[a,b,c]) rfl;unfold ld;generalize gZ [a,b,c]=L at*;rw[xaa (by omega)];simp[zZ,MT,lf,a8,af,ph,aV,a2,iX,lg,IK,UD,UE];cases a.b<;>cases b.b<;>cases c.b<;>(try simp)
 have aw:10<=t.op/\t.op<=17:=by omega
 rw[ak (by omega)]at b5;obtain⟨a,b,rfl⟩:=NC (l:=l) (by simp at b5;omega);have ph:=ND (l:=[a,b]) rfl;have aV:=NF (l:=[a,b]) rfl;have IM:=b8 a (by simp);have xH:=b8 b (by simp);have aU:=auK n a b (by omega) IM xH;obtain⟨_,an,ba,b2⟩:=IM;obtain⟨_,dP,gw,h7⟩:=xH;unfold ld;generalize gZ [a,b]=L at*;rw[xaa (by omega)];obtain⟨EW,cB,eO⟩:=NC (l:=t.aT) (by simp at b5;omega);have UG:=aea (l:=t.aT) (b:=t.nl) (t:=cB) (by rw[eO];rfl);have auO:=(a6.gz (x:=cB) (by rw[eO];simp)).num;have s1:IntKind.i64.wrap (cB.num-1)=cB.num-1:=wrap64 _ (by omega) (by omega);have f5:ai false .sub (J cB.num) (J 1)=some (J (cB.num-1)):=my (by omega) (by omega);have f1:ai false .add (J a.lo) (J b.lo)=some (J (a.lo+b.lo)):=gy (by omega) (by omega);have f2:ai false .add (J a.ah) (J b.ah)=some (J (a.ah+b.ah)):=gy (by omega) (by omega);have f3:ai false .sub (J a.lo) (J b.ah)=some (J (a.lo-b.ah)):=my (by omega) (by omega);have f4:ai false .sub (J a.ah) (J b.lo)=some (J (a.ah-b.lo)):=my (by omega) (by omega);have ao:t.op=10\/t.op=11\/t.op=12\/t.op=13\/t.op=14\/t.op=15\/t.op=16\/t.op=17:=by omega
 have bA:(t.aT[1]?)=some cB:=by rw[eO];rfl
 generalize t.op=op at*;have auP:∀x y:Int,kc x y=kc x y:=λ_ _=>rfl;rcases ao with rfl|rfl|rfl|rfl|rfl|rfl|rfl|rfl<;>
  cases eh:a.b<;>cases gL:b.b<;>simp[zZ,MT,lf,a8,cA,ph,aV,UG,bA,iX,lg,IK,tT,f1,f2,f3,f4,f5,aU,eh,gL]
 all_goals (by_cases iZ:cB.op=1<;>by_cases pf:cB.num<1<;>simp[iZ,pf])
set_option maxHeartbeats 2000000 in
def auQ(n:Nat)(auR M:D)(t:Tm)(nx:Bool)(l:List Y)(a6:Valid t)(cu:l.length=t.aT.length)(eI:5<=t.op)(b8:∀y∈l,y.lI)(aL:100<n):oT n [auR,M,t.d,ay nx,gZ l]=some (.a1 [(ld t l).1.d,J (ld t l).2]):=by
 have auM:=a6.op;have b5:=a6.len;have a8:=Tm.uT t;have cA:=Tm.wZ t;have lf:=Tm.oN t;have iX:D.agg [ay false,J 0,J 0]=fW.d:=rfl;have lg:D.agg [ay true,J 0,J 0]=lb.d:=rfl;have ak:=ad9 (op:=t.op);have UF:=ad8 (op:=t.op);have auN:l.length<=64:=by
  have:(hk t.op).2<=64:=by unfold hk;repeat(first|split|decide)
  omega
 have aM:=auE n l (by omega) (by omega);by_cases ab:t.op<=9
 .have e:ld t l=if l.all Y.b then(lb,0)else(fW,13):=by unfold ld;rw[xad ⟨eI,ab⟩]
  rw[e];have ao:t.op=5\/t.op=6\/t.op=7\/t.op=8\/t.op=9:=by omega
  generalize t.op=op at*;generalize l.all Y.b=q at*;rcases ao with rfl|rfl|rfl|rfl|rfl<;>simp[oT,tp,lf,a8,aM,iX,lg]<;>cases q<;>simp
 by_cases af:t.op=18;.rw[UF af]at b5;obtain⟨a,b,c,rfl⟩:=ad7 (l:=l) (by simp at b5;omega);have ph:=ND (l:=[a,b,c]) rfl;have aV:=NF (l:=[a,b,c]) rfl;have a2:=aeb (l:=[a,b,c]) rfl;have xH:=(b8 b (by simp)).1;unfold ld;generalize gZ [a,b,c]=L at*;rw[xaa (by omega)];simp[oT,tp,lf,a8,af,ph,aV,a2,iX,lg,vG,UD,UE];obtain⟨gq,aBv,aBw⟩:=b;cases a.b<;>cases gq<;>cases c.b<;>simp at xH⊢;obtain⟨rfl,rfl⟩:=xH;rfl
 have aw:10<=t.op/\t.op<=17:=by omega
 rw[ak (by omega)]at b5;obtain⟨a,b,rfl⟩:=NC (l:=l) (by simp at b5;omega);have ph:=ND (l:=[a,b]) rfl;have aV:=NF (l:=[a,b]) rfl;have IM:=b8 a (by simp);have xH:=b8 b (by simp);have aU:=λop=>auI n op a b IM xH;obtain⟨_,an,ba,b2⟩:=IM;obtain⟨_,dP,gw,h7⟩:=xH;unfold ld;generalize gZ [a,b]=L at*;rw[xaa (by omega)];obtain⟨EW,cB,eO⟩:=NC (l:=t.aT) (by simp at b5;omega);have UG:=aea (l:=t.aT) (b:=t.nl) (t:=cB) (by rw[eO];rfl);have auO:=(a6.gz (x:=cB) (by rw[eO];simp)).num;have s1:IntKind.i64.wrap (cB.num-1)=cB.num-1:=wrap64 _ (by omega) (by omega);have f5:ai false .sub (J cB.num) (J 1)=some (J (cB.num-1)):=my (by omega) (by omega);have f1:ai false .add (J a.lo) (J b.lo)=some (J (a.lo+b.lo)):=gy (by omega) (by omega);have f2:ai false .add (J a.ah) (J b.ah)=some (J (a.ah+b.ah)):=gy (by omega) (by omega);have f3:ai false .sub (J a.lo) (J b.ah)=some (J (a.lo-b.ah)):=my (by omega) (by omega);have f4:ai false .sub (J a.ah) (J b.lo)=some (J (a.ah-b.lo)):=my (by omega) (by omega);have ao:t.op=10\/t.op=11\/t.op=12\/t.op=13\/t.op=14\/t.op=15\/t.op=16\/t.op=17:=by omega
 have bA:(t.aT[1]?)=some cB:=by rw[eO];rfl
 generalize t.op=op at*;have auP:∀x y:Int,kc x y=kc x y:=λ_ _=>rfl;rcases ao with rfl|rfl|rfl|rfl|rfl|rfl|rfl|rfl<;>
  cases eh:a.b<;>cases gL:b.b<;>simp[oT,tp,lf,a8,cA,ph,aV,UG,bA,iX,lg,vG,aU,f1,f2,f3,f4,f5,eh,gL]
 all_goals (by_cases iZ:cB.op=1<;>by_cases pf:cB.num<1<;>simp[iZ,pf])
def fq(vs:List V)(x:ByteArray):Option Nat:=vs.findIdx? (λv=>decide (v.name=x))
def IN{vs:List V}{x:ByteArray}{i:Nat}(h:fq vs x=some i):∃v,vs[i]?=some v/\v.name=x/\i<vs.length:=by obtain⟨ab,af,_⟩:=xbh.1 h;exact⟨_,xab ab,by simpa using af,ab⟩
theorem V.IP(v:V):v.cells[0]?=some (aC v.name)/\v.cells[1]?=some (ay v.bool)/\v.cells[2]?=some (J v.lo)/\v.cells[3]?=some (J v.ah):=⟨rfl,rfl,rfl,rfl⟩
def ij{l:List V}{i:Nat}{v:V}(h:l[i]?=some v):bn 4 (bl l) (J (i:Int))=some v.cells:=by simp[bl,h]
def fX(l:List V):bK (bl l)=some (J l.length):=by simp[bl]
theorem V.tU(v:V):a3 true 4 0 v.cells=some v.d/\a4 4 v.d=true/\ad v.d 0=aC v.name:=⟨rfl,rfl,rfl⟩
def tV:List V->Nat->List (Value×D)->List (Value×D)
 |[],_,M=>M|v::r,i,M=>tV r (i+1) (if(gH M v.name).isSome then M else(nr .string M (aC v.name) (J i)).getD [])
def UH:∀(r:List V)(i:Nat)(M:List (Value×D)),lD M->lD (tV r i M)/\∀x,gH (tV r i M) x=match gH M x with|some d=>some d|none=>(fq r x).map λj=>J ((i+j:Nat):Int)
 |[],i,M,h=>⟨h,λx=>by simp only[tV,fq,List.findIdx?_nil];cases gH M x<;>rfl⟩
 |v::r,i,M,h=>by
  rw[tV];have e:∀x,fq (v::r) x=if v.name=x then some 0 else(fq r x).map (·+1):=by intro x;simp[fq,xbY]
  by_cases aH:(gH M v.name).isSome
  .rw[xad aH];obtain⟨ab,af⟩:=UH r (i+1) M h;refine⟨ab,λx=>?_⟩;rw[af x,e x];cases ag:gH M x with
   |some d=>rfl
   |none=>
    have cR:¬v.name=x:=by rintro rfl;simp[ag]at aH
    simp only[cR,xaI,Option.map_map]
    congr 1
    funext j
    simp only[Function.comp]
    congr 2
    omega
  rw[xaa aH];obtain⟨cY,dE,di,eY,_⟩:=B3 h v.name (J i);rw[dE,xbe];obtain⟨ab,af⟩:=UH r (i+1) cY di;refine⟨ab,λx=>?_⟩;rw[af x,eY x,e x];by_cases ag:x=v.name
  .subst ag;have aL:gH M v.name=none:=by simpa using aH
   simp[aL]
  have cR:¬v.name=x:=λh=>ag h.symm;simp only[ag,cR,xaI];cases b8:gH M x with
  |some d=>rfl
  |none=>
   simp only[Option.map_map]
   congr 1
   funext j
   simp only[Function.comp]
   congr 2
   omega
def UI(M:List (Value×D))(vs:List V):Prop:=lD M/\∀x,gH M x=(fq vs x).map λ(j:Nat)=>J (j:Int)
def auS(n:Nat)(vs:List V)(aL:vs.length<n)(ar:vs.length<1000000000000):∃M,Gp n [bl vs]=some (.mp M)/\UI M vs:=by
 have au:lD []:=by intro e he;cases he
 obtain⟨ab,af⟩:=UH vs 0 [] au;refine⟨tV vs 0 [],?_,ab,λx=>by rw[af x];simp only[gH,xaw]⟩;have ah:=dD (f:=Gn n) vs (λi (M:List (Value×D))=>[bl vs,J vs.length,J (i:Int),.mp M]) (λr M=>(Sum.inl [.mp (tV r (vs.length-r.length) M)]:List D⊕D)) (λi M=>lD M) (λM _=>by simp[Gn,tV]) ?_ n 0 [] au (by omega) (xai _)
 .have bJ:(J ((0:Nat):Int))=J 0:=rfl;rw[bJ]at ah;simp[Gp,aat,fX,ah]
 intro i a M aF ah dY;left;have e:vs.length-(a::vs.drop (i+1)).length=i:=by simp;omega
 have dw:vs.length-(vs.drop (i+1)).length=i+1:=by simp;omega
 have aw:=yS dY (z:= .int .i64 0) (x:=a.name);have ac:=a.tU;cases b8:gH M a.name with|some d=>rw[b8]at aw;refine⟨M,by simp[Gn,ah,ij aF,ac,aw,b1 (bt:=false) (i:=i) (by omega)],?_,dY⟩;rw[e,tV,b8,dw];rfl|none=>rw[b8]at aw;obtain⟨cY,dE,di,eY,_⟩:=B3 dY a.name (J i);refine⟨cY,by simp[Gn,ah,ij aF,ac,aw,dE,b1 (bt:=false) (i:=i) (by omega)],?_,di⟩;rw[e,tV,b8,dw];simp only[Option.isSome_none,xav,xaI,dE,xbe]
def auT(n:Nat)(vs:List V)(x:ByteArray)(aL:vs.length<n)(ar:vs.length<1000000000000):HP n [bl vs,aC x]=some (J (match fq vs x with|some i=>(i:Int)|none=>-1)):=by
 have ah:=dD (f:=HO n) vs (λi (_:Unit)=>[bl vs,aC x,J (i:Int)]) (λr _=>match fq r x with|some j=>(Sum.inr (J ((vs.length-r.length+j:Nat):Int)):List D⊕D)|none=> .inl []) (λ_ _=>True) (λ_ _=>by simp[HO,fX,fq]) ?_ n 0 () trivial (by omega) (xai _);.have bJ:(J ((0:Nat):Int))=J 0:=rfl;rw[bJ]at ah;simp only[HP,abm,ah,xam,eL];cases fq vs x<;>simp
 intro i a _ aF ah _;have e:vs.length-(a::vs.drop (i+1)).length=i:=by simp;omega
 have dw:vs.length-(vs.drop (i+1)).length=i+1:=by simp;omega
 have nK:fq (a::vs.drop (i+1)) x=if a.name=x then some 0 else(fq (vs.drop (i+1)) x).map (·+1):=by simp[fq,xbY]
 have ac:=a.IP;by_cases ag:a.name=x;.right;rw[nK,xad ag,e];simp[HO,fX,ah,ij aF,ac,ag]
 left;refine⟨(),by simp[HO,fX,ah,ij aF,ac,ag,b1 (bt:=false) (i:=i) (by omega)],?_,trivial⟩;rw[nK,xaa ag,e,dw];cases fq (vs.drop (i+1)) x with|none=>rfl|some j=>simp;omega
def pV(vs:List V)(nx:Bool)(t:Tm):Y×Int:=if t.op=1 then kc t.num t.num else if t.op=2 then(lb,0)
 else match fq vs t.name with
  |none=>(fW,12)
  |some i=>if t.op=4/\nx=false then(fW,24)else match vs[i]? with
   |some v=>if v.bool then(lb,0)else kc v.lo v.ah
   |none=>(fW,12)
mutual
def hx(vs:List V)(nx:Bool):Tm->Y×Int
 | .mk o n s b ks=>if o<=4 then pV vs nx (.mk o n s b ks)else if(g9 vs nx ks).2≠0 then(fW,(g9 vs nx ks).2)else ld (.mk o n s b ks) (g9 vs nx ks).1
def g9(vs:List V)(nx:Bool):List Tm->List Y×Int
 |[]=>([],0)|t::r=>if(hx vs nx t).2≠0 then([],(hx vs nx t).2)else if(g9 vs nx r).2≠0 then([],(g9 vs nx r).2)else((hx vs nx t).1::(g9 vs nx r).1,0)
end
theorem DK(vs:List V)(nx:Bool)(t:Tm):hx vs nx t=if t.op<=4 then pV vs nx t else if(g9 vs nx t.aT).2≠0 then(fW,(g9 vs nx t.aT).2)else ld t (g9 vs nx t.aT).1:=by cases t;rw[hx];rfl
def UJ:lb.lI:=⟨by simp[lb],by simp[lb],by simp[lb],by simp[lb]⟩
def auU{vs:List V}{nx:Bool}{t:Tm}(h:(pV vs nx t).2=0):(pV vs nx t).1.lI:=by
 unfold pV at*;by_cases ab:t.op=1;.rw[xad ab]at*;exact DJ h
 rw[xaa ab]at*;by_cases af:t.op=2;.rw[xad af];exact UJ
 rw[xaa af]at*;cases ah:fq vs t.name with
 |none=>simp[ah]at h
 |some i=>
  simp only[ah]at h⊢;by_cases aw:t.op=4/\nx=false;.simp[aw]at h
  rw[xaa aw]at*;cases a6:vs[i]? with
  |none=>simp[a6]at h
  |some v=>
   simp only[a6]at h⊢;by_cases aj:v.bool=true;.rw[xad aj];exact UJ
   rw[xaa aj]at*;exact DJ h
def auV{op:Int}{a b:Y}(h:(tT op a b).2=0):(tT op a b).1.lI:=by
 unfold tT at*;split at h;.rename_i ab;rw[xad ab];exact DJ h
 rename_i ab;split at h;.rename_i af;rw[xaa ab,xad af];exact DJ h
 rename_i af;rw[xaa ab,xaa af];exact DJ h
def tW{c:Prop}[Decidable c]{x y:Y×Int}(ag:x.2=0->x.1.lI\/x.1=fW)(aP:y.2=0->y.1.lI\/y.1=fW):(if c then x else y).2=0->(if c then x else y).1.lI\/(if c then x else y).1=fW:=by
 split;.exact ag
 exact aP
def auW{t:Tm}{l:List Y}:(ld t l).2=0->(ld t l).1.lI\/(ld t l).1=fW:=by
 have z:∀e:Int,((fW,e):Y×Int).2=0->((fW,e):Y×Int).1.lI\/((fW,e):Y×Int).1=fW:=λ_ _=> .inr rfl;have y:((lb,0):Y×Int).2=0->((lb,0):Y×Int).1.lI\/((lb,0):Y×Int).1=fW:=λ_=> .inl UJ;have sp:∀a b:Int,(kc a b).2=0->(kc a b).1.lI\/(kc a b).1=fW:=λa b h=> .inl (DJ h);unfold ld;refine tW (tW y (z _)) ?_;split
 .exact tW (z _) (tW y (sp _ _))
 .refine tW (tW (z _) y) (tW (z _) (tW y (tW ?_ (λh=> .inl (auV h)))));split;.exact tW (z _) (sp _ _)
  exact z _
 exact z _
def auX:fW.lI:=⟨by simp[fW],by simp[fW],by simp[fW],by simp[fW]⟩
def auY(vs:List V)(nx:Bool)(t:Tm)(h:(hx vs nx t).2=0):(hx vs nx t).1.lI:=by
 rw[DK]at*;split at h;.rename_i ao;rw[xad ao];exact auU h
 rename_i ao;rw[xaa ao];split at h;.rename_i bD;exact absurd h bD
 rename_i bD;rw[xaa bD];rcases auW h with ab|ab
 .exact ab
 rw[ab];exact auX
def UK(vs:List V)(nx:Bool):∀(l:List Tm),(g9 vs nx l).2=0->(g9 vs nx l).1.length=l.length/\∀y∈(g9 vs nx l).1,y.lI
 |[],_=>⟨rfl,by intro y aP;cases aP⟩
 |t::r,h=>by
  rw[g9]at*;by_cases ab:(hx vs nx t).2=0
  case neg=>rw[xad ab]at h;exact absurd h ab
  rw[xaa (by simpa using ab)]at*;by_cases af:(g9 vs nx r).2=0
  case neg=>rw[xad af]at h;exact absurd h af
  rw[xaa (by simpa using af)];obtain⟨aV,a2⟩:=UK vs nx r af;refine⟨by simp[aV],λy aP=>?_⟩;rcases xak.1 aP with rfl|aP
  .exact auY vs nx t ab
  exact a2 y aP
def auZ(n:Nat)(vs:List V)(M:List (Value×D))(t:Tm)(nx:Bool)(L:D)(dY:UI M vs)(a5:t.op<=4)(ab:1<=t.op):oT n [bl vs,.mp M,t.d,ay nx,L]=some (.a1 [(pV vs nx t).1.d,J (pV vs nx t).2]):=by
 have a8:=Tm.uT t;have bP:=Tm.yQ t;have b6:=Tm.yR t;have lf:=Tm.oN t;have iX:D.agg [ay false,J 0,J 0]=fW.d:=rfl;have lg:D.agg [ay true,J 0,J 0]=lb.d:=rfl;have ar:=yS dY.1 (z:= .int .i64 0) (x:=t.name);rw[dY.2]at ar;unfold pV;have ao:t.op=1\/t.op=2\/t.op=3\/t.op=4:=by omega
 have BI:lz (.mp M)=some M:=rfl;generalize t.op=op at*;rcases ao with rfl|rfl|rfl|rfl
 .simp[oT,tp,lf,a8,bP,iX,lg,vG]
 .simp[oT,tp,lf,a8,bP,iX,lg,vG]
 .cases ah:fq vs t.name with|none=>rw[ah]at ar;simp[oT,tp,lf,a8,bP,b6,iX,lg,BI,ar]|some i=>rw[ah]at ar;obtain⟨v,v1,v2,BK⟩:=IN ah;simp[oT,tp,lf,a8,bP,b6,iX,lg,BI,ar,v1,ij v1,v.IP,vG];cases v.bool<;>simp
 cases ah:fq vs t.name with|none=>rw[ah]at ar;simp[oT,tp,lf,a8,bP,b6,iX,lg,BI,ar]|some i=>rw[ah]at ar;obtain⟨v,v1,v2,BK⟩:=IN ah;simp[oT,tp,lf,a8,bP,b6,iX,lg,BI,ar,v1,ij v1,v.IP,vG];cases v.bool<;>cases nx<;>simp
def Valid.leaf{t:Tm}(h:Valid t)(a5:t.op<=4):t.aT=[]:=by
 have ab:=h.op;have af:=h.len;have:hk t.op=(0,0):=by unfold hk;rw[xad (by omega)]
 rw[this]at af;exact xaF (by have:=af.2;simp only at this;omega)
def Valid.aec{t:Tm}(h:Valid t):t.aT.length<=64:=by
 have af:=h.len;have:(hk t.op).2<=64:=by unfold hk;repeat(first|split|decide)
 omega
def aed{a b:Nat}(h:a+b<=1000):c1 (a+b) 24=true:=fU (by omega) (by omega)
def aee(vs:List V)(M:List (Value×D))(nx:Bool)(dY:UI M vs):∀(n:Nat)(t:Tm),t.bm+200<n->t.cm->Valid t->rP n [bl vs,.mp M,t.d,ay nx]=some (.a1 [(hx vs nx t).1.d,J (hx vs nx t).2])
 |0,t,h,_,_=>absurd h (xay _)
 |n+1,t,aL,bk,a6=>by
  rw[DK];have iX:D.agg [ay false,J 0,J 0]=fW.d:=rfl;have au0:=a6.aec;have ar:=dD (f:=Cn (rP n) n) t.aT (λi (s:List Y)=>[bl vs,.mp M,ay nx,cl 4 t.nl (Tm.rows t.aT),J t.aT.length,J (i:Int),J t.op,J t.num,aC t.name,cl 4 t.nl (Tm.rows t.aT),ay false,J 0,J 0,gZ s]) (λr s=>if(g9 vs nx r).2=0 then(Sum.inl [bl vs,.mp M,ay nx,J t.op,J t.num,aC t.name,cl 4 t.nl (Tm.rows t.aT),ay false,J 0,J 0,gZ (s++(g9 vs nx r).1)]:List D⊕D)else .inr (.a1 [fW.d,J (g9 vs nx r).2])) (λi s=>s.length=i) ?_ ?_ n 0 [] rfl (by omega) (xai _)
  .have bJ:(J ((0:Nat):Int))=J 0:=rfl;have aJ:gZ []= .ax 3 []:=rfl;rw[bJ,aJ]at ar;simp only[rP,Sl,Tm.oN,Tm.uT,Tm.yQ,Tm.yR,Tm.wZ,s6,ZH,Tm.B1,eL,ar,xam,xaG];by_cases au:(g9 vs nx t.aT).2=0
   .obtain⟨aV,a2⟩:=UK vs nx t.aT au;have aZ:∀l:List Y,D.ax 3 (aq (gZ l))=gZ l:=λ_=>rfl;have au1:=λa5=>auZ n vs M t nx (gZ (g9 vs nx t.aT).1) dY a5 a6.op.1;have UL:=λca=>auQ n (bl vs) (.mp M) t nx _ a6 aV ca a2 (by omega);by_cases a5:t.op<=4
    .simp[au,aZ,au1 a5,a5]
    simp[au,aZ,UL (by omega),a5]
   have a5:¬t.op<=4:=λa5=>au (by rw[a6.leaf a5];rfl);simp[au,a5]
  .intro s aH;simp[Cn,g9,gZ]
  intro i a s aF ah aH;have hm:=xac aF;have bC:=Tm.je hm;have av:=aee vs M nx dY n a (by omega) (bk.gz hm) (a6.gz hm);have dB:c1 (s.length+1) 24=true:=aed (by omega);have wm:Cn (rP n) n [bl vs,.mp M,ay nx,cl 4 t.nl (Tm.rows t.aT),J t.aT.length,J (i:Int),J t.op,J t.num,aC t.name,cl 4 t.nl (Tm.rows t.aT),ay false,J 0,J 0,gZ s]=
    if(hx vs nx a).2=0 then some (.inl [bl vs,.mp M,ay nx,cl 4 t.nl (Tm.rows t.aT),J t.aT.length,J ((i+1:Nat):Int),J t.op,J t.num,aC t.name,cl 4 t.nl (Tm.rows t.aT),ay false,J 0,J 0,gZ (s++[(hx vs nx a).1])])
    else some (.inr (.inr (.a1 [fW.d,J (hx vs nx a).2]))):=by
   by_cases au:(hx vs nx a).2=0;.simp[Cn,ah,Tm.gX aF,av,au,b1 (bt:=false) (i:=i) (by omega),gZ,dB];simp[Y.cells]
   .simp[Cn,ah,Tm.gX aF,av,au,iX]
  rw[wm];simp only[g9];by_cases au:(hx vs nx a).2=0
  .left;refine⟨s++[(hx vs nx a).1],by simp[au],?_,by simp[aH]⟩;by_cases ab:(g9 vs nx (t.aT.drop (i+1))).2=0;.simp[au,ab]
   simp[au,ab]
  right;simp[au]
def aef(vs:List V)(nx:Bool)(DL:vs.length<1000000000000):∀(n:Nat)(t:Tm),t.bm+200+vs.length<n->t.cm->Valid t->m4 n [bl vs,t.d,ay nx]=some (.a1 [(hx vs nx t).1.d,J (hx vs nx t).2])
 |0,t,h,_,_=>absurd h (xay _)
 |n+1,t,aL,bk,a6=>by
  rw[DK];have iX:D.agg [ay false,J 0,J 0]=fW.d:=rfl;have lg:D.agg [ay true,J 0,J 0]=lb.d:=rfl;have au0:=a6.aec;have eI:=a6.op;by_cases a5:t.op<=4
  .rw[xad a5];have a8:=Tm.uT t;have bP:=Tm.yQ t;have b6:=Tm.yR t;have cA:=Tm.wZ t;have lf:=Tm.oN t;unfold pV;have ag:=auT n vs t.name (by omega) DL;have ao:t.op=1\/t.op=2\/t.op=3\/t.op=4:=by omega
   generalize t.op=op at*;rcases ao with rfl|rfl|rfl|rfl
   .simp[m4,vn,lf,a8,bP,iX,lg,IK]
   .simp[m4,vn,lf,a8,bP,iX,lg]
   .cases ah:fq vs t.name with
    |none=>rw[ah]at ag;simp[m4,vn,lf,a8,bP,b6,cA,iX,lg,ag]
    |some i=>
     rw[ah]at ag;obtain⟨v,v1,v2,BK⟩:=IN ah;have kZ:¬((i:Int)<0):=by omega
     simp[m4,vn,lf,a8,bP,b6,cA,iX,lg,ag,kZ,v1,ij v1,v.IP,IK];cases v.bool<;>simp
   cases ah:fq vs t.name with
   |none=>rw[ah]at ag;simp[m4,vn,lf,a8,bP,b6,cA,iX,lg,ag]
   |some i=>
    rw[ah]at ag;obtain⟨v,v1,v2,BK⟩:=IN ah;have kZ:¬((i:Int)<0):=by omega
    simp[m4,vn,lf,a8,bP,b6,cA,iX,lg,ag,kZ,v1,ij v1,v.IP,IK];cases v.bool<;>cases nx<;>simp
  rw[xaa a5];have ar:=dD (f:=C3 (m4 n) n) t.aT (λi (s:List Y)=>[bl vs,ay nx,J (i:Int),J t.op,J t.num,aC t.name,cl 4 t.nl (Tm.rows t.aT),ay false,J 0,J 0,gZ s]) (λr s=>if(g9 vs nx r).2=0 then(Sum.inl [J t.op,J t.num,aC t.name,cl 4 t.nl (Tm.rows t.aT),ay false,J 0,J 0,gZ (s++(g9 vs nx r).1)]:List D⊕D)else .inr (.a1 [fW.d,J (g9 vs nx r).2])) (λi s=>s.length=i) ?_ ?_ n 0 [] rfl (by omega) (xai _)
  .have bJ:(J ((0:Nat):Int))=J 0:=rfl;have aJ:gZ []= .ax 3 []:=rfl;rw[bJ,aJ]at ar;have dP:(t.op==1)=false:=by simp;omega
   have gw:(t.op==2)=false:=by simp;omega
   have h7:(t.op==3)=false:=by simp;omega
   have l7:(t.op==4)=false:=by simp;omega
   simp only[m4,vn,Tm.oN,Tm.uT,Tm.yQ,Tm.yR,Tm.wZ,s6,BS,dP,gw,h7,l7,l0,xav,xaI,eL,qs,n1,pE,ar,xam,xaG];by_cases au:(g9 vs nx t.aT).2=0;.obtain⟨aV,a2⟩:=UK vs nx t.aT au;have aZ:∀l:List Y,D.ax 3 (aq (gZ l))=gZ l:=λ_=>rfl;have UL:=auL n t _ a6 aV (by omega) a2 (by omega);simp[au,aZ,UL]
   simp[au]
  .intro s aH;simp[C3,g9,gZ]
  intro i a s aF ah aH;have hm:=xac aF;have bC:=Tm.je hm;have av:=aef vs nx DL n a (by omega) (bk.gz hm) (a6.gz hm);have dB:c1 (s.length+1) 24=true:=aed (by omega);have wm:C3 (m4 n) n [bl vs,ay nx,J (i:Int),J t.op,J t.num,aC t.name,cl 4 t.nl (Tm.rows t.aT),ay false,J 0,J 0,gZ s]=
    if(hx vs nx a).2=0 then some (.inl [bl vs,ay nx,J ((i+1:Nat):Int),J t.op,J t.num,aC t.name,cl 4 t.nl (Tm.rows t.aT),ay false,J 0,J 0,gZ (s++[(hx vs nx a).1])])
    else some (.inr (.inr (.a1 [fW.d,J (hx vs nx a).2]))):=by
   by_cases au:(hx vs nx a).2=0;.simp[C3,ah,Tm.gX aF,av,au,b1 (bt:=false) (i:=i) (by omega),gZ,dB];simp[Y.cells]
   .simp[C3,ah,Tm.gX aF,av,au,iX]
  rw[wm];simp only[g9];by_cases au:(hx vs nx a).2=0
  .left;refine⟨s++[(hx vs nx a).1],by simp[au],?_,by simp[aH]⟩;by_cases ab:(g9 vs nx (t.aT.drop (i+1))).2=0;.simp[au,ab]
   simp[au,ab]
  right;simp[au]
def qJ(vs:List V)(nx:Bool)(t:Tm):Y×Int:=if(df t 1 0).1≠0 then(fW,(df t 1 0).1)else hx vs nx t
def au2(n:Nat)(vs:List V)(t:Tm)(nx:Bool)(aL:t.bm+200+vs.length<n)(bk:t.cm)(DL:vs.length<1000000000000):Co n [bl vs,t.d,ay nx]=some (.a1 [(qJ vs nx t).1.d,J (qJ vs nx t).2]):=by
 have ao:=Nf n t (by omega) bk;obtain⟨M,gx,kk⟩:=auS n vs (by omega) DL;have iX:D.agg [ay false,J 0,J 0]=fW.d:=rfl;unfold qJ;by_cases au:(df t 1 0).1=0
 .have aM:=aee vs M nx kk n t (by omega) bk ⟨1,0,au⟩;simp[Co,Sm,ao,au,gx,aM]
 simp[Co,Sm,ao,au,iX]
def au3(n:Nat)(vs:List V)(t:Tm)(nx:Bool)(aL:t.bm+200+vs.length<n)(bk:t.cm)(DL:vs.length<1000000000000):C4 n [bl vs,t.d,ay nx]=some (.a1 [(qJ vs nx t).1.d,J (qJ vs nx t).2]):=by
 have ao:=T7 n t (by omega) bk;have iX:D.agg [ay false,J 0,J 0]=fW.d:=rfl;unfold qJ;by_cases au:(df t 1 0).1=0
 .have aM:=aef vs nx DL n t (by omega) bk ⟨1,0,au⟩;simp[C4,Tq,ao,au,aM]
 simp[C4,Tq,ao,au,iX]
end Go.Am
