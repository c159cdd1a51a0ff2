/- The laws, on data. No condition. -/
import Derived.Test.YtjonbfbkkkcjgaaGreatDoorEngD
import Derived.Test.YtjonbfbkkkcjgaaGreatDoorCode
import Derived.Test.YtjonbfbkkkcjgaaGreatDoorEngS
set_option linter.all false
set_option linter.unnecessarySimpa false
namespace Go.Am
def ew(op:Int):Int×Int:=if op=1\/op=2\/op=3\/op=4 then(0,0)else if op=5 then(1,1)else if op=6\/op=7 then(1,64)else if op=18 then(3,3)else if op<1\/op>18 then(-1,-1)else(2,2)
def wV(op:Int):Bool:=op==3||op==4
def fT(t:Tm):Int:=if(ew t.op).1<0 then 11
 else if(t.num<(if t.op=1 then-255 else 0))\/t.num>(if t.op=1 then 255 else if t.op=2 then 1 else 0)then 2
 else if(if wV t.op then t.name=⟨#[]⟩\/t.name.size>24 else t.name≠⟨#[]⟩)then 12
 else if(t.az.length:Int)<(ew t.op).1\/(t.az.length:Int)>(ew t.op).2 then 3 else 0
def ag9(n:Nat)(op:Int):Di n [aa op]=some (.aC [aa (ew op).1,aa (ew op).2]):=by
 rcases C8 op with rfl|rfl|rfl|rfl|rfl|rfl|rfl|rfl|rfl|rfl|rfl|rfl|rfl|rfl|rfl|rfl|rfl|rfl|h
 case inr.inr.inr.inr.inr.inr.inr.inr.inr.inr.inr.inr.inr.inr.inr.inr.inr.inr=>
  have e:∀k:Int,1<=k->k<=18->(op==k)=false:=λk ab ad=>by simp;omega
  have a:ew op=(-1,-1):=by unfold ew;repeat(first|rw[xab oZ]|rw[xac oZ])
  simp[Di,Qj,e,a]
 all_goals rfl
def aha(n:Nat)(op:Int):za n [aa op]=some (.aC [aa (ew op).1,aa (ew op).2]):=by
 rcases C8 op with rfl|rfl|rfl|rfl|rfl|rfl|rfl|rfl|rfl|rfl|rfl|rfl|rfl|rfl|rfl|rfl|rfl|rfl|h
 case inr.inr.inr.inr.inr.inr.inr.inr.inr.inr.inr.inr.inr.inr.inr.inr.inr.inr=>
  have e:∀k:Int,1<=k->k<=18->(op==k)=false:=λk ab ad=>by simp;omega
  have a:ew op=(-1,-1):=by unfold ew;repeat(first|rw[xab oZ]|rw[xac oZ])
  rcases h with h|h;.simp[za,JX,e,a,h]
  have:¬op<1:=oZ
  simp[za,JX,e,a,h,this]
 all_goals rfl
def ahb(s:ByteArray):decide (s=⟨#[]⟩)=decide ((s.size:Int)<1):=by
 have:s=⟨#[]⟩↔(s.size:Int)<1:=by
  constructor;.rintro rfl;decide
  intro h;have:s.size=0:=oZ
  cases s with|mk a=>congr;exact xbp this
 simp[this]
def ahc(n:Nat)(t:Tm):Dj n [t.d]=some (aa (fT t)):=by
 cases t with|mk op num s b ks=>
 have g:=ag9 n op;have fL:cz 4 (Tm.d (.mk op num s b ks))=true:=Tm.jG _;have a:ae (Tm.d (.mk op num s b ks)) 0=aa op:=rfl;have c:ae (Tm.d (.mk op num s b ks)) 1=aa num:=rfl;have e:ae (Tm.d (.mk op num s b ks)) 2=aD s:=rfl;have f:ae (Tm.d (.mk op num s b ks)) 3=bI 4 b (Tm.rows ks):=rfl;generalize Tm.d (.mk op num s b ks)=x at*;simp only[fT,Tm.op,Tm.num,Tm.name,Tm.az];simp only[Dj,Qk,fL,a,c,e,f,l5,g,cL,I7,xbF,xct,CY,iI,cb,aN,av,aM,aT,bf,c0,km,bo,cf,aL,bT,bU,al,bE];by_cases ak:(ew op).1<0
 .simp[ak]
 simp only[ak,decide_false,xaq,xaG,uI,cL,iI];simp[wV];grind
def Th(n:Nat)(t:Tm)(deep:Int):zb n [t.d,aa deep]=some (aa (if deep>64 then 17 else fT t)):=by
 cases t with|mk op num s b ks=>
 have h:=aha n op;have fL:cz 4 (Tm.d (.mk op num s b ks))=true:=Tm.jG _;have c:ae (Tm.d (.mk op num s b ks)) 0=aa op:=rfl;have e:ae (Tm.d (.mk op num s b ks)) 1=aa num:=rfl;have f:ae (Tm.d (.mk op num s b ks)) 2=aD s:=rfl;have g:ae (Tm.d (.mk op num s b ks)) 3=bI 4 b (Tm.rows ks):=rfl;have i:D.agg [aa op,aa num,aD s,bI 4 b (Tm.rows ks)]=(Tm.d (.mk op num s b ks)):=rfl;have aj:=ahb s;simp only[fT,Tm.op,Tm.num,Tm.name,Tm.az];simp only[zb,QL,fL,c,e,f,g,l5,h,cL,I7,xbF,xct,CY,lq,iI,cb,aN,av,aM,aT,bf,c0,sh,bo,cf,aL,bT,bU,al,bE];by_cases a:deep>64
 .simp[a]
 by_cases ak:(ew op).1<0;.simp[ak]
 simp only[ak,a,decide_false,xaq,xaG,uI,cL,iI];simp[wV];simp at aj;grind
mutual
def ct:Tm->Int->Int->Int×Int
 | .mk op n s b ks,deep,k=>if deep>64 then(17,k+1)else if fT (.mk op n s b ks)≠0 then(fT (.mk op n s b ks),k+1)else if k+1>4096 then(4,k+1)else dK ks (deep+1) (k+1)
def dK:List Tm->Int->Int->Int×Int
 |[],_,k=>(0,k)|t::r,deep,k=>if(ct t deep k).1≠0 then ct t deep k else dK r deep (ct t deep k).2
end
theorem pP(t:Tm)(deep k:Int):ct t deep k=if deep>64 then(17,k+1)else if fT t≠0 then(fT t,k+1)else if k+1>4096 then(4,k+1)else dK t.az (deep+1) (k+1):=by cases t;rw[ct];rfl
def wW(t:Tm):∀(deep k:Int),k+1<=(ct t deep k).2/\((ct t deep k).1=0->(ct t deep k).2<=4096):=by
 refine Tm.ind (P:=λt=>∀(deep k:Int),k+1<=(ct t deep k).2/\((ct t deep k).1=0->(ct t deep k).2<=4096)) ?_ t;intro t ih deep k;rw[pP];split;.simp
 split;.rename_i h;simp[h]
 split;.simp
 have key:∀(l:List Tm)(deep k:Int),(∀x∈l,∀(deep k:Int),k+1<=(ct x deep k).2/\((ct x deep k).1=0->(ct x deep k).2<=4096))->k<=4096->k<=(dK l deep k).2/\((dK l deep k).1=0->(dK l deep k).2<=4096):=by
  intro l
  induction l with
  |nil=>intro deep k _ h;simp[dK,h]
  |cons a r b=>
   intro deep k h d;rw[dK];have ab:=h a sZ deep k;split
   .rename_i ad;exact⟨by omega,λai=>absurd ai ad⟩
   rename_i ad;simp only[ne_eq,Decidable.not_not]at ad;have ai:=b deep (ct a deep k).2 (λx c=>h x (by simp[c])) (ab.2 ad);exact⟨by omega,ai.2⟩
 have:=key t.az (deep+1) (k+1) ih oZ;exact this
def Ti:∀(n:Nat)(t:Tm)(deep k:Int),t.aS<n->t.Ok->0<=deep->deep<=65->0<=k->k<=4096->pA n [t.d,aa deep,aa k]=some (.aC [aa (ct t deep k).1,aa (ct t deep k).2])
 |0,t,_,_,h,_,_,_,_,_=>absurd h (xaD _)
 |n+1,t,deep,k,x,b,ab,ad,ai,w=>by
  have q:=Th n t deep;rw[pP];simp[pA,JY,iL k,q];by_cases j:64<deep;.simp[j]
  simp[j];by_cases o:fT t=0
  case neg=>simp[o]
  simp[o];by_cases g:4096<k+1;.simp[g]
  simp[g];have ah:=ch (f:=DY (pA n) n) t.az (λi s=>[aa deep,aa s,aa (i:Int),aa t.op,aa t.num,aD t.name,bI 4 t.nl (Tm.rows t.az)]) (λr (s:Int)=>if(dK r (deep+1) s).1=0 then(Sum.inl [aa (dK r (deep+1) s).2]:lZ⊕D)else .inr (.aC [aa (dK r (deep+1) s).1,aa (dK r (deep+1) s).2])) (λi s=>0<=s/\s<=4096) ?_ ?_ n 0 (k+1) ⟨by omega,by omega⟩ (by have:=t.h8;omega) (xag _)
  .have p:(aa ((0:Nat):Int))=aa 0:=rfl;rw[p]at ah;rw[ah];simp only[xak,cL];by_cases ak:(dK t.az (deep+1) (k+1)).1=0;.simp[ak]
   simp[ak]
  .intro s aj;simp[DY,dK]
  intro i a s e ag aj;have m:=xad e;have y:=Tm.fB m;have l:=b.len;have u:=Ti n a (deep+1) s oZ (b.di m) oZ oZ aj.1 aj.2;have c:=wW a (deep+1) s;simp[DY,ag,Tm.ep e,iL deep,u,bl i,dK];by_cases ak:(ct a (deep+1) s).1=0
  .left;simp only[ak];exact⟨(ct a (deep+1) s).2,by simp,by simp,by omega,c.2 ak⟩
  right;simp[ak]
def K4(n:Nat)(t:Tm)(b:t.aS<n)(a:t.Ok):vv n [t.d]=some (aa (ct t 1 0).1):=by have:=Ti n t 1 0 b a oZ oZ oZ oZ;simp[vv,QM,this]
def ahd(n:Nat)(t:Tm)(deep k w:Int)(ab:0<=k)(ad:k<=4096):∃e,e=(if deep>64 then 17 else if fT t≠0 then fT t else if k+1>4096 then 4 else 0)/\yG n [t.d,aa deep,aa k,aa w]=some [aF (decide (e=0)),aa (k+1),aa e]:=by refine⟨_,rfl,?_⟩;have a:=ahc n t;simp[yG,iL k,a];by_cases c1:64<deep<;>by_cases c2:fT t=0<;>by_cases b6:4096<k+1<;>simp[c1,c2,b6]
def Tj:∀(n:Nat)(t:Tm)(deep k w:Int),t.aS<n->t.Ok->0<=deep->deep<=65->0<=k->k<=4096->pF n [t.d,aa deep,aa k,aa w]=some [aF (decide ((ct t deep k).1=0)),aa (ct t deep k).2,aa (ct t deep k).1]
 |0,t,_,_,_,h,_,_,_,_,_=>absurd h (xaD _)
 |n+1,t,deep,k,w,z,c,ab,ad,ai,p=>by
  obtain⟨e,y,u⟩:=ahd n t deep k w ai p;rw[pP];simp[pF,Kk,u];by_cases b:e=0
  case neg=>simp[b];grind
  have q:¬deep>64/\fT t=0/\¬k+1>4096:=by grind
  simp[b,q];have ah:=ch (f:=Ep (pF n) n) t.az (λi (s:Int×Int)=>[aa deep,bI 4 t.nl (Tm.rows t.az),aa t.az.length,aa (i:Int),aa s.1,aa s.2]) (λr (s:Int×Int)=>if(dK r (deep+1) s.1).1=0 then(Sum.inl [aa (dK r (deep+1) s.1).2,aa 0]:lZ⊕lZ)else .inr [aF false,aa (dK r (deep+1) s.1).2,aa (dK r (deep+1) s.1).1]) (λi s=>0<=s.1/\s.1<=4096/\s.2=0) ?_ ?_ n 0 (k+1,0) ⟨by simp;omega,by simp;omega,rfl⟩ (by have:=t.h8;omega) (xag _)
  .have o:(aa ((0:Nat):Int))=aa 0:=rfl;rw[o]at ah;rw[ah];simp only[xak,cL];by_cases ak:(dK t.az (deep+1) (k+1)).1=0;.simp[ak]
   simp[ak]
  .intro s aj;simp[Ep,dK,aj.2.2]
  intro i a s j ag aj;have m:=xad j;have A:=Tm.fB m;have l:=c.len;have x:=Tj n a (deep+1) s.1 s.2 oZ (c.di m) oZ oZ aj.1 aj.2.1;have g:=wW a (deep+1) s.1;simp[Ep,ag,Tm.ep j,iL deep,x,bl i,dK];by_cases ak:(ct a (deep+1) s.1).1=0
  .left;exact⟨(ct a (deep+1) s.1).2,0,by simp[ak],by simp[ak],by omega,g.2 ak,rfl⟩
  right;simp[ak]
def FE(n:Nat)(t:Tm)(b:t.aS<n)(a:t.Ok):qZ n [t.d]=some (aa (ct t 1 0).1):=by have:=Tj n t 1 0 0 b a oZ oZ oZ oZ;simp[qZ,Ri,this]
def ahe{a:Type}(A B:List a)(z s:a):(((A++B++[z]).take (A.length+1)++(((A++B++[z]).drop A.length).take (B.length+1)).take (min ((((A++B++[z]).drop A.length).take (B.length+1)).length) B.length)++(A++B++[z]).drop (A.length+1+min ((((A++B++[z]).drop A.length).take (B.length+1)).length) B.length)).set A.length s)=A++s::B:=by
 have c:(A++B++[z]).drop A.length=B++[z]:=by rw[xaL,List.drop_left]
 have d:(B++[z]).take (B.length+1)=B++[z]:=xbC sZ;rw[c,d];have e:min (B++[z]).length B.length=B.length:=sZ
 rw[e];have f:(B++[z]).take B.length=B:=List.take_left;have g:(A++B++[z]).drop (A.length+1+B.length)=[]:=xcw uZ;rw[f,g,xat];obtain⟨w,h⟩:∃w,(A++B++[z]).take (A.length+1)=A++[w]:=by rw[xaL,List.take_append];cases B with|nil=>exact⟨z,by rw[xbC oZ];simp⟩|cons b B=>exact⟨b,by rw[xbC oZ];simp⟩
 rw[h,xaL];simp
def K5{n i:Nat}(h:i<=n):hC n (some (aa (i:Int))) none=some (i,n-i):=by simp[hC,lf,aa,h]
theorem ahf(l:List ByteArray):aE (cB l)=l.map λs=>[aD s]:=rfl
def Tk(n:Nat)(s:ByteArray)(l:List ByteArray)(aj:hk l)(b3:l.length+2<n)(ah:l.length<1000000000):qY n [aD s,cB l]=some [cB (fC s l)]:=by
 obtain⟨a,b,rfl,ad,ai,U,V,W⟩:=Jn s aj;have es:=ahf (a++b);have key:aR (zX n) n [aD s,aa ((a++b).length:Int),cB (a++b)]=some (.inl [aD s,aa (a.length:Int),cB (a++b)]):=by
  refine iJ (λj=>[aD s,aa (((a++b).length-j:Nat):Int),cB (a++b)]) b.length sZ ?_ ?_ (by simp at b3;omega)
  .intro j cy;have q:(a++b).length=a.length+b.length:=sZ
   obtain⟨m,A⟩:∃m:Nat,(a++b).length-j=m+1:=⟨(a++b).length-j-1,by omega⟩;have L:(a++b).length-(j+1)=m:=oZ
   have g:(a++b)[m]?=b[m-a.length]?:=xas oZ;have f:m-a.length<b.length:=oZ
   have J:=xaa f;rw[J]at g;have b4:=ai _ (xaV f);generalize b[m-a.length]=x at*;have o:aW false .sub (aa ((m+1:Nat):Int)) (aa 1)=some (aa (m:Int)):=by rw[j4 oZ oZ];congr 2;omega
   have d:cI (aE (cB (a++b))).length (aa (m:Int))=some m:=by rw[jF,xac (by rw[es];simp at q⊢;omega)]
   have p:(aE (cB (a++b)))[m]?=some [aD x]:=by rw[es,xah,g];rfl
   have k:((m+1:Nat):Int)>0:=oZ
   simp only[A,L];simp only[zX,l7,mO,lq,xan k,cL,pj,xaC,o,d,p,gu,xbF,Da,b4,pk,iI,cb,aN,cu,av,aT,ay,fp,bw,cm,al,bE];rfl
  have q:(a++b).length-b.length=a.length:=sZ
  simp only[q];by_cases ak:a.length=0
  .have:¬((a.length:Int)>0):=oZ
   simp only[zX,l7,mO,lq,xax this,cL,pj,xaq,xaG,pk,iI,I5,cb,aN,cu,av,aT,ay,fp,bw,cm,al,bE];rfl
  obtain⟨m,A⟩:∃m:Nat,a.length=m+1:=⟨a.length-1,by omega⟩;have f:m<a.length:=oZ
  have g:(a++b)[m]?=a[m]?:=xap f;rw[xaa f]at g;have bX:=ad _ (xaV f);generalize a[m]=x at*;have o:aW false .sub (aa ((m+1:Nat):Int)) (aa 1)=some (aa (m:Int)):=by rw[j4 oZ (by simp at ah;omega)];congr 2;omega
  have d:cI (aE (cB (a++b))).length (aa (m:Int))=some m:=by rw[jF,xac (by rw[es];simp;omega)]
  have p:(aE (cB (a++b)))[m]?=some [aD x]:=by rw[es,xah,g];rfl
  have k:((m+1:Nat):Int)>0:=oZ
  simp only[A];simp only[zX,l7,mO,lq,xan k,cL,pj,xaC,o,d,p,gu,xbF,Da,bX,pk,iI,xaq,xaG,I5,cb,aN,cu,av,aT,ay,fp,bw,cm,al,bE];rfl
 have y:D.aw 1 (aE (cB (a++b)))=cB (a++b):=rfl;have E:(aE (cB (a++b))).length=(a++b).length:=by rw[es];simp
 by_cases c:s∈a++b
 .obtain⟨t,rfl⟩:=U c;rw[Jm aj c];have I:(t++[s]).length=t.length+1:=sZ
  have o:aW false .sub (aa ((t.length+1:Nat):Int)) (aa 1)=some (aa (t.length:Int)):=by rw[j4 oZ (by simp at ah;omega)];congr 2;omega
  have d:cI ((t++[s]++b).length) (aa (t.length:Int))=some t.length:=by rw[jF,xac sZ]
  have p:(aE (cB (t++[s]++b)))[t.length]?=some [aD s]:=by rw[es];simp
  have k:((t.length+1:Nat):Int)>0:=oZ
  rw[I]at key;simp only[qY,l7,mO,E,y,key,cL,l6,lq,xan k,pj,xaC,o,d,p,gu,xbF,Jb,decide_true,pk,iI,cb,aN,cu,aT,ay,cV,fp,bs,cm,bu,al,bE]
 rw[W c];have M:=V c;have z:af (cE (aF (decide ((a.length:Int)>0))) true (af (aW false .sub (aa (a.length:Int)) (aa 1)) λv26=>af (cI (a++b).length v26) λR=>af ((aE (cB (a++b)))[R]?) λG=>af (aQ false 1 0 G) λv28=>af (aW false .eql v28 (aD s)) λu=>some u)) (λu=>af (en (aF (decide ((a.length:Int)>0))) u (aF false)) λv31=>some v31)=some (aF false):=by
  by_cases ak:a.length=0
  .have:¬((a.length:Int)>0):=oZ
   simp only[xax this,pj,xaq,xaG,cL,pk]
  obtain⟨m,A⟩:∃m:Nat,a.length=m+1:=⟨a.length-1,by omega⟩;have f:m<a.length:=oZ
  have g:(a++b)[m]?=a[m]?:=xap f;rw[xaa f]at g;have N:a[m]≠s:=λe=>M (by rw[<-e];exact xaV f);generalize a[m]=x at*;have o:aW false .sub (aa ((m+1:Nat):Int)) (aa 1)=some (aa (m:Int)):=by rw[j4 oZ (by simp at ah;omega)];congr 2;omega
  have d:cI (a++b).length (aa (m:Int))=some m:=by rw[jF,xac uZ]
  have p:(aE (cB (a++b)))[m]?=some [aD x]:=by rw[es,xah,g];rfl
  have k:((m+1:Nat):Int)>0:=oZ
  rw[A];simp only[xan k,pj,xaC,o,cL,d,p,gu,xbF,Jb,xax N,pk]
 obtain⟨u,b1,ck⟩:=cR z;obtain⟨v31,cA,cC⟩:=cR ck;cases cC;have O:b2 ((a++b).length+1) 16=true:=eE;have C:=uN (bt:=false) (i:=a.length) (by simp at ah;omega);have Y:aE (cB (a++b))++[[aD ⟨#[]⟩]]=(a.map λs=>[aD s])++(b.map λs=>[aD s])++[[aD ⟨#[]⟩]]:=by rw[es];simp
 have H:((a.map λs=>[aD s])++(b.map λs=>[aD s])++[[aD ⟨#[]⟩]]:mW).length=a.length+b.length+1:=uZ
 have c1:hC (a.length+b.length+1) (some (aa ((a.length+1:Nat):Int))) none=some (a.length+1,b.length):=by rw[K5 oZ];congr 2;omega
 have c2:hC (a.length+b.length+1) (some (aa (a.length:Int))) none=some (a.length,b.length+1):=by rw[K5 oZ];congr 2;omega
 have B:=ahe (a.map λs=>[aD s]) (b.map λs=>[aD s]) [aD ⟨#[]⟩] [aD s];simp only[xaU]at B;have T:∀(X:mW) (w:lZ),X[a.length]?=some w->dH w 0 [aD s]=[aD s]->(X.set a.length (dH w 0 [aD s]))=X.set a.length [aD s]:=λX w _ h=>by rw[h]
 generalize S:(((a.map λs=>[aD s])++(b.map λs=>[aD s])++[[aD ⟨#[]⟩]]:mW).take (a.length+1)++((((a.map λs=>[aD s])++(b.map λs=>[aD s])++[[aD ⟨#[]⟩]]:mW).drop a.length).take (b.length+1)).take (min (((((a.map λs=>[aD s])++(b.map λs=>[aD s])++[[aD ⟨#[]⟩]]:mW).drop a.length).take (b.length+1)).length) b.length)++((a.map λs=>[aD s])++(b.map λs=>[aD s])++[[aD ⟨#[]⟩]]:mW).drop (a.length+1+min (((((a.map λs=>[aD s])++(b.map λs=>[aD s])++[[aD ⟨#[]⟩]]:mW).drop a.length).take (b.length+1)).length) b.length))=X at*;have Z:X.length=a.length+b.length+1:=by have:=congrArg List.length B;simp at this;omega
 have d:cI X.length (aa (a.length:Int))=some a.length:=by rw[jF,xac oZ]
 have r:∃x,X[a.length]?=some [x]:=by
  have A:∀w∈X,∃x,w=[x]:=by
   rw[<-S];intro w r;have c:w∈((a.map λs=>[aD s])++(b.map λs=>[aD s])++[[aD ⟨#[]⟩]]:mW):=by
    rcases xar.1 r with r|r
    .rcases xar.1 r with r|r;.exact xbr r
     exact xbq (xbr (xbr r))
    exact xbq r
   rcases xar.1 c with c|c
   .rcases xar.1 c with c|c;.obtain⟨x,_,rfl⟩:=xaK.1 c;exact⟨_,rfl⟩
    obtain⟨x,_,rfl⟩:=xaK.1 c;exact⟨_,rfl⟩
   simp at c;exact⟨_,c⟩
  have f:a.length<X.length:=oZ
  obtain⟨x,Q⟩:=A _ (xaV f);exact⟨x,by rw[xaa f,Q]⟩
 obtain⟨x,Q⟩:=r;have P:dH [x] 0 [aD s]=[aD s]:=rfl;have d1:decide (a.length+(b.length+1)<=a.length+b.length+1)=true:=xan oZ;have d2:decide (a.length+1+b.length<=a.length+b.length+1)=true:=xan oZ;have F:c7 (aD s)=true:=rfl;have K:([[aD ⟨#[]⟩]]:mW).length=1:=rfl;simp only[qY,l7,mO,E,y,key,cL,l6,lq,cb,aN,cu,aT,ay,cV,fp,bs,cm,bu,al,bE];rw[b1];simp only[cL,cA,iI,xaq,xaG,K,O,l5,C,Y,H,c1,c2,d1,d2,S,d,F,Q,P,B];simp[cB]
def hI(nl:Bool)(l:List ByteArray):D:=bI 1 nl (l.map λs=>[aD s])
def Tl{nl:Bool}{l:List ByteArray}(h:l≠[]):hI nl l=cB l:=by cases l with|nil=>exact absurd rfl h|cons a r=>simp[hI,cB,bI]
def kq(nl:Bool)(l:List ByteArray):dN (hI nl l)=some (aa l.length):=by simp[hI]
def tn{nl:Bool}{l:List ByteArray}{i:Nat}{s:ByteArray}(h:l[i]?=some s):ba 1 (hI nl l) (aa (i:Int))=some [aD s]:=by unfold hI;rw[Jg];simp[h]
def ahg(s:ByteArray)(l:List ByteArray):fC s l≠[]:=by cases l with|nil=>simp[fC]|cons a r=>rw[fC];split<;>(try split)<;>simp
def ahh(n:Nat)(nl:Bool)(l:List ByteArray)(s:ByteArray)(d:l.length<n)(ah:l.length<1000000000):DT n [hI nl l,aD s]=some (aF (l.any λx=>decide (x=s))):=by
 have ag:=ch (f:=y8 n) l (λi (_:Unit)=>[hI nl l,aD s,aa (i:Int)]) (λr _=>if r.any (λx=>decide (x=s))=true then(.inr (aF true):lZ⊕D)else .inl []) (λ_ _=>True) (λ_ _=>by simp[y8,kq]) ?_ n 0 () trivial oZ (xag _)
 .have b:(aa ((0:Nat):Int))=aa 0:=rfl;rw[b]at ag;simp only[xak]at ag;simp only[DT,QI,ag,cL,sh,bo,al];by_cases h:l.any (λx=>decide (x=s))=true;.rw[xac h,h];rfl
  rw[xab h];cases c:l.any (λx=>decide (x=s))with|false=>rfl|true=>exact absurd c h
 intro i x _ a ag _;by_cases h:x=s;.right;simp[y8,kq,ag,tn a,h]
 left;exact⟨(),by simp[y8,kq,ag,tn a,h,bl i],by simp only[xbR,xax h,xbB],trivial⟩
def wf(s:ByteArray):List ByteArray->Bool->List ByteArray->Bool×List ByteArray
 |[],d,o=>(d,o)|x::r,d,o=>if(!d&&blt s x)=true then wf s r true (o++[s,x])else wf s r d (o++[x])
def Tn(s:ByteArray):∀(l o:List ByteArray),wf s l true o=(true,o++l)
 |[],o=>by simp[wf]|x::r,o=>by rw[wf];simp[Tn s r]
def To(s:ByteArray):∀(a b o:List ByteArray),(∀x∈a,blt s x=false)->wf s (a++b) false o=wf s b false (o++a)
 |[],b,o,_=>by simp|x::a,b,o,h=>by rw[xbs,wf];have:=h x sZ;simp[this,To s a b _ (λy c=>h y (by simp[c]))]
def ahi(s:ByteArray):∀(b o:List ByteArray),(∀x∈b,blt s x=true)->wf s b false o=(match b with|[]=>(false,o)|_=>(true,o++s::b))
 |[],o,_=>rfl|x::r,o,h=>by rw[wf];have:=h x sZ;simp[this,Tn]
@[simp] theorem aoC (p:List ByteArray) (x:ByteArray):D.aw 1 (aE (cB p)++[[aD x]])=cB (p++[x]):=by simp[cB]
@[simp] theorem aoD (p:List ByteArray):(aE (cB p)).length=p.length:=by simp[cB]
@[simp] theorem aoE (p:List ByteArray):D.aw 1 (aE (cB p))=cB p:=rfl
def ahj(n:Nat)(nl:Bool)(l:List ByteArray)(s:ByteArray)(aj:hk l)(H:l.length+2<n)(ah:l.length<1000000000):vt n [hI nl l,aD s]=some (cB (fC s l)):=by
 have g:=ahh n nl l s oZ ah;by_cases k:s∈l;.have:l.any (λx=>decide (x=s))=true:=xbz.2 ⟨s,k,by simp⟩;rw[this]at g;rw[Jm aj k];simp only[vt,DU,g,cL,iI,xaC,av,ay,sh,bo,dd,bu,al];rw[Tl (List.ne_nil_of_mem k)]
 have t:l.any (λx=>decide (x=s))=false:=by cases h:l.any (λx=>decide (x=s))with|false=>rfl|true=>obtain⟨x,ab,ad⟩:=xbz.1 h;simp at ad;subst ad;exact absurd ab k
 rw[t]at g;obtain⟨a,b,ea,ad,ai,F,G,A⟩:=Jn s aj;have E:wf s l false []=wf s b false a:=by rw[ea,To s a b _ ad];simp
 have e:=ch (f:=vr n) l (λi (p:Bool×List ByteArray)=>[hI nl l,aD s,aF p.1,aa (i:Int),cB p.2]) (λr p=>(.inl [aD s,aF (wf s r p.1 p.2).1,cB (wf s r p.1 p.2).2]:lZ⊕D)) (λi p=>p.2.length<=i+(if p.1=true then 1 else 0)) (λp _=>by simp[vr,kq,wf]) ?_ n 0 (false,[]) sZ oZ (xag _)
 .have y:(aa ((0:Nat):Int))=aa 0:=rfl;have z:cB []= .aw 1 []:=rfl;rw[y,z]at e;simp only[xak,E]at e;rw[A k];have B:a.length<=l.length:=by rw[ea];simp
  cases b with|nil=>simp only[wf]at e;have u:b2 (a.length+1) 16=true:=eE;simp[vt,DU,g,e,u]|cons c r=>have j:=ahi s (c::r) a ai;simp only at j;rw[j]at e;simp[vt,DU,g,e]
 intro i x p w ag m;left;have q:=bl i;have C:p.2.length<=i+1:=by split at m<;>omega
 have c5:b2 (p.2.length+1) 16=true:=eE;have dk:b2 (p.2.length+1+1) 16=true:=eE;obtain⟨d,o⟩:=p;simp only at m c5 dk;cases d with
 |true=>
  refine⟨(true,o++[x]),?_,by rw[wf];simp,?_⟩;.simp[vr,kq,ag,tn w,c5,q]
  simp at m⊢;omega
 |false=>
  cases j:blt s x
  .refine⟨(false,o++[x]),?_,by rw[wf];simp[j],?_⟩;.simp[vr,kq,ag,tn w,c5,q,Da,j,-Jc]
   simp at m⊢;omega
  refine⟨(true,o++[s]++[x]),?_,by rw[wf];simp[j],?_⟩;.simp[vr,kq,ag,tn w,c5,dk,q,Da,j,-Jc]
  simp at m⊢;omega
mutual
def eh(o:Int):Tm->List ByteArray->List ByteArray
 | .mk op _ s _ ks,l=>jN o ks (if op=o then fC s l else l)
def jN(o:Int):List Tm->List ByteArray->List ByteArray
 |[],l=>l|t::r,l=>jN o r (eh o t l)
end
theorem FF(o:Int)(t:Tm)(l:List ByteArray):eh o t l=jN o t.az (if t.op=o then fC t.name l else l):=by cases t;rw[eh];rfl
mutual
def A7(o:Int):∀(t:Tm)(l:List ByteArray),hk l->hk (eh o t l)/\(eh o t l).length<=l.length+t.aS
 | .mk op n s b ks,l,h=>by
  rw[eh];have ab:hk (if op=o then fC s l else l):=by split;exact yt h;exact h
  have ad:(if op=o then fC s l else l).length<=l.length+1:=by split;exact yu l;omega
  have:=Tp o ks _ ab;exact⟨this.1,by simp only[Tm.aS];omega⟩
def Tp(o:Int):∀(ks:List Tm)(l:List ByteArray),hk l->hk (jN o ks l)/\(jN o ks l).length<=l.length+Tm.cY ks
 |[],l,h=>⟨h,by simp[jN,Tm.cY]⟩|t::r,l,h=>by rw[jN];have ab:=A7 o t l h;have ad:=Tp o r _ ab.1;exact⟨ad.1,by simp only[Tm.cY];omega⟩
end
theorem Tq{l:List Tm}{i:Nat}{a:Tm}(h:l[i]?=some a):Tm.cY (l.drop i)=1+a.aS+Tm.cY (l.drop (i+1)):=by obtain⟨ab,ad⟩:=lV.1 h;rw[xaW ab,ad];rfl
def ahk(nl:Bool)(s:ByteArray)(l:List ByteArray):hI nl (fC s l)=cB (fC s l):=Tl (ahg s l)
def K6(o:Int):∀(n:Nat)(t:Tm)(nl:Bool)(l:List ByteArray),t.aS+l.length+10<n->t.Ok->hk l->l.length+t.aS<1000000000->od n [t.d,aa o,hI nl l]=some (hI nl (eh o t l))
 |0,t,_,_,h,_,_,_=>absurd h (xaD _)
 |n+1,t,nl,l,C,e,aj,A=>by
  have m:=e.len;have w:=t.h8;show y9 (od n) n t.d (aa o) (hI nl l)=_;rw[FF];generalize b:(if t.op=o then fC t.name l else l)=g;have ab:hk g:=by rw[<-b];split;exact yt aj;exact aj
  have ad:g.length<=l.length+1:=by rw[<-b];split;exact yu l;omega
  have u:Tm.cY t.az+2=t.aS:=by cases t;simp[Tm.aS,Tm.az];omega
  have ah:=ch (f:=DV (od n) n) t.az (λi (p:List ByteArray)=>[aa o,hI nl p,aa (i:Int),aa t.op,aa t.num,aD t.name,bI 4 t.nl (Tm.rows t.az)]) (λr p=>(.inl [hI nl (jN o r p)]:lZ⊕D)) (λi p=>hk p/\p.length+Tm.cY (t.az.drop i)<=g.length+Tm.cY t.az) (λp _=>by simp[DV,jN]) ?_ n 0 g ⟨ab,by simp⟩ oZ (xag _)
  .have y:(aa ((0:Nat):Int))=aa 0:=rfl;rw[y]at ah;simp only[xak]at ah;by_cases c:t.op=o;.rw[xac c]at b;have x:=ahj n nl l t.name aj oZ oZ;rw[b,<-b,<-ahk nl,b]at x;simp[y9,c,x];rw[c]at ah;rw[ah];rfl
   rw[xab c]at b;subst b;simp[y9,c,ah]
  intro i a p j ag s;have q:=xad j;have E:=Tm.fB q;have B:=Tq j;have z:=K6 o n a nl p oZ (e.di q) s.1 oZ;have k:=A7 o a p s.1;left;refine⟨eh o a p,?_,by rw[jN],k.1,by omega⟩;simp[DV,ag,Tm.ep j,z,bl i]
def K7(n:Nat)(t:Tm)(f:t.aS+10<n)(a:t.Ok)(c:t.aS<1000000000):vu n [t.d]=some (.aC [hI true (eh 3 t []),hI true (eh 4 t [])]):=by have ai:=K6 3 n t true [] uZ a trivial uZ;have b:=K6 4 n t true [] uZ a trivial uZ;have e:hI true []=cc:=rfl;rw[e]at ai b;simp[vu,QJ,ai,b]
def ahl(n:Nat)(t:Tm)(fA:D)(p q:List ByteArray)(b:hk p)(c:hk q)(h:p.length+q.length+5<n)(g:p.length+q.length<1000000000):sS n [t.d,fA,cB p,cB q]=some [aF true,cB (if t.op=3 then fC t.name p else p),cB (if t.op=4 then fC t.name q else q)]:=by
 have e:=Tk n t.name p b oZ oZ;have f:=Tk n t.name q c oZ oZ;by_cases ai:t.op=3
 .simp[sS,ai,e]
 by_cases a:t.op=4;.simp[sS,a,f]
 simp[sS,ai,a]
def Tr:∀(n:Nat)(t:Tm)(deep:Int)(p q:List ByteArray),t.aS+p.length+q.length+t.aS+20<n->t.Ok->hk p->hk q->0<=deep->deep+t.aS<1000000000->p.length+q.length+t.aS+t.aS<1000000000->pG n [t.d,aa deep,cB p,cB q]=some [aF true,cB (eh 3 t p),cB (eh 4 t q)]
 |0,t,_,_,_,h,_,_,_,_,_,_=>absurd h (xaD _)
 |n+1,t,deep,p,q,M,b,l,m,A,B,K=>by
  have o:=b.len;have w:=t.h8;have u:Tm.cY t.az+2=t.aS:=by cases t;simp[Tm.aS,Tm.az];omega
  have ab:=ahl n t (aa deep) p q l m oZ oZ;rw[FF,FF];generalize c:(if t.op=3 then fC t.name p else p)=g at*;generalize e:(if t.op=4 then fC t.name q else q)=j at*;have I:hk g:=by rw[<-c];split;exact yt l;exact l
  have N:g.length<=p.length+1:=by rw[<-c];split;exact yu p;omega
  have J:hk j:=by rw[<-e];split;exact yt m;exact m
  have O:j.length<=q.length+1:=by rw[<-e];split;exact yu q;omega
  have ah:=ch (f:=Er (pG n) n) t.az (λi (z:List ByteArray×List ByteArray)=>[aa deep,bI 4 t.nl (Tm.rows t.az),aa t.az.length,aa (i:Int),cB z.1,cB z.2]) (λr z=>(.inl [cB (jN 3 r z.1),cB (jN 4 r z.2)]:lZ⊕lZ)) (λi z=>hk z.1/\hk z.2/\z.1.length+Tm.cY (t.az.drop i)<=g.length+Tm.cY t.az/\z.2.length+Tm.cY (t.az.drop i)<=j.length+Tm.cY t.az) (λz _=>by simp[Er,jN]) ?_ n 0 (g,j) ⟨I,J,by simp,by simp⟩ oZ (xag _);.have y:(aa ((0:Nat):Int))=aa 0:=rfl;rw[y]at ah;simp only[xak]at ah;simp[pG,Kl,ab,ah]
  intro i a z k ag E;obtain⟨x,z2,z3,z4⟩:=E;have s:=xad k;have F:=Tm.fB s;have L:=Tq k;have C:=Tr n a (deep+1) z.1 z.2 oZ (b.di s) x z2 oZ oZ oZ;have G:=A7 3 a z.1 x;have H:=A7 4 a z.2 z2;left;refine⟨(eh 3 a z.1,eh 4 a z.2),?_,by simp[jN],G.1,H.1,by simp only;omega,by simp only;omega⟩;simp[Er,ag,Tm.ep k,C,iL deep,bl i]
def FG(n:Nat)(t:Tm)(c:t.aS+t.aS+30<n)(a:t.Ok)(b:t.aS<100000000):q0 n [t.d]=some (.aC [cB (eh 3 t []),cB (eh 4 t [])]):=by have h:=Tr n t 1 [] [] uZ a trivial trivial oZ oZ uZ;have e:cB []= .aw 1 []:=rfl;have f:∀l,c7 (cB l)=true:=λ_=>rfl;rw[e]at h;simp[q0,Rj,h]
mutual
def FH:Tm->Tm->Bool
 | .mk o n s _ ks,u=>decide (o=u.op)&&decide (n=u.num)&&decide (s=u.name)&&decide (ks.length=u.az.length)&&tp ks u.az
def tp:List Tm->List Tm->Bool
 |a::r,b::q=>FH a b&&tp r q|[],_=>true|_::_,[]=>true
end
theorem Ts(t u:Tm):FH t u=(decide (t.op=u.op)&&decide (t.num=u.num)&&decide (t.name=u.name)&&decide (t.az.length=u.az.length)&&tp t.az u.az):=by cases t;rw[FH];rfl
def oA:List bd->Nat->List (Value×D)->List (Value×D)
 |[],_,M=>M|v::r,i,M=>oA r (i+1) (if(eF M v.name).isSome then M else(l0 .string M (aD v.name) (aa i)).getD [])
def K8:∀(r:List bd)(i:Nat)(M:List (Value×D)),iN M->iN (oA r i M)/\∀x,eF (oA r i M) x=match eF M x with|some d=>some d|none=>(cw r x).map λj=>aa ((i+j:Nat):Int)
 |[],i,M,h=>⟨h,λx=>by simp only[oA,cw,List.findIdx?_nil];cases eF M x<;>rfl⟩
 |v::r,i,M,h=>by
  rw[oA];have e:∀x,cw (v::r) x=if v.name=x then some 0 else(cw r x).map (·+1):=by intro x;simp[cw,xca]
  by_cases aj:(eF M v.name).isSome
  .rw[xac aj];obtain⟨ab,ad⟩:=K8 r (i+1) M h;refine⟨ab,λx=>?_⟩;rw[ad x,e x];cases b:eF M x with
   |some d=>rfl
   |none=>
    have a:¬v.name=x:=by rintro rfl;simp[b]at aj
    simp only[a,xaG,Option.map_map]
    congr 1
    funext j
    simp only[Function.comp]
    congr 2
    omega
  rw[xab aj];obtain⟨c,g,k,l,_⟩:=C9 h v.name (aa i);rw[g,xbn];obtain⟨ab,ad⟩:=K8 r (i+1) c k;refine⟨ab,λx=>?_⟩;rw[ad x,l x,e x];by_cases b:x=v.name
  .subst b;have f:eF M v.name=none:=by simpa using aj
   simp[f]
  have a:¬v.name=x:=λh=>b h.symm;simp only[b,a,xaG];cases m:eF M x with
  |some d=>rfl
  |none=>
   simp only[Option.map_map]
   congr 1
   funext j
   simp only[Function.comp]
   congr 2
   omega
def FI(M:List (Value×D))(vs:List bd):Prop:=iN M/\∀x,eF M x=(cw vs x).map λ(j:Nat)=>aa (j:Int)
def K9(n:Nat)(vs:List bd)(p:vs.length<n)(ah:vs.length<1000000000000):∃M,sT n [aA vs]=some (.mp M)/\FI M vs:=by
 have ak:iN []:=by intro e m;cases m
 obtain⟨ab,ad⟩:=K8 vs 0 [] ak;refine⟨oA vs 0 [],?_,ab,λx=>by rw[ad x];simp only[eF,xav]⟩;have ag:=ch (f:=zZ n) vs (λi (M:List (Value×D))=>[aA vs,aa vs.length,aa (i:Int),.mp M]) (λr M=>(Sum.inl [.mp (oA r (vs.length-r.length) M)]:lZ⊕D)) (λi M=>iN M) (λM _=>by simp[zZ,oA]) ?_ n 0 [] ak oZ (xag _)
 .have l:(aa ((0:Nat):Int))=aa 0:=rfl;rw[l]at ag;simp[sT,Rm,n4,ag]
 intro i a M h ag c;left;have e:vs.length-(a::vs.drop (i+1)).length=i:=uZ
 have g:vs.length-(vs.drop (i+1)).length=i+1:=uZ
 have ai:=uO c (z:= .int .i64 0) (x:=a.name);cases b:eF M a.name with|some d=>rw[b]at ai;refine⟨M,by simp[zZ,ag,dV h,ai,bl i],?_,c⟩;rw[e,oA,b,g];rfl|none=>rw[b]at ai;obtain⟨k,j,o,q,_⟩:=C9 c a.name (aa i);refine⟨k,by simp[zZ,ag,dV h,ai,j,bl i],?_,o⟩;rw[e,oA,b,g];simp only[xcx,xaq,xaG,j,xbn]
def Tt(n:Nat)(vs:List bd)(x:ByteArray)(k:vs.length<n)(ah:vs.length<1000000000000):vw n [aA vs,aD x]=some (aa (match cw vs x with|some i=>(i:Int)|none=>-1)):=by
 have ag:=ch (f:=zc n) vs (λi (_:Unit)=>[aA vs,aD x,aa (i:Int)]) (λr _=>match cw r x with|some j=>(Sum.inr (aa ((vs.length-r.length+j:Nat):Int)):lZ⊕D)|none=> .inl []) (λ_ _=>True) (λ_ _=>by simp[zc,n4,cw]) ?_ n 0 () trivial oZ (xag _);.have h:(aa ((0:Nat):Int))=aa 0:=rfl;rw[h]at ag;simp only[vw,QN,ag,xak,cL,sh,al];cases cw vs x<;>simp
 intro i a _ d ag _;have e:vs.length-(a::vs.drop (i+1)).length=i:=uZ
 have g:vs.length-(vs.drop (i+1)).length=i+1:=uZ
 have c:cw (a::vs.drop (i+1)) x=if a.name=x then some 0 else(cw (vs.drop (i+1)) x).map (·+1):=by simp[cw,xca]
 have a0:a.cells[0]?=some (aD a.name):=rfl;by_cases b:a.name=x;.right;rw[c,xac b,e];simp[zc,n4,ag,dV d,a0,b]
 left;refine⟨(),by simp[zc,n4,ag,dV d,a0,b,bl i],?_,trivial⟩;rw[c,xab b,e,g];cases cw (vs.drop (i+1)) x with|none=>rfl|some j=>simp;omega
def cG(l:List bd)(t:Tm):lX:=(eh 3 t []).filterMap (cw l)
def kb{l:List bd}{t:Tm}:∀k∈cG l t,k<l.length:=by intro k a;obtain⟨x,_,b⟩:=List.mem_filterMap.1 a;obtain⟨_,_,_,h⟩:=Jr b;exact h
def wX(t:Tm):(eh 3 t []).length<=t.aS:=by have:=(A7 3 t [] trivial).2;simpa using this
def FJ(l:List bd)(t:Tm):(cG l t).length<=t.aS:=xbK (List.length_filterMap_le _ _) (wX t)
structure fP(B:Nat)(l:List bd):Prop where
 len:l.length<=B
 e:∀d∈l,d.e.Ok/\d.e.aS<=B
 b:B<=1000000
def to(l:List bd)(i:Nat):lX:=match l[i]? with|some d=>cG l d.e|none=>[]
def ix{l:List bd}(i:Nat):∀k∈to l i,k<l.length:=by
 unfold to;split;.exact kb
 intro k a;cases a
def wY{l:List bd}{i:Nat}{d:bd}(h:l[i]?=some d):to l i=cG l d.e:=by simp[to,h]
def A8{l:List ByteArray}{i:Nat}{s:ByteArray}(h:l[i]?=some s):ba 1 (cB l) (aa (i:Int))=some [aD s]:=by simp[cB,h]
def A9(l:List ByteArray):dN (cB l)=some (aa l.length):=by simp[cB]
def ahm(n:Nat)(l:List bd)(t:Tm){B:Nat}(ah:l.length<=B)(g:t.Ok)(C:t.aS<=B)(z:B<=1000000)(A:2*B+100<n):ze n [t.d,aA l]=some (cp (cG l t)):=by
 have u:=K7 n t oZ g oZ;have y:=wX t;have ag:=ch (f:=zd n) (eh 3 t []) (λi (s:lX)=>[aA l,hI true (eh 3 t []),aa (i:Int),cp s]) (λr s=>(.inl [cp (s++r.filterMap (cw l))]:lZ⊕D)) (λi s=>s.length<=i) (λs _=>by simp[zd,kq,cp]) ?_ n 0 [] sZ oZ (xag _)
 .have m:(aa ((0:Nat):Int))=aa 0:=rfl;have o:cp []=D.aw 1 []:=rfl;have b:∀x,D.aw 1 (aE (cp x))=cp x:=λ_=>rfl;rw[m,o]at ag;simp only[xak,xaM]at ag;simp only[ze,QO,go_sem,u,ag,b];rfl
 intro i a s w ag aj;have j:=tn (nl:=true) w;have c:=Tt n l a oZ oZ;have b:∀x,D.aw 1 (aE (cp x))=cp x:=λ_=>rfl;left;cases e:cw l a with
 |none=>rw[e]at c;refine⟨s,?_,by simp[e],by omega⟩;simp only[zd,go_sem,kq,yT ((i:Int)<((eh 3 t []).length:Int)),j,gu,c,yF ((-1:Int)>=0),b,bl i]
 |some k=>
  rw[e]at c;have h:b2 (s.length+1) 8=true:=eE;have p:D.aw 1 (aE (cp s)++[[aa (k:Int)]])=cp (s++[k]):=by simp[cp]
  have q:(aE (cp s)).length=s.length:=by simp[cp]
  refine⟨s++[k],?_,by simp[e],by simp;omega⟩;simp only[zd,go_sem,kq,yT ((i:Int)<((eh 3 t []).length:Int)),j,gu,c,yT ((k:Int)>=0),b,p,q,xal,xaA,xav,h,bl i]
def Tu(n:Nat)(l:lX)(k:Nat)(d:D)(p:d=cp l\/(l=[]/\d=cc))(ah:l.length<1000000000)(q:l.length+5<n):sH n [d,aa (k:Int)]=some (aF (decide (k∈l))):=by
 rcases p with rfl|⟨rfl,rfl⟩
 case inr=>obtain⟨m,rfl⟩:∃m,n=m+1:=⟨n-1,by omega⟩;simp[sH,JZ,h7,vx]
 have ag:=ch (f:=vx n) l (λi (_:Unit)=>[cp l,aa (k:Int),aa (i:Int)]) (λr _=>if k∈r then(.inr (aF true):lZ⊕D)else .inl []) (λi s=>True) (λs _=>by simp[vx,n5]) ?_ n 0 () trivial oZ (xag _);.have j:(aa ((0:Nat):Int))=aa 0:=rfl;rw[j]at ag;simp only[xak]at ag;by_cases h:k∈l<;>simp only[h,xaC,xaG]at ag<;>simp[sH,JZ,ag,h]
 intro i a s o ag _;have g:=ps o;by_cases b:a=k
 .right;subst b;simp[vx,n5,ag,g]
 left;have c:¬((a:Int)=(k:Int)):=oZ
 have e:¬k=a:=λh=>b h.symm;refine⟨(),by simp[vx,n5,ag,g,c,bl i],by simp[e],trivial⟩
def ahn(n:Nat)(l:List bd){B:Nat}(ah:fP B l)(P:4*B+200<n):z6 n [aA l]=some (fF (l.map λd=>cG l d.e)):=by
 have G:=ah.len;have J:=ah.b;obtain⟨M,m1,m2,m3⟩:=K9 n l oZ oZ;have C:∀x,D.aw 1 (aE (cp x))=cp x:=λ_=>rfl;have h:∀x,D.aw 1 (aE (fF x))=fF x:=λ_=>rfl;have ag:=ch (f:=Ev n) l (λi (s:mZ)=>[.mp M,aA l,aa l.length,aa (i:Int),fF s]) (λr s=>(.inl [fF (s++r.map λd=>cG l d.e)]:lZ⊕D)) (λi s=>s.length=i) (λs _=>by simp[Ev,fF]) ?_ n 0 [] rfl oZ (xag _)
 .have u:(aa ((0:Nat):Int))=aa 0:=rfl;have w:fF []=D.aw 1 []:=rfl;rw[u,w]at ag;simp only[xak,xaM]at ag;simp only[z6,Rn,go_sem,m1,ag,h]
 intro i a c F ag o;have N:=xad F;have E:=ah.e a N;have K:=FG n a.e oZ E.1 oZ;have O:=wX a.e;have q:=ch (f:=z1 n) (eh 3 a.e []) (λj (s:lX)=>[.mp M,aA l,aa l.length,aa (i:Int),cB (eh 3 a.e []),aa (eh 3 a.e []).length,aa (j:Int),fF c,cp s]) (λr s=>(.inl [.mp M,aA l,aa l.length,aa (i:Int),fF c,cp (s++r.filterMap (cw l))]:lZ⊕(lZ⊕(lZ⊕(lZ⊕D))))) (λj s=>s.length<=j) (λs _=>by simp[z1,cp,fF]) ?_ n 0 [] sZ oZ (xag _)
 .have u:(aa ((0:Nat):Int))=aa 0:=rfl;have w:cp []=D.aw 1 []:=rfl;rw[u,w]at q;simp only[xak,xaM]at q;have m:b2 (c.length+1) 24=true:=eE;have y:D.aw 1 (aE (fF c)++[[cp (cG l a.e)]])=fF (c++[cG l a.e]):=by simp[fF]
  have A:(aE (fF c)).length=c.length:=by simp[fF]
  have I:(eh 3 a.e []).filterMap (cw l)=cG l a.e:=rfl;have Q:∀x,c7 (cp x)=true:=λ_=>rfl;rw[I]at q;left;refine⟨c++[cG l a.e],?_,by simp,by simp[o]⟩;simp only[Ev,go_sem,yT ((i:Int)<(l.length:Int)),dV F,bd.ab9,bd.agg,bd.c1,bd.c2,bd.b6,bd.e2,Tm.yq,K,A9,h,q,C,y,A,xal,xaA,xav,m,bl i]
 intro j b s L q aj;have H:=A8 L;have g:=uO m2 (z:= .int .i64 0) (x:=b);have p:=m3 b;left;cases t:cw l b with
 |none=>rw[p,t]at g;simp only[xbE]at g;refine⟨s,?_,by simp[t],by omega⟩;simp only[z1,go_sem,yT ((j:Int)<((eh 3 a.e []).length:Int)),H,gu,jx,g,C,h,bl j]
 |some k=>
  rw[p,t]at g;simp only[xaI]at g;have m:b2 (s.length+1) 8=true:=eE;have y:D.aw 1 (aE (cp s)++[[aa (k:Int)]])=cp (s++[k]):=by simp[cp]
  have A:(aE (cp s)).length=s.length:=by simp[cp]
  refine⟨s++[k],?_,by simp[t],by simp;omega⟩;simp only[z1,go_sem,yT ((j:Int)<((eh 3 a.e []).length:Int)),H,gu,jx,g,C,h,y,A,xal,xaA,xav,m,bl j]
def fD(to:Nat->lX):Nat->lX->lX->lX
 |0,_,S=>S|n+1,ks,S=>ks.foldl (λS k=>if k∈S then S else fD to n (to k) (S++[k])) S
inductive hJ(to:Nat->lX):Nat->Nat->Prop where
 |refl (i:Nat):hJ to i i
 |step (i j k:Nat) (h:j∈to i) (BH:hJ to j k):hJ to i k
def hJ.trans{to:Nat->lX}{i j k:Nat}(h:hJ to i j)(d:hJ to j k):hJ to i k:=by induction h with|refl=>exact d|step a b c ea _ ih=>exact .step a b _ ea (ih d)
def gx(N:Nat)(S:lX):Prop:=S.Nodup/\∀x∈S,x<N
def pQ:∀(N:Nat)(S:lX),S.Nodup->(∀x∈S,x<N)->S.length<=N
 |0,S,_,h=>by cases S with|nil=>simp|cons a r=>exact absurd (h a sZ) (xaD _)
 |N+1,S,b,h=>by
  have ab:=pQ N (S.erase N) (b.erase N) (λx c=>by
   have ad:=h x (List.mem_of_mem_erase c);have ai:x≠N:=by rintro rfl;exact b.not_mem_erase c
   omega)
  have d:=List.length_erase (a:=N) (l:=S);split at d<;>omega
def gx.len{N:Nat}{S:lX}(h:gx N S):S.length<=N:=pQ N S h.1 h.2
def gx.lt{N k:Nat}{S:lX}(h:gx N S)(g:k<N)(f:k∉S):S.length<N:=by have ad:gx N (S++[k]):=⟨by rw[xbH];exact⟨h.1,by simp,by intro a e b d;simp at d;subst d;rintro rfl;exact f e⟩,by intro x c;rcases xar.1 c with c|c;exact h.2 x c;simp at c;omega⟩;have:=ad.len;simp at this;omega
def gx.snoc{N k:Nat}{S:lX}(h:gx N S)(g:k<N)(f:k∉S):gx N (S++[k]):=⟨by rw[xbH];exact⟨h.1,by simp,by intro a e b d;simp at d;subst d;rintro rfl;exact f e⟩,by intro x c;rcases xar.1 c with c|c;exact h.2 x c;simp at c;omega⟩
structure Tv(to:Nat->lX)(N:Nat)(ks S R:lX):Prop where
 inv:gx N R
 pre:∃T,R=S++T
 mem:∀k∈ks,k∈R
 pR:∀x∈R,x∉S->∀y∈to x,y∈R
 nt:∀x∈R,x∈S\/∃k∈ks,hJ to k x
def wZ{to:Nat->lX}{N:Nat}(l:∀i,∀k∈to i,k<N):∀(n:Nat)(ks S:lX),gx N S->(∀k∈ks,k<N)->N-S.length<n->Tv to N ks S (fD to n ks S)
 |0,_,_,_,_,h=>absurd h (xaD _)
 |n+1,ks,S,p,c,q=>by
  rw[fD]
  induction ks generalizing S with
  |nil=>exact⟨p,⟨[],by simp⟩,by simp,λx a q=>absurd a q,λx a=> .inl a⟩
  |cons k r ih=>
   rw[xcm];by_cases e:k∈S
   .rw[xac e];have h:=ih S p (λx a=>c x (by simp[a])) q;obtain⟨T,d⟩:=h.pre;refine⟨h.inv,h.pre,?_,h.pR,λx a=>?_⟩
    .intro x a;rcases xao.1 a with rfl|a
     .rw[d];simp[e]
     exact h.mem x a
    rcases h.nt x a with ab|⟨j,ab,ad⟩;.exact .inl ab
    exact .inr ⟨j,by simp[ab],ad⟩
   rw[xab e];have f:=c k sZ;have z:=p.lt f e;have ak:=wZ l n (to k) (S++[k]) (p.snoc f e) (l k) uZ;obtain⟨T0,b⟩:=ak.pre;have h:=ih (fD to n (to k) (S++[k])) ak.inv (λx a=>c x (by simp[a])) (by rw[b];simp;omega);obtain⟨T,d⟩:=h.pre;have g:k∈fD to n (to k) (S++[k]):=by rw[b];simp
   refine⟨h.inv,⟨[k]++T0++T,by rw[d,b];simp⟩,?_,?_,?_⟩
   .intro x a;rcases xao.1 a with rfl|a
    .rw[d];exact xaY _ g
    exact h.mem x a
   .intro x a s y u;by_cases m:x∈fD to n (to k) (S++[k])
    .by_cases o:x∈S++[k]
     .have t:x=k:=by
       rcases xar.1 o with h|h;.exact absurd h s
       simpa using h
      subst t;rw[d];exact xaY _ (ak.mem y u)
     rw[d];exact xaY _ (ak.pR x m o y u)
    exact h.pR x a m y u
   intro x a;rcases h.nt x a with ab|⟨j,ab,ad⟩
   .rcases ak.nt x ab with ai|⟨j,ai,w⟩
    .rcases xar.1 ai with ai|ai;.exact .inl ai
     simp at ai;subst ai;exact .inr ⟨x,by simp,.refl x⟩
    exact .inr ⟨k,by simp,.step k j x ai w⟩
   exact .inr ⟨j,by simp[ab],ad⟩
def La{to:Nat->lX}{N:Nat}(a:∀i,∀k∈to i,k<N):∀(n m:Nat)(ks S:lX),gx N S->(∀k∈ks,k<N)->N-S.length<n->N-S.length<m->fD to n ks S=fD to m ks S
 |0,_,_,_,_,_,h,_=>absurd h (xaD _)|_+1,0,_,_,_,_,_,h=>absurd h (xaD _)
 |n+1,m+1,ks,S,g,d,o,hm=>by
  rw[fD,fD]
  induction ks generalizing S with
  |nil=>rfl
  |cons k r ih=>
   rw[xcm,xcm];by_cases b:k∈S;.rw[xac b,xac b];exact ih S g (λx j=>d x (by simp[j])) o hm
   rw[xab b,xab b];have c:=d k sZ;have l:=g.lt c b;have e:=La a n m (to k) (S++[k]) (g.snoc c b) (a k) uZ uZ;have ak:=wZ a n (to k) (S++[k]) (g.snoc c b) (a k) uZ;obtain⟨T0,f⟩:=ak.pre;rw[<-e];exact ih _ ak.inv (λx j=>d x (by simp[j])) (by rw[f];simp;omega) (by rw[f];simp;omega)
def ie(l:List bd)(ks:lX):lX:=fD (to l) (l.length+1) ks []
def q9(l:List bd)(ks:lX)(a:∀k∈ks,k<l.length):Tv (to l) l.length ks [] (ie l ks):=wZ (λi k a=>ix i k a) _ ks [] ⟨by simp,by simp⟩ a sZ
def pS(l:List bd)(ks:lX)(f:∀k∈ks,k<l.length)(x:Nat):x∈ie l ks↔∃k∈ks,hJ (to l) k x:=by
 have h:=q9 l ks f;constructor
 .intro m;rcases h.nt x m with ab|ab
  .cases ab
  exact ab
 rintro⟨k,e,g⟩;have c:∀a b,hJ (to l) a b->a∈ie l ks->b∈ie l ks:=by
  intro a b ea
  induction ea with|refl=>exact λh=>h|step i j k d _ ih=>exact λag=>ih (h.pR i ag sZ j d)
 exact c k x g (h.mem k e)
def gN(l:List bd)(i:Nat):Bool:=decide (i∈ie l (to l i))
def Lb(l:List bd)(i:Nat):gN l i=true↔∃k∈to l i,hJ (to l) k i:=by unfold gN;rw[xaF,pS l _ (ix i)]
def Tw{to:Nat->lX}:∀(n:Nat)(ks S:lX),∃T,fD to n ks S=S++T
 |0,ks,S=>⟨[],by simp[fD]⟩
 |n+1,ks,S=>by
  rw[fD]
  induction ks generalizing S with
  |nil=>exact⟨[],by simp⟩
  |cons k r ih=>
   rw[xcm];split;.exact ih S
   obtain⟨T0,ak⟩:=Tw n (to k) (S++[k]);obtain⟨T,a⟩:=ih (fD to n (to k) (S++[k]));exact⟨[k]++T0++T,by rw[a,ak];simp⟩
def ig(S:lX)(d:D)(s:lX):D:=if s.length=S.length then d else cp s
def Lc(l:List bd){B:Nat}(ah:fP B l):∀(n:Nat)(t:Tm)(S:lX)(d:D),d=cp S\/(S=[]/\d=cc)->t.Ok->t.aS<=B->gx l.length S->l.length-S.length+4*B+300<n->oe n [t.d,aA l,d]=some (ig S d (fD (to l) n (cG l t) S))
 |0,_,_,_,_,_,_,_,h=>absurd h (xaD _)
 |n+1,t,S,d,U,K,Y,Q,b3=>by
  have A:=ah.len;have H:=ah.b;have V:=FJ l t;have w:=ahm n l t A K Y H oZ;have u:∀T,ig S d (S++T)=cp (S++T)\/(S++T=[]/\ig S d (S++T)=cc):=by
   intro T;unfold ig;split
   .rename_i h;have:T=[]:=by simpa using h
    subst this;rcases U with rfl|⟨rfl,rfl⟩
    .left;simp
    right;simp
   exact .inl rfl
  have N:(aa ((0:Nat):Int))=aa 0:=rfl;have I:ig S d S=d:=by simp[ig]
  rw[fD];have o:=ch (f:=zf (oe n) n) (cG l t) (λi (s:lX)=>[aA l,ig S d s,cp (cG l t),aa (i:Int)]) (λr s=>(.inl [ig S d (r.foldl (λS k=>if k∈S then S else fD (to l) n (to l k) (S++[k])) s)]:lZ⊕D)) (λi s=>gx l.length s/\∃T,s=S++T) (λs _=>by simp[zf,n5]) ?_ n 0 S ⟨Q,[],by simp⟩ oZ (xag _)
  .rw[N,I]at o;simp only[xak]at o;show DZ (oe n) n t.d (aA l) d=_;simp only[DZ,go_sem,w,o]
  rintro i k s z ag ⟨ab,T,p⟩;have J:=xad z;have m:=kb k J;obtain⟨G,j⟩:∃G,l[k]?=some G:=⟨l[k],xaa m⟩;have y:=ah.e G (xad j);have X:=ab.len;have ai:=u T;rw[<-p]at ai;have R:S.length<=s.length:=by rw[p];simp
  have c:=Tu n s k (ig S d s) ai oZ oZ;left;by_cases a:k∈s
  .refine⟨s,?_,?_,ab,T,p⟩;.simp only[zf,go_sem,n5,yT ((i:Int)<((cG l t).length:Int)),ps z,gu,c,xan a,bl i]
   simp only[xcm,xac a]
  have W:=ab.lt m a;have F:=ab.snoc m a;have g1:=Lc l ah n G.e (s++[k]) (cp (s++[k])) (.inl rfl) y.1 y.2 F uZ;have L:=wZ (λi k z=>ix i k z) n (to l k) (s++[k]) F (λx Z=>ix k x Z) uZ;rw[<-wY j]at g1;obtain⟨M,g⟩:=Tw (to:=to l) n (to l k) (s++[k]);have g2:ig (s++[k]) (cp (s++[k])) (fD (to l) n (to l k) (s++[k]))=cp (fD (to l) n (to l k) (s++[k])):=by
   unfold ig;split
   .rename_i h;rw[g]at h⊢;have:M=[]:=by simpa using h
    subst this;simp
   rfl
  have g3:ig S d (fD (to l) n (to l k) (s++[k]))=cp (fD (to l) n (to l k) (s++[k])):=by unfold ig;rw[xab];rw[g,p];simp<;>omega
  rw[g2]at g1;obtain⟨q,bX,b4⟩:∃q,jw (ig S d s)=some (q,s.map λ(i:Nat)=>[aa (i:Int)])/\(decide (q=1\/(s.map λ(i:Nat)=>[aa (i:Int)])=[])&&decide (0<1))=true:=by
   rcases ai with ai|⟨ai,P⟩;.rw[ai];exact⟨1,rfl,by simp⟩
   rw[P,ai];exact⟨0,rfl,by simp⟩
  have C:b2 (s.map λ(i:Nat)=>[aa (i:Int)]).length 8=true:=sk uZ uZ;have E:b2 ((s.map λ(i:Nat)=>[aa (i:Int)]).length+1) 8=true:=sk uZ uZ;have O:D.aw 1 ((s.map λ(i:Nat)=>[aa (i:Int)])++[[aa (k:Int)]])=cp (s++[k]):=by simp[cp]
  refine⟨fD (to l) n (to l k) (s++[k]),?_,?_,L.inv,T++[k]++M,?_⟩;.rw[g3];simp only[zf,go_sem,n5,yT ((i:Int)<((cG l t).length:Int)),ps z,gu,c,xax a,dV j,bX,b4,xaA,C,xaM,xal,xav,E,O,g1,bl i]
  .simp only[xcm,xab a]
  rw[g,p];simp
def aho(l:List bd){B:Nat}(ah:fP B l)(n:Nat)(i:Nat)(ag:i<l.length)(t:6*B+400<n):D0 n [aA l,aa (i:Int)]=some (aF (gN l i)):=by
 have m:=ah.len;have o:=ah.b;obtain⟨d,g⟩:∃d,l[i]?=some d:=⟨l[i],xaa ag⟩;have a:=ah.e d (xad g);have f:=Lc l ah n d.e [] cc (.inr ⟨rfl,rfl⟩) a.1 a.2 ⟨by simp,by simp⟩ uZ;have r:=La (λi k s=>ix (l:=l) i k s) n (l.length+1) (cG l d.e) [] ⟨by simp,by simp⟩ kb uZ sZ;have j:=q9 l (cG l d.e) kb;have q:=j.inv.len;rw[r]at f;have p:fD (to l) (l.length+1) (cG l d.e) []=ie l (cG l d.e):=rfl;rw[p]at f;have c:=Tu n (ie l (cG l d.e)) i (ig [] cc (ie l (cG l d.e))) (by
  unfold ig;split;.rename_i h;exact .inr ⟨xaO h,rfl⟩
  exact .inl rfl) oZ oZ
 simp only[D0,QP,go_sem,dV g,f,c,gN,wY g]
def Ld(l:List bd){B:Nat}(ah:fP B l):∀(n:Nat)(i:Nat)(S:lX)(M:List (Value×D)),i<l.length->dW M S->gx l.length S->l.length-S.length+2*B+100<n-> ∃c,nj n [aa (i:Int),fF (l.map λd=>cG l d.e),.mp M]=some [D.aC [],fF (l.map λd=>cG l d.e),.mp c]/\dW c (fD (to l) n (to l i) S)
 |0,_,_,_,_,_,_,h=>absurd h (xaD _)
 |n+1,i,S,M,ag,p,K,W=>by
  have E:=ah.len;have J:=ah.b;obtain⟨d,w⟩:∃d,l[i]?=some d:=⟨l[i],xaa ag⟩;have L:=ah.e d (xad w);have N:=FJ l d.e;have C:ba 1 (fF (l.map λd=>cG l d.e)) (aa (i:Int))=some [cp (cG l d.e)]:=aca (by simp[w]);have I:(aa ((0:Nat):Int))=aa 0:=rfl;rw[wY w,fD];have key:∀(m j:Nat)(s:lX)(M:List (Value×D)),dW M s->gx l.length s->S.length<=s.length->(cG l d.e).length-j<m->j<=(cG l d.e).length-> ∃c,aR (z7 (nj n) n) m [cp (cG l d.e),aa (cG l d.e).length,aa (j:Int),fF (l.map λd=>cG l d.e),.mp M]=some (.inl [fF (l.map λd=>cG l d.e),.mp c])/\dW c (((cG l d.e).drop j).foldl (λS k=>if k∈S then S else fD (to l) n (to l k) (S++[k])) s):=by
   intro m
   induction m with
   |zero=>intro j s M _ _ _ h _;exact absurd h (xaD _)
   |succ m ih=>
    intro j s M p aj A V U;rw[h7];by_cases f:j<(cG l d.e).length
    .have g:=xaa f;generalize (cG l d.e)[j]=k at g;have y:=xad g;have o:=kb k y;have kZ:(cG l d.e).drop j=k::(cG l d.e).drop (j+1):=by
      obtain⟨Q,R⟩:=lV.1 g;rw[xaW Q,R]
     rw[kZ,xcm];have q:=p.look (i:=k) (z:= .bool false);by_cases a:k∈s
     .rw[xac a];obtain⟨c,g1,g2⟩:=ih (j+1) s M p aj A oZ f;refine⟨c,?_,g2⟩;simp only[z7,go_sem,yT ((j:Int)<((cG l d.e).length:Int)),ps g,gu,q,xan a,bl j,g1]
     rw[xab a];obtain⟨G,P,F⟩:=p.put k;rw[xab a]at F;have r:=aj.snoc o a;have O:=aj.lt o a;obtain⟨H,c5,dk⟩:=Ld l ah n k (s++[k]) G o F r uZ;have t:=wZ (λi k g=>ix i k g) n (to l k) (s++[k]) r (λx C=>ix k x C) uZ;obtain⟨T,u⟩:=t.pre;obtain⟨c,g1,g2⟩:=ih (j+1) _ H dk t.inv (by rw[u];simp;omega) oZ f;refine⟨c,?_,g2⟩;simp only[z7,go_sem,yT ((j:Int)<((cG l d.e).length:Int)),ps g,gu,q,xax a,P,c5,bl j,g1]
    have:j=(cG l d.e).length:=oZ
    subst this;refine⟨M,?_,by simpa using p⟩;simp only[z7,go_sem,yF (((cG l d.e).length:Int)<(cG l d.e).length)]
  obtain⟨c,g1,g2⟩:=key n 0 S M p K (xaR _) oZ (xag _);rw[I]at g1;refine⟨c,?_,by simpa using g2⟩;show Ew (nj n) n _=_;simp only[Ew,go_sem,C,gu,n5,g1]
inductive ra(o:Int)(x:ByteArray):Tm->Prop where
 |here (t:Tm) (h:t.op=o) (BH:t.name=x):ra o x t
 |di (t k:Tm) (h:k∈t.az) (BH:ra o x k):ra o x t
def FK{s x:ByteArray}:∀{l:List ByteArray},x∈fC s l↔x=s\/x∈l
 |[]=>by simp[fC]
 |a::r=>by
  rw[fC];split;.rename_i h;subst h;simp
  split;.simp
  rw[xao,FK,xao];constructor
  .rintro(h|h|h);.exact .inr (.inl h)
   .exact .inl h
   exact .inr (.inr h)
  rintro(h|h|h);.exact .inr (.inl h)
  .exact .inl h
  exact .inr (.inr h)
def Tx(o:Int)(x:ByteArray)(t:Tm):∀l,x∈eh o t l↔x∈l\/ra o x t:=by
 refine Tm.ind (P:=λt=>∀l,x∈eh o t l↔x∈l\/ra o x t) ?_ t;intro t ih l;have key:∀(ks:List Tm),(∀k∈ks,∀l,x∈eh o k l↔x∈l\/ra o x k)->∀l,x∈jN o ks l↔x∈l\/∃k∈ks,ra o x k:=by
  intro ks
  induction ks with
  |nil=>intro _ l;simp[jN]
  |cons a r c=>intro h l;rw[jN,c (λk b=>h k (by simp[b])),h a sZ];simp only[xao,exists_eq_or_imp,or_assoc]
 rw[FF,key t.az ih];constructor
 .rintro(h|⟨k,b,h⟩)
  .split at h
   .rename_i d;rcases FK.1 h with rfl|h
    .exact .inr (.here t d rfl)
    exact .inl h
   exact .inl h
  exact .inr (.di t k b h)
 rintro(h|h)
 .left;split;.exact FK.2 (.inr h)
  exact h
 cases h with|here _ ab ad=>left;rw[xac ab];exact FK.2 (.inl ad.symm)|di _ k b h=>exact .inr ⟨k,b,h⟩
def FL{l:List bd}{t:Tm}{i:Nat}:i∈cG l t↔∃x,ra 3 x t/\cw l x=some i:=by
 unfold cG;rw[List.mem_filterMap];constructor;.rintro⟨x,ab,ad⟩;exact⟨x,((Tx 3 x t []).1 ab).resolve_left sZ,ad⟩
 rintro⟨x,ab,ad⟩;exact⟨x,(Tx 3 x t []).2 (.inr ab),ad⟩
def Le{l:List bd}{t k:Tm}(a:k∈t.az):∀i∈cG l k,i∈cG l t:=by intro i ag;obtain⟨x,ab,ad⟩:=FL.1 ag;exact FL.2 ⟨x,.di t k a ab,ad⟩
def rb(l:List bd)(t:Tm):Bool:=t.op==3&&(cw l t.name).isSome
def hK(l:List bd):Nat->Tm->Tm->Prop
 |0,_,_=>False|h+1,t,X=>(t.op=3/\∃i d,cw l t.name=some i/\l[i]?=some d/\hK l h d.e X)\/(rb l t=false/\∃ks,X= .mk t.op t.num t.name t.nl ks/\ks.length=t.az.length/\∀(j:Nat)(a b:Tm),t.az[j]?=some a->ks[j]?=some b->hK l h a b)
def hK.mono{l:List bd}:∀{h c:Nat}{t X:Tm},h<=c->hK l h t X->hK l c t X
 |0,_,_,_,_,H=>H.elim|h+1,0,_,_,hle,_=>absurd hle oZ
 |h+1,c+1,t,X,hle,H=>by
  rcases H with⟨ab,i,d,ad,ai,e⟩|⟨ab,ks,ad,ai,e⟩;.exact .inl ⟨ab,i,d,ad,ai,e.mono oZ⟩
  exact .inr ⟨ab,ks,ad,ai,λj a b f g=>(e j a b f g).mono oZ⟩
def Ty:∀{A B:lX},A.Nodup->(∀x∈A,x∈B)->A.length<=B.length
 |[],B,_,_=>by simp
 |a::A,B,d,h=>by
  have c:=h a sZ;have ab:=Ty (A:=A) (B:=B.erase a) (List.nodup_cons.1 d).2 (λx e=>by
   have b:x≠a:=by rintro rfl;exact(List.nodup_cons.1 d).1 e
   exact(List.mem_erase_of_ne b).2 (h x (by simp[e])))
  have ad:=List.length_erase_of_mem c;have ai:0<B.length:=List.length_pos_of_mem c;simp;omega
def tq(l:List bd)(i:Nat):Nat:=(ie l (to l i)).length
def ahp{l:List bd}{i j:Nat}(m:j∈to l i)(o:gN l j=false):tq l j<tq l i:=by
 have ag:=q9 l (to l i) (ix i);have e:=q9 l (to l j) (ix j);have f:j∉ie l (to l j):=by
  intro h;have:gN l j=true:=by simp[gN,h]
  rw[o]at this;cases this
 have d:∀x∈ie l (to l j)++[j],x∈ie l (to l i):=by
  intro x c;rcases xar.1 c with c|c
  .obtain⟨k,ab,ad⟩:=(pS l _ (ix j) x).1 c;exact(pS l _ (ix i) x).2 ⟨j,m,.step j k x ab ad⟩
  simp at c;subst c;exact ag.mem _ m
 have:=Ty (A:=ie l (to l j)++[j]) (B:=ie l (to l i)) (by rw[xbH];exact⟨e.inv.1,by simp,by intro a n b g;simp at g;subst g;rintro rfl;exact f n⟩) d;simp at this;unfold tq;omega
def w1(l:List bd)(t:Tm):Prop:=∀x∈ie l (cG l t),gN l x=false
def Lf{f:Type}{P:Nat->Tm->f->Prop}:∀(ks:List Tm),(∀(j:Nat)(a:Tm),ks[j]?=some a->∃b,P j a b)->∃r:List f,r.length=ks.length/\∀(j:Nat)(a:Tm)(b:f),ks[j]?=some a->r[j]?=some b->P j a b
 |[],_=>⟨[],rfl,by intro j a b h;simp at h⟩
 |k::r,h=>by obtain⟨b,g⟩:=h 0 k rfl;obtain⟨da,ab,ad⟩:=Lf (P:=λj=>P (j+1)) r (λj a d=>h (j+1) a (by simpa using d));refine⟨b::da,by simp[ab],?_⟩;intro j a c d e;cases j with|zero=>simp at d e;subst d;subst e;exact g|succ j=>exact ad j a c (by simpa using d) (by simpa using e)
def ahq{l:List bd}{B:Nat}(ah:fP B l):∀(r:Nat)(t:Tm),t.aS<=B->w1 l t->(∀k∈cG l t,tq l k<r)->∃X,hK l (r*(B+1)+t.aS) t X:=by
 intro r
 induction r with
 |zero=>
  intro t;refine Tm.ind (P:=λt=>t.aS<=B->w1 l t->(∀k∈cG l t,tq l k<0)->∃X,hK l (0*(B+1)+t.aS) t X) ?_ t;intro t ih I f u;have p:cG l t=[]:=by cases h:cG l t with|nil=>rfl|cons a q=>exact absurd (u a (by rw[h];simp)) (xaD _)
  have D:rb l t=false:=by cases h:rb l t with|false=>rfl|true=>simp only[rb,xam,xbQ,Option.isSome_iff_exists]at h;obtain⟨ab,i,ad⟩:=h;have:i∈cG l t:=FL.2 ⟨_,.here t ab rfl,ad⟩;rw[p]at this;cases this
  obtain⟨ks,ab,ad⟩:=Lf (P:=λj a b=>hK l (t.aS-1) a b) t.az (λj a y=>by
   have g:=xad y;have G:=Tm.fB g;have m:cG l a=[]:=by cases h:cG l a with|nil=>rfl|cons b q=>have:=Le g b (by rw[h];simp);rw[p]at this;cases this
   obtain⟨X,o⟩:=ih a g oZ (λx n=>by rw[m]at n;simp[ie,fD]at n) (by rw[m];simp);exact⟨X,o.mono oZ⟩)
  have G:=t.h8;refine⟨.mk t.op t.num t.name t.nl ks,?_⟩;have e:0*(B+1)+t.aS=(t.aS-1)+1:=oZ
  rw[e];exact .inr ⟨D,ks,rfl,ab,ad⟩
 |succ r E=>
  intro t;refine Tm.ind (P:=λt=>t.aS<=B->w1 l t->(∀k∈cG l t,tq l k<r+1)->∃X,hK l ((r+1)*(B+1)+t.aS) t X) ?_ t;intro t ih I f u;have G:=t.h8;have e:(r+1)*(B+1)+t.aS=((r+1)*(B+1)+(t.aS-1))+1:=oZ
  cases C:rb l t with
  |true=>
   simp only[rb,xam,xbQ,Option.isSome_iff_exists]at C;obtain⟨ab,i,ad⟩:=C;obtain⟨d,ai,K,L⟩:=Jr ad;have ag:i∈cG l t:=FL.2 ⟨_,.here t ab rfl,ad⟩;have s:=wY ai;have z:=ah.e d (xad ai);have H:=q9 l (cG l t) kb;obtain⟨X,o⟩:=E d.e z.2 (λx n=>f x (by
    obtain⟨k,w,F⟩:=(pS l _ kb x).1 n;rw[<-s]at w;exact(pS l _ kb x).2 ⟨i,ag,.step i k x w F⟩)) (λk c=>by
    rw[<-s]at c;have A:k∈ie l (cG l t):=(pS l _ kb k).2 ⟨i,ag,.step i k k c (.refl k)⟩;have:=ahp c (f k A);have:=u i ag;omega)
   refine⟨X,?_⟩;rw[e];exact .inl ⟨ab,i,d,ad,ai,o.mono (by have:(r+1)*(B+1)=r*(B+1)+(B+1):=Nat.succ_mul _ _;omega)⟩
  |false=>
   obtain⟨ks,ab,ad⟩:=Lf (P:=λj a b=>hK l ((r+1)*(B+1)+(t.aS-1)) a b) t.az (λj a y=>by
    have g:=xad y;have J:=Tm.fB g;obtain⟨X,o⟩:=ih a g oZ (λx n=>f x (by obtain⟨k,w,F⟩:=(pS l _ kb x).1 n;exact(pS l _ kb x).2 ⟨k,Le g k w,F⟩)) (λk c=>u k (Le g k c))
    exact⟨X,o.mono oZ⟩)
   refine⟨.mk t.op t.num t.name t.nl ks,?_⟩;rw[e];exact .inr ⟨C,ks,rfl,ab,ad⟩
def ahr(l:List bd)(i:Nat):tq l i<=l.length:=(q9 l (to l i) (ix i)).inv.len
def ahs{l:List bd}{B:Nat}(ah:fP B l){t:Tm}(b:t.aS<=B)(h:w1 l t):∃X,hK l ((l.length+1)*(B+1)+B) t X:=by obtain⟨X,a⟩:=ahq ah (l.length+1) t b h (λk _=>by have:=ahr l k;omega);exact⟨X,a.mono oZ⟩
mutual
def dt:Tm->Int->Int->Tm×Int
 | .mk o m s b ks,deep,n=>if ks.isEmpty then(.mk o m s b ks,n+1)else(.mk o m s false (er ks deep (n+1)).1,(er ks deep (n+1)).2)
def er:List Tm->Int->Int->List Tm×Int
 |[],_,n=>([],n)|k::r,deep,n=>if deep<=64/\n<=4096 then((dt k (deep+1) n).1::(er r deep (dt k (deep+1) n).2).1,(er r deep (dt k (deep+1) n).2).2)else(T0::(er r deep n).1,(er r deep n).2)
end
mutual
def eD:Tm->Tm
 | .mk o m s b ks=> .mk o m s false (kr ks)
def kr:List Tm->List Tm
 |[]=>[]|k::r=>eD k::kr r
end
def Tz:∀l:List Tm,(kr l).length=l.length
 |[]=>rfl|k::r=>by simp[kr,Tz r]
def FM:∀(l:List Tm)(d n:Int),(er l d n).1.length=l.length
 |[],_,_=>rfl|k::r,d,n=>by rw[er];split<;>simp[FM r]
def aht(o m:Int)(s:ByteArray)(n:Nat):Int:=if(ew o).1<0 then 11
 else if(m<(if o=1 then-255 else 0))\/m>(if o=1 then 255 else if o=2 then 1 else 0)then 2
 else if(if wV o then s=⟨#[]⟩\/s.size>24 else s≠⟨#[]⟩)then 12
 else if(n:Int)<(ew o).1\/(n:Int)>(ew o).2 then 3 else 0
theorem TA(o m:Int)(s:ByteArray)(b:Bool)(ks:List Tm):fT (.mk o m s b ks)=aht o m s ks.length:=rfl
def TB{o m:Int}{s:ByteArray}{b b':Bool}{ks ks':List Tm}(h:ks.length=ks'.length):fT (.mk o m s b ks)=fT (.mk o m s b' ks'):=by rw[TA,TA,h]
mutual
def Lg:∀(X:Tm)(deep n:Int),n<=4096->(ct (dt X deep n).1 deep n).1=(ct X deep n).1/\((ct X deep n).1=0->(ct X deep n).2=(dt X deep n).2/\(ct (dt X deep n).1 deep n).2=(dt X deep n).2/\FH (dt X deep n).1 (eD X)=true)
 | .mk o m s b ks,deep,n,e=>by
  rw[dt];cases ks with
  |nil=>
   simp only[List.isEmpty_nil,xaC,true_and];intro h;rw[ct]at h⊢;split at h;.cases h
   split at h;.rename_i ad;exact absurd h ad
   split at h;.cases h
   rename_i ab ad ai;rw[xab ab,xab ad,xab ai];simp[dK,eD,kr,Ts,Tm.op,Tm.num,Tm.name,Tm.az,tp]
  |cons k r=>
   simp only[List.isEmpty_cons,xaq,xaG];rw[ct,ct,TB (b':=b) (ks':=k::r) (FM (k::r) deep (n+1))];by_cases ab:deep>64;.rw[xac ab,xac ab];simp
   rw[xab ab,xab ab];by_cases ad:fT (.mk o m s b (k::r))≠0;.rw[xac ad,xac ad];exact⟨rfl,λh=>absurd h ad⟩
   rw[xab ad,xab ad];by_cases ai:n+1>4096;.rw[xac ai,xac ai];simp
   rw[xab ai,xab ai];obtain⟨g1,g2⟩:=TC (k::r) deep (n+1) oZ oZ;refine⟨g1,λh=>?_⟩;obtain⟨a,f,g⟩:=g2 h;refine⟨a,f,?_⟩;rw[Ts];simp only[eD,Tm.op,Tm.num,Tm.name,Tm.az,g,FM,Tz];simp
def TC:∀(ks:List Tm)(deep n:Int),deep<=64->n<=4096->(dK (er ks deep n).1 (deep+1) n).1=(dK ks (deep+1) n).1/\((dK ks (deep+1) n).1=0->(dK ks (deep+1) n).2=(er ks deep n).2/\(dK (er ks deep n).1 (deep+1) n).2=(er ks deep n).2/\tp (er ks deep n).1 (kr ks)=true)
 |[],deep,n,_,_=>by simp[er,dK,kr,tp]
 |k::r,deep,n,i,e=>by
  rw[er,xac ⟨i,e⟩,dK,dK];obtain⟨g1,g2⟩:=Lg k (deep+1) n e;have j:=wW k (deep+1) n;by_cases h:(ct k (deep+1) n).1=0
  .obtain⟨a,f,g⟩:=g2 h;have c:=g1.trans h;simp only[h,c,ne_eq,xbP,xaG,a,f];have d:(dt k (deep+1) n).2<=4096:=by rw[<-a];exact j.2 h
   obtain⟨l,p⟩:=TC r deep (dt k (deep+1) n).2 i d;refine⟨l,λh=>?_⟩;obtain⟨s1,s2,q⟩:=p h;exact⟨s1,s2,by rw[kr,tp,g,q];rfl⟩
  have c:(ct (dt k (deep+1) n).1 (deep+1) n).1≠0:=by rw[g1];exact h
  simp only[ne_eq,h,c,xcs,xaC];exact⟨g1,λa1=>a1.elim⟩
end
def Tm.TD(l:List Tm)(t:Tm):Tm.rows (l++[t])=Tm.rows l++[t.cells]:=by simp[Tm.fR]
def ahu(o m:Int)(s:ByteArray)(b:Bool)(ks:List Tm):eD (.mk o m s b ks)= .mk o m s false (kr ks):=by rw[eD]
def FN{c d:Type}{a:List c}{b:List d}{i:Nat}{x:c×d}(h:(a.zip b)[i]?=some x):a[i]?=some x.1/\b[i]?=some x.2:=by rw[List.getElem?_zip_eq_some]at h;exact h
def Lh{c d:Type}{a:List c}{b:List d}(h:b.length=a.length):(a.zip b).map (·.2)=b:=List.map_snd_zip oZ
def Li{l:List bd}{B:Nat}(ah:fP B l):∀(h n:Nat)(t X:Tm)(deep k:Int),hK l h t X->t.Ok->t.aS<=B->1<=deep->deep<=65->0<=k->k<=4096->h+2*B+100<n->og n [t.d,aA l,aa deep,aa k]=some (.aC [if(ct X deep k).1=0 then(eD X).d else T0.d,aa (ct X deep k).2,aa (ct X deep k).1])
 |0,_,_,_,_,_,H,_,_,_,_,_,_,_=>H.elim|h+1,0,_,_,_,_,_,_,_,_,_,_,_,U=>absurd U (xaD _)
 |h+1,n+1,t,X,deep,k,H,J,cy,ab,ad,ai,bX,U=>by
  have G:=ah.len;have b4:=ah.b;have C:=Tt n l t.name oZ oZ;have K:=Th n t deep;have j:D.agg [aa 0,aa 0,aD ⟨#[]⟩,D.val (.slice none 0 0)]=T0.d:=Dc.symm;rcases H with⟨V,i,d,ag,M,b3⟩|⟨P,ks,rfl,x,O⟩
  .have E:=ah.e d (xad M);have y:=Li ah h n d.e X deep k b3 E.1 E.2 ab ad ai bX oZ;simp only[ag]at C;show nf (og n) n t.d (aA l) (aa deep) (aa k)=_;have A:((3:Int)==3)=true:=rfl;by_cases ak:(ct X deep k).1=0
   .simp only[ak,xaC]at y⊢;simp only[nf,go_sem,V,A,C,yT ((i:Int)>=0),dV M,y]
   simp only[ak,xaG]at y⊢;simp only[nf,go_sem,V,A,C,yT ((i:Int)>=0),dV M,y]
  have b1:fT (.mk t.op t.num t.name t.nl ks)=fT t:=by have:=TB (o:=t.op) (m:=t.num) (s:=t.name) (b:=t.nl) (b':=t.nl) x;rw[this];cases t;rfl
  have g:(t.op==3)=false/\True\/(t.op==3)=true/\vw n [aA l,aD t.name]=some (aa (-1)):=by
   by_cases ai:t.op=3
   .right;have I:cw l t.name=none:=by simpa[rb,ai]using P
    rw[I]at C;exact⟨by simp[ai],C⟩
   left;simp[ai]
  have u:decide ((-1:Int)>=0)=false:=dZ
  show nf (og n) n t.d (aA l) (aa deep) (aa k)=_;rw[pP,b1];by_cases c1:64<deep
  .have p:((17:Int) !=0)=true:=rfl;rcases g with⟨aj,c⟩|⟨aj,c⟩<;>
   simp only[nf,go_sem,aj,c,u,iL k,K,gt_iff_lt,c1,j,p,show¬((17:Int)=0) by omega]
  by_cases c2:fT t=0
  case neg=>
   have p:(fT t !=0)=true:=by simpa using c2
   rcases g with⟨aj,c⟩|⟨aj,c⟩<;>
   simp only[nf,go_sem,aj,c,u,iL k,K,gt_iff_lt,c1,j,p,c2,ne_eq,xcs]
  have w:((0:Int) !=0)=false:=rfl;by_cases b6:4096<k+1
  .rcases g with⟨aj,c⟩|⟨aj,c⟩<;>
   simp only[nf,go_sem,aj,c,u,iL k,K,gt_iff_lt,c1,j,c2,w,ne_eq,xbP,decide_true,b6,show¬((4:Int)=0) by omega]
  have q:=ch (f:=zg (og n) n) (t.az.zip ks) (λi (s:Int×List Tm)=>[aA l,aa deep,aa s.1,aa (i:Int),aa t.op,aa t.num,aD t.name,bI 4 t.nl (Tm.rows t.az),aa 0,aa 0,aD ⟨#[]⟩,cc,.aw 4 (Tm.rows s.2)]) (λr (s:Int×List Tm)=>if(dK (r.map (·.2)) (deep+1) s.1).1=0 then(Sum.inl [aa (dK (r.map (·.2)) (deep+1) s.1).2,aa t.op,aa t.num,aD t.name,bI 4 t.nl (Tm.rows t.az),aa 0,aa 0,aD ⟨#[]⟩,cc,.aw 4 (Tm.rows (s.2++kr (r.map (·.2))))]:lZ⊕D)else .inr (.aC [T0.d,aa (dK (r.map (·.2)) (deep+1) s.1).2,aa (dK (r.map (·.2)) (deep+1) s.1).1])) (λi s=>0<=s.1/\s.1<=4096/\s.2.length=i) ?_ ?_ n 0 (k+1,[]) ⟨by simp;omega,by simp;omega,rfl⟩ (by have:=t.h8;simp[x];omega) (xag _)
  .have W:(aa ((0:Nat):Int))=aa 0:=rfl;have Z:Tm.rows []=[]:=rfl;simp only[xak,Lh x,W,Z,xaM]at q;have R:(Tm.mk t.op t.num t.name t.nl ks).az=ks:=rfl;have N:(eD (.mk t.op t.num t.name t.nl ks)).d=D.agg [aa t.op,aa t.num,aD t.name,.aw 4 (Tm.rows (kr ks))]:=by rw[ahu,Tm.hj];simp[bI,Tm.op,Tm.num,Tm.name,Tm.nl,Tm.az]
   by_cases ak:(dK ks (deep+1) (k+1)).1=0
   .simp only[ak,xaC]at q;rcases g with⟨aj,c⟩|⟨aj,c⟩<;>
    simp only[nf,go_sem,aj,c,u,iL k,K,gt_iff_lt,c1,j,c2,w,ne_eq,xbP,decide_false,b6,q,R,ak,N]
   simp only[ak,xaG]at q;rcases g with⟨aj,c⟩|⟨aj,c⟩<;>
   simp only[nf,go_sem,aj,c,u,iL k,K,gt_iff_lt,c1,j,c2,w,ne_eq,xbP,decide_false,b6,q,R,ak]
  .intro s _;have e:((t.az.zip ks).length:Int)=t.az.length:=by simp[x]
   simp only[zg,go_sem,e,yF ((t.az.length:Int)<t.az.length),xbc,dK,kr,xat]
  rintro i ⟨a,b⟩ s ea ag ⟨ck,cA,cC⟩;obtain⟨z,S⟩:=FN ea;simp only at z S;have T:=xad z;have cT:=Tm.fB T;have G:=J.len;have F:(i:Int)<t.az.length:=by have:=(lV.1 z).1;omega
  have y:=Li ah h n a b (deep+1) s.1 (O i a b z S) (J.di T) oZ oZ oZ ck cA oZ;have L:=wW b (deep+1) s.1;have Q:b2 (s.2.length+1) 56=true:=eE;by_cases ak:(ct b (deep+1) s.1).1=0
  .simp only[ak,xaC]at y;left;refine⟨((ct b (deep+1) s.1).2,s.2++[eD b]),?_,?_,by simp;omega,by simpa using L.2 ak,by simp[cC]⟩;.have Y:[aa (eD b).op,aa (eD b).num,aD (eD b).name,bI 4 (eD b).nl (Tm.rows (eD b).az)]=(eD b).cells:=((eD b).h9).symm;simp only[zg,go_sem,xan F,Tm.ep z,iL deep,y,w,Y,Tm.TD,xal,xaA,xav,Q,bl i]
   simp only[xaw,dK,ak,ne_eq,xbP,xaG,kr,xaL,xbo]
  simp only[ak,xaG]at y;have p:((ct b (deep+1) s.1).1 !=0)=true:=by simpa using ak
  right;simp only[zg,go_sem,xan F,Tm.ep z,iL deep,y,p,j,xaw,dK,ne_eq,ak,xcs]
theorem Lj(t:Tm)(deep n:Int):dt t deep n=if t.az.isEmpty then(t,n+1)else(.mk t.op t.num t.name false (er t.az deep (n+1)).1,(er t.az deep (n+1)).2):=by cases t;rw[dt];rfl
def TE(t:Tm):∀(deep n:Int),n+1<=(dt t deep n).2/\(n<=4096->(dt t deep n).2<=4097):=by
 refine Tm.ind (P:=λt=>∀(deep n:Int),n+1<=(dt t deep n).2/\(n<=4096->(dt t deep n).2<=4097)) ?_ t;intro t ih deep n;have key:∀(ks:List Tm),(∀k∈ks,∀(deep n:Int),n+1<=(dt k deep n).2/\(n<=4096->(dt k deep n).2<=4097))->∀(n:Int),n<=(er ks deep n).2/\(n<=4097->(er ks deep n).2<=4097):=by
  intro ks
  induction ks with
  |nil=>intro _ n;simp[er]
  |cons a r b=>
   intro h n;have ab:=h a sZ (deep+1) n;rw[er];split
   .have ad:=b (λk c=>h k (by simp[c])) (dt a (deep+1) n).2;simp only;constructor;.omega
    intro _;exact ad.2 oZ
   exact b (λk c=>h k (by simp[c])) n
 rw[Lj];split;.simp only[Int.le_refl,true_and];omega
 have:=key t.az ih (n+1);simp only;constructor;.omega
 intro _;exact this.2 oZ
def TF{l:List bd}{B:Nat}(ah:fP B l){M:List (Value×D)}(o:FI M l)(r:lZ->oY)(A:Nat)(deep jO:Int):∀(h n:Nat)(t X:Tm),hK l h t X->t.Ok->t.aS<=B->h<n-> ∃(t':Tm)(m:Nat)(ks:List Tm),m<h/\t'.Ok/\t'.aS<=B/\X= .mk t'.op t'.num t'.name t'.nl ks/\ks.length=t'.az.length/\(∀(j:Nat)(a b:Tm),t'.az[j]?=some a->ks[j]?=some b->hK l m a b)/\aR (Aa r A) n [aa deep,.mp M,aA l,aa jO,aa t.op,aa t.num,aD t.name,bI 4 t.nl (Tm.rows t.az),aa 0,aa 0,aD ⟨#[]⟩,cc]=some (.inl [aa deep,aa jO,aa t'.op,aa t'.num,aD t'.name,bI 4 t'.nl (Tm.rows t'.az),aa 0,aa 0,aD ⟨#[]⟩,cc,.mp M,aA l])
 |0,_,_,_,H,_,_,_=>H.elim|h+1,0,_,_,_,_,_,y=>absurd y (xaD _)
 |h+1,n+1,t,X,H,u,F,y=>by
  have c:=uO o.1 (z:= .int .i64 0) (x:=t.name);rw[o.2]at c;rcases H with⟨E,i,d,ag,w,C⟩|⟨s,ks,rfl,q,p⟩
  .have g:=ah.e d (xad w);have f:((3:Int)==3)=true:=rfl;rw[ag]at c;simp only[xaI]at c;obtain⟨t',m,ks,g1,g2,g3,g4,g5,g6,g7⟩:=TF ah o r A deep jO h n d.e X C g.1 g.2 oZ;refine⟨t',m,ks,by omega,g2,g3,g4,g5,g6,?_⟩;rw[h7,<-g7];simp only[Aa,go_sem,E,f,jx,c,dV w]
  refine⟨t,h,ks,by omega,u,F,rfl,q,p,?_⟩;rw[h7];by_cases ai:t.op=3
  .have k:cw l t.name=none:=by simpa[rb,ai]using s
   have f:((3:Int)==3)=true:=rfl;rw[k]at c;simp only[xbE]at c;simp only[Aa,go_sem,ai,f,jx,c]
  have aj:(t.op==3)=false:=by simp[ai]
  simp only[Aa,go_sem,aj]
def TG{s:List Tm}{x:Tm}{i k:Nat}(ag:s.length=i)(c:i<k):(Tm.rows (s++List.replicate (k-i) T0)).set i x.cells=Tm.rows ((s++[x])++List.replicate (k-(i+1)) T0):=by
 obtain⟨m,rfl⟩:∃m,k=i+1+m:=⟨k-(i+1),by omega⟩;have a:i+1+m-i=m+1:=oZ
 have b:i+1+m-(i+1)=m:=oZ
 subst ag;rw[a,b];simp[Tm.fR,xcu]
def ahv{s:List Tm}{i k:Nat}(ag:s.length=i)(b:i<k):(Tm.rows (s++List.replicate (k-i) T0))[i]?=some T0.cells:=by
 obtain⟨m,rfl⟩:∃m,k=i+1+m:=⟨k-(i+1),by omega⟩;have a:i+1+m-i=m+1:=oZ
 subst ag;rw[a];simp[Tm.fR,xcu]
def ahw{t:Nat}(h:t<=1000000):eM 56 (aa (t:Int)) (aa (t:Int))=some t:=by simp only[eM,aa];rw[xac ⟨by omega,by omega,by omega,by omega⟩];simp
def TH{l:List bd}{B:Nat}(ah:fP B l){M:List (Value×D)}(R:FI M l):∀(n h:Nat)(t X:Tm)(deep k:Int),hK l h t X->t.Ok->t.aS<=B->1<=deep->deep<=65->0<=k->k<=4096->h+2*B+100<n->oo n [t.d,aa deep,.mp M,aA l,aa k]=some [(dt X deep k).1.d,.mp M,aA l,aa (dt X deep k).2]
 |0,_,_,_,_,_,_,_,_,_,_,_,_,V=>absurd V (xaD _)
 |n+1,h,t0,X,deep,k,H,z,P,ab,ad,ai,cK,V=>by
  have U:=ah.len;have cA:=ah.b;obtain⟨t,ck,ks,g1,O,dE,rfl,c,I,g7⟩:=TF ah R (oo n) n deep k h n t0 X H z P oZ;have b3:(Tm.mk t.op t.num t.name t.nl ks).az=ks:=rfl;have Q:∀(b:Bool)(r:List Tm),(Tm.mk t.op t.num t.name b r).d=D.agg [aa t.op,aa t.num,aD t.name,bI 4 b (Tm.rows r)]:=λb r=>by rw[Tm.hj];rfl
  have cT:=t.h8;have Y:(aa ((0:Nat):Int))=aa 0:=rfl;show Ab (oo n) n _=_;rw[Lj,b3];cases j:t.az with
  |nil=>
   have w:ks=[]:=by rw[j]at c;exact xaO c
   subst w;rw[j]at g7;have Z:((((Tm.rows []).length:Nat):Int)==0)=true:=rfl;simp only[Ab,go_sem,g7,iL k,List.isEmpty_nil,Q];simp
  |cons a0 dD=>
   have L:¬ks.isEmpty=true:=by cases ks with|nil=>rw[j]at c;simp at c|cons _ _=>simp
   have J:((t.az.length:Int)==0)=false:=by rw[j];simp;omega
   rw[xab L];show _=some [(Tm.mk t.op t.num t.name false (er ks deep (k+1)).1).d,.mp M,aA l,aa (er ks deep (k+1)).2];clear j;have y:=ch (f:=v7 (oo n) n) (t.az.zip ks) (λi (s:Int×List Tm)=>[aa deep,bI 4 t.nl (Tm.rows t.az),aa t.az.length,aa (i:Int),aa s.1,aa t.op,aa t.num,aD t.name,bI 4 t.nl (Tm.rows t.az),aa 0,aa 0,aD ⟨#[]⟩,cc,.aw 4 (Tm.rows (s.2++List.replicate (t.az.length-i) T0)),.mp M,aA l]) (λr (s:Int×List Tm)=>(Sum.inl [aa t.op,aa t.num,aD t.name,bI 4 t.nl (Tm.rows t.az),aa 0,aa 0,aD ⟨#[]⟩,cc,.aw 4 (Tm.rows (s.2++(er (r.map (·.2)) deep s.1).1)),.mp M,aA l,aa (er (r.map (·.2)) deep s.1).2]:lZ⊕lZ)) (λi s=>0<=s.1/\s.1<=4097/\s.2.length=i) ?_ ?_ n 0 (k+1,[]) ⟨by simp;omega,by simp;omega,rfl⟩ (by simp[c];omega) (xag _)
   .have b1:Tm.rows (List.replicate t.az.length T0)=List.replicate t.az.length [aa 0,aa 0,aD ⟨#[]⟩,D.val (.slice none 0 0)]:=by
     rw[Tm.fR,List.map_replicate];rfl
    simp only[xak,Lh c,Y,xaM,Nat.sub_zero,b1]at y;have K:=ahw (t:=t.az.length) oZ;simp only[Ab,go_sem,g7,iL k,J,K,y,Q,abI]
   .intro s aj;have e:(t.az.zip ks).length=t.az.length:=by simp[c]
    simp only[e,v7,go_sem,yF ((t.az.length:Int)<t.az.length),xbc,er,xbV,List.replicate_zero,xat]
   rintro i ⟨a,b⟩ s ea ag ⟨W,dc,C⟩;obtain⟨o,T⟩:=FN ea;simp only at o T;have E:=xad o;have dT:=Tm.fB E;have g:=(lV.1 o).1;have u:(i:Int)<t.az.length:=oZ
   left;by_cases p:deep<=64/\s.1<=4096
   .have cC:=TH ah R n ck a b (deep+1) s.1 (I i a b o T) (O.di E) oZ oZ oZ W p.2 oZ;have A:=TE b (deep+1) s.1;have N:cI (s.2++List.replicate (t.az.length-i) T0).length (aa (i:Int))=some i:=by
     rw[jF,xac];simp;omega
    have G:dH T0.cells 0 [aa (dt b (deep+1) s.1).1.op,aa (dt b (deep+1) s.1).1.num,aD (dt b (deep+1) s.1).1.name,bI 4 (dt b (deep+1) s.1).1.nl (Tm.rows (dt b (deep+1) s.1).1.az)]=(dt b (deep+1) s.1).1.cells:=by rw[Tm.h9 (dt b (deep+1) s.1).1];rfl
    refine⟨((dt b (deep+1) s.1).2,s.2++[(dt b (deep+1) s.1).1]),?_,?_,by simp;omega,by simpa using A.2 p.2,by simp[C]⟩;.simp only[v7,go_sem,xan u,Tm.ep o,xan p.1,xan p.2,iL deep,cC,N,ahv C g,G,TG C g,bl i]
    simp only[xaw,er,xac p,xaL,xbo]
   refine⟨(s.1,s.2++[T0]),?_,?_,by simpa using W,by simpa using dc,by simp[C]⟩
   .have cy:=TG (x:=T0) C g;have S:Tm.rows (s.2++List.replicate (t.az.length-i) T0)=Tm.rows (s.2++[T0]++List.replicate (t.az.length-(i+1)) T0):=by
     obtain⟨m,E⟩:∃m,t.az.length=i+1+m:=⟨t.az.length-(i+1),by omega⟩;have bX:i+1+m-i=m+1:=oZ
     have b4:i+1+m-(i+1)=m:=oZ
     rw[E,bX,b4];simp[xcu]
    by_cases q:deep<=64;.have F:¬s.1<=4096:=λh=>p ⟨q,h⟩;simp only[v7,go_sem,xan u,Tm.ep o,xan q,xax F,S,bl i]
    simp only[v7,go_sem,xan u,Tm.ep o,xax q,S,bl i,xce]
   simp only[xaw,er,xab p,xaL,xbo]
def tu(l:List bd)(S:lX):Prop:=∀x∈S,∀y∈to l x,y∈S
def tu.nt{l:List bd}{S:lX}(h:tu l S){a b:Nat}(e:hJ (to l) a b)(d:a∈S):b∈S:=by induction e with|refl=>exact d|step i j k c _ ih=>exact ih (h i d j c)
def TI(l:List bd)(i n:Nat)(S:lX)(ab:gx l.length S)(ad:tu l S)(g:l.length<n):gx l.length (fD (to l) n (to l i) S)/\tu l (fD (to l) n (to l i) S)/\∀x,x∈fD (to l) n (to l i) S↔x∈S\/∃k∈to l i,hJ (to l) k x:=by
 have h:=wZ (λi k b=>ix i k b) n (to l i) S ab (λx a=>ix i x a) oZ;obtain⟨T,c⟩:=h.pre;have d:tu l (fD (to l) n (to l i) S):=by
  intro x a y e;by_cases aj:x∈S;.rw[c];simp[ad x aj y e]
  exact h.pR x a aj y e
 refine⟨h.inv,d,λx=>⟨h.nt x,?_⟩⟩;rintro(a|⟨k,b,f⟩);.rw[c];simp[a]
 exact d.nt f (h.mem k b)
def TJ(l:List bd){B:Nat}(ah:fP B l)(n:Nat)(u:3*B+200<n)(fr:lX)(b:∀i∈fr,i<l.length)(p:fr.length<1000000000):∀(m j:Nat)(S:lX)(M:List (Value×D)),dW M S->gx l.length S->tu l S->fr.length-j<m->j<=fr.length-> ∃f a,aR (Ex n) m [cp fr,aa fr.length,aa (j:Int),.mp M,fF (l.map λd=>cG l d.e)]=some (.inl [.mp f])/\dW f a/\gx l.length a/\∀x,x∈a↔x∈S\/∃i∈fr.drop j,∃k∈to l i,hJ (to l) k x
 |0,_,_,_,_,_,_,h,_=>absurd h (xaD _)
 |m+1,j,S,M,q,g,t,hm,A=>by
  have r:=ah.len;rw[h7];by_cases c:j<fr.length
  .have o:=xaa c;generalize fr[j]=i at o;have ag:=b i (xad o);have kZ:fr.drop j=i::fr.drop (j+1):=by
    obtain⟨y,z⟩:=lV.1 o;rw[xaW y,z]
   have w:=g.len;obtain⟨s,c5,dk⟩:=Ld l ah n i S M ag q g oZ;obtain⟨c1,c2,b6⟩:=TI l i n S g t oZ;obtain⟨f,a,g1,g2,g3,g4⟩:=TJ l ah n u fr b p m (j+1) _ s dk c1 c2 oZ c;refine⟨f,a,?_,g2,g3,λx=>?_⟩;.simp only[Ex,go_sem,yT ((j:Int)<(fr.length:Int)),ps o,gu,c5,bl j,g1]
   rw[g4,b6,kZ];simp only[xao,exists_eq_or_imp,or_assoc]
  have:j=fr.length:=oZ
  subst this;refine⟨M,S,?_,q,g,λx=>by simp⟩;simp only[Ex,go_sem,yF ((fr.length:Int)<fr.length)]
def TK(l:List bd){B:Nat}(ah:fP B l)(n:Nat)(u:3*B+200<n)(fr:lX)(b:∀i∈fr,i<l.length)(p:fr.length<1000000000):∀(m j:Nat)(S:lX)(M:List (Value×D)),dW M S->gx l.length S->tu l S->fr.length-j<m->j<=fr.length-> ∃f a,aR (Ey n) m [cp fr,aa fr.length,aa (j:Int),.mp M,fF (l.map λd=>cG l d.e)]=some (.inl [.mp f])/\dW f a/\gx l.length a/\∀x,x∈a↔x∈S\/∃i∈fr.drop j,∃k∈to l i,hJ (to l) k x
 |0,_,_,_,_,_,_,h,_=>absurd h (xaD _)
 |m+1,j,S,M,q,g,t,hm,A=>by
  have r:=ah.len;rw[h7];by_cases c:j<fr.length
  .have o:=xaa c;generalize fr[j]=i at o;have ag:=b i (xad o);have kZ:fr.drop j=i::fr.drop (j+1):=by
    obtain⟨y,z⟩:=lV.1 o;rw[xaW y,z]
   have w:=g.len;obtain⟨s,c5,dk⟩:=Ld l ah n i S M ag q g oZ;obtain⟨c1,c2,b6⟩:=TI l i n S g t oZ;obtain⟨f,a,g1,g2,g3,g4⟩:=TK l ah n u fr b p m (j+1) _ s dk c1 c2 oZ c;refine⟨f,a,?_,g2,g3,λx=>?_⟩;.simp only[Ey,go_sem,yT ((j:Int)<(fr.length:Int)),ps o,gu,c5,bl j,g1]
   rw[g4,b6,kZ];simp only[xao,exists_eq_or_imp,or_assoc]
  have:j=fr.length:=oZ
  subst this;refine⟨M,S,?_,q,g,λx=>by simp⟩;simp only[Ey,go_sem,yF ((fr.length:Int)<fr.length)]
theorem Lk(l:List bd):c7 (aA l)=true:=rfl
theorem TL(l:mZ):c7 (fF l)=true:=rfl
def dW.w2{M:List (Value×D)}{S:lX}(h:dW M S):True:=trivial
def ahx(l:List bd){B:Nat}(ah:fP B l)(n:Nat)(g:3*B+200<n)(fr:lX)(b:∀i∈fr,i<l.length)(f:fr.length<n)(a:fr.length<1000000000): ∃M S,z8 n [fF (l.map λd=>cG l d.e),cp fr]=some [.mp M]/\dW M S/\∀x,x∈S↔∃i∈fr,∃k∈to l i,hJ (to l) k x:=by have c:(aa ((0:Nat):Int))=aa 0:=rfl;obtain⟨M,S,g1,g2,g3,g4⟩:=TJ l ah n g fr b a n 0 [] [] dW.nil ⟨by simp,by simp⟩ (by intro x h;cases h) oZ (xag _);refine⟨M,S,?_,g2,λx=>by rw[g4];simp⟩;rw[c]at g1;simp only[z8,go_sem,TL,n5,g1]
def ahy(l:List bd){B:Nat}(ah:fP B l)(n:Nat)(g:3*B+200<n)(fr:lX)(b:∀i∈fr,i<l.length)(f:fr.length<n)(a:fr.length<1000000000): ∃M S,vZ n [fF (l.map λd=>cG l d.e),cp fr]=some (.mp M)/\dW M S/\∀x,x∈S↔∃i∈fr,∃k∈to l i,hJ (to l) k x:=by have c:(aa ((0:Nat):Int))=aa 0:=rfl;obtain⟨M,S,g1,g2,g3,g4⟩:=TK l ah n g fr b a n 0 [] [] dW.nil ⟨by simp,by simp⟩ (by intro x h;cases h) oZ (xag _);refine⟨M,S,?_,g2,λx=>by rw[g4];simp⟩;rw[c]at g1;simp only[vZ,Ro,go_sem,TL,n5,g1]
def ahz(l:List bd){B:Nat}(ah:fP B l)(n:Nat)(b:3*B+200<n)(i:Nat)(ag:i<l.length): ∃M,vZ n [fF (l.map λd=>cG l d.e),D.aw 1 [[aa (i:Int)]]]=some (.mp M)/\gT (.int .i64) (.bool false) false M (aa (i:Int))=some (aF (gN l i)):=by
 obtain⟨M,S,g1,g2,g3⟩:=ahy l ah n b [i] (by simpa using ag) uZ sZ;refine⟨M,g1,?_⟩;rw[g2.look (z:= .bool false)];have:(i∈S)↔gN l i=true:=by rw[g3,Lb];simp
 congr 2
 by_cases h:i∈S;.rw[this.1 h];simp[h]
 have a:gN l i=false:=by cases ad:gN l i with|false=>rfl|true=>exact absurd (this.2 ad) h
 rw[a];simp[h]
def nu(l:List bd)(t:Tm):Bool:=(ie l (cG l t)).all λx=>!gN l x
def ahA(l:List bd)(t:Tm):nu l t=true↔w1 l t:=by simp[nu,w1]
def ahB(n:Nat)(l:List bd){M:List (Value×D)}(w:FI M l)(N t:D)(m:List ByteArray)(a b c d e f g h:D)(ab:m.length<n)(ad:m.length<100000000):aR (v8 n) n [aA l,.mp M,N,cB m,aa m.length,aa 0,a,b,c,d,e,f,g,h,D.aw 1 []]=some (.inl [aA l,N,a,b,c,d,e,f,g,h,cp (m.filterMap (cw l))]):=by
 have A:(aa ((0:Nat):Int))=aa 0:=rfl;have B:cp []=D.aw 1 []:=rfl;have p:∀x,D.aw 1 (aE (cp x))=cp x:=λ_=>rfl;have q:=ch (f:=v8 n) m (λj (s:lX)=>[aA l,.mp M,N,cB m,aa m.length,aa (j:Int),a,b,c,d,e,f,g,h,cp s]) (λr s=>(.inl [aA l,N,a,b,c,d,e,f,g,h,cp (s++r.filterMap (cw l))]:lZ⊕D)) (λj s=>s.length<=j) ?_ ?_ n 0 [] sZ oZ (xag _)
 .rw[A,B]at q;simpa using q
 .intro s _;simp only[v8,go_sem,yF ((m.length:Int)<m.length),p,List.filterMap_nil,xat]
 intro j b' s F q aj;have y:=A8 F;have i:=uO w.1 (z:= .int .i64 0) (x:=b');rw[w.2]at i;left;cases o:cw l b' with
 |none=>rw[o]at i;simp only[xbE]at i;refine⟨s,?_,by simp[o],by omega⟩;simp only[v8,go_sem,yT ((j:Int)<(m.length:Int)),y,gu,jx,i,p,bl j]
 |some k=>
  rw[o]at i;simp only[xaI]at i;have u:b2 (s.length+1) 8=true:=eE;have C:D.aw 1 (aE (cp s)++[[aa (k:Int)]])=cp (s++[k]):=by simp[cp]
  have E:(aE (cp s)).length=s.length:=by simp[cp]
  refine⟨s++[k],?_,by simp[o],by simp;omega⟩;simp only[v8,go_sem,yT ((j:Int)<(m.length:Int)),y,gu,jx,i,p,C,E,xal,xaA,xav,u,bl j]
def TM(n:Nat)(fr:lX)(L N a b c d e f g h:D)(ad:fr.length<100000000):∀(m j:Nat)(S:lX)(M:List (Value×D)),dW M S->fr.length-j<m->j<=fr.length-> ∃l o,aR (Ez n) m [L,N,cp fr,aa fr.length,aa (j:Int),a,b,c,d,e,f,g,h,.mp M]=some (.inl [L,N,a,b,c,d,e,f,g,h,.mp l])/\dW l o/\∀x,x∈o↔x∈S\/x∈fr.drop j
 |0,_,_,_,_,h,_=>absurd h (xaD _)
 |m+1,j,S,M,q,hm,y=>by
  rw[h7];by_cases k:j<fr.length
  .have p:=xaa k;generalize fr[j]=i at p;have kZ:fr.drop j=i::fr.drop (j+1):=by
    obtain⟨u,w⟩:=lV.1 p;rw[xaW u,w]
   obtain⟨r,s,t⟩:=q.put i;obtain⟨l,o,g1,g2,g3⟩:=TM n fr L N a b c d e f g h ad m (j+1) _ r t oZ k;refine⟨l,o,?_,g2,λx=>?_⟩;.simp only[Ez,go_sem,yT ((j:Int)<(fr.length:Int)),ps p,gu,s,bl j,g1]
   rw[g3,kZ,xao];by_cases ag:i∈S
   .rw[xac ag];constructor
    .rintro(h|h);.exact .inl h
     exact .inr (.inr h)
    rintro(h|rfl|h);.exact .inl h
    .exact .inl ag
    exact .inr h
   rw[xab ag];simp only[xar,xcg,or_assoc]
  have:j=fr.length:=oZ
  subst this;refine⟨M,S,?_,q,λx=>by simp⟩;simp only[Ez,go_sem,yF ((fr.length:Int)<fr.length)]
def ahC(n:Nat)(l:List bd){B:Nat}(ah:fP B l)(I:3*B+200<n){M:List (Value×D)}{S:lX}(H:dW M S)(a b c d e f g h:D):aR (sU n) n [aA l,fF (l.map λd=>cG l d.e),aa l.length,aa 0,a,b,c,d,e,f,g,h,.mp M]=some (if(List.range l.length).all (λi=>!(decide (i∈S)&&gN l i))then .inl [aA l,a,b,c,d,e,f,g,h]else .inr (.aC [T0.d,aa 14])):=by
 have C:=ah.len;have G:=ah.b;have E:(aa ((0:Nat):Int))=aa 0:=rfl;have m:D.agg [aa 0,aa 0,aD ⟨#[]⟩,D.val (.slice none 0 0)]=T0.d:=Dc.symm;have o:=ch (f:=sU n) (List.range l.length) (λj (s:Unit)=>[aA l,fF (l.map λd=>cG l d.e),aa l.length,aa (j:Int),a,b,c,d,e,f,g,h,.mp M]) (λr s=>(if r.all (λi=>!(decide (i∈S)&&gN l i))then .inl [aA l,a,b,c,d,e,f,g,h]else .inr (.aC [T0.d,aa 14]):lZ⊕D)) (λj s=>True) ?_ ?_ n 0 () trivial uZ (xag _)
 .rw[E]at o;simpa using o
 .intro s _;rw[xbf];simp only[sU,go_sem,yF ((l.length:Int)<l.length),xcf]
 intro j b' s A o aj;rw[xbf]at o;have t:b'=j:=by rw[xbN o]at A;exact(xba A).symm
 subst t;have k:=H.look (i:=b') (z:= .bool false);obtain⟨w,c5,dk⟩:=ahz l ah n I b' o;have y:jx (D.mp w)=some w:=rfl;by_cases q:b'∈S
 .by_cases u:gN l b'=true;.right;rw[u]at dk;simp only[sU,go_sem,yT ((b':Int)<(l.length:Int)),k,xan q,c5,y,dk,m,xbb,u,xce]
  have p:gN l b'=false:=by simpa using u
  left;rw[p]at dk;refine⟨(),?_,by simp only[xbb,p,Bool.and_false,xcc,xbm],trivial⟩;simp only[sU,go_sem,yT ((b':Int)<(l.length:Int)),k,xan q,c5,y,dk,uN (bt:=false) (i:=b') oZ]
 left;refine⟨(),?_,by simp only[xbb,xax q,xce,xcc,xbm],trivial⟩;have F:∀(x:oX)(f:D->Option (lZ⊕(lZ⊕D))),af (cE (aF false) true x) (λv=>af (en (aF false) v (aF false)) f)=f (aF false):=λ_ _=>rfl;simp only[sU,go_sem,yT ((b':Int)<(l.length:Int)),k,xax q,F,uN (bt:=false) (i:=b') oZ]
inductive nv(C:Nat):Tm->Prop where
 |mk (o m:Int) (s:ByteArray) (b:Bool) (ks:List Tm) (ah:ks.length<=C) (Hl:∀k∈ks,nv C k):nv C (.mk o m s b ks)
def hK.ok{l:List bd}{B:Nat}(ah:fP B l):∀{h:Nat}{t X:Tm},hK l h t X->t.Ok->t.aS<=B->X.Ok/\nv B X
 |0,_,_,H,_,_=>H.elim
 |h+1,t,X,H,a,I=>by
  rcases H with⟨u,i,d,ag,x,w⟩|⟨C,ks,rfl,z,g⟩;.have f:=ah.e d (xad x);exact w.ok ah f.1 f.2
  have key:∀k∈ks,k.Ok/\nv B k:=by intro k c;obtain⟨j,p⟩:=xaJ.1 c;have y:=(lV.1 p).1;have m:t.az[j]?=some (t.az[j]'oZ):=xaa oZ;have r:=xad m;have J:=Tm.fB r;exact(g j _ k m p).ok ah (a.di r) oZ
  have D:=t.h8;have q:=a.len;obtain⟨E,F,G⟩:(-9223372036854775808<=t.op/\t.op<=9223372036854775807)/\(-9223372036854775808<=t.num/\t.num<=9223372036854775807)/\t.name.size<=140737488355328:=by cases a with|mk o n s b ks u A aj ah c=>exact⟨u,A,aj⟩
  exact⟨.mk _ _ _ _ _ E F G oZ λk c=>(key k c).1,.mk _ _ _ _ _ oZ λk c=>(key k c).2⟩
def nv.di{C:Nat}{t k:Tm}(h:nv C t)(c:k∈t.az):nv C k:=by cases h with|mk o m s b ks ah a=>exact a k c
def nv.len{C:Nat}{t:Tm}(h:nv C t):t.az.length<=C:=by cases h;assumption
theorem Tm.tw(t:Tm):t.aS=2+Tm.cY t.az:=by cases t;rw[Tm.aS];rfl
def ahD(C:Nat)(X:Tm):∀(deep n:Int),X.Ok->nv C X->(dt X deep n).1.Ok/\((dt X deep n).1.aS:Int)<=(2+3*(C:Int))*((dt X deep n).2-n):=by
 refine Tm.ind (P:=λX=>∀(deep n:Int),X.Ok->nv C X->(dt X deep n).1.Ok/\((dt X deep n).1.aS:Int)<=(2+3*(C:Int))*((dt X deep n).2-n)) ?_ X;intro t ih deep n d i;generalize z:(2+3*(C:Int))=K at*;have key:∀(ks:List Tm),(∀k∈ks,∀(deep n:Int),(dt k deep n).1.Ok/\((dt k deep n).1.aS:Int)<=K*((dt k deep n).2-n))->∀(n:Int),(∀k∈(er ks deep n).1,k.Ok)/\(Tm.cY (er ks deep n).1:Int)<=K*((er ks deep n).2-n)+3*(ks.length:Int):=by
  intro ks
  induction ks with
  |nil=>intro _ n;simp[er,Tm.cY]
  |cons a r f=>
   intro h n;have ab:=h a sZ (deep+1) n;rw[er];split
   .have ad:=f (λk c=>h k (by simp[c])) (dt a (deep+1) n).2;refine⟨?_,?_⟩
    .intro k c;rcases xao.1 c with rfl|c
     .exact ab.1
     exact ad.1 k c
    have e:K*((er r deep (dt a (deep+1) n).2).2-n)=K*((dt a (deep+1) n).2-n)+K*((er r deep (dt a (deep+1) n).2).2-(dt a (deep+1) n).2):=by rw[<-Int.mul_add];congr 1;omega
    simp only[Tm.cY,xal];rw[e];omega
   have ad:=f (λk c=>h k (by simp[c])) n;refine⟨?_,?_⟩
   .intro k c;rcases xao.1 c with rfl|c
    .exact Jo
    exact ad.1 k c
   have e:T0.aS=2:=rfl;simp only[Tm.cY,xal,e];omega
 rw[Lj];split
 .rename_i m;have:t.az=[]:=by simpa using m
  have j:t.aS=2:=by rw[Tm.tw,this];rfl
  refine⟨d,?_⟩;simp only[j];have l:K*(n+1-n)=K:=by rw[show n+1-n=(1:Int) by omega];exact Int.mul_one K
  rw[l];omega
 obtain⟨bR,cx⟩:=key t.az (λk c deep n=>ih k c deep n (d.di c) (i.di c)) (n+1);have g:=d.len;have u:=i.len;obtain⟨w,x,y⟩:(-9223372036854775808<=t.op/\t.op<=9223372036854775807)/\(-9223372036854775808<=t.num/\t.num<=9223372036854775807)/\t.name.size<=140737488355328:=by cases d with|mk o n s b ks q p aj ah c=>exact⟨q,p,aj⟩
 refine⟨.mk _ _ _ _ _ w x y (by rw[FM];omega) bR,?_⟩;rw[Tm.tw];have e:K*((er t.az deep (n+1)).2-n)=K+K*((er t.az deep (n+1)).2-(n+1)):=by
  have:(er t.az deep (n+1)).2-n=1+((er t.az deep (n+1)).2-(n+1)):=oZ
  rw[this,Int.mul_add,Int.mul_one]
 show((2+Tm.cY (er t.az deep (n+1)).1:Nat):Int)<=_;rw[e];omega
def TN{l:List bd}{B h:Nat}(ah:fP B l){t X:Tm}(H:hK l h t X)(a:t.Ok)(d:t.aS<=B):(dt X 1 0).1.Ok/\(dt X 1 0).1.aS<=8194+12291*B:=by obtain⟨ab,ad⟩:=H.ok ah a d;obtain⟨ai,e⟩:=ahD B X 1 0 ab ad;refine⟨ai,?_⟩;have b:=TE X 1 0;have c:=b.2 oZ;have f:(2+3*(B:Int))*((dt X 1 0).2-0)<=(2+3*(B:Int))*4097:=Int.mul_le_mul_of_nonneg_left oZ oZ;omega
def ahE{l:List bd}{B:Nat}(ah:fP B l)(n h:Nat)(t X:Tm)(H:hK l h t X)(a:t.Ok)(g:t.aS<=B)(j:h+2*B+200<n):Ac n [t.d,aA l]=some (dt X 1 0).1.d:=by have c:=ah.len;have e:=ah.b;obtain⟨M,m1,m2⟩:=K9 n l oZ oZ;have f:=TH ah m2 n h t X 1 0 H a g oZ oZ oZ oZ oZ;have i:c7 (D.mp M)=true:=rfl;simp only[Ac,Rp,go_sem,Lk,m1,i,f]
def Ll{l:List bd}{B:Nat}(ah:fP B l)(n:Nat)(t:Tm)(f:t.Ok)(K:t.aS<=B)(W:20000*B+20000<n):((ct t 1 0).1≠0->kV n [t.d,aA l]=some (.aC [T0.d,aa (ct t 1 0).1]))/\((ct t 1 0).1=0->nu l t=false->kV n [t.d,aA l]=some (.aC [T0.d,aa 14]))/\(∀h X,(ct t 1 0).1=0->nu l t=true->hK l h t X->h+2*B+200<n->kV n [t.d,aA l]=some (.aC [if(ct (dt X 1 0).1 1 0).1=0 then(dt X 1 0).1.d else T0.d,aa (ct (dt X 1 0).1 1 0).1])):=by
 have J:=ah.len;have Q:=ah.b;have c:D.agg [aa 0,aa 0,aD ⟨#[]⟩,D.val (.slice none 0 0)]=T0.d:=Dc.symm;have s:=FE n t oZ f;obtain⟨M,m1,m2⟩:=K9 n l oZ oZ;have y:=ahn n l ah oZ;have z:=FG n t oZ f oZ;have S:=wX t;have r:=ahB n l m2 (fF (l.map λd=>cG l d.e)) T0.d (eh 3 t []) (aa t.op) (aa t.num) (aD t.name) (bI 4 t.nl (Tm.rows t.az)) (aa 0) (aa 0) (aD ⟨#[]⟩) cc oZ oZ;have P:(eh 3 t []).filterMap (cw l)=cG l t:=rfl;rw[P]at r;have R:=FJ l t;obtain⟨L,N,c5,dk,T⟩:=ahx l ah n oZ (cG l t) kb oZ oZ;obtain⟨V,G,s1,s2,U⟩:=TM n (cG l t) (aA l) (fF (l.map λd=>cG l d.e)) (aa t.op) (aa t.num) (aD t.name) (bI 4 t.nl (Tm.rows t.az)) (aa 0) (aa 0) (aD ⟨#[]⟩) cc oZ n 0 N L dk oZ (xag _);have p:∀x,x∈G↔x∈ie l (cG l t):=by
  intro x;rw[U,T,pS l _ kb,xak];constructor
  .rintro(⟨i,ag,k,A,g⟩|h);.exact⟨i,ag,.step i k x A g⟩
   exact⟨x,h,.refl x⟩
  rintro⟨i,ag,g⟩;cases g with|refl=>exact .inr ag|step _ k _ A g=>exact .inl ⟨i,ag,k,A,g⟩
 have a:=ahC n l ah oZ s2 (aa t.op) (aa t.num) (aD t.name) (bI 4 t.nl (Tm.rows t.az)) (aa 0) (aa 0) (aD ⟨#[]⟩) cc;have q:(List.range l.length).all (λi=>!(decide (i∈G)&&gN l i))=nu l t:=by
  rw[Bool.eq_iff_iff];simp only[nu,xay,xbU,xcr,Bool.and_eq_false_imp,xaF];constructor;.intro h x E;exact h x ((q9 l _ kb).inv.2 x E) ((p x).2 E)
  intro h x E F;exact h x ((p x).1 F)
 rw[q]at a;have O:(aa ((0:Nat):Int))=aa 0:=rfl;rw[O]at s1;have w:∀x,D.aw 1 (aE (cp x))=cp x:=λ_=>rfl;have j:((0:Int) !=0)=false:=rfl;have u:∀x,(aE (cp x)).length=x.length:=λx=>by simp[cp]
 refine⟨λak=>?_,λak g=>?_,λh X ak g H C=>?_⟩
 .have m:((ct t 1 0).1 !=0)=true:=by simpa using ak
  simp only[kV,Ad,go_sem,s,m,c]
 .rw[g]at a;simp only[xaq,xaG]at a;simp only[kV,Ad,go_sem,s,ak,j,m1,y,z,A9,r,w,u,c5,s1,a]
 rw[g]at a;simp only[xaC]at a;have I:=ahE ah n h t X H f K C;obtain⟨f1,f2⟩:=TN ah H f K;have o:=FE n (dt X 1 0).1 oZ f1;by_cases ai:(ct (dt X 1 0).1 1 0).1=0
 .rw[ai]at o;simp only[kV,Ad,go_sem,s,ak,j,m1,y,z,A9,r,w,u,c5,s1,a,I,o,ai]
 have m:((ct (dt X 1 0).1 1 0).1 !=0)=true:=by simpa using ai
 simp only[kV,Ad,go_sem,s,ak,j,m1,y,z,A9,r,w,u,c5,s1,a,I,o,ai,m,c]
def Lm{l:List bd}{B:Nat}(ah:fP B l)(n:Nat)(t:Tm)(p:t.Ok)(K:t.aS<=B)(R:20000*B+20000<n):((ct t 1 0).1≠0->kU n [t.d,aA l]=some (.aC [T0.d,aa (ct t 1 0).1]))/\((ct t 1 0).1=0->nu l t=false->kU n [t.d,aA l]=some (.aC [T0.d,aa 14]))/\(∀h X,(ct t 1 0).1=0->nu l t=true->hK l h t X->h+2*B+200<n->kU n [t.d,aA l]=some (.aC [if(ct X 1 0).1=0 then(eD X).d else T0.d,aa (ct X 1 0).1])):=by
 have J:=ah.len;have M:=ah.b;have e:D.agg [aa 0,aa 0,aD ⟨#[]⟩,D.val (.slice none 0 0)]=T0.d:=Dc.symm;have w:=K4 n t oZ p;have P:=FJ l t;have y:=Lc l ah n t [] cc (.inr ⟨rfl,rfl⟩) p K ⟨by simp,by simp⟩ uZ;have F:fD (to l) n (cG l t) []=ie l (cG l t):=La (λi k O=>ix i k O) n _ (cG l t) [] ⟨by simp,by simp⟩ kb uZ sZ;rw[F]at y;have u:=q9 l (cG l t) kb;have N:=u.inv.len;have L:(aa ((0:Nat):Int))=aa 0:=rfl;have o:((0:Int) !=0)=false:=rfl;generalize E:ie l (cG l t)=C at*;have c:dN (ig [] cc C)=some (aa C.length):=by
  unfold ig;split;.rename_i h;rw[h];rfl
  exact n5 C
 have j:∀(i x:Nat),C[i]?=some x->ba 1 (ig [] cc C) (aa (i:Int))=some [aa (x:Int)]:=by
  intro i x q;unfold ig;split;.rename_i h;have:C=[]:=xaO h;subst this;simp at q
  exact ps q
 have a:=ch (f:=zh n) C (λi (s:Unit)=>[aA l,ig [] cc C,aa (i:Int),aa t.op,aa t.num,aD t.name,bI 4 t.nl (Tm.rows t.az),aa 0,aa 0,aD ⟨#[]⟩,cc]) (λr s=>(if r.all (λx=>!gN l x)then .inl [aA l,aa t.op,aa t.num,aD t.name,bI 4 t.nl (Tm.rows t.az),aa 0,aa 0,aD ⟨#[]⟩,cc]else .inr (.aC [T0.d,aa 14]):lZ⊕D)) (λi s=>True) ?_ ?_ n 0 () trivial oZ (xag _)
 .rw[L,xak]at a;have G:C.all (λx=>!gN l x)=nu l t:=by rw[nu,E]
  rw[G]at a;refine⟨λak=>?_,λak m=>?_,λh X ak m H Q=>?_⟩
  .have A:((ct t 1 0).1 !=0)=true:=by simpa using ak
   simp only[kU,zi,go_sem,w,A,e]
  .rw[m]at a;simp only[xaq,xaG]at a;simp only[kU,zi,go_sem,w,ak,o,y,a]
  rw[m]at a;simp only[xaC]at a;have z:=Li ah h n t X 1 0 H p K oZ oZ oZ oZ oZ;by_cases ai:(ct X 1 0).1=0
  .simp only[ai,xaC]at z;simp only[kU,zi,go_sem,w,ak,o,y,a,z,ai]
  simp only[ai,xaG]at z;simp only[kU,zi,go_sem,w,ak,o,y,a,z,ai]
 .intro s _;simp only[zh,go_sem,c,yF ((C.length:Int)<C.length),xcf]
 intro i x s q ag aj;have I:=xad q;have m:=aho l ah n x (u.inv.2 x I) oZ;cases g:gN l x with
 |true=>right;rw[g]at m;simp only[zh,go_sem,c,yT ((i:Int)<(C.length:Int)),j i x q,gu,m,e,xbb,g,xce]
 |false=>left;rw[g]at m;refine⟨(),?_,by simp only[xbb,g,xcc,xbm],trivial⟩;simp only[zh,go_sem,c,yT ((i:Int)<(C.length:Int)),j i x q,gu,m,bl i]
mutual
def hY:Tm->Tm
 | .mk o m s b ks=> .mk o m s (b&&ks.isEmpty) (re ks)
def re:List Tm->List Tm
 |[]=>[]|k::r=>hY k::re r
end
def TO:∀l:List Tm,re l=l.map hY
 |[]=>rfl|k::r=>by rw[re,TO r];rfl
theorem Ba(t:Tm):hY t= .mk t.op t.num t.name (t.nl&&t.az.isEmpty) (t.az.map hY):=by cases t;rw[hY,TO];rfl
mutual
def TP:∀(X:Tm)(deep n:Int),n<=4096->(ct X deep n).1=0->(dt X deep n).1=hY X
 | .mk o m s b ks,deep,n,a=>by
  intro h;rw[dt,hY];cases ks with
  |nil=>simp[re]
  |cons k r=>
   simp only[List.isEmpty_cons,xaq,xaG,Bool.and_false];rw[ct]at h;by_cases ab:deep>64;.rw[xac ab]at h;cases h
   rw[xab ab]at h;by_cases ad:fT (.mk o m s b (k::r))≠0;.rw[xac ad]at h;exact absurd h ad
   rw[xab ad]at h;by_cases ai:n+1>4096;.rw[xac ai]at h;cases h
   rw[xab ai]at h;rw[TQ (k::r) deep (n+1) oZ oZ h]
def TQ:∀(ks:List Tm)(deep n:Int),deep<=64->n<=4096->(dK ks (deep+1) n).1=0->(er ks deep n).1=re ks
 |[],deep,n,_,_=>by simp[er,re]
 |k::r,deep,n,c,a=>by
  intro h;rw[er,xac ⟨c,a⟩,re];rw[dK]at h;obtain⟨g1,g2⟩:=Lg k (deep+1) n a;by_cases ak:(ct k (deep+1) n).1=0;.simp only[ak,ne_eq,xbP,xaG]at h;obtain⟨e,f,g⟩:=g2 ak;have d:=(wW k (deep+1) n).2 ak;rw[e]at h d;rw[TP k (deep+1) n a ak,TQ r deep _ c d h]
  simp only[ne_eq,ak,xcs,xaC]at h
end
def Ln(t:Tm):(hY t).aS=t.aS:=by
 refine Tm.ind (P:=λt=>(hY t).aS=t.aS) ?_ t;intro t ih;have key:∀l:List Tm,(∀k∈l,(hY k).aS=k.aS)->Tm.cY (l.map hY)=Tm.cY l:=by
  intro l
  induction l with
  |nil=>intro _;rfl
  |cons a r b=>intro h;simp only[xaw,Tm.cY];rw[h a sZ,b λk c=>h k (by simp[c])]
 rw[Tm.tw,Tm.tw t,Ba];show 2+Tm.cY (t.az.map hY)=_;rw[key _ ih]
def TR:∀(ks:List Tm),(∀k∈ks,∀(deep n:Int),(ct k deep n).1=0->(k.aS:Int)+1<=3*((ct k deep n).2-n))->∀(deep n:Int),(dK ks deep n).1=0->(Tm.cY ks:Int)<=3*((dK ks deep n).2-n)
 |[],_,deep,n,_=>by simp[dK,Tm.cY]
 |k::r,b,deep,n,h=>by
  rw[dK]at h⊢;by_cases ak:(ct k deep n).1=0;.simp only[ak,ne_eq,xbP,xaG]at h⊢;have ab:=b k sZ deep n ak;have ad:=TR r (λk a=>b k (by simp[a])) deep _ h;simp only[Tm.cY];omega
  simp only[ne_eq,ak,xcs,xaC]at h
def ahF(t:Tm):∀(deep n:Int),(ct t deep n).1=0->(t.aS:Int)+1<=3*((ct t deep n).2-n):=by
 refine Tm.ind (P:=λt=>∀(deep n:Int),(ct t deep n).1=0->(t.aS:Int)+1<=3*((ct t deep n).2-n)) ?_ t;intro t ih deep n h;rw[pP]at h⊢;by_cases ab:deep>64;.rw[xac ab]at h;cases h
 rw[xab ab]at h⊢;by_cases ad:fT t≠0;.rw[xac ad]at h;exact absurd h ad
 rw[xab ad]at h⊢;by_cases ai:n+1>4096;.rw[xac ai]at h;cases h
 rw[xab ai]at h⊢;have:=TR t.az ih (deep+1) (n+1) h;rw[Tm.tw];omega
def gE(op:Int):Int:=if op=1 then 0 else if op=3\/op=4\/op=5\/op=9\/op=13 then 2 else if op=2\/op=6\/op=7\/op=8\/op=10\/op=11\/op=12 then 1 else-1
def ahG(n:Nat)(op:Int):Et n [aa op]=some (aa (gE op)):=by
 rcases C8 op with rfl|rfl|rfl|rfl|rfl|rfl|rfl|rfl|rfl|rfl|rfl|rfl|rfl|rfl|rfl|rfl|rfl|rfl|h
 case inr.inr.inr.inr.inr.inr.inr.inr.inr.inr.inr.inr.inr.inr.inr.inr.inr.inr=>
  have e:∀k:Int,1<=k->k<=18->(op==k)=false:=λk ab ad=>by simp;omega
  have a:gE op=-1:=by unfold gE;repeat(first|rw[xab oZ]|rw[xac oZ])
  simp[Et,Rk,e,a]
 all_goals rfl
def ahH(n:Nat)(op:Int):zq n [aa op]=some (aa (gE op)):=by
 rcases C8 op with rfl|rfl|rfl|rfl|rfl|rfl|rfl|rfl|rfl|rfl|rfl|rfl|rfl|rfl|rfl|rfl|rfl|rfl|h
 case inr.inr.inr.inr.inr.inr.inr.inr.inr.inr.inr.inr.inr.inr.inr.inr.inr.inr=>
  have e:∀k:Int,1<=k->k<=18->(op==k)=false:=λk ab ad=>by simp;omega
  have a:gE op=-1:=by unfold gE;repeat(first|rw[xab oZ]|rw[xac oZ])
  simp[zq,QU,e,a]
 all_goals rfl
def w3(t:Tm):Int:=if(ct t 1 0).1≠0 then(ct t 1 0).1 else if 0<(eh 4 t []).length then 24 else 0
def rf(t:Tm):Bool:=t.op==0&&(t.num==0&&(decide (t.name=⟨#[]⟩)&&decide (t.az.length=0)))
def jn(f:Fm):Int:=if gE f.op<0 then 11 else if f.op=1/\w3 f.e≠0 then w3 f.e
 else if(f.az.length:Int)≠gE f.op\/(f.op≠1/\rf f.e=false)then 3 else 0
def ahI(n:Nat)(f:Fm)(j:2*f.e.aS+40<n)(a:f.Ok)(i:f.e.aS<100000000):vY n [f.d]=some (aa (if f.op≠1 then 0 else w3 f.e)):=by
 have ab:=FE n f.e oZ a.e;have ad:=FG n f.e oZ a.e i;by_cases b:f.op=1
 case neg=>simp[vY,Es,b]
 unfold w3;by_cases c:(ct f.e 1 0).1=0
 .have g:dN (cB (eh 4 f.e []))=some (aa (eh 4 f.e []).length):=by simp[cB]
  by_cases h:0<(eh 4 f.e []).length<;>simp[vY,Es,b,ab,c,ad,g,h]
 simp[vY,Es,b,ab,c]
def ahJ(n:Nat)(t:Tm):D5 n [t.d]=some (aF (rf t)):=by unfold rf;simp[D5,QV];by_cases ab:t.op=0<;>by_cases ad:t.num=0<;>by_cases ai:t.name=⟨#[]⟩<;>by_cases a:t.az=[]<;>simp[ab,ad,ai,a]
def ahK(n:Nat)(f:Fm)(o:2*f.e.aS+40<n)(c:f.Ok)(m:f.e.aS<100000000):qS n [f.d]=some (aa (jn f)):=by
 have ab:=K4 n f.e oZ c.e;have ad:=K7 n f.e oZ c.e oZ;have a:=ahH n f.op;have k:=ahJ n f.e;have i:dN (hI true (eh 4 f.e []))=some (aa (eh 4 f.e []).length):=kq _ _;unfold jn;by_cases ak:gE f.op<0
 .simp[qS,vD,a,ak]
 by_cases b:f.op=1
 .unfold w3;have bR:gE 1=0:=rfl;rw[b,bR]at a;by_cases h:(ct f.e 1 0).1=0
  .by_cases j:0<(eh 4 f.e []).length;.simp[qS,vD,a,b,ab,h,ad,i,j,bR]
   simp[qS,vD,a,b,ab,h,ad,i,j,bR];by_cases g:f.az=[]<;>simp[g]
  simp[qS,vD,a,b,ab,h,bR]
 simp[qS,vD,a,ak,b,k];by_cases g:(f.az.length:Int)=gE f.op;.cases l:rf f.e<;>simp[g]
 simp[g]
mutual
def fU:Fm->Int->Int->Int×Int
 | .mk o t b ks,deep,k=>if deep>64 then(17,k+1)else if jn (.mk o t b ks)≠0 then(jn (.mk o t b ks),k+1)else if k+1>4096 then(4,k+1)else ij ks (deep+1) (k+1)
def ij:List Fm->Int->Int->Int×Int
 |[],_,k=>(0,k)|t::r,deep,k=>if(fU t deep k).1≠0 then fU t deep k else ij r deep (fU t deep k).2
end
theorem Bb(t:Fm)(deep k:Int):fU t deep k=if deep>64 then(17,k+1)else if jn t≠0 then(jn t,k+1)else if k+1>4096 then(4,k+1)else ij t.az (deep+1) (k+1):=by cases t;rw[fU];rfl
mutual
def iR:Fm->Int->Int->Int×Int
 | .mk o t b ks,deep,k=>if deep>64 then(17,k)else if jn (.mk o t b ks)≠0 then(jn (.mk o t b ks),k)else if k+1>4096 then(4,k+1)else kt ks (deep+1) (k+1)
def kt:List Fm->Int->Int->Int×Int
 |[],_,k=>(0,k)|t::r,deep,k=>if(iR t deep k).1≠0 then iR t deep k else kt r deep (iR t deep k).2
end
theorem TS(t:Fm)(deep k:Int):iR t deep k=if deep>64 then(17,k)else if jn t≠0 then(jn t,k)else if k+1>4096 then(4,k+1)else kt t.az (deep+1) (k+1):=by cases t;rw[iR];rfl
def TT(t:Fm):∀deep k,(iR t deep k).1=(fU t deep k).1/\((iR t deep k).1=0->(iR t deep k).2=(fU t deep k).2):=by
 refine Fm.ind (P:=λt=>∀deep k,(iR t deep k).1=(fU t deep k).1/\((iR t deep k).1=0->(iR t deep k).2=(fU t deep k).2)) ?_ t;intro t ih deep k;rw[TS,Bb];split;.simp
 split;.rename_i h;simp[h]
 split;.simp
 have key:∀(l:List Fm),(∀x∈l,∀deep k,(iR x deep k).1=(fU x deep k).1/\((iR x deep k).1=0->(iR x deep k).2=(fU x deep k).2))->∀deep k,(kt l deep k).1=(ij l deep k).1/\((kt l deep k).1=0->(kt l deep k).2=(ij l deep k).2):=by
  intro l
  induction l with
  |nil=>intro _ deep k;simp[kt,ij]
  |cons a r b=>
   intro h deep k;rw[kt,ij];have ab:=h a sZ deep k;by_cases ad:(fU a deep k).1=0
   .have ai:=ab.1.trans ad;have c:=ab.2 ai;simp only[ad,ai,ne_eq,xbP,xaG,c];exact b (λx d=>h x (by simp[d])) deep _
   have ai:(iR a deep k).1≠0:=by rw[ab.1];exact ad
   simp only[ne_eq,ad,ai,xcs,xaC];exact⟨ab.1,λh=>h.elim⟩
 exact key t.az ih _ _
def TU(t:Fm):∀(deep k:Int),k+1<=(fU t deep k).2/\((fU t deep k).1=0->(fU t deep k).2<=4096):=by
 refine Fm.ind (P:=λt=>∀(deep k:Int),k+1<=(fU t deep k).2/\((fU t deep k).1=0->(fU t deep k).2<=4096)) ?_ t;intro t ih deep k;rw[Bb];split;.simp
 split;.rename_i h;simp[h]
 split;.simp
 have key:∀(l:List Fm)(deep k:Int),(∀x∈l,∀(deep k:Int),k+1<=(fU x deep k).2/\((fU x deep k).1=0->(fU x deep k).2<=4096))->k<=4096->k<=(ij l deep k).2/\((ij l deep k).1=0->(ij l deep k).2<=4096):=by
  intro l
  induction l with
  |nil=>intro deep k _ h;simp[ij,h]
  |cons a r b=>
   intro deep k h d;rw[ij];have ab:=h a sZ deep k;split
   .rename_i ad;exact⟨by omega,λai=>absurd ai ad⟩
   rename_i ad;simp only[ne_eq,Decidable.not_not]at ad;have ai:=b deep (fU a deep k).2 (λx c=>h x (by simp[c])) (ab.2 ad);exact⟨by omega,ai.2⟩
 exact key t.az (deep+1) (k+1) ih oZ
def TV:∀(n:Nat)(t:Fm)(deep k:Int),2*t.aS+40<n->t.Ok->t.aS<100000000->0<=deep->deep<=65->0<=k->k<=4096->pC n [t.d,aa deep,aa k]=some (.aC [aa (iR t deep k).1,aa (iR t deep k).2])
 |0,t,_,_,h,_,_,_,_,_,_=>absurd h (xaD _)
 |n+1,t,deep,k,E,b,C,ab,ad,ai,A=>by
  have z:=t.pr;have x:=ahK n t oZ b oZ;rw[TS];simp[pC,J5,iL k,x];by_cases m:64<deep
  .simp[m]
  simp[m];by_cases q:jn t=0
  case neg=>simp[q]
  simp[q];by_cases l:4096<k+1;.simp[l]
  simp[l];have ah:=ch (f:=D6 (pC n) n) t.az (λi s=>[aa deep,aa s,aa (i:Int),aa t.op,aa t.e.op,aa t.e.num,aD t.e.name,bI 4 t.e.nl (Tm.rows t.e.az),bI 6 t.nl (Fm.rows t.az)]) (λr (s:Int)=>if(kt r (deep+1) s).1=0 then(Sum.inl [aa (kt r (deep+1) s).2]:lZ⊕D)else .inr (.aC [aa (kt r (deep+1) s).1,aa (kt r (deep+1) s).2])) (λi s=>0<=s/\s<=4096) ?_ ?_ n 0 (k+1) ⟨by omega,by omega⟩ (by have:=t.h8;omega) (xag _)
  .have u:(aa ((0:Nat):Int))=aa 0:=rfl;rw[u]at ah;rw[ah];simp only[xak,cL];by_cases ak:(kt t.az (deep+1) (k+1)).1=0;.simp[ak]
   simp[ak]
  .intro s aj;simp[D6,kt]
  intro i a s j ag aj;have p:=xad j;have F:=Fm.fB p;have o:=b.len;have y:=TV n a (deep+1) s oZ (b.di p) oZ oZ oZ aj.1 aj.2;have g:=TU a (deep+1) s;have c:=TT a (deep+1) s;simp[D6,ag,Fm.ep j,iL deep,y,bl i,kt];by_cases ak:(iR a (deep+1) s).1=0
  .left;simp only[ak];have w:=c.2 ak;have B:=c.1▸ak;refine⟨(iR a (deep+1) s).2,by simp,by simp,by omega,by rw[w];exact g.2 (by rw[<-c.1];exact ak)⟩
  right;simp[ak]
def gh(f:Fm):Int:=(fU f 1 0).1
def FO(n:Nat)(f:Fm)(c:2*f.aS+50<n)(a:f.Ok)(b:f.aS<100000000):vE n [f.d]=some (aa (gh f)):=by have:=TV n f 1 0 oZ a b oZ oZ oZ oZ;have e:=(TT f 1 0).1;simp[vE,QW,this,e,gh]
def ahL(n:Nat)(f:Fm)(deep k w:Int)(q:2*f.aS+40<n)(c:f.Ok)(p:f.aS<100000000)(ab:0<=k)(ad:k<=4096):∃e,e=(if deep>64 then 17 else if jn f≠0 then jn f else if k+1>4096 then 4 else w)/\zY n [f.d,aa deep,aa k,aa w]=some [aF (decide (e=0)),aa (k+1),aa e]:=by
 refine⟨_,rfl,?_⟩;have o:=f.pr;have m:=ahI n f oZ c oZ;have l:=ahG n f.op;have g:dN (bI 6 f.nl (Fm.rows f.az))=some (aa f.az.length):=sZ
 have a:(f.e.op==0&&(f.e.num==0&&(decide (f.e.name=⟨#[]⟩)&&decide (f.e.az.length=0))))=rf f.e:=rfl;have b:((f.e.az.length:Int)==0)=decide (f.e.az.length=0):=by by_cases h:f.e.az.length=0<;>simp[h]
 unfold jn;simp only[zY,go_sem,Tm.qG,iL k,m,l,b,Bool.and_assoc,a];have i:(w==0)=decide (w=0):=by by_cases h:w=0<;>simp[h]
 generalize rf f.e=j;by_cases c1:64<deep;.simp[c1]
 by_cases c2:gE f.op<0;.simp[c1,c2]
 by_cases b6:f.op=1
 .have bR:gE 1=0:=rfl;by_cases e2:w3 f.e=0;.by_cases jh:f.az=[]<;>by_cases ji:4096<k+1<;>simp[c1,b6,e2,jh,ji,bR,i]
  simp[c1,b6,e2,bR]
 by_cases jh:(f.az.length:Int)=gE f.op<;>by_cases ji:4096<k+1<;>cases j<;>simp[c1,c2,b6,jh,ji,i]
def TW:∀(n:Nat)(t:Fm)(deep k:Int),2*t.aS+45<n->t.Ok->t.aS<100000000->0<=deep->deep<=65->0<=k->k<=4096->pH n [t.d,aa deep,aa k,aa 0]=some [aF (decide ((fU t deep k).1=0)),aa (fU t deep k).2,aa (fU t deep k).1]
 |0,t,_,_,h,_,_,_,_,_,_=>absurd h (xaD _)
 |n+1,t,deep,k,z,b,q,ab,ad,ai,p=>by
  obtain⟨e,y,w⟩:=ahL n t deep k 0 oZ b q ai p;rw[Bb];simp only[pH,Km,go_sem,w];by_cases c:e=0
  case neg=>simp[c];grind
  have u:¬deep>64/\jn t=0/\¬k+1>4096:=by grind
  simp[c,u];have ah:=ch (f:=Eu (pH n) n) t.az (λi (s:Int)=>[aa deep,bI 6 t.nl (Fm.rows t.az),aa t.az.length,aa (i:Int),aa s,aa 0]) (λr (s:Int)=>if(ij r (deep+1) s).1=0 then(Sum.inl [aa (ij r (deep+1) s).2,aa 0]:lZ⊕lZ)else .inr [aF false,aa (ij r (deep+1) s).2,aa (ij r (deep+1) s).1]) (λi s=>0<=s/\s<=4096) ?_ ?_ n 0 (k+1) ⟨by omega,by omega⟩ (by have:=t.h8;omega) (xag _)
  .have o:(aa ((0:Nat):Int))=aa 0:=rfl;rw[o]at ah;rw[ah];simp only[xak,cL];by_cases ak:(ij t.az (deep+1) (k+1)).1=0;.simp[ak]
   simp[ak]
  .intro s aj;simp[Eu,ij]
  intro i a s j ag aj;have m:=xad j;have A:=Fm.fB m;have l:=b.len;have x:=TW n a (deep+1) s oZ (b.di m) oZ oZ oZ aj.1 aj.2;have g:=TU a (deep+1) s;simp[Eu,ag,Fm.ep j,iL deep,x,bl i,ij];by_cases ak:(fU a (deep+1) s).1=0
  .left;exact⟨(fU a (deep+1) s).2,by simp[ak],by simp[ak],by omega,g.2 ak⟩
  right;simp[ak]
def FP(n:Nat)(f:Fm)(c:2*f.aS+50<n)(a:f.Ok)(b:f.aS<100000000):pI n [f.d]=some (aa (gh f)):=by have:=TW n f 1 0 oZ a b oZ oZ oZ oZ;simp[pI,Rl,this,gh]
def lB(t:Fm):Prop:=∃deep k,(fU t deep k).1=0
def lB.one{t:Fm}(h:lB t):jn t=0:=by
 obtain⟨d,k,h⟩:=h;rw[Bb]at h;split at h;.cases h
 split at h;.rename_i ad;exact absurd h ad
 rename_i ad;simpa using ad
def ahM{l:List Fm}{d k:Int}(h:(ij l d k).1=0):∀x∈l,lB x:=by
 induction l generalizing k with
 |nil=>intro x b;cases b
 |cons a r ih=>
  intro x b;rw[ij]at h;by_cases ad:(fU a d k).1=0
  .simp only[ad,ne_eq,xbP,xaG]at h;rcases xao.1 b with rfl|b
   .exact⟨d,k,ad⟩
   exact ih h x b
  simp only[ne_eq,ad,xcs,xaC]at h
def lB.di{t k:Fm}(h:lB t)(a:k∈t.az):lB k:=by
 obtain⟨d,n,h⟩:=h;rw[Bb]at h;split at h;.cases h
 split at h;.rename_i ad;exact absurd h ad
 split at h;.cases h
 exact ahM h k a
def FQ{op:Int}(h:¬gE op<0):op=1\/op=2\/op=3\/op=4\/op=5\/op=6\/op=7\/op=8\/op=9\/op=10\/op=11\/op=12\/op=13:=by
 unfold gE at h;split at h;.exact .inl ‹_›
 split at h;.rename_i ad;omega
 split at h;.rename_i ad;omega
 omega
def lB.len{t:Fm}(h:lB t):(t.az.length:Int)=gE t.op/\¬gE t.op<0:=by
 have ab:=h.one;unfold jn at ab;split at ab;.cases ab
 rename_i ad;refine⟨?_,ad⟩;split at ab;.rename_i ai;exact absurd ab ai.2
 split at ab;.cases ab
 rename_i a;simp only[not_or,Decidable.not_not,ne_eq]at a;exact a.1
def T.rh(t:Tm):[aa t.op,aa t.num,aD t.name,bI 4 t.nl (Tm.rows t.az)]=t.cells:=(Tm.h9 t).symm
def F.TX(t:Fm):[aa t.op,aa t.e.op,aa t.e.num,aD t.e.name,bI 4 t.e.nl (Tm.rows t.e.az),bI 6 t.nl (Fm.rows t.az)]=t.cells:=(Fm.h9 t).symm
def TD(s:List Fm)(p:Fm):Fm.rows (s++[p])=Fm.rows s++[p.cells]:=by simp[Fm.fR]
theorem T.tx(t:Tm):D.agg t.cells=t.d:=rfl
theorem F.tx(t:Fm):D.agg t.cells=t.d:=rfl
structure Y where
 b:Bool
 lo:Int
 ag:Int
deriving DecidableEq
def Y.cells(y:Y):lZ:=[aF y.b,aa y.lo,aa y.ag]
def Y.d(y:Y):D:= .agg [aF y.b,aa y.lo,aa y.ag]
def dL:Y:=⟨false,0,0⟩
def gF:Y:=⟨true,0,0⟩
def Y.ik(y:Y):Prop:=(y.b=true->y.lo=0/\y.ag=0)/\-1048576<=y.lo/\y.lo<=y.ag/\y.ag<=1048576
@[simp] theorem Y.jG (y:Y):cz 3 y.d=true:=rfl
attribute [go_sem] Y.jG
@[simp] theorem Y.bK (y:Y):ae y.d 0=aF y.b:=rfl
attribute [go_sem] Y.bK
@[simp] theorem Y.c1 (y:Y):ae y.d 1=aa y.lo:=rfl
attribute [go_sem] Y.c1
@[simp] theorem Y.c2 (y:Y):ae y.d 2=aa y.ag:=rfl
attribute [go_sem] Y.c2
@[simp] theorem Y.yq (y:Y):D.agg [aF y.b,aa y.lo,aa y.ag]=y.d:=rfl
@[simp high] theorem Y.aQ (y:Y):Go.Am.aQ true 3 0 y.cells=some y.d:=rfl
@[simp] theorem Y.yr (y:Y):y.cells[0]?=some (aF y.b):=rfl
@[simp] theorem Y.ys (y:Y):y.cells[1]?=some (aa y.lo):=rfl
@[simp] theorem Y.abN (y:Y):y.cells[2]?=some (aa y.ag):=rfl
@[simp] theorem Y.flat (y:Y):y.d.flat=true:=rfl
@[simp] theorem aoF (y:Y) (e:Int):(D.aC [y.d,aa e]).flat=true:=rfl
def e6(lo ag:Int):Y×Int:=if lo< -1048576\/ag>1048576\/lo>ag\/ag-lo>4096 then(dL,2)else(⟨false,lo,ag⟩,0)
def w4{lo ag:Int}(h:(e6 lo ag).2=0):(e6 lo ag).1.ik:=by
 unfold e6 at*;split at h;.cases h
 rename_i a;rw[xab a];exact⟨by simp,by simp;omega,by simp;omega,by simp;omega⟩
theorem TY(lo ag:Int):(D.aC [(e6 lo ag).1.d,aa (e6 lo ag).2])=if lo< -1048576\/ag>1048576\/lo>ag\/ag-lo>4096 then D.aC [.agg [aF false,aa 0,aa 0],aa 2]else D.aC [.agg [aF false,aa lo,aa ag],aa 0]:=by unfold e6;split<;>rfl
def pT(n:Nat)(lo ag:Int):pw n [aa lo,aa ag]=some (.aC [(e6 lo ag).1.d,aa (e6 lo ag).2]):=by rw[TY];have a:-1048576<=lo->ag<=1048576->lo<=ag->IntKind.i64.wrap (ag-lo)=ag-lo:=λ_ _ _=>wrap64 _ oZ oZ;simp[pw,Qm,Ja,-Jj,-I4];grind
def Bc(n:Nat)(lo ag:Int):oh n [aa lo,aa ag]=some (.aC [(e6 lo ag).1.d,aa (e6 lo ag).2]):=by
 have a:IntKind.i64.wrap (-1048576)=-1048576:=dZ
 rw[TY];have b:-1048576<=lo->ag<=1048576->lo<=ag->IntKind.i64.wrap (ag-lo)=ag-lo:=λ_ _ _=>wrap64 _ oZ oZ;simp[oh,QQ,Ja,a,-Jj,-I4];grind
def eT(l:List Y):D:= .aw 3 (l.map Y.cells)
def Bd{l:List Y}{i:Nat}{y:Y}(h:l[i]?=some y):ba 3 (eT l) (aa (i:Int))=some y.cells:=by simp[eT,h]
def ahN(n:Nat)(l:List Y)(k:l.length<n)(ah:l.length<1000000000):Dk n [eT l]=some (.aC [(if l.all Y.b then gF else dL).d,aa (if l.all Y.b then 0 else 13)]):=by
 have ag:=ch (f:=yJ n) l (λi (s:Unit)=>[eT l,aa l.length,aa (i:Int),aF false,aa 0,aa 0]) (λr _=>if r.all Y.b then(Sum.inl [aF false,aa 0,aa 0]:lZ⊕D)else .inr (.aC [dL.d,aa 13])) (λ_ _=>True) (λ_ _=>by simp[yJ]) ?_ n 0 () trivial oZ (xag _)
 .have g:(aa ((0:Nat):Int))=aa 0:=rfl;rw[g]at ag;have c:dN (eT l)=some (aa l.length):=by simp[eT]
  simp only[Dk,Qn,c,cL,ag,xak,bf,km,bo,cf,al];by_cases h:l.all Y.b=true;.simp only[h,xaC,l6];rfl
  simp only[h,xaq,xaG,yk]
 intro i a _ j ag _;have:=Bd j;cases e:a.b
 .right;simp[yJ,ag,this,bl i,e];rfl
 left;exact⟨(),by simp[yJ,ag,this,bl i,e],by simp[e],trivial⟩
def ahO(n:Nat)(l:List Y)(j:l.length<n)(ah:l.length<1000000000):D1 n [eT l]=some (aF (l.all Y.b)):=by
 have c:dN (eT l)=some (aa l.length):=by simp[eT]
 have ag:=ch (f:=zk n) l (λi (s:Unit)=>[eT l,aa (i:Int)]) (λr _=>if r.all Y.b then(Sum.inl []:lZ⊕D)else .inr (aF false)) (λ_ _=>True) (λ_ _=>by simp[zk,c]) ?_ n 0 () trivial oZ (xag _)
 .have e:(aa ((0:Nat):Int))=aa 0:=rfl;rw[e]at ag;simp only[D1,QS,cL,ag,xak,km,cf,al];by_cases h:l.all Y.b=true;.simp only[h,xaC,l6]
  simp only[h,xaq,xaG,yk]
 intro i a _ g ag _;have:=Bd g;cases d:a.b
 .right;simp[zk,c,ag,this,bl i,d]
 left;exact⟨(),by simp[zk,c,ag,this,bl i,d],by simp[d],trivial⟩
def iy(a b:Int):Int:=if b<a then b else a
def ed(a b:Int):Int:=if b>a then b else a
def FR(a b:Int):hU true [aa a,aa b]=some (aa (ed a b)):=Ji a b
def Lo(a b:Int):hU false [aa a,aa b]=some (aa (iy a b)):=PM a b
theorem ahP(a b c d:Int):hU true [aa a,aa b,aa c,aa d]=some (aa (ed (ed (ed a b) c) d)):=rfl
theorem ahQ(a b c d:Int):hU false [aa a,aa b,aa c,aa d]=some (aa (iy (iy (iy a b) c) d)):=rfl
def ri{x y:Int}(a:-1048576<=x/\x<=1048576)(b:-1048576<=y/\y<=1048576):-1099511627776<=x*y/\x*y<=1099511627776:=by
 have ab:x.natAbs<=1048576:=oZ
 have ad:y.natAbs<=1048576:=oZ
 have ai:(x*y).natAbs<=1048576*1048576:=by rw[Int.natAbs_mul];exact Nat.mul_le_mul ab ad
 omega
def w5(a b:Y):Int:=iy (iy (iy (a.lo*b.lo) (a.lo*b.ag)) (a.ag*b.lo)) (a.ag*b.ag)
def w6(a b:Y):Int:=ed (ed (ed (a.lo*b.lo) (a.lo*b.ag)) (a.ag*b.lo)) (a.ag*b.ag)
def k0(op:Int)(a b:Y):Y×Int:=if op=15 then e6 (a.lo-b.ag) (a.ag-b.lo)else if op=14 then e6 (a.lo+b.lo) (a.ag+b.ag)else e6 (w5 a b) (w6 a b)
def ahR(n:Nat)(op:Int)(a b:Y)(f:a.ik)(g:b.ik):u3 n [aa op,a.d,b.d]=some (.aC [(k0 op a b).1.d,aa (k0 op a b).2]):=by
 obtain⟨_,aG,a2,a3⟩:=f;obtain⟨_,j,k,l⟩:=g;have h:IntKind.i64.wrap (-b.ag)=-b.ag:=wrap64 _ oZ oZ;have i:IntKind.i64.wrap (-b.lo)=-b.lo:=wrap64 _ oZ oZ;by_cases ab:op=15
 .subst ab;have c:a.lo+-b.ag=a.lo-b.ag:=oZ
  have e:a.ag+-b.lo=a.ag-b.lo:=oZ
  simp(disch:=omega) [u3,Dl,k0,h,i,dw,pT,c,e]
 by_cases ad:op=14;.subst ad;simp(disch:=omega) [u3,Dl,k0,dw,pT]
 have m1:=ri (x:=a.lo) (y:=b.lo) oZ oZ;have m2:=ri (x:=a.lo) (y:=b.ag) oZ oZ;have m3:=ri (x:=a.ag) (y:=b.lo) oZ oZ;have m4:=ri (x:=a.ag) (y:=b.ag) oZ oZ;simp(disch:=omega) [u3,Dl,k0,ab,ad,qF,pT,ahP,ahQ,w5,w6]
def ahS(n:Nat)(a b:Y)(s:6<=n)(e:a.ik)(f:b.ik):D3 n [a.d,b.d]=some (.aC [aa (w5 a b),aa (w6 a b)]):=by
 obtain⟨_,aG,a2,a3⟩:=e;obtain⟨_,l,m,o⟩:=f;have m1:=ri (x:=a.lo) (y:=b.lo) oZ oZ;have m2:=ri (x:=a.lo) (y:=b.ag) oZ oZ;have m3:=ri (x:=a.ag) (y:=b.lo) oZ oZ;have m4:=ri (x:=a.ag) (y:=b.ag) oZ oZ;obtain⟨k,rfl⟩:∃k,n=k+4:=⟨n-4,by omega⟩;have h:cI 4 (aa 0)=some 0:=rfl;have t:cI 4 (aa 1)=some 1:=rfl;have u:cI 4 (aa 2)=some 2:=rfl;have A:cI 4 (aa 3)=some 3:=rfl;unfold w5 w6;simp(disch:=omega) [D3,QT,qF,h];generalize a.lo*b.lo=w at*;generalize a.lo*b.ag=x at*;generalize a.ag*b.lo=y at*;generalize a.ag*b.ag=z at*;have g:iy w x=iy w x:=rfl;have step:∀(p q:Int)(i j:Int)(r:Int),i+1=j->(cI 4 (aa i)=some i.toNat)->i<4->0<=i->([[aa w],[aa x],[aa y],[aa z]]:mW)[i.toNat]?=some [aa r]->D2 (k+4) [aa p,aa q,aa i,.aw 1 [[aa w],[aa x],[aa y],[aa z]]]=some (.inl [aa (iy p r),aa (ed q r),aa j,.aw 1 [[aa w],[aa x],[aa y],[aa z]]]):=by intro p q i j r ak ab ad ai c;subst ak;simp(disch:=omega) [D2,ab,ad,c,FR,Lo,dw]
 rw[h7,step w w 1 2 x rfl rfl oZ oZ rfl];simp only[cL];rw[h7,step _ _ 2 3 y rfl rfl oZ oZ rfl];simp only[cL];rw[h7,step _ _ 3 4 z rfl rfl oZ oZ rfl];simp only[cL];rw[h7];simp[D2]
def Valid(t:Tm):Prop:=∃deep k:Int,(ct t deep k).1=0
def Valid.FT{t:Tm}(h:Valid t):fT t=0:=by
 obtain⟨deep,k,h⟩:=h;rw[pP]at h;split at h;.cases h
 split at h;.assumption
 rename_i a;simpa using a
def TZ:∀(l:List Tm)(deep k:Int),(dK l deep k).1=0->∀x∈l,Valid x
 |[],_,_,_,x,b=>by cases b
 |a::r,deep,k,h,x,b=>by
  rw[dK]at h;split at h;.rename_i c;exact absurd h c
  rename_i c;rcases xao.1 b with rfl|b
  .exact⟨deep,k,by simpa using c⟩
  exact TZ r deep _ h x b
def Valid.di{t x:Tm}(h:Valid t)(c:x∈t.az):Valid x:=by
 have b:=h.FT;obtain⟨deep,k,h⟩:=h;rw[pP]at h;split at h;.cases h
 split at h;.rename_i a;exact absurd b a
 split at h;.cases h
 exact TZ _ _ _ h x c
def Valid.op{t:Tm}(h:Valid t):1<=t.op/\t.op<=18:=by
 have b:=h.FT;unfold fT at b;split at b;.cases b
 rename_i a;unfold ew at a;refine xbi λc=>?_;simp only[show¬(t.op=1\/t.op=2\/t.op=3\/t.op=4) by omega,show¬t.op=5 by omega,show¬(t.op=6\/t.op=7) by omega,show¬t.op=18 by omega,show(t.op<1\/t.op>18) by omega,xaC,xaG]at a;exact a dZ
def T1{t:Tm}(a:fT t=0):¬(ew t.op).1<0/\¬((t.num<(if t.op=1 then-255 else 0))\/t.num>(if t.op=1 then 255 else if t.op=2 then 1 else 0))/\ ¬(if wV t.op then t.name=⟨#[]⟩\/t.name.size>24 else t.name≠⟨#[]⟩)/\¬((t.az.length:Int)<(ew t.op).1\/(t.az.length:Int)>(ew t.op).2):=by
 unfold fT at a;by_cases ab:(ew t.op).1<0;.rw[xac ab]at a;cases a
 rw[xab ab]at a;by_cases ad:(t.num<(if t.op=1 then-255 else 0))\/t.num>(if t.op=1 then 255 else if t.op=2 then 1 else 0);.rw[xac ad]at a;cases a
 rw[xab ad]at a;by_cases ai:(if wV t.op then t.name=⟨#[]⟩\/t.name.size>24 else t.name≠⟨#[]⟩);.rw[xac ai]at a;cases a
 rw[xab ai]at a;by_cases b:((t.az.length:Int)<(ew t.op).1\/(t.az.length:Int)>(ew t.op).2);.rw[xac b]at a;cases a
 exact⟨ab,ad,ai,b⟩
def Valid.len{t:Tm}(h:Valid t):(ew t.op).1<=t.az.length/\(t.az.length:Int)<=(ew t.op).2:=by have:=(T1 h.FT).2.2.2;omega
def Valid.num{t:Tm}(h:Valid t):-255<=t.num/\t.num<=255/\(t.op≠1->0<=t.num/\t.num<=1)/\(t.op≠1->t.op≠2->t.num=0):=by
 have ad:=(T1 h.FT).2.1;by_cases c1:t.op=1;.simp only[c1,xaC]at ad;exact⟨by omega,by omega,by omega,by omega⟩
 by_cases c2:t.op=2;.simp only[c2,xaC]at ad;exact⟨by omega,by omega,by omega,by omega⟩
 simp only[c1,c2,xaG]at ad;exact⟨by omega,by omega,by omega,by omega⟩
def eU(t:Tm)(l:List Y):Y×Int:=if 5<=t.op/\t.op<=9 then if l.all Y.b then(gF,0)else(dL,13)
 else match l with
  |[a,b,c]=>if(!a.b||(b.b !=c.b))then(dL,13)else if b.b then(gF,0)else e6 (iy b.lo c.lo) (ed b.ag c.ag)
  |[a,b]=>if t.op=10\/t.op=11 then if a.b !=b.b then(dL,13)else(gF,0)
   else if(a.b||b.b)then(dL,13)
   else if t.op=12\/t.op=13 then(gF,0)
   else if t.op=17 then(match t.az[1]? with
    |some k=>if k.op≠1\/k.num<1 then(dL,2)else e6 0 (k.num-1)
    |none=>(dL,0))
   else k0 t.op a b
  |_=>(dL,0)
theorem pU{d:Type}{l:List d}(h:l.length=3):∃a b c,l=[a,b,c]:=by match l,h with|[a,b,c],_=>exact⟨a,b,c,rfl⟩
theorem me{c:Type}{l:List c}(h:l.length=2):∃a b,l=[a,b]:=by match l,h with|[a,b],_=>exact⟨a,b,rfl⟩
theorem tz{op:Int}(h:op=18):ew op=(3,3):=by subst h;rfl
def rj{op:Int}(h:8<=op/\op<=17):ew op=(2,2):=by unfold ew;rw[xab oZ,xab oZ,xab oZ,xab oZ,xab oZ]
def T2{l:List Tm}{b:Bool}{t:Tm}(h:l[1]?=some t):ba 4 (bI 4 b (Tm.rows l)) (aa 1)=some t.cells:=Tm.ep (i:=1) h
def FU{l:List Y}{y:Y}(h:l[0]?=some y):ba 3 (eT l) (aa 0)=some y.cells:=Bd (i:=0) h
def FV{l:List Y}{y:Y}(h:l[1]?=some y):ba 3 (eT l) (aa 1)=some y.cells:=Bd (i:=1) h
def T3{l:List Y}{y:Y}(h:l[2]?=some y):ba 3 (eT l) (aa 2)=some y.cells:=Bd (i:=2) h
set_option maxHeartbeats 1000000 in
def ahT(n:Nat)(t:Tm)(l:List Y)(o:Valid t)(E:l.length=t.az.length)(m:5<=t.op)(u:∀y∈l,y.ik)(Q:100<n):vz n [t.d,eT l]=some (.aC [(eU t l).1.d,aa (eU t l).2]):=by
 have I:=o.op;have f:=o.len;have bK:=Tm.lr t;have b6:=Tm.mR t;have h:=Tm.jG t;have i:D.agg [aF false,aa 0,aa 0]=dL.d:=rfl;have p:D.agg [aF true,aa 0,aa 0]=gF.d:=rfl;have C:=rj (op:=t.op);have k:=tz (op:=t.op);have w:l.length<=64:=by
  have:(ew t.op).2<=64:=by unfold ew;repeat(first|split|decide)
  omega
 have H:=ahO n l oZ oZ;by_cases ab:t.op<=9
 .have e:eU t l=if l.all Y.b then(gF,0)else(dL,13):=by unfold eU;rw[xac ⟨m,ab⟩]
  rw[e];have j:t.op=5\/t.op=6\/t.op=7\/t.op=8\/t.op=9:=oZ
  generalize t.op=op at*;generalize l.all Y.b=q at*;rcases j with rfl|rfl|rfl|rfl|rfl<;>simp[vz,D4,h,bK,H,i,p]<;>cases q<;>simp
 by_cases ad:t.op=18;.rw[k ad]at f;obtain⟨a,b,c,rfl⟩:=pU (l:=l) (by simp at f;omega);have g0:=FU (l:=[a,b,c]) rfl;have g1:=FV (l:=[a,b,c]) rfl;have g2:=T3 (l:=[a,b,c]) rfl;unfold eU;generalize eT [a,b,c]=L at*;rw[xab oZ];simp[vz,D4,h,bK,ad,g0,g1,g2,i,p,Bc,FR,Lo];cases a.b<;>cases b.b<;>cases c.b<;>(try simp)
 have ai:10<=t.op/\t.op<=17:=oZ
 rw[C oZ]at f;obtain⟨a,b,rfl⟩:=me (l:=l) (by simp at f;omega);have g0:=FU (l:=[a,b]) rfl;have g1:=FV (l:=[a,b]) rfl;have r:=u a sZ;have s:=u b sZ;have F:=ahS n a b oZ r s;obtain⟨_,aG,a2,a3⟩:=r;obtain⟨_,M,N,O⟩:=s;unfold eU;generalize eT [a,b]=L at*;rw[xab oZ];obtain⟨uk,bR,g⟩:=me (l:=t.az) (by simp at f;omega);have z:=T2 (l:=t.az) (b:=t.nl) (t:=bR) (by rw[g];rfl);have P:=(o.di (x:=bR) (by rw[g];simp)).num;have s1:IntKind.i64.wrap (bR.num-1)=bR.num-1:=wrap64 _ oZ oZ;have f5:aW false .sub (aa bR.num) (aa 1)=some (aa (bR.num-1)):=j4 oZ oZ;have f1:aW false .add (aa a.lo) (aa b.lo)=some (aa (a.lo+b.lo)):=dw oZ oZ;have f2:aW false .add (aa a.ag) (aa b.ag)=some (aa (a.ag+b.ag)):=dw oZ oZ;have f3:aW false .sub (aa a.lo) (aa b.ag)=some (aa (a.lo-b.ag)):=j4 oZ oZ;have f4:aW false .sub (aa a.ag) (aa b.lo)=some (aa (a.ag-b.lo)):=j4 oZ oZ;have j:t.op=10\/t.op=11\/t.op=12\/t.op=13\/t.op=14\/t.op=15\/t.op=16\/t.op=17:=oZ
 have J:(t.az[1]?)=some bR:=by rw[g];rfl
 generalize t.op=op at*;have G:∀x y:Int,e6 x y=e6 x y:=λ_ _=>rfl;rcases j with rfl|rfl|rfl|rfl|rfl|rfl|rfl|rfl<;>
  cases A:a.b<;>cases B:b.b<;>simp[vz,D4,h,bK,b6,g0,g1,z,J,i,p,Bc,k0,f1,f2,f3,f4,f5,F,A,B]
 all_goals (by_cases K:bR.op=1<;>by_cases z2:bR.num<1<;>simp[K,z2])
set_option maxHeartbeats 2000000 in
def ahU(n:Nat)(z M:D)(t:Tm)(nx:Bool)(l:List Y)(r:Valid t)(I:l.length=t.az.length)(p:5<=t.op)(m:∀y∈l,y.ik)(V:100<n):lv n [z,M,t.d,aF nx,eT l]=some (.aC [(eU t l).1.d,aa (eU t l).2]):=by
 have O:=r.op;have f:=r.len;have bK:=Tm.lr t;have b6:=Tm.mR t;have i:=Tm.jG t;have j:D.agg [aF false,aa 0,aa 0]=dL.d:=rfl;have s:D.agg [aF true,aa 0,aa 0]=gF.d:=rfl;have H:=rj (op:=t.op);have o:=tz (op:=t.op);have w:l.length<=64:=by
  have:(ew t.op).2<=64:=by unfold ew;repeat(first|split|decide)
  omega
 have N:=ahN n l oZ oZ;by_cases ab:t.op<=9
 .have e:eU t l=if l.all Y.b then(gF,0)else(dL,13):=by unfold eU;rw[xac ⟨p,ab⟩]
  rw[e];have k:t.op=5\/t.op=6\/t.op=7\/t.op=8\/t.op=9:=oZ
  generalize t.op=op at*;generalize l.all Y.b=q at*;rcases k with rfl|rfl|rfl|rfl|rfl<;>simp[lv,oa,i,bK,N,j,s]<;>cases q<;>simp
 by_cases ad:t.op=18;.rw[o ad]at f;obtain⟨a,b,c,rfl⟩:=pU (l:=l) (by simp at f;omega);have g0:=FU (l:=[a,b,c]) rfl;have g1:=FV (l:=[a,b,c]) rfl;have g2:=T3 (l:=[a,b,c]) rfl;have h:=(m b sZ).1;unfold eU;generalize eT [a,b,c]=L at*;rw[xab oZ];simp[lv,oa,i,bK,ad,g0,g1,g2,j,s,pT,FR,Lo];obtain⟨A,C,B⟩:=b;cases a.b<;>cases A<;>cases c.b<;>simp at h⊢;obtain⟨rfl,rfl⟩:=h;rfl
 have ai:10<=t.op/\t.op<=17:=oZ
 rw[H oZ]at f;obtain⟨a,b,rfl⟩:=me (l:=l) (by simp at f;omega);have g0:=FU (l:=[a,b]) rfl;have g1:=FV (l:=[a,b]) rfl;have u:=m a sZ;have h:=m b sZ;have J:=λop=>ahR n op a b u h;obtain⟨_,aG,a2,a3⟩:=u;obtain⟨_,R,S,T⟩:=h;unfold eU;generalize eT [a,b]=L at*;rw[xab oZ];obtain⟨uk,bR,g⟩:=me (l:=t.az) (by simp at f;omega);have E:=T2 (l:=t.az) (b:=t.nl) (t:=bR) (by rw[g];rfl);have U:=(r.di (x:=bR) (by rw[g];simp)).num;have s1:IntKind.i64.wrap (bR.num-1)=bR.num-1:=wrap64 _ oZ oZ;have f5:aW false .sub (aa bR.num) (aa 1)=some (aa (bR.num-1)):=j4 oZ oZ;have f1:aW false .add (aa a.lo) (aa b.lo)=some (aa (a.lo+b.lo)):=dw oZ oZ;have f2:aW false .add (aa a.ag) (aa b.ag)=some (aa (a.ag+b.ag)):=dw oZ oZ;have f3:aW false .sub (aa a.lo) (aa b.ag)=some (aa (a.lo-b.ag)):=j4 oZ oZ;have f4:aW false .sub (aa a.ag) (aa b.lo)=some (aa (a.ag-b.lo)):=j4 oZ oZ;have k:t.op=10\/t.op=11\/t.op=12\/t.op=13\/t.op=14\/t.op=15\/t.op=16\/t.op=17:=oZ
 have P:(t.az[1]?)=some bR:=by rw[g];rfl
 generalize t.op=op at*;have K:∀x y:Int,e6 x y=e6 x y:=λ_ _=>rfl;rcases k with rfl|rfl|rfl|rfl|rfl|rfl|rfl|rfl<;>
  cases F:a.b<;>cases G:b.b<;>simp[lv,oa,i,bK,b6,g0,g1,E,P,j,s,pT,J,f5,F,G]
 all_goals (by_cases Q:bR.op=1<;>by_cases z2:bR.num<1<;>simp[Q,z2])
def c3(vs:List V)(x:ByteArray):Option Nat:=vs.findIdx? (λv=>decide (v.name=x))
def rk{vs:List V}{x:ByteArray}{i:Nat}(h:c3 vs x=some i):∃v,vs[i]?=some v/\v.name=x/\i<vs.length:=by obtain⟨ab,ad,_⟩:=xbv.1 h;exact⟨_,xaa ab,by simpa using ad,ab⟩
theorem V.pV(v:V):v.cells[0]?=some (aD v.name)/\v.cells[1]?=some (aF v.bool)/\v.cells[2]?=some (aa v.lo)/\v.cells[3]?=some (aa v.ag):=⟨rfl,rfl,rfl,rfl⟩
def eV{l:List V}{i:Nat}{v:V}(h:l[i]?=some v):ba 4 (aO l) (aa (i:Int))=some v.cells:=by simp[aO,h]
def jP(l:List V):dN (aO l)=some (aa l.length):=by simp[aO]
attribute [go_sem] jP
theorem V.ahV(v:V):aQ true 4 0 v.cells=some v.d/\cz 4 v.d=true/\ae v.d 0=aD v.name:=⟨rfl,rfl,rfl⟩
def oB:List V->Nat->List (Value×D)->List (Value×D)
 |[],_,M=>M|v::r,i,M=>oB r (i+1) (if(eF M v.name).isSome then M else(l0 .string M (aD v.name) (aa i)).getD [])
def Lp:∀(r:List V)(i:Nat)(M:List (Value×D)),iN M->iN (oB r i M)/\∀x,eF (oB r i M) x=match eF M x with|some d=>some d|none=>(c3 r x).map λj=>aa ((i+j:Nat):Int)
 |[],i,M,h=>⟨h,λx=>by simp only[oB,c3,List.findIdx?_nil];cases eF M x<;>rfl⟩
 |v::r,i,M,h=>by
  rw[oB];have e:∀x,c3 (v::r) x=if v.name=x then some 0 else(c3 r x).map (·+1):=by intro x;simp[c3,xca]
  by_cases aj:(eF M v.name).isSome
  .rw[xac aj];obtain⟨ab,ad⟩:=Lp r (i+1) M h;refine⟨ab,λx=>?_⟩;rw[ad x,e x];cases b:eF M x with
   |some d=>rfl
   |none=>
    have a:¬v.name=x:=by rintro rfl;simp[b]at aj
    simp only[a,xaG,Option.map_map]
    congr 1
    funext j
    simp only[Function.comp]
    congr 2
    omega
  rw[xab aj];obtain⟨c,g,k,l,_⟩:=C9 h v.name (aa i);rw[g,xbn];obtain⟨ab,ad⟩:=Lp r (i+1) c k;refine⟨ab,λx=>?_⟩;rw[ad x,l x,e x];by_cases b:x=v.name
  .subst b;have f:eF M v.name=none:=by simpa using aj
   simp[f]
  have a:¬v.name=x:=λh=>b h.symm;simp only[b,a,xaG];cases m:eF M x with
  |some d=>rfl
  |none=>
   simp only[Option.map_map]
   congr 1
   funext j
   simp only[Function.comp]
   congr 2
   omega
def FW(M:List (Value×D))(vs:List V):Prop:=iN M/\∀x,eF M x=(c3 vs x).map λ(j:Nat)=>aa (j:Int)
def T4(n:Nat)(vs:List V)(q:vs.length<n)(ah:vs.length<1000000000000):∃M,yI n [aO vs]=some (.mp M)/\FW M vs:=by
 have ak:iN []:=by intro e o;cases o
 obtain⟨ab,ad⟩:=Lp vs 0 [] ak;refine⟨oB vs 0 [],?_,ab,λx=>by rw[ad x];simp only[eF,xav]⟩;have ag:=ch (f:=yH n) vs (λi (M:List (Value×D))=>[aO vs,aa vs.length,aa (i:Int),.mp M]) (λr M=>(Sum.inl [.mp (oB r (vs.length-r.length) M)]:lZ⊕D)) (λi M=>iN M) (λM _=>by simp[yH,oB]) ?_ n 0 [] ak oZ (xag _)
 .have m:(aa ((0:Nat):Int))=aa 0:=rfl;rw[m]at ag;simp[yI,Ql,jP,ag]
 intro i a M j ag c;left;have e:vs.length-(a::vs.drop (i+1)).length=i:=uZ
 have h:vs.length-(vs.drop (i+1)).length=i+1:=uZ
 have ai:=uO c (z:= .int .i64 0) (x:=a.name);have g:=a.ahV;cases b:eF M a.name with|some d=>rw[b]at ai;refine⟨M,by simp[yH,ag,eV j,g,ai,bl i],?_,c⟩;rw[e,oB,b,h];rfl|none=>rw[b]at ai;obtain⟨l,k,p,s,_⟩:=C9 c a.name (aa i);refine⟨l,by simp[yH,ag,eV j,g,ai,k,bl i],?_,p⟩;rw[e,oB,b,h];simp only[xcx,xaq,xaG,k,xbn]
def Lq(n:Nat)(vs:List V)(x:ByteArray)(l:vs.length<n)(ah:vs.length<1000000000000):vy n [aO vs,aD x]=some (aa (match c3 vs x with|some i=>(i:Int)|none=>-1)):=by
 have ag:=ch (f:=zj n) vs (λi (_:Unit)=>[aO vs,aD x,aa (i:Int)]) (λr _=>match c3 r x with|some j=>(Sum.inr (aa ((vs.length-r.length+j:Nat):Int)):lZ⊕D)|none=> .inl []) (λ_ _=>True) (λ_ _=>by simp[zj,jP,c3]) ?_ n 0 () trivial oZ (xag _);.have k:(aa ((0:Nat):Int))=aa 0:=rfl;rw[k]at ag;simp only[vy,QR,ag,xak,cL,sh,al];cases c3 vs x<;>simp
 intro i a _ g ag _;have e:vs.length-(a::vs.drop (i+1)).length=i:=uZ
 have h:vs.length-(vs.drop (i+1)).length=i+1:=uZ
 have d:c3 (a::vs.drop (i+1)) x=if a.name=x then some 0 else(c3 (vs.drop (i+1)) x).map (·+1):=by simp[c3,xca]
 have c:=a.pV;by_cases b:a.name=x;.right;rw[d,xac b,e];simp[zj,jP,ag,eV g,c,b]
 left;refine⟨(),by simp[zj,jP,ag,eV g,c,b,bl i],?_,trivial⟩;rw[d,xab b,e,h];cases c3 (vs.drop (i+1)) x with|none=>rfl|some j=>simp;omega
def hZ(vs:List V)(nx:Bool)(t:Tm):Y×Int:=if t.op=1 then e6 t.num t.num else if t.op=2 then(gF,0)
 else match c3 vs t.name with
  |none=>(dL,12)
  |some i=>if t.op=4/\nx=false then(dL,24)else match vs[i]? with
   |some v=>if v.bool then(gF,0)else e6 v.lo v.ag
   |none=>(dL,12)
mutual
def cP(vs:List V)(nx:Bool):Tm->Y×Int
 | .mk o n s b ks=>if o<=4 then hZ vs nx (.mk o n s b ks)else if(cX vs nx ks).2≠0 then(dL,(cX vs nx ks).2)else eU (.mk o n s b ks) (cX vs nx ks).1
def cX(vs:List V)(nx:Bool):List Tm->List Y×Int
 |[]=>([],0)|t::r=>if(cP vs nx t).2≠0 then([],(cP vs nx t).2)else if(cX vs nx r).2≠0 then([],(cX vs nx r).2)else((cP vs nx t).1::(cX vs nx r).1,0)
end
theorem ku(vs:List V)(nx:Bool)(t:Tm):cP vs nx t=if t.op<=4 then hZ vs nx t else if(cX vs nx t.az).2≠0 then(dL,(cX vs nx t.az).2)else eU t (cX vs nx t.az).1:=by cases t;rw[cP];rfl
def Lr:gF.ik:=⟨by simp[gF],by simp[gF],by simp[gF],by simp[gF]⟩
def ahW{vs:List V}{nx:Bool}{t:Tm}(h:(hZ vs nx t).2=0):(hZ vs nx t).1.ik:=by
 unfold hZ at*;by_cases ab:t.op=1;.rw[xac ab]at*;exact w4 h
 rw[xab ab]at*;by_cases ad:t.op=2;.rw[xac ad];exact Lr
 rw[xab ad]at*;cases ag:c3 vs t.name with
 |none=>simp[ag]at h
 |some i=>
  simp only[ag]at h⊢;by_cases ai:t.op=4/\nx=false;.simp[ai]at h
  rw[xab ai]at*;cases b:vs[i]? with
  |none=>simp[b]at h
  |some v=>
   simp only[b]at h⊢;by_cases a:v.bool=true;.rw[xac a];exact Lr
   rw[xab a]at*;exact w4 h
def ahX{op:Int}{a b:Y}(h:(k0 op a b).2=0):(k0 op a b).1.ik:=by
 unfold k0 at*;split at h;.rename_i ab;rw[xac ab];exact w4 h
 rename_i ab;split at h;.rename_i ad;rw[xab ab,xac ad];exact w4 h
 rename_i ad;rw[xab ab,xab ad];exact w4 h
def oC{c:Prop}[Decidable c]{x y:Y×Int}(a:x.2=0->x.1.ik\/x.1=dL)(b:y.2=0->y.1.ik\/y.1=dL):(if c then x else y).2=0->(if c then x else y).1.ik\/(if c then x else y).1=dL:=by
 split;.exact a
 exact b
def ahY{t:Tm}{l:List Y}:(eU t l).2=0->(eU t l).1.ik\/(eU t l).1=dL:=by
 have z:∀e:Int,((dL,e):Y×Int).2=0->((dL,e):Y×Int).1.ik\/((dL,e):Y×Int).1=dL:=λ_ _=> .inr rfl;have y:((gF,0):Y×Int).2=0->((gF,0):Y×Int).1.ik\/((gF,0):Y×Int).1=dL:=λ_=> .inl Lr;have sp:∀a b:Int,(e6 a b).2=0->(e6 a b).1.ik\/(e6 a b).1=dL:=λa b h=> .inl (w4 h);unfold eU;refine oC (oC y (z _)) ?_;split
 .exact oC (z _) (oC y (sp _ _))
 .refine oC (oC (z _) y) (oC (z _) (oC y (oC ?_ (λh=> .inl (ahX h)))));split;.exact oC (z _) (sp _ _)
  exact z _
 exact z _
def ahZ:dL.ik:=⟨by simp[dL],by simp[dL],by simp[dL],by simp[dL]⟩
def ah0(vs:List V)(nx:Bool)(t:Tm)(h:(cP vs nx t).2=0):(cP vs nx t).1.ik:=by
 rw[ku]at*;split at h;.rename_i b;rw[xac b];exact ahW h
 rename_i b;rw[xab b];split at h;.rename_i a;exact absurd h a
 rename_i a;rw[xab a];rcases ahY h with ab|ab
 .exact ab
 rw[ab];exact ahZ
def w7(vs:List V)(nx:Bool):∀(l:List Tm),(cX vs nx l).2=0->(cX vs nx l).1.length=l.length/\∀y∈(cX vs nx l).1,y.ik
 |[],_=>⟨rfl,by intro y a;cases a⟩
 |t::r,h=>by
  rw[cX]at*;by_cases ab:(cP vs nx t).2=0
  case neg=>rw[xac ab]at h;exact absurd h ab
  rw[xab (by simpa using ab)]at*;by_cases ad:(cX vs nx r).2=0
  case neg=>rw[xac ad]at h;exact absurd h ad
  rw[xab (by simpa using ad)];obtain⟨g1,g2⟩:=w7 vs nx r ad;refine⟨by simp[g1],λy a=>?_⟩;rcases xao.1 a with rfl|a
  .exact ah0 vs nx t ab
  exact g2 y a
def ah1(n:Nat)(vs:List V)(M:List (Value×D))(t:Tm)(nx:Bool)(L:D)(g:FW M vs)(j:t.op<=4)(ab:1<=t.op):lv n [aO vs,.mp M,t.d,aF nx,L]=some (.aC [(hZ vs nx t).1.d,aa (hZ vs nx t).2]):=by
 have bK:=Tm.lr t;have c1:=Tm.n1 t;have c2:=Tm.n2 t;have b:=Tm.jG t;have c:D.agg [aF false,aa 0,aa 0]=dL.d:=rfl;have e:D.agg [aF true,aa 0,aa 0]=gF.d:=rfl;have ah:=uO g.1 (z:= .int .i64 0) (x:=t.name);rw[g.2]at ah;unfold hZ;have h:t.op=1\/t.op=2\/t.op=3\/t.op=4:=oZ
 have a:jx (.mp M)=some M:=rfl;generalize t.op=op at*;rcases h with rfl|rfl|rfl|rfl
 .simp[lv,oa,b,bK,c1,c,e,pT]
 .simp[lv,oa,b,bK,c1,c,e,pT]
 .cases ag:c3 vs t.name with|none=>rw[ag]at ah;simp[lv,oa,b,bK,c1,c2,c,e,a,ah]|some i=>rw[ag]at ah;obtain⟨v,f,v2,v3⟩:=rk ag;simp[lv,oa,b,bK,c1,c2,c,e,a,ah,f,eV f,v.pV,pT];cases v.bool<;>simp
 cases ag:c3 vs t.name with|none=>rw[ag]at ah;simp[lv,oa,b,bK,c1,c2,c,e,a,ah]|some i=>rw[ag]at ah;obtain⟨v,f,v2,v3⟩:=rk ag;simp[lv,oa,b,bK,c1,c2,c,e,a,ah,f,eV f,v.pV,pT];cases v.bool<;>cases nx<;>simp
def Valid.leaf{t:Tm}(h:Valid t)(a:t.op<=4):t.az=[]:=by
 have ab:=h.op;have ad:=h.len;have:ew t.op=(0,0):=by unfold ew;rw[xac oZ]
 rw[this]at ad;exact xaO (by have:=ad.2;simp only at this;omega)
def Valid.w8{t:Tm}(h:Valid t):t.az.length<=64:=by
 have ad:=h.len;have:(ew t.op).2<=64:=by unfold ew;repeat(first|split|decide)
 omega
def T5{a b:Nat}(h:a+b<=1000):b2 (a+b) 24=true:=eE
def T6(vs:List V)(M:List (Value×D))(nx:Bool)(u:FW M vs):∀(n:Nat)(t:Tm),t.aS+200<n->t.Ok->Valid t->ob n [aO vs,.mp M,t.d,aF nx]=some (.aC [(cP vs nx t).1.d,aa (cP vs nx t).2])
 |0,t,h,_,_=>absurd h (xaD _)
 |n+1,t,C,m,e=>by
  rw[ku];have z:D.agg [aF false,aa 0,aa 0]=dL.d:=rfl;have B:=e.w8;have ah:=ch (f:=u4 (ob n) n) t.az (λi (s:List Y)=>[aO vs,.mp M,aF nx,bI 4 t.nl (Tm.rows t.az),aa t.az.length,aa (i:Int),aa t.op,aa t.num,aD t.name,bI 4 t.nl (Tm.rows t.az),aF false,aa 0,aa 0,eT s]) (λr s=>if(cX vs nx r).2=0 then(Sum.inl [aO vs,.mp M,aF nx,aa t.op,aa t.num,aD t.name,bI 4 t.nl (Tm.rows t.az),aF false,aa 0,aa 0,eT (s++(cX vs nx r).1)]:lZ⊕D)else .inr (.aC [dL.d,aa (cX vs nx r).2])) (λi s=>s.length=i) ?_ ?_ n 0 [] rfl oZ (xag _)
  .have x:(aa ((0:Nat):Int))=aa 0:=rfl;have y:eT []= .aw 3 []:=rfl;rw[x,y]at ah;simp only[ob,Jx,Tm.jG,Tm.lr,Tm.n1,Tm.n2,Tm.mR,l5,PL,Tm.qG,cL,ah,xak,xaM,aM,bf,bo,bT,bU,al];by_cases ak:(cX vs nx t.az).2=0
   .obtain⟨g1,g2⟩:=w7 vs nx t.az ak;have q:∀l:List Y,D.aw 3 (aE (eT l))=eT l:=λ_=>rfl;have j:=λb=>ah1 n vs M t nx (eT (cX vs nx t.az).1) u b e.op.1;have o:=λA=>ahU n (aO vs) (.mp M) t nx _ e g1 A g2 oZ;by_cases b:t.op<=4
    .simp[ak,q,j b,b]
    simp[ak,q,o oZ,b]
   have b:¬t.op<=4:=λb=>ak (by rw[e.leaf b];rfl);simp[ak,b]
  .intro s aj;simp[u4,cX,eT]
  intro i a s g ag aj;have k:=xad g;have E:=Tm.fB k;have w:=T6 vs M nx u n a oZ (m.di k) (e.di k);have p:b2 (s.length+1) 24=true:=T5 oZ;have c:u4 (ob n) n [aO vs,.mp M,aF nx,bI 4 t.nl (Tm.rows t.az),aa t.az.length,aa (i:Int),aa t.op,aa t.num,aD t.name,bI 4 t.nl (Tm.rows t.az),aF false,aa 0,aa 0,eT s]=
    if(cP vs nx a).2=0 then some (.inl [aO vs,.mp M,aF nx,bI 4 t.nl (Tm.rows t.az),aa t.az.length,aa ((i+1:Nat):Int),aa t.op,aa t.num,aD t.name,bI 4 t.nl (Tm.rows t.az),aF false,aa 0,aa 0,eT (s++[(cP vs nx a).1])])
    else some (.inr (.inr (.aC [dL.d,aa (cP vs nx a).2]))):=by
   by_cases ak:(cP vs nx a).2=0;.simp[u4,ag,Tm.ep g,w,ak,bl i,eT,p];simp[Y.cells]
   .simp[u4,ag,Tm.ep g,w,ak,z]
  rw[c];simp only[cX];by_cases ak:(cP vs nx a).2=0
  .left;refine⟨s++[(cP vs nx a).1],by simp[ak],?_,by simp[aj]⟩;by_cases ab:(cX vs nx (t.az.drop (i+1))).2=0;.simp[ak,ab]
   simp[ak,ab]
  right;simp[ak]
def T7(vs:List V)(nx:Bool)(m:vs.length<1000000000000):∀(n:Nat)(t:Tm),t.aS+200+vs.length<n->t.Ok->Valid t->j9 n [aO vs,t.d,aF nx]=some (.aC [(cP vs nx t).1.d,aa (cP vs nx t).2])
 |0,t,h,_,_=>absurd h (xaD _)
 |n+1,t,M,w,p=>by
  rw[ku];have c:D.agg [aF false,aa 0,aa 0]=dL.d:=rfl;have k:D.agg [aF true,aa 0,aa 0]=gF.d:=rfl;have J:=p.w8;have L:=p.op;by_cases z:t.op<=4
  .rw[xac z];have bK:=Tm.lr t;have c1:=Tm.n1 t;have c2:=Tm.n2 t;have b6:=Tm.mR t;have j:=Tm.jG t;unfold hZ;have b:=Lq n vs t.name oZ m;have K:t.op=1\/t.op=2\/t.op=3\/t.op=4:=oZ
   generalize t.op=op at*;rcases K with rfl|rfl|rfl|rfl
   .simp[j9,pB,j,bK,c1,c,k,Bc]
   .simp[j9,pB,j,bK,c1,c,k]
   .cases ag:c3 vs t.name with
    |none=>rw[ag]at b;simp[j9,pB,j,bK,c1,c2,b6,c,k,b]
    |some i=>
     rw[ag]at b;obtain⟨v,o,v2,v3⟩:=rk ag;have e:¬((i:Int)<0):=oZ
     simp[j9,pB,j,bK,c1,c2,b6,c,k,b,e,o,eV o,v.pV,Bc];cases v.bool<;>simp
   cases ag:c3 vs t.name with
   |none=>rw[ag]at b;simp[j9,pB,j,bK,c1,c2,b6,c,k,b]
   |some i=>
    rw[ag]at b;obtain⟨v,o,v2,v3⟩:=rk ag;have e:¬((i:Int)<0):=oZ
    simp[j9,pB,j,bK,c1,c2,b6,c,k,b,e,o,eV o,v.pV,Bc];cases v.bool<;>cases nx<;>simp
  rw[xab z];have ah:=ch (f:=vA (j9 n) n) t.az (λi (s:List Y)=>[aO vs,aF nx,aa (i:Int),aa t.op,aa t.num,aD t.name,bI 4 t.nl (Tm.rows t.az),aF false,aa 0,aa 0,eT s]) (λr s=>if(cX vs nx r).2=0 then(Sum.inl [aa t.op,aa t.num,aD t.name,bI 4 t.nl (Tm.rows t.az),aF false,aa 0,aa 0,eT (s++(cX vs nx r).1)]:lZ⊕D)else .inr (.aC [dL.d,aa (cX vs nx r).2])) (λi s=>s.length=i) ?_ ?_ n 0 [] rfl oZ (xag _)
  .have G:(aa ((0:Nat):Int))=aa 0:=rfl;have H:eT []= .aw 3 []:=rfl;rw[G,H]at ah;have B:(t.op==1)=false:=uZ
   have C:(t.op==2)=false:=uZ
   have E:(t.op==3)=false:=uZ
   have F:(t.op==4)=false:=uZ
   simp only[j9,pB,Tm.jG,Tm.lr,Tm.n1,Tm.n2,Tm.mR,l5,uI,B,C,E,F,iI,xaq,xaG,cL,l6,l7,mO,ah,xak,xaM,cb,aN,av,aM,aT,e5,eO,u8,fN,hn,fG,bo,cf,aL,dd,bT,bU,al,bE];by_cases ak:(cX vs nx t.az).2=0;.obtain⟨g1,g2⟩:=w7 vs nx t.az ak;have I:∀l:List Y,D.aw 3 (aE (eT l))=eT l:=λ_=>rfl;have x:=ahT n t _ p g1 oZ g2 oZ;simp[ak,I,x]
   simp[ak]
  .intro s aj;simp[vA,cX,eT]
  intro i a s q ag aj;have u:=xad q;have N:=Tm.fB u;have A:=T7 vs nx m n a oZ (w.di u) (p.di u);have y:b2 (s.length+1) 24=true:=T5 oZ;have g:vA (j9 n) n [aO vs,aF nx,aa (i:Int),aa t.op,aa t.num,aD t.name,bI 4 t.nl (Tm.rows t.az),aF false,aa 0,aa 0,eT s]=
    if(cP vs nx a).2=0 then some (.inl [aO vs,aF nx,aa ((i+1:Nat):Int),aa t.op,aa t.num,aD t.name,bI 4 t.nl (Tm.rows t.az),aF false,aa 0,aa 0,eT (s++[(cP vs nx a).1])])
    else some (.inr (.inr (.aC [dL.d,aa (cP vs nx a).2]))):=by
   by_cases ak:(cP vs nx a).2=0;.simp[vA,ag,Tm.ep q,A,ak,bl i,eT,y];simp[Y.cells]
   .simp[vA,ag,Tm.ep q,A,ak,c]
  rw[g];simp only[cX];by_cases ak:(cP vs nx a).2=0
  .left;refine⟨s++[(cP vs nx a).1],by simp[ak],?_,by simp[aj]⟩;by_cases ab:(cX vs nx (t.az.drop (i+1))).2=0;.simp[ak,ab]
   simp[ak,ab]
  right;simp[ak]
def et(vs:List V)(nx:Bool)(t:Tm):Y×Int:=if(ct t 1 0).1≠0 then(dL,(ct t 1 0).1)else cP vs nx t
def Ls(n:Nat)(vs:List V)(t:Tm)(nx:Bool)(g:t.aS+200+vs.length<n)(a:t.Ok)(b:vs.length<1000000000000):sV n [aO vs,t.d,aF nx]=some (.aC [(et vs nx t).1.d,aa (et vs nx t).2]):=by
 have c:=FE n t oZ a;obtain⟨M,m1,m2⟩:=T4 n vs oZ b;have e:D.agg [aF false,aa 0,aa 0]=dL.d:=rfl;unfold et;by_cases ak:(ct t 1 0).1=0
 .have f:=T6 vs M nx m2 n t oZ a ⟨1,0,ak⟩;simp[sV,Kn,c,ak,m1,f]
 simp[sV,Kn,c,ak,e]
def Lt(n:Nat)(vs:List V)(t:Tm)(nx:Bool)(g:t.aS+200+vs.length<n)(a:t.Ok)(b:vs.length<1000000000000):sI n [aO vs,t.d,aF nx]=some (.aC [(et vs nx t).1.d,aa (et vs nx t).2]):=by
 have c:=K4 n t oZ a;have e:D.agg [aF false,aa 0,aa 0]=dL.d:=rfl;unfold et;by_cases ak:(ct t 1 0).1=0
 .have f:=T7 vs nx b n t oZ a ⟨1,0,ak⟩;simp[sI,J0,c,ak,f]
 simp[sI,J0,c,ak,e]
end Go.Am
