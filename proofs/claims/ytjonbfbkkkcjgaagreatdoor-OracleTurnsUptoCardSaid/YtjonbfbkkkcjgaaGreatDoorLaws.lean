/- The laws, on data. No condition. -/
import Derived.Test.YtjonbfbkkkcjgaaGreatDoorEngD
import Derived.Test.YtjonbfbkkkcjgaaGreatDoorCode
import Derived.Test.YtjonbfbkkkcjgaaGreatDoorEngS
set_option linter.all false
set_option linter.unnecessarySimpa false
namespace Go.Am
def et(op:Int):Int×Int:=if op=1\/op=2\/op=3\/op=4 then(0,0)else if op=5 then(1,1)else if op=6\/op=7 then(1,64)else if op=18 then(3,3)else if op<1\/op>18 then(-1,-1)else(2,2)
def wP(op:Int):Bool:=op==3||op==4
def fS(t:Tm):Int:=if(et t.op).1<0 then 11
 else if(t.num<(if t.op=1 then-255 else 0))\/t.num>(if t.op=1 then 255 else if t.op=2 then 1 else 0)then 2
 else if(if wP t.op then t.name=⟨#[]⟩\/t.name.size>24 else t.name≠⟨#[]⟩)then 12
 else if(t.aC.length:Int)<(et t.op).1\/(t.aC.length:Int)>(et t.op).2 then 3 else 0
def ahl(n:Nat)(op:Int):Dm n [aa op]=some (.aB [aa (et op).1,aa (et op).2]):=by
 rcases Db op with rfl|rfl|rfl|rfl|rfl|rfl|rfl|rfl|rfl|rfl|rfl|rfl|rfl|rfl|rfl|rfl|rfl|rfl|h
 case inr.inr.inr.inr.inr.inr.inr.inr.inr.inr.inr.inr.inr.inr.inr.inr.inr.inr=>
  have e:∀k:Int,1<=k->k<=18->(op==k)=false:=λk ab ae=>by simp;omega
  have a:et op=(-1,-1):=by unfold et;repeat(first|rw[xab oZ]|rw[xac oZ])
  simp[Dm,Ql,e,a]
 all_goals rfl
def ahm(n:Nat)(op:Int):za n [aa op]=some (.aB [aa (et op).1,aa (et op).2]):=by
 rcases Db op with rfl|rfl|rfl|rfl|rfl|rfl|rfl|rfl|rfl|rfl|rfl|rfl|rfl|rfl|rfl|rfl|rfl|rfl|h
 case inr.inr.inr.inr.inr.inr.inr.inr.inr.inr.inr.inr.inr.inr.inr.inr.inr.inr=>
  have e:∀k:Int,1<=k->k<=18->(op==k)=false:=λk ab ae=>by simp;omega
  have a:et op=(-1,-1):=by unfold et;repeat(first|rw[xab oZ]|rw[xac oZ])
  rcases h with h|h;.simp[za,JV,e,a,h]
  have:¬op<1:=oZ
  simp[za,JV,e,a,h,this]
 all_goals rfl
def ahn(s:ByteArray):decide (s=⟨#[]⟩)=decide ((s.size:Int)<1):=by
 have:s=⟨#[]⟩↔(s.size:Int)<1:=by
  constructor;.rintro rfl;decide
  intro h;have:s.size=0:=oZ
  cases s with|mk a=>congr;exact xbp this
 simp[this]
def aho(n:Nat)(t:Tm):Dn n [t.d]=some (aa (fS t)):=by
 cases t with|mk op num s b ks=>
 have g:=ahl n op;have fI:cz 4 (Tm.d (.mk op num s b ks))=true:=Tm.jJ _;have a:ad (Tm.d (.mk op num s b ks)) 0=aa op:=rfl;have c:ad (Tm.d (.mk op num s b ks)) 1=aa num:=rfl;have e:ad (Tm.d (.mk op num s b ks)) 2=aD s:=rfl;have f:ad (Tm.d (.mk op num s b ks)) 3=bJ 4 b (Tm.rows ks):=rfl;generalize Tm.d (.mk op num s b ks)=x at*;simp only[fS,Tm.op,Tm.num,Tm.name,Tm.aC];simp only[Dn,Qm,fI,a,c,e,f,l4,g,cL,I6,xbF,xct,C0,iM,b7,aN,av,aK,aU,bh,cZ,kr,bo,cf,aM,bT,bU,al,bH];by_cases ak:(et op).1<0
 .simp[ak]
 simp only[ak,decide_false,xaq,xaG,uG,cL,iM];simp[wP];grind
def Tn(n:Nat)(t:Tm)(deep:Int):zb n [t.d,aa deep]=some (aa (if deep>64 then 17 else fS t)):=by
 cases t with|mk op num s b ks=>
 have h:=ahm n op;have fI:cz 4 (Tm.d (.mk op num s b ks))=true:=Tm.jJ _;have c:ad (Tm.d (.mk op num s b ks)) 0=aa op:=rfl;have e:ad (Tm.d (.mk op num s b ks)) 1=aa num:=rfl;have f:ad (Tm.d (.mk op num s b ks)) 2=aD s:=rfl;have g:ad (Tm.d (.mk op num s b ks)) 3=bJ 4 b (Tm.rows ks):=rfl;have i:D.agg [aa op,aa num,aD s,bJ 4 b (Tm.rows ks)]=(Tm.d (.mk op num s b ks)):=rfl;have aj:=ahn s;simp only[fS,Tm.op,Tm.num,Tm.name,Tm.aC];simp only[zb,QN,fI,c,e,f,g,l4,h,cL,I6,xbF,xct,C0,lv,iM,b7,aN,av,aK,aU,bh,cZ,sj,bo,cf,aM,bT,bU,al,bH];by_cases a:deep>64
 .simp[a]
 by_cases ak:(et op).1<0;.simp[ak]
 simp only[ak,a,decide_false,xaq,xaG,uG,cL,iM];simp[wP];simp at aj;grind
mutual
def cq:Tm->Int->Int->Int×Int
 | .mk op n s b ks,deep,k=>if deep>64 then(17,k+1)else if fS (.mk op n s b ks)≠0 then(fS (.mk op n s b ks),k+1)else if k+1>4096 then(4,k+1)else dI ks (deep+1) (k+1)
def dI:List Tm->Int->Int->Int×Int
 |[],_,k=>(0,k)|t::r,deep,k=>if(cq t deep k).1≠0 then cq t deep k else dI r deep (cq t deep k).2
end
theorem pS(t:Tm)(deep k:Int):cq t deep k=if deep>64 then(17,k+1)else if fS t≠0 then(fS t,k+1)else if k+1>4096 then(4,k+1)else dI t.aC (deep+1) (k+1):=by cases t;rw[cq];rfl
def wQ(t:Tm):∀(deep k:Int),k+1<=(cq t deep k).2/\((cq t deep k).1=0->(cq t deep k).2<=4096):=by
 refine Tm.ind (P:=λt=>∀(deep k:Int),k+1<=(cq t deep k).2/\((cq t deep k).1=0->(cq t deep k).2<=4096)) ?_ t;intro t ih deep k;rw[pS];split;.simp
 split;.rename_i h;simp[h]
 split;.simp
 have key:∀(l:List Tm)(deep k:Int),(∀x∈l,∀(deep k:Int),k+1<=(cq x deep k).2/\((cq x deep k).1=0->(cq x deep k).2<=4096))->k<=4096->k<=(dI l deep k).2/\((dI l deep k).1=0->(dI l deep k).2<=4096):=by
  intro l
  induction l with
  |nil=>intro deep k _ h;simp[dI,h]
  |cons a r b=>
   intro deep k h d;rw[dI];have ab:=h a sZ deep k;split
   .rename_i ae;exact⟨by omega,λai=>absurd ai ae⟩
   rename_i ae;simp only[ne_eq,Decidable.not_not]at ae;have ai:=b deep (cq a deep k).2 (λx c=>h x (by simp[c])) (ab.2 ae);exact⟨by omega,ai.2⟩
 have:=key t.aC (deep+1) (k+1) ih oZ;exact this
def To:∀(n:Nat)(t:Tm)(deep k:Int),t.aP<n->t.Ok->0<=deep->deep<=65->0<=k->k<=4096->pD n [t.d,aa deep,aa k]=some (.aB [aa (cq t deep k).1,aa (cq t deep k).2])
 |0,t,_,_,h,_,_,_,_,_=>absurd h (xaF _)
 |n+1,t,deep,k,x,b,ab,ae,ai,w=>by
  have q:=Tn n t deep;rw[pS];simp[pD,JW,iP k,q];by_cases j:64<deep;.simp[j]
  simp[j];by_cases o:fS t=0
  case neg=>simp[o]
  simp[o];by_cases g:4096<k+1;.simp[g]
  simp[g];have ah:=ch (f:=D2 (pD n) n) t.aC (λi s=>[aa deep,aa s,aa (i:Int),aa t.op,aa t.num,aD t.name,bJ 4 t.nl (Tm.rows t.aC)]) (λr (s:Int)=>if(dI r (deep+1) s).1=0 then(Sum.inl [aa (dI r (deep+1) s).2]:lZ⊕D)else .inr (.aB [aa (dI r (deep+1) s).1,aa (dI r (deep+1) s).2])) (λi s=>0<=s/\s<=4096) ?_ ?_ n 0 (k+1) ⟨by omega,by omega⟩ (by have:=t.iz;omega) (xah _)
  .have p:(aa ((0:Nat):Int))=aa 0:=rfl;rw[p]at ah;rw[ah];simp only[xak,cL];by_cases ak:(dI t.aC (deep+1) (k+1)).1=0;.simp[ak]
   simp[ak]
  .intro s aj;simp[D2,dI]
  intro i a s e ag aj;have m:=xad e;have y:=Tm.gg m;have l:=b.len;have u:=To n a (deep+1) s oZ (b.dj m) oZ oZ aj.1 aj.2;have c:=wQ a (deep+1) s;simp[D2,ag,Tm.eO e,iP deep,u,bk i,dI];by_cases ak:(cq a (deep+1) s).1=0
  .left;simp only[ak];exact⟨(cq a (deep+1) s).2,by simp,by simp,by omega,c.2 ak⟩
  right;simp[ak]
def KX(n:Nat)(t:Tm)(b:t.aP<n)(a:t.Ok):vu n [t.d]=some (aa (cq t 1 0).1):=by have:=To n t 1 0 b a oZ oZ oZ oZ;simp[vu,QO,this]
def ahp(n:Nat)(t:Tm)(deep k w:Int)(ab:0<=k)(ae:k<=4096):∃e,e=(if deep>64 then 17 else if fS t≠0 then fS t else if k+1>4096 then 4 else 0)/\yG n [t.d,aa deep,aa k,aa w]=some [aE (decide (e=0)),aa (k+1),aa e]:=by refine⟨_,rfl,?_⟩;have a:=aho n t;simp[yG,iP k,a];by_cases c1:64<deep<;>by_cases c2:fS t=0<;>by_cases b8:4096<k+1<;>simp[c1,c2,b8]
def Tp:∀(n:Nat)(t:Tm)(deep k w:Int),t.aP<n->t.Ok->0<=deep->deep<=65->0<=k->k<=4096->pI n [t.d,aa deep,aa k,aa w]=some [aE (decide ((cq t deep k).1=0)),aa (cq t deep k).2,aa (cq t deep k).1]
 |0,t,_,_,_,h,_,_,_,_,_=>absurd h (xaF _)
 |n+1,t,deep,k,w,z,c,ab,ae,ai,p=>by
  obtain⟨e,y,u⟩:=ahp n t deep k w ai p;rw[pS];simp[pI,Ki,u];by_cases b:e=0
  case neg=>simp[b];grind
  have q:¬deep>64/\fS t=0/\¬k+1>4096:=by grind
  simp[b,q];have ah:=ch (f:=Eu (pI n) n) t.aC (λi (s:Int×Int)=>[aa deep,bJ 4 t.nl (Tm.rows t.aC),aa t.aC.length,aa (i:Int),aa s.1,aa s.2]) (λr (s:Int×Int)=>if(dI r (deep+1) s.1).1=0 then(Sum.inl [aa (dI r (deep+1) s.1).2,aa 0]:lZ⊕lZ)else .inr [aE false,aa (dI r (deep+1) s.1).2,aa (dI r (deep+1) s.1).1]) (λi s=>0<=s.1/\s.1<=4096/\s.2=0) ?_ ?_ n 0 (k+1,0) ⟨by simp;omega,by simp;omega,rfl⟩ (by have:=t.iz;omega) (xah _)
  .have o:(aa ((0:Nat):Int))=aa 0:=rfl;rw[o]at ah;rw[ah];simp only[xak,cL];by_cases ak:(dI t.aC (deep+1) (k+1)).1=0;.simp[ak]
   simp[ak]
  .intro s aj;simp[Eu,dI,aj.2.2]
  intro i a s j ag aj;have m:=xad j;have A:=Tm.gg m;have l:=c.len;have x:=Tp n a (deep+1) s.1 s.2 oZ (c.dj m) oZ oZ aj.1 aj.2.1;have g:=wQ a (deep+1) s.1;simp[Eu,ag,Tm.eO j,iP deep,x,bk i,dI];by_cases ak:(cq a (deep+1) s.1).1=0
  .left;exact⟨(cq a (deep+1) s.1).2,0,by simp[ak],by simp[ak],by omega,g.2 ak,rfl⟩
  right;simp[ak]
def FK(n:Nat)(t:Tm)(b:t.aP<n)(a:t.Ok):q6 n [t.d]=some (aa (cq t 1 0).1):=by have:=Tp n t 1 0 0 b a oZ oZ oZ oZ;simp[q6,Rk,this]
def ahq{a:Type}(A B:List a)(z s:a):(((A++B++[z]).take (A.length+1)++(((A++B++[z]).drop A.length).take (B.length+1)).take (min ((((A++B++[z]).drop A.length).take (B.length+1)).length) B.length)++(A++B++[z]).drop (A.length+1+min ((((A++B++[z]).drop A.length).take (B.length+1)).length) B.length)).set A.length s)=A++s::B:=by
 have c:(A++B++[z]).drop A.length=B++[z]:=by rw[xaL,List.drop_left]
 have d:(B++[z]).take (B.length+1)=B++[z]:=xbC sZ;rw[c,d];have e:min (B++[z]).length B.length=B.length:=sZ
 rw[e];have f:(B++[z]).take B.length=B:=List.take_left;have g:(A++B++[z]).drop (A.length+1+B.length)=[]:=xcw uZ;rw[f,g,xat];obtain⟨w,h⟩:∃w,(A++B++[z]).take (A.length+1)=A++[w]:=by rw[xaL,List.take_append];cases B with|nil=>exact⟨z,by rw[xbC oZ];simp⟩|cons b B=>exact⟨b,by rw[xbC oZ];simp⟩
 rw[h,xaL];simp
def KY{n i:Nat}(h:i<=n):hG n (some (aa (i:Int))) none=some (i,n-i):=by simp[hG,lj,aa,h]
theorem ahr(l:List ByteArray):aF (cB l)=l.map λs=>[aD s]:=rfl
def Tq(n:Nat)(s:ByteArray)(l:List ByteArray)(aj:hk l)(b3:l.length+2<n)(ah:l.length<1000000000):q5 n [aD s,cB l]=some [cB (fy s l)]:=by
 obtain⟨a,b,rfl,ae,ai,U,V,W⟩:=Jm s aj;have es:=ahr (a++b);have key:aS (zY n) n [aD s,aa ((a++b).length:Int),cB (a++b)]=some (.inl [aD s,aa (a.length:Int),cB (a++b)]):=by
  refine iN (λj=>[aD s,aa (((a++b).length-j:Nat):Int),cB (a++b)]) b.length sZ ?_ ?_ (by simp at b3;omega)
  .intro j cx;have q:(a++b).length=a.length+b.length:=sZ
   obtain⟨m,A⟩:∃m:Nat,(a++b).length-j=m+1:=⟨(a++b).length-j-1,by omega⟩;have L:(a++b).length-(j+1)=m:=oZ
   have g:(a++b)[m]?=b[m-a.length]?:=xas oZ;have f:m-a.length<b.length:=oZ
   have J:=xaa f;rw[J]at g;have b5:=ai _ (xaW f);generalize b[m-a.length]=x at*;have o:aV false .sub (aa ((m+1:Nat):Int)) (aa 1)=some (aa (m:Int)):=by rw[j6 oZ oZ];congr 2;omega
   have d:cI (aF (cB (a++b))).length (aa (m:Int))=some m:=by rw[jI,xac (by rw[es];simp at q⊢;omega)]
   have p:(aF (cB (a++b)))[m]?=some [aD x]:=by rw[es,xag,g];rfl
   have k:((m+1:Nat):Int)>0:=oZ
   simp only[A,L];simp only[zY,l6,mV,lv,xao k,cL,pq,xaD,o,d,p,gq,xbF,Dd,b5,pr,iM,b7,aN,cr,av,aU,ax,fz,bx,ct,al,bH];rfl
  have q:(a++b).length-b.length=a.length:=sZ
  simp only[q];by_cases ak:a.length=0
  .have:¬((a.length:Int)>0):=oZ
   simp only[zY,l6,mV,lv,xax this,cL,pq,xaq,xaG,pr,iM,I4,b7,aN,cr,av,aU,ax,fz,bx,ct,al,bH];rfl
  obtain⟨m,A⟩:∃m:Nat,a.length=m+1:=⟨a.length-1,by omega⟩;have f:m<a.length:=oZ
  have g:(a++b)[m]?=a[m]?:=xap f;rw[xaa f]at g;have bX:=ae _ (xaW f);generalize a[m]=x at*;have o:aV false .sub (aa ((m+1:Nat):Int)) (aa 1)=some (aa (m:Int)):=by rw[j6 oZ (by simp at ah;omega)];congr 2;omega
  have d:cI (aF (cB (a++b))).length (aa (m:Int))=some m:=by rw[jI,xac (by rw[es];simp;omega)]
  have p:(aF (cB (a++b)))[m]?=some [aD x]:=by rw[es,xag,g];rfl
  have k:((m+1:Nat):Int)>0:=oZ
  simp only[A];simp only[zY,l6,mV,lv,xao k,cL,pq,xaD,o,d,p,gq,xbF,Dd,bX,pr,iM,xaq,xaG,I4,b7,aN,cr,av,aU,ax,fz,bx,ct,al,bH];rfl
 have y:D.aw 1 (aF (cB (a++b)))=cB (a++b):=rfl;have E:(aF (cB (a++b))).length=(a++b).length:=by rw[es];simp
 by_cases c:s∈a++b
 .obtain⟨t,rfl⟩:=U c;rw[Jl aj c];have I:(t++[s]).length=t.length+1:=sZ
  have o:aV false .sub (aa ((t.length+1:Nat):Int)) (aa 1)=some (aa (t.length:Int)):=by rw[j6 oZ (by simp at ah;omega)];congr 2;omega
  have d:cI ((t++[s]++b).length) (aa (t.length:Int))=some t.length:=by rw[jI,xac sZ]
  have p:(aF (cB (t++[s]++b)))[t.length]?=some [aD s]:=by rw[es];simp
  have k:((t.length+1:Nat):Int)>0:=oZ
  rw[I]at key;simp only[q5,l6,mV,E,y,key,cL,l5,lv,xao k,pq,xaD,o,d,p,gq,xbF,Ja,decide_true,pr,iM,b7,aN,cr,aU,ax,cW,fz,bu,ct,bp,al,bH]
 rw[W c];have M:=V c;have z:af (cE (aE (decide ((a.length:Int)>0))) true (af (aV false .sub (aa (a.length:Int)) (aa 1)) λv26=>af (cI (a++b).length v26) λR=>af ((aF (cB (a++b)))[R]?) λG=>af (aR false 1 0 G) λv28=>af (aV false .eql v28 (aD s)) λu=>some u)) (λu=>af (en (aE (decide ((a.length:Int)>0))) u (aE false)) λv31=>some v31)=some (aE false):=by
  by_cases ak:a.length=0
  .have:¬((a.length:Int)>0):=oZ
   simp only[xax this,pq,xaq,xaG,cL,pr]
  obtain⟨m,A⟩:∃m:Nat,a.length=m+1:=⟨a.length-1,by omega⟩;have f:m<a.length:=oZ
  have g:(a++b)[m]?=a[m]?:=xap f;rw[xaa f]at g;have N:a[m]≠s:=λe=>M (by rw[<-e];exact xaW f);generalize a[m]=x at*;have o:aV false .sub (aa ((m+1:Nat):Int)) (aa 1)=some (aa (m:Int)):=by rw[j6 oZ (by simp at ah;omega)];congr 2;omega
  have d:cI (a++b).length (aa (m:Int))=some m:=by rw[jI,xac uZ]
  have p:(aF (cB (a++b)))[m]?=some [aD x]:=by rw[es,xag,g];rfl
  have k:((m+1:Nat):Int)>0:=oZ
  rw[A];simp only[xao k,pq,xaD,o,cL,d,p,gq,xbF,Ja,xax N,pr]
 obtain⟨u,b0,ck⟩:=cR z;obtain⟨v31,cA,cC⟩:=cR ck;cases cC;have O:b1 ((a++b).length+1) 16=true:=eB;have C:=uL (bt:=false) (i:=a.length) (by simp at ah;omega);have Y:aF (cB (a++b))++[[aD ⟨#[]⟩]]=(a.map λs=>[aD s])++(b.map λs=>[aD s])++[[aD ⟨#[]⟩]]:=by rw[es];simp
 have H:((a.map λs=>[aD s])++(b.map λs=>[aD s])++[[aD ⟨#[]⟩]]:mW).length=a.length+b.length+1:=uZ
 have c1:hG (a.length+b.length+1) (some (aa ((a.length+1:Nat):Int))) none=some (a.length+1,b.length):=by rw[KY oZ];congr 2;omega
 have c2:hG (a.length+b.length+1) (some (aa (a.length:Int))) none=some (a.length,b.length+1):=by rw[KY oZ];congr 2;omega
 have B:=ahq (a.map λs=>[aD s]) (b.map λs=>[aD s]) [aD ⟨#[]⟩] [aD s];simp only[xaU]at B;have T:∀(X:mW) (w:lZ),X[a.length]?=some w->dS w 0 [aD s]=[aD s]->(X.set a.length (dS w 0 [aD s]))=X.set a.length [aD s]:=λX w _ h=>by rw[h]
 generalize S:(((a.map λs=>[aD s])++(b.map λs=>[aD s])++[[aD ⟨#[]⟩]]:mW).take (a.length+1)++((((a.map λs=>[aD s])++(b.map λs=>[aD s])++[[aD ⟨#[]⟩]]:mW).drop a.length).take (b.length+1)).take (min (((((a.map λs=>[aD s])++(b.map λs=>[aD s])++[[aD ⟨#[]⟩]]:mW).drop a.length).take (b.length+1)).length) b.length)++((a.map λs=>[aD s])++(b.map λs=>[aD s])++[[aD ⟨#[]⟩]]:mW).drop (a.length+1+min (((((a.map λs=>[aD s])++(b.map λs=>[aD s])++[[aD ⟨#[]⟩]]:mW).drop a.length).take (b.length+1)).length) b.length))=X at*;have Z:X.length=a.length+b.length+1:=by have:=congrArg List.length B;simp at this;omega
 have d:cI X.length (aa (a.length:Int))=some a.length:=by rw[jI,xac oZ]
 have r:∃x,X[a.length]?=some [x]:=by
  have A:∀w∈X,∃x,w=[x]:=by
   rw[<-S];intro w r;have c:w∈((a.map λs=>[aD s])++(b.map λs=>[aD s])++[[aD ⟨#[]⟩]]:mW):=by
    rcases xar.1 r with r|r
    .rcases xar.1 r with r|r;.exact xbr r
     exact xbq (xbr (xbr r))
    exact xbq r
   rcases xar.1 c with c|c
   .rcases xar.1 c with c|c;.obtain⟨x,_,rfl⟩:=xaK.1 c;exact⟨_,rfl⟩
    obtain⟨x,_,rfl⟩:=xaK.1 c;exact⟨_,rfl⟩
   simp at c;exact⟨_,c⟩
  have f:a.length<X.length:=oZ
  obtain⟨x,Q⟩:=A _ (xaW f);exact⟨x,by rw[xaa f,Q]⟩
 obtain⟨x,Q⟩:=r;have P:dS [x] 0 [aD s]=[aD s]:=rfl;have d1:decide (a.length+(b.length+1)<=a.length+b.length+1)=true:=xao oZ;have d2:decide (a.length+1+b.length<=a.length+b.length+1)=true:=xao oZ;have F:c8 (aD s)=true:=rfl;have K:([[aD ⟨#[]⟩]]:mW).length=1:=rfl;simp only[q5,l6,mV,E,y,key,cL,l5,lv,b7,aN,cr,aU,ax,cW,fz,bu,ct,bp,al,bH];rw[b0];simp only[cL,cA,iM,xaq,xaG,K,O,l4,C,Y,H,c1,c2,d1,d2,S,d,F,Q,P,B];simp[cB]
def hK(nl:Bool)(l:List ByteArray):D:=bJ 1 nl (l.map λs=>[aD s])
def Tr{nl:Bool}{l:List ByteArray}(h:l≠[]):hK nl l=cB l:=by cases l with|nil=>exact absurd rfl h|cons a r=>simp[hK,cB,bJ]
def ky(nl:Bool)(l:List ByteArray):dL (hK nl l)=some (aa l.length):=by simp[hK]
def tu{nl:Bool}{l:List ByteArray}{i:Nat}{s:ByteArray}(h:l[i]?=some s):bc 1 (hK nl l) (aa (i:Int))=some [aD s]:=by unfold hK;rw[Jf];simp[h]
def ahs(s:ByteArray)(l:List ByteArray):fy s l≠[]:=by cases l with|nil=>simp[fy]|cons a r=>rw[fy];split<;>(try split)<;>simp
def aht(n:Nat)(nl:Bool)(l:List ByteArray)(s:ByteArray)(d:l.length<n)(ah:l.length<1000000000):DX n [hK nl l,aD s]=some (aE (l.any λx=>decide (x=s))):=by
 have ag:=ch (f:=y8 n) l (λi (_:Unit)=>[hK nl l,aD s,aa (i:Int)]) (λr _=>if r.any (λx=>decide (x=s))=true then(.inr (aE true):lZ⊕D)else .inl []) (λ_ _=>True) (λ_ _=>by simp[y8,ky]) ?_ n 0 () trivial oZ (xah _)
 .have b:(aa ((0:Nat):Int))=aa 0:=rfl;rw[b]at ag;simp only[xak]at ag;simp only[DX,QK,ag,cL,sj,bo,al];by_cases h:l.any (λx=>decide (x=s))=true;.rw[xac h,h];rfl
  rw[xab h];cases c:l.any (λx=>decide (x=s))with|false=>rfl|true=>exact absurd c h
 intro i x _ a ag _;by_cases h:x=s;.right;simp[y8,ky,ag,tu a,h]
 left;exact⟨(),by simp[y8,ky,ag,tu a,h,bk i],by simp only[xbR,xax h,xbB],trivial⟩
def wf(s:ByteArray):List ByteArray->Bool->List ByteArray->Bool×List ByteArray
 |[],d,o=>(d,o)|x::r,d,o=>if(!d&&blt s x)=true then wf s r true (o++[s,x])else wf s r d (o++[x])
def Ts(s:ByteArray):∀(l o:List ByteArray),wf s l true o=(true,o++l)
 |[],o=>by simp[wf]|x::r,o=>by rw[wf];simp[Ts s r]
def Tt(s:ByteArray):∀(a b o:List ByteArray),(∀x∈a,blt s x=false)->wf s (a++b) false o=wf s b false (o++a)
 |[],b,o,_=>by simp|x::a,b,o,h=>by rw[xbs,wf];have:=h x sZ;simp[this,Tt s a b _ (λy c=>h y (by simp[c]))]
def ahu(s:ByteArray):∀(b o:List ByteArray),(∀x∈b,blt s x=true)->wf s b false o=(match b with|[]=>(false,o)|_=>(true,o++s::b))
 |[],o,_=>rfl|x::r,o,h=>by rw[wf];have:=h x sZ;simp[this,Ts]
@[simp] theorem aoM (p:List ByteArray) (x:ByteArray):D.aw 1 (aF (cB p)++[[aD x]])=cB (p++[x]):=by simp[cB]
@[simp] theorem aoN (p:List ByteArray):(aF (cB p)).length=p.length:=by simp[cB]
@[simp] theorem aoO (p:List ByteArray):D.aw 1 (aF (cB p))=cB p:=rfl
def ahv(n:Nat)(nl:Bool)(l:List ByteArray)(s:ByteArray)(aj:hk l)(H:l.length+2<n)(ah:l.length<1000000000):vr n [hK nl l,aD s]=some (cB (fy s l)):=by
 have g:=aht n nl l s oZ ah;by_cases k:s∈l;.have:l.any (λx=>decide (x=s))=true:=xbz.2 ⟨s,k,by simp⟩;rw[this]at g;rw[Jl aj k];simp only[vr,DY,g,cL,iM,xaD,av,ax,sj,bo,db,bp,al];rw[Tr (List.ne_nil_of_mem k)]
 have t:l.any (λx=>decide (x=s))=false:=by cases h:l.any (λx=>decide (x=s))with|false=>rfl|true=>obtain⟨x,ab,ae⟩:=xbz.1 h;simp at ae;subst ae;exact absurd ab k
 rw[t]at g;obtain⟨a,b,dV,ae,ai,F,G,A⟩:=Jm s aj;have E:wf s l false []=wf s b false a:=by rw[dV,Tt s a b _ ae];simp
 have e:=ch (f:=vq n) l (λi (p:Bool×List ByteArray)=>[hK nl l,aD s,aE p.1,aa (i:Int),cB p.2]) (λr p=>(.inl [aD s,aE (wf s r p.1 p.2).1,cB (wf s r p.1 p.2).2]:lZ⊕D)) (λi p=>p.2.length<=i+(if p.1=true then 1 else 0)) (λp _=>by simp[vq,ky,wf]) ?_ n 0 (false,[]) sZ oZ (xah _)
 .have y:(aa ((0:Nat):Int))=aa 0:=rfl;have z:cB []= .aw 1 []:=rfl;rw[y,z]at e;simp only[xak,E]at e;rw[A k];have B:a.length<=l.length:=by rw[dV];simp
  cases b with|nil=>simp only[wf]at e;have u:b1 (a.length+1) 16=true:=eB;simp[vr,DY,g,e,u]|cons c r=>have j:=ahu s (c::r) a ai;simp only at j;rw[j]at e;simp[vr,DY,g,e]
 intro i x p w ag m;left;have q:=bk i;have C:p.2.length<=i+1:=by split at m<;>omega
 have c3:b1 (p.2.length+1) 16=true:=eB;have df:b1 (p.2.length+1+1) 16=true:=eB;obtain⟨d,o⟩:=p;simp only at m c3 df;cases d with
 |true=>
  refine⟨(true,o++[x]),?_,by rw[wf];simp,?_⟩;.simp[vq,ky,ag,tu w,c3,q]
  simp at m⊢;omega
 |false=>
  cases j:blt s x
  .refine⟨(false,o++[x]),?_,by rw[wf];simp[j],?_⟩;.simp[vq,ky,ag,tu w,c3,q,Dd,j,-Jb]
   simp at m⊢;omega
  refine⟨(true,o++[s]++[x]),?_,by rw[wf];simp[j],?_⟩;.simp[vq,ky,ag,tu w,c3,df,q,Dd,j,-Jb]
  simp at m⊢;omega
mutual
def eh(o:Int):Tm->List ByteArray->List ByteArray
 | .mk op _ s _ ks,l=>jQ o ks (if op=o then fy s l else l)
def jQ(o:Int):List Tm->List ByteArray->List ByteArray
 |[],l=>l|t::r,l=>jQ o r (eh o t l)
end
theorem FL(o:Int)(t:Tm)(l:List ByteArray):eh o t l=jQ o t.aC (if t.op=o then fy t.name l else l):=by cases t;rw[eh];rfl
mutual
def A4(o:Int):∀(t:Tm)(l:List ByteArray),hk l->hk (eh o t l)/\(eh o t l).length<=l.length+t.aP
 | .mk op n s b ks,l,h=>by
  rw[eh];have ab:hk (if op=o then fy s l else l):=by split;exact yt h;exact h
  have ae:(if op=o then fy s l else l).length<=l.length+1:=by split;exact yu l;omega
  have:=Tu o ks _ ab;exact⟨this.1,by simp only[Tm.aP];omega⟩
def Tu(o:Int):∀(ks:List Tm)(l:List ByteArray),hk l->hk (jQ o ks l)/\(jQ o ks l).length<=l.length+Tm.cS ks
 |[],l,h=>⟨h,by simp[jQ,Tm.cS]⟩|t::r,l,h=>by rw[jQ];have ab:=A4 o t l h;have ae:=Tu o r _ ab.1;exact⟨ae.1,by simp only[Tm.cS];omega⟩
end
theorem Tv{l:List Tm}{i:Nat}{a:Tm}(h:l[i]?=some a):Tm.cS (l.drop i)=1+a.aP+Tm.cS (l.drop (i+1)):=by obtain⟨ab,ae⟩:=lV.1 h;rw[xaV ab,ae];rfl
def ahw(nl:Bool)(s:ByteArray)(l:List ByteArray):hK nl (fy s l)=cB (fy s l):=Tr (ahs s l)
def KZ(o:Int):∀(n:Nat)(t:Tm)(nl:Bool)(l:List ByteArray),t.aP+l.length+10<n->t.Ok->hk l->l.length+t.aP<1000000000->oi n [t.d,aa o,hK nl l]=some (hK nl (eh o t l))
 |0,t,_,_,h,_,_,_=>absurd h (xaF _)
 |n+1,t,nl,l,C,e,aj,A=>by
  have m:=e.len;have w:=t.iz;show y9 (oi n) n t.d (aa o) (hK nl l)=_;rw[FL];generalize b:(if t.op=o then fy t.name l else l)=g;have ab:hk g:=by rw[<-b];split;exact yt aj;exact aj
  have ae:g.length<=l.length+1:=by rw[<-b];split;exact yu l;omega
  have u:Tm.cS t.aC+2=t.aP:=by cases t;simp[Tm.aP,Tm.aC];omega
  have ah:=ch (f:=DZ (oi n) n) t.aC (λi (p:List ByteArray)=>[aa o,hK nl p,aa (i:Int),aa t.op,aa t.num,aD t.name,bJ 4 t.nl (Tm.rows t.aC)]) (λr p=>(.inl [hK nl (jQ o r p)]:lZ⊕D)) (λi p=>hk p/\p.length+Tm.cS (t.aC.drop i)<=g.length+Tm.cS t.aC) (λp _=>by simp[DZ,jQ]) ?_ n 0 g ⟨ab,by simp⟩ oZ (xah _)
  .have y:(aa ((0:Nat):Int))=aa 0:=rfl;rw[y]at ah;simp only[xak]at ah;by_cases c:t.op=o;.rw[xac c]at b;have x:=ahv n nl l t.name aj oZ oZ;rw[b,<-b,<-ahw nl,b]at x;simp[y9,c,x];rw[c]at ah;rw[ah];rfl
   rw[xab c]at b;subst b;simp[y9,c,ah]
  intro i a p j ag s;have q:=xad j;have E:=Tm.gg q;have B:=Tv j;have z:=KZ o n a nl p oZ (e.dj q) s.1 oZ;have k:=A4 o a p s.1;left;refine⟨eh o a p,?_,by rw[jQ],k.1,by omega⟩;simp[DZ,ag,Tm.eO j,z,bk i]
def K0(n:Nat)(t:Tm)(f:t.aP+10<n)(a:t.Ok)(c:t.aP<1000000000):vt n [t.d]=some (.aB [hK true (eh 3 t []),hK true (eh 4 t [])]):=by have ai:=KZ 3 n t true [] uZ a trivial uZ;have b:=KZ 4 n t true [] uZ a trivial uZ;have e:hK true []=cg:=rfl;rw[e]at ai b;simp[vt,QL,ai,b]
def ahx(n:Nat)(t:Tm)(fx:D)(p q:List ByteArray)(b:hk p)(c:hk q)(h:p.length+q.length+5<n)(g:p.length+q.length<1000000000):sT n [t.d,fx,cB p,cB q]=some [aE true,cB (if t.op=3 then fy t.name p else p),cB (if t.op=4 then fy t.name q else q)]:=by
 have e:=Tq n t.name p b oZ oZ;have f:=Tq n t.name q c oZ oZ;by_cases ai:t.op=3
 .simp[sT,ai,e]
 by_cases a:t.op=4;.simp[sT,a,f]
 simp[sT,ai,a]
def Tw:∀(n:Nat)(t:Tm)(deep:Int)(p q:List ByteArray),t.aP+p.length+q.length+t.aP+20<n->t.Ok->hk p->hk q->0<=deep->deep+t.aP<1000000000->p.length+q.length+t.aP+t.aP<1000000000->pJ n [t.d,aa deep,cB p,cB q]=some [aE true,cB (eh 3 t p),cB (eh 4 t q)]
 |0,t,_,_,_,h,_,_,_,_,_,_=>absurd h (xaF _)
 |n+1,t,deep,p,q,M,b,l,m,A,B,K=>by
  have o:=b.len;have w:=t.iz;have u:Tm.cS t.aC+2=t.aP:=by cases t;simp[Tm.aP,Tm.aC];omega
  have ab:=ahx n t (aa deep) p q l m oZ oZ;rw[FL,FL];generalize c:(if t.op=3 then fy t.name p else p)=g at*;generalize e:(if t.op=4 then fy t.name q else q)=j at*;have I:hk g:=by rw[<-c];split;exact yt l;exact l
  have N:g.length<=p.length+1:=by rw[<-c];split;exact yu p;omega
  have J:hk j:=by rw[<-e];split;exact yt m;exact m
  have O:j.length<=q.length+1:=by rw[<-e];split;exact yu q;omega
  have ah:=ch (f:=Ev (pJ n) n) t.aC (λi (z:List ByteArray×List ByteArray)=>[aa deep,bJ 4 t.nl (Tm.rows t.aC),aa t.aC.length,aa (i:Int),cB z.1,cB z.2]) (λr z=>(.inl [cB (jQ 3 r z.1),cB (jQ 4 r z.2)]:lZ⊕lZ)) (λi z=>hk z.1/\hk z.2/\z.1.length+Tm.cS (t.aC.drop i)<=g.length+Tm.cS t.aC/\z.2.length+Tm.cS (t.aC.drop i)<=j.length+Tm.cS t.aC) (λz _=>by simp[Ev,jQ]) ?_ n 0 (g,j) ⟨I,J,by simp,by simp⟩ oZ (xah _);.have y:(aa ((0:Nat):Int))=aa 0:=rfl;rw[y]at ah;simp only[xak]at ah;simp[pJ,Kj,ab,ah]
  intro i a z k ag E;obtain⟨x,z2,z3,z4⟩:=E;have s:=xad k;have F:=Tm.gg s;have L:=Tv k;have C:=Tw n a (deep+1) z.1 z.2 oZ (b.dj s) x z2 oZ oZ oZ;have G:=A4 3 a z.1 x;have H:=A4 4 a z.2 z2;left;refine⟨(eh 3 a z.1,eh 4 a z.2),?_,by simp[jQ],G.1,H.1,by simp only;omega,by simp only;omega⟩;simp[Ev,ag,Tm.eO k,C,iP deep,bk i]
def FM(n:Nat)(t:Tm)(c:t.aP+t.aP+30<n)(a:t.Ok)(b:t.aP<100000000):q7 n [t.d]=some (.aB [cB (eh 3 t []),cB (eh 4 t [])]):=by have h:=Tw n t 1 [] [] uZ a trivial trivial oZ oZ uZ;have e:cB []= .aw 1 []:=rfl;have f:∀l,c8 (cB l)=true:=λ_=>rfl;rw[e]at h;simp[q7,Rl,h]
mutual
def FN:Tm->Tm->Bool
 | .mk o n s _ ks,u=>decide (o=u.op)&&decide (n=u.num)&&decide (s=u.name)&&decide (ks.length=u.aC.length)&&tw ks u.aC
def tw:List Tm->List Tm->Bool
 |a::r,b::q=>FN a b&&tw r q|[],_=>true|_::_,[]=>true
end
theorem Tx(t u:Tm):FN t u=(decide (t.op=u.op)&&decide (t.num=u.num)&&decide (t.name=u.name)&&decide (t.aC.length=u.aC.length)&&tw t.aC u.aC):=by cases t;rw[FN];rfl
def oD:List bd->Nat->List (Value×D)->List (Value×D)
 |[],_,M=>M|v::r,i,M=>oD r (i+1) (if(eC M v.name).isSome then M else(lU .string M (aD v.name) (aa i)).getD [])
def K1:∀(r:List bd)(i:Nat)(M:List (Value×D)),iQ M->iQ (oD r i M)/\∀x,eC (oD r i M) x=match eC M x with|some d=>some d|none=>(cw r x).map λj=>aa ((i+j:Nat):Int)
 |[],i,M,h=>⟨h,λx=>by simp only[oD,cw,List.findIdx?_nil];cases eC M x<;>rfl⟩
 |v::r,i,M,h=>by
  rw[oD];have e:∀x,cw (v::r) x=if v.name=x then some 0 else(cw r x).map (·+1):=by intro x;simp[cw,xca]
  by_cases aj:(eC M v.name).isSome
  .rw[xac aj];obtain⟨ab,ae⟩:=K1 r (i+1) M h;refine⟨ab,λx=>?_⟩;rw[ae x,e x];cases b:eC M x with
   |some d=>rfl
   |none=>
    have a:¬v.name=x:=by rintro rfl;simp[b]at aj
    simp only[a,xaG,Option.map_map]
    congr 1
    funext j
    simp only[Function.comp]
    congr 2
    omega
  rw[xab aj];obtain⟨c,g,k,l,_⟩:=Dc h v.name (aa i);rw[g,xbn];obtain⟨ab,ae⟩:=K1 r (i+1) c k;refine⟨ab,λx=>?_⟩;rw[ae x,l x,e x];by_cases b:x=v.name
  .subst b;have f:eC M v.name=none:=by simpa using aj
   simp[f]
  have a:¬v.name=x:=λh=>b h.symm;simp only[b,a,xaG];cases m:eC M x with
  |some d=>rfl
  |none=>
   simp only[Option.map_map]
   congr 1
   funext j
   simp only[Function.comp]
   congr 2
   omega
def FO(M:List (Value×D))(vs:List bd):Prop:=iQ M/\∀x,eC M x=(cw vs x).map λ(j:Nat)=>aa (j:Int)
def K2(n:Nat)(vs:List bd)(p:vs.length<n)(ah:vs.length<1000000000000):∃M,sU n [ay vs]=some (.mp M)/\FO M vs:=by
 have ak:iQ []:=by intro e m;cases m
 obtain⟨ab,ae⟩:=K1 vs 0 [] ak;refine⟨oD vs 0 [],?_,ab,λx=>by rw[ae x];simp only[eC,xav]⟩;have ag:=ch (f:=z1 n) vs (λi (M:List (Value×D))=>[ay vs,aa vs.length,aa (i:Int),.mp M]) (λr M=>(Sum.inl [.mp (oD r (vs.length-r.length) M)]:lZ⊕D)) (λi M=>iQ M) (λM _=>by simp[z1,oD]) ?_ n 0 [] ak oZ (xah _)
 .have l:(aa ((0:Nat):Int))=aa 0:=rfl;rw[l]at ag;simp[sU,Ro,n9,ag]
 intro i a M h ag c;left;have e:vs.length-(a::vs.drop (i+1)).length=i:=uZ
 have g:vs.length-(vs.drop (i+1)).length=i+1:=uZ
 have ai:=uM c (z:= .int .i64 0) (x:=a.name);cases b:eC M a.name with|some d=>rw[b]at ai;refine⟨M,by simp[z1,ag,dU h,ai,bk i],?_,c⟩;rw[e,oD,b,g];rfl|none=>rw[b]at ai;obtain⟨k,j,o,q,_⟩:=Dc c a.name (aa i);refine⟨k,by simp[z1,ag,dU h,ai,j,bk i],?_,o⟩;rw[e,oD,b,g];simp only[xcx,xaq,xaG,j,xbn]
def Ty(n:Nat)(vs:List bd)(x:ByteArray)(k:vs.length<n)(ah:vs.length<1000000000000):vv n [ay vs,aD x]=some (aa (match cw vs x with|some i=>(i:Int)|none=>-1)):=by
 have ag:=ch (f:=zc n) vs (λi (_:Unit)=>[ay vs,aD x,aa (i:Int)]) (λr _=>match cw r x with|some j=>(Sum.inr (aa ((vs.length-r.length+j:Nat):Int)):lZ⊕D)|none=> .inl []) (λ_ _=>True) (λ_ _=>by simp[zc,n9,cw]) ?_ n 0 () trivial oZ (xah _);.have h:(aa ((0:Nat):Int))=aa 0:=rfl;rw[h]at ag;simp only[vv,QP,ag,xak,cL,sj,al];cases cw vs x<;>simp
 intro i a _ d ag _;have e:vs.length-(a::vs.drop (i+1)).length=i:=uZ
 have g:vs.length-(vs.drop (i+1)).length=i+1:=uZ
 have c:cw (a::vs.drop (i+1)) x=if a.name=x then some 0 else(cw (vs.drop (i+1)) x).map (·+1):=by simp[cw,xca]
 have a0:a.cells[0]?=some (aD a.name):=rfl;by_cases b:a.name=x;.right;rw[c,xac b,e];simp[zc,n9,ag,dU d,a0,b]
 left;refine⟨(),by simp[zc,n9,ag,dU d,a0,b,bk i],?_,trivial⟩;rw[c,xab b,e,g];cases cw (vs.drop (i+1)) x with|none=>rfl|some j=>simp;omega
def cG(l:List bd)(t:Tm):lX:=(eh 3 t []).filterMap (cw l)
def kd{l:List bd}{t:Tm}:∀k∈cG l t,k<l.length:=by intro k a;obtain⟨x,_,b⟩:=List.mem_filterMap.1 a;obtain⟨_,_,_,h⟩:=Jp b;exact h
def wR(t:Tm):(eh 3 t []).length<=t.aP:=by have:=(A4 3 t [] trivial).2;simpa using this
def FP(l:List bd)(t:Tm):(cG l t).length<=t.aP:=xbJ (List.length_filterMap_le _ _) (wR t)
structure fL(B:Nat)(l:List bd):Prop where
 len:l.length<=B
 e:∀d∈l,d.e.Ok/\d.e.aP<=B
 b:B<=1000000
def to(l:List bd)(i:Nat):lX:=match l[i]? with|some d=>cG l d.e|none=>[]
def iB{l:List bd}(i:Nat):∀k∈to l i,k<l.length:=by
 unfold to;split;.exact kd
 intro k a;cases a
def wS{l:List bd}{i:Nat}{d:bd}(h:l[i]?=some d):to l i=cG l d.e:=by simp[to,h]
def A5{l:List ByteArray}{i:Nat}{s:ByteArray}(h:l[i]?=some s):bc 1 (cB l) (aa (i:Int))=some [aD s]:=by simp[cB,h]
def A6(l:List ByteArray):dL (cB l)=some (aa l.length):=by simp[cB]
def ahy(n:Nat)(l:List bd)(t:Tm){B:Nat}(ah:l.length<=B)(g:t.Ok)(C:t.aP<=B)(z:B<=1000000)(A:2*B+100<n):ze n [t.d,ay l]=some (cn (cG l t)):=by
 have u:=K0 n t oZ g oZ;have y:=wR t;have ag:=ch (f:=zd n) (eh 3 t []) (λi (s:lX)=>[ay l,hK true (eh 3 t []),aa (i:Int),cn s]) (λr s=>(.inl [cn (s++r.filterMap (cw l))]:lZ⊕D)) (λi s=>s.length<=i) (λs _=>by simp[zd,ky,cn]) ?_ n 0 [] sZ oZ (xah _)
 .have m:(aa ((0:Nat):Int))=aa 0:=rfl;have o:cn []=D.aw 1 []:=rfl;have b:∀x,D.aw 1 (aF (cn x))=cn x:=λ_=>rfl;rw[m,o]at ag;simp only[xak,xaM]at ag;simp only[ze,QQ,go_sem,u,ag,b];rfl
 intro i a s w ag aj;have j:=tu (nl:=true) w;have c:=Ty n l a oZ oZ;have b:∀x,D.aw 1 (aF (cn x))=cn x:=λ_=>rfl;left;cases e:cw l a with
 |none=>rw[e]at c;refine⟨s,?_,by simp[e],by omega⟩;simp only[zd,go_sem,ky,yT ((i:Int)<((eh 3 t []).length:Int)),j,gq,c,yF ((-1:Int)>=0),b,bk i]
 |some k=>
  rw[e]at c;have h:b1 (s.length+1) 8=true:=eB;have p:D.aw 1 (aF (cn s)++[[aa (k:Int)]])=cn (s++[k]):=by simp[cn]
  have q:(aF (cn s)).length=s.length:=by simp[cn]
  refine⟨s++[k],?_,by simp[e],by simp;omega⟩;simp only[zd,go_sem,ky,yT ((i:Int)<((eh 3 t []).length:Int)),j,gq,c,yT ((k:Int)>=0),b,p,q,xal,xaA,xav,h,bk i]
def Tz(n:Nat)(l:lX)(k:Nat)(d:D)(p:d=cn l\/(l=[]/\d=cg))(ah:l.length<1000000000)(q:l.length+5<n):sJ n [d,aa (k:Int)]=some (aE (decide (k∈l))):=by
 rcases p with rfl|⟨rfl,rfl⟩
 case inr=>obtain⟨m,rfl⟩:∃m,n=m+1:=⟨n-1,by omega⟩;simp[sJ,JX,ic,vw]
 have ag:=ch (f:=vw n) l (λi (_:Unit)=>[cn l,aa (k:Int),aa (i:Int)]) (λr _=>if k∈r then(.inr (aE true):lZ⊕D)else .inl []) (λi s=>True) (λs _=>by simp[vw,oa]) ?_ n 0 () trivial oZ (xah _);.have j:(aa ((0:Nat):Int))=aa 0:=rfl;rw[j]at ag;simp only[xak]at ag;by_cases h:k∈l<;>simp only[h,xaD,xaG]at ag<;>simp[sJ,JX,ag,h]
 intro i a s o ag _;have g:=pw o;by_cases b:a=k
 .right;subst b;simp[vw,oa,ag,g]
 left;have c:¬((a:Int)=(k:Int)):=oZ
 have e:¬k=a:=λh=>b h.symm;refine⟨(),by simp[vw,oa,ag,g,c,bk i],by simp[e],trivial⟩
def ahz(n:Nat)(l:List bd){B:Nat}(ah:fL B l)(P:4*B+200<n):z7 n [ay l]=some (fC (l.map λd=>cG l d.e)):=by
 have G:=ah.len;have J:=ah.b;obtain⟨M,m1,m2,m3⟩:=K2 n l oZ oZ;have C:∀x,D.aw 1 (aF (cn x))=cn x:=λ_=>rfl;have h:∀x,D.aw 1 (aF (fC x))=fC x:=λ_=>rfl;have ag:=ch (f:=Ez n) l (λi (s:mZ)=>[.mp M,ay l,aa l.length,aa (i:Int),fC s]) (λr s=>(.inl [fC (s++r.map λd=>cG l d.e)]:lZ⊕D)) (λi s=>s.length=i) (λs _=>by simp[Ez,fC]) ?_ n 0 [] rfl oZ (xah _)
 .have u:(aa ((0:Nat):Int))=aa 0:=rfl;have w:fC []=D.aw 1 []:=rfl;rw[u,w]at ag;simp only[xak,xaM]at ag;simp only[z7,Rp,go_sem,m1,ag,h]
 intro i a c F ag o;have N:=xad F;have E:=ah.e a N;have K:=FM n a.e oZ E.1 oZ;have O:=wR a.e;have q:=ch (f:=z6 n) (eh 3 a.e []) (λj (s:lX)=>[.mp M,ay l,aa l.length,aa (i:Int),cB (eh 3 a.e []),aa (eh 3 a.e []).length,aa (j:Int),fC c,cn s]) (λr s=>(.inl [.mp M,ay l,aa l.length,aa (i:Int),fC c,cn (s++r.filterMap (cw l))]:lZ⊕(lZ⊕(lZ⊕(lZ⊕D))))) (λj s=>s.length<=j) (λs _=>by simp[z6,cn,fC]) ?_ n 0 [] sZ oZ (xah _)
 .have u:(aa ((0:Nat):Int))=aa 0:=rfl;have w:cn []=D.aw 1 []:=rfl;rw[u,w]at q;simp only[xak,xaM]at q;have m:b1 (c.length+1) 24=true:=eB;have y:D.aw 1 (aF (fC c)++[[cn (cG l a.e)]])=fC (c++[cG l a.e]):=by simp[fC]
  have A:(aF (fC c)).length=c.length:=by simp[fC]
  have I:(eh 3 a.e []).filterMap (cw l)=cG l a.e:=rfl;have Q:∀x,c8 (cn x)=true:=λ_=>rfl;rw[I]at q;left;refine⟨c++[cG l a.e],?_,by simp,by simp[o]⟩;simp only[Ez,go_sem,yT ((i:Int)<(l.length:Int)),dU F,bd.acw,bd.agg,bd.c1,bd.c2,bd.b8,bd.eZ,Tm.yq,K,A6,h,q,C,y,A,xal,xaA,xav,m,bk i]
 intro j b s L q aj;have H:=A5 L;have g:=uM m2 (z:= .int .i64 0) (x:=b);have p:=m3 b;left;cases t:cw l b with
 |none=>rw[p,t]at g;simp only[xbE]at g;refine⟨s,?_,by simp[t],by omega⟩;simp only[z6,go_sem,yT ((j:Int)<((eh 3 a.e []).length:Int)),H,gq,jA,g,C,h,bk j]
 |some k=>
  rw[p,t]at g;simp only[xaI]at g;have m:b1 (s.length+1) 8=true:=eB;have y:D.aw 1 (aF (cn s)++[[aa (k:Int)]])=cn (s++[k]):=by simp[cn]
  have A:(aF (cn s)).length=s.length:=by simp[cn]
  refine⟨s++[k],?_,by simp[t],by simp;omega⟩;simp only[z6,go_sem,yT ((j:Int)<((eh 3 a.e []).length:Int)),H,gq,jA,g,C,h,y,A,xal,xaA,xav,m,bk j]
def fA(to:Nat->lX):Nat->lX->lX->lX
 |0,_,S=>S|n+1,ks,S=>ks.foldl (λS k=>if k∈S then S else fA to n (to k) (S++[k])) S
inductive hL(to:Nat->lX):Nat->Nat->Prop where
 |refl (i:Nat):hL to i i
 |step (i j k:Nat) (h:j∈to i) (BJ:hL to j k):hL to i k
def hL.trans{to:Nat->lX}{i j k:Nat}(h:hL to i j)(d:hL to j k):hL to i k:=by induction h with|refl=>exact d|step a b c dV _ ih=>exact .step a b _ dV (ih d)
def gw(N:Nat)(S:lX):Prop:=S.Nodup/\∀x∈S,x<N
def pT:∀(N:Nat)(S:lX),S.Nodup->(∀x∈S,x<N)->S.length<=N
 |0,S,_,h=>by cases S with|nil=>simp|cons a r=>exact absurd (h a sZ) (xaF _)
 |N+1,S,b,h=>by
  have ab:=pT N (S.erase N) (b.erase N) (λx c=>by
   have ae:=h x (List.mem_of_mem_erase c);have ai:x≠N:=by rintro rfl;exact b.not_mem_erase c
   omega)
  have d:=List.length_erase (a:=N) (l:=S);split at d<;>omega
def gw.len{N:Nat}{S:lX}(h:gw N S):S.length<=N:=pT N S h.1 h.2
def gw.lt{N k:Nat}{S:lX}(h:gw N S)(g:k<N)(f:k∉S):S.length<N:=by have ae:gw N (S++[k]):=⟨by rw[xbH];exact⟨h.1,by simp,by intro a e b d;simp at d;subst d;rintro rfl;exact f e⟩,by intro x c;rcases xar.1 c with c|c;exact h.2 x c;simp at c;omega⟩;have:=ae.len;simp at this;omega
def gw.snoc{N k:Nat}{S:lX}(h:gw N S)(g:k<N)(f:k∉S):gw N (S++[k]):=⟨by rw[xbH];exact⟨h.1,by simp,by intro a e b d;simp at d;subst d;rintro rfl;exact f e⟩,by intro x c;rcases xar.1 c with c|c;exact h.2 x c;simp at c;omega⟩
structure TA(to:Nat->lX)(N:Nat)(ks S R:lX):Prop where
 inv:gw N R
 pre:∃T,R=S++T
 mem:∀k∈ks,k∈R
 pU:∀x∈R,x∉S->∀y∈to x,y∈R
 nz:∀x∈R,x∈S\/∃k∈ks,hL to k x
def wT{to:Nat->lX}{N:Nat}(l:∀i,∀k∈to i,k<N):∀(n:Nat)(ks S:lX),gw N S->(∀k∈ks,k<N)->N-S.length<n->TA to N ks S (fA to n ks S)
 |0,_,_,_,_,h=>absurd h (xaF _)
 |n+1,ks,S,p,c,q=>by
  rw[fA]
  induction ks generalizing S with
  |nil=>exact⟨p,⟨[],by simp⟩,by simp,λx a q=>absurd a q,λx a=> .inl a⟩
  |cons k r ih=>
   rw[xcm];by_cases e:k∈S
   .rw[xac e];have h:=ih S p (λx a=>c x (by simp[a])) q;obtain⟨T,d⟩:=h.pre;refine⟨h.inv,h.pre,?_,h.pU,λx a=>?_⟩
    .intro x a;rcases xam.1 a with rfl|a
     .rw[d];simp[e]
     exact h.mem x a
    rcases h.nz x a with ab|⟨j,ab,ae⟩;.exact .inl ab
    exact .inr ⟨j,by simp[ab],ae⟩
   rw[xab e];have f:=c k sZ;have z:=p.lt f e;have ak:=wT l n (to k) (S++[k]) (p.snoc f e) (l k) uZ;obtain⟨T0,b⟩:=ak.pre;have h:=ih (fA to n (to k) (S++[k])) ak.inv (λx a=>c x (by simp[a])) (by rw[b];simp;omega);obtain⟨T,d⟩:=h.pre;have g:k∈fA to n (to k) (S++[k]):=by rw[b];simp
   refine⟨h.inv,⟨[k]++T0++T,by rw[d,b];simp⟩,?_,?_,?_⟩
   .intro x a;rcases xam.1 a with rfl|a
    .rw[d];exact xaZ _ g
    exact h.mem x a
   .intro x a s y u;by_cases m:x∈fA to n (to k) (S++[k])
    .by_cases o:x∈S++[k]
     .have t:x=k:=by
       rcases xar.1 o with h|h;.exact absurd h s
       simpa using h
      subst t;rw[d];exact xaZ _ (ak.mem y u)
     rw[d];exact xaZ _ (ak.pU x m o y u)
    exact h.pU x a m y u
   intro x a;rcases h.nz x a with ab|⟨j,ab,ae⟩
   .rcases ak.nz x ab with ai|⟨j,ai,w⟩
    .rcases xar.1 ai with ai|ai;.exact .inl ai
     simp at ai;subst ai;exact .inr ⟨x,by simp,.refl x⟩
    exact .inr ⟨k,by simp,.step k j x ai w⟩
   exact .inr ⟨j,by simp[ab],ae⟩
def K3{to:Nat->lX}{N:Nat}(a:∀i,∀k∈to i,k<N):∀(n m:Nat)(ks S:lX),gw N S->(∀k∈ks,k<N)->N-S.length<n->N-S.length<m->fA to n ks S=fA to m ks S
 |0,_,_,_,_,_,h,_=>absurd h (xaF _)|_+1,0,_,_,_,_,_,h=>absurd h (xaF _)
 |n+1,m+1,ks,S,g,d,o,hm=>by
  rw[fA,fA]
  induction ks generalizing S with
  |nil=>rfl
  |cons k r ih=>
   rw[xcm,xcm];by_cases b:k∈S;.rw[xac b,xac b];exact ih S g (λx j=>d x (by simp[j])) o hm
   rw[xab b,xab b];have c:=d k sZ;have l:=g.lt c b;have e:=K3 a n m (to k) (S++[k]) (g.snoc c b) (a k) uZ uZ;have ak:=wT a n (to k) (S++[k]) (g.snoc c b) (a k) uZ;obtain⟨T0,f⟩:=ak.pre;rw[<-e];exact ih _ ak.inv (λx j=>d x (by simp[j])) (by rw[f];simp;omega) (by rw[f];simp;omega)
def ij(l:List bd)(ks:lX):lX:=fA (to l) (l.length+1) ks []
def ri(l:List bd)(ks:lX)(a:∀k∈ks,k<l.length):TA (to l) l.length ks [] (ij l ks):=wT (λi k a=>iB i k a) _ ks [] ⟨by simp,by simp⟩ a sZ
def pV(l:List bd)(ks:lX)(f:∀k∈ks,k<l.length)(x:Nat):x∈ij l ks↔∃k∈ks,hL (to l) k x:=by
 have h:=ri l ks f;constructor
 .intro m;rcases h.nz x m with ab|ab
  .cases ab
  exact ab
 rintro⟨k,e,g⟩;have c:∀a b,hL (to l) a b->a∈ij l ks->b∈ij l ks:=by
  intro a b dV
  induction dV with|refl=>exact λh=>h|step i j k d _ ih=>exact λag=>ih (h.pU i ag sZ j d)
 exact c k x g (h.mem k e)
def gL(l:List bd)(i:Nat):Bool:=decide (i∈ij l (to l i))
def K4(l:List bd)(i:Nat):gL l i=true↔∃k∈to l i,hL (to l) k i:=by unfold gL;rw[xaC,pV l _ (iB i)]
def TB{to:Nat->lX}:∀(n:Nat)(ks S:lX),∃T,fA to n ks S=S++T
 |0,ks,S=>⟨[],by simp[fA]⟩
 |n+1,ks,S=>by
  rw[fA]
  induction ks generalizing S with
  |nil=>exact⟨[],by simp⟩
  |cons k r ih=>
   rw[xcm];split;.exact ih S
   obtain⟨T0,ak⟩:=TB n (to k) (S++[k]);obtain⟨T,a⟩:=ih (fA to n (to k) (S++[k]));exact⟨[k]++T0++T,by rw[a,ak];simp⟩
def ik(S:lX)(d:D)(s:lX):D:=if s.length=S.length then d else cn s
def K5(l:List bd){B:Nat}(ah:fL B l):∀(n:Nat)(t:Tm)(S:lX)(d:D),d=cn S\/(S=[]/\d=cg)->t.Ok->t.aP<=B->gw l.length S->l.length-S.length+4*B+300<n->oj n [t.d,ay l,d]=some (ik S d (fA (to l) n (cG l t) S))
 |0,_,_,_,_,_,_,_,h=>absurd h (xaF _)
 |n+1,t,S,d,U,K,Y,Q,b3=>by
  have A:=ah.len;have H:=ah.b;have V:=FP l t;have w:=ahy n l t A K Y H oZ;have u:∀T,ik S d (S++T)=cn (S++T)\/(S++T=[]/\ik S d (S++T)=cg):=by
   intro T;unfold ik;split
   .rename_i h;have:T=[]:=by simpa using h
    subst this;rcases U with rfl|⟨rfl,rfl⟩
    .left;simp
    right;simp
   exact .inl rfl
  have N:(aa ((0:Nat):Int))=aa 0:=rfl;have I:ik S d S=d:=by simp[ik]
  rw[fA];have o:=ch (f:=zf (oj n) n) (cG l t) (λi (s:lX)=>[ay l,ik S d s,cn (cG l t),aa (i:Int)]) (λr s=>(.inl [ik S d (r.foldl (λS k=>if k∈S then S else fA (to l) n (to l k) (S++[k])) s)]:lZ⊕D)) (λi s=>gw l.length s/\∃T,s=S++T) (λs _=>by simp[zf,oa]) ?_ n 0 S ⟨Q,[],by simp⟩ oZ (xah _)
  .rw[N,I]at o;simp only[xak]at o;show D3 (oj n) n t.d (ay l) d=_;simp only[D3,go_sem,w,o]
  rintro i k s z ag ⟨ab,T,p⟩;have J:=xad z;have m:=kd k J;obtain⟨G,j⟩:∃G,l[k]?=some G:=⟨l[k],xaa m⟩;have y:=ah.e G (xad j);have X:=ab.len;have ai:=u T;rw[<-p]at ai;have R:S.length<=s.length:=by rw[p];simp
  have c:=Tz n s k (ik S d s) ai oZ oZ;left;by_cases a:k∈s
  .refine⟨s,?_,?_,ab,T,p⟩;.simp only[zf,go_sem,oa,yT ((i:Int)<((cG l t).length:Int)),pw z,gq,c,xao a,bk i]
   simp only[xcm,xac a]
  have W:=ab.lt m a;have F:=ab.snoc m a;have g1:=K5 l ah n G.e (s++[k]) (cn (s++[k])) (.inl rfl) y.1 y.2 F uZ;have L:=wT (λi k z=>iB i k z) n (to l k) (s++[k]) F (λx Z=>iB k x Z) uZ;rw[<-wS j]at g1;obtain⟨M,g⟩:=TB (to:=to l) n (to l k) (s++[k]);have g2:ik (s++[k]) (cn (s++[k])) (fA (to l) n (to l k) (s++[k]))=cn (fA (to l) n (to l k) (s++[k])):=by
   unfold ik;split
   .rename_i h;rw[g]at h⊢;have:M=[]:=by simpa using h
    subst this;simp
   rfl
  have g3:ik S d (fA (to l) n (to l k) (s++[k]))=cn (fA (to l) n (to l k) (s++[k])):=by unfold ik;rw[xab];rw[g,p];simp<;>omega
  rw[g2]at g1;obtain⟨q,bX,b5⟩:∃q,jz (ik S d s)=some (q,s.map λ(i:Nat)=>[aa (i:Int)])/\(decide (q=1\/(s.map λ(i:Nat)=>[aa (i:Int)])=[])&&decide (0<1))=true:=by
   rcases ai with ai|⟨ai,P⟩;.rw[ai];exact⟨1,rfl,by simp⟩
   rw[P,ai];exact⟨0,rfl,by simp⟩
  have C:b1 (s.map λ(i:Nat)=>[aa (i:Int)]).length 8=true:=sm uZ uZ;have E:b1 ((s.map λ(i:Nat)=>[aa (i:Int)]).length+1) 8=true:=sm uZ uZ;have O:D.aw 1 ((s.map λ(i:Nat)=>[aa (i:Int)])++[[aa (k:Int)]])=cn (s++[k]):=by simp[cn]
  refine⟨fA (to l) n (to l k) (s++[k]),?_,?_,L.inv,T++[k]++M,?_⟩;.rw[g3];simp only[zf,go_sem,oa,yT ((i:Int)<((cG l t).length:Int)),pw z,gq,c,xax a,dU j,bX,b5,xaA,C,xaM,xal,xav,E,O,g1,bk i]
  .simp only[xcm,xab a]
  rw[g,p];simp
def ahA(l:List bd){B:Nat}(ah:fL B l)(n:Nat)(i:Nat)(ag:i<l.length)(t:6*B+400<n):D4 n [ay l,aa (i:Int)]=some (aE (gL l i)):=by
 have m:=ah.len;have o:=ah.b;obtain⟨d,g⟩:∃d,l[i]?=some d:=⟨l[i],xaa ag⟩;have a:=ah.e d (xad g);have f:=K5 l ah n d.e [] cg (.inr ⟨rfl,rfl⟩) a.1 a.2 ⟨by simp,by simp⟩ uZ;have r:=K3 (λi k s=>iB (l:=l) i k s) n (l.length+1) (cG l d.e) [] ⟨by simp,by simp⟩ kd uZ sZ;have j:=ri l (cG l d.e) kd;have q:=j.inv.len;rw[r]at f;have p:fA (to l) (l.length+1) (cG l d.e) []=ij l (cG l d.e):=rfl;rw[p]at f;have c:=Tz n (ij l (cG l d.e)) i (ik [] cg (ij l (cG l d.e))) (by
  unfold ik;split;.rename_i h;exact .inr ⟨xaO h,rfl⟩
  exact .inl rfl) oZ oZ
 simp only[D4,QR,go_sem,dU g,f,c,gL,wS g]
def K6(l:List bd){B:Nat}(ah:fL B l):∀(n:Nat)(i:Nat)(S:lX)(M:List (Value×D)),i<l.length->dX M S->gw l.length S->l.length-S.length+2*B+100<n-> ∃c,ns n [aa (i:Int),fC (l.map λd=>cG l d.e),.mp M]=some [D.aB [],fC (l.map λd=>cG l d.e),.mp c]/\dX c (fA (to l) n (to l i) S)
 |0,_,_,_,_,_,_,h=>absurd h (xaF _)
 |n+1,i,S,M,ag,p,K,W=>by
  have E:=ah.len;have J:=ah.b;obtain⟨d,w⟩:∃d,l[i]?=some d:=⟨l[i],xaa ag⟩;have L:=ah.e d (xad w);have N:=FP l d.e;have C:bc 1 (fC (l.map λd=>cG l d.e)) (aa (i:Int))=some [cn (cG l d.e)]:=acx (by simp[w]);have I:(aa ((0:Nat):Int))=aa 0:=rfl;rw[wS w,fA];have key:∀(m j:Nat)(s:lX)(M:List (Value×D)),dX M s->gw l.length s->S.length<=s.length->(cG l d.e).length-j<m->j<=(cG l d.e).length-> ∃c,aS (z8 (ns n) n) m [cn (cG l d.e),aa (cG l d.e).length,aa (j:Int),fC (l.map λd=>cG l d.e),.mp M]=some (.inl [fC (l.map λd=>cG l d.e),.mp c])/\dX c (((cG l d.e).drop j).foldl (λS k=>if k∈S then S else fA (to l) n (to l k) (S++[k])) s):=by
   intro m
   induction m with
   |zero=>intro j s M _ _ _ h _;exact absurd h (xaF _)
   |succ m ih=>
    intro j s M p aj A V U;rw[ic];by_cases f:j<(cG l d.e).length
    .have g:=xaa f;generalize (cG l d.e)[j]=k at g;have y:=xad g;have o:=kd k y;have k4:(cG l d.e).drop j=k::(cG l d.e).drop (j+1):=by
      obtain⟨Q,R⟩:=lV.1 g;rw[xaV Q,R]
     rw[k4,xcm];have q:=p.look (i:=k) (z:= .bool false);by_cases a:k∈s
     .rw[xac a];obtain⟨c,g1,g2⟩:=ih (j+1) s M p aj A oZ f;refine⟨c,?_,g2⟩;simp only[z8,go_sem,yT ((j:Int)<((cG l d.e).length:Int)),pw g,gq,q,xao a,bk j,g1]
     rw[xab a];obtain⟨G,P,F⟩:=p.put k;rw[xab a]at F;have r:=aj.snoc o a;have O:=aj.lt o a;obtain⟨H,c3,df⟩:=K6 l ah n k (s++[k]) G o F r uZ;have t:=wT (λi k g=>iB i k g) n (to l k) (s++[k]) r (λx C=>iB k x C) uZ;obtain⟨T,u⟩:=t.pre;obtain⟨c,g1,g2⟩:=ih (j+1) _ H df t.inv (by rw[u];simp;omega) oZ f;refine⟨c,?_,g2⟩;simp only[z8,go_sem,yT ((j:Int)<((cG l d.e).length:Int)),pw g,gq,q,xax a,P,c3,bk j,g1]
    have:j=(cG l d.e).length:=oZ
    subst this;refine⟨M,?_,by simpa using p⟩;simp only[z8,go_sem,yF (((cG l d.e).length:Int)<(cG l d.e).length)]
  obtain⟨c,g1,g2⟩:=key n 0 S M p K (xaR _) oZ (xah _);rw[I]at g1;refine⟨c,?_,by simpa using g2⟩;show EA (ns n) n _=_;simp only[EA,go_sem,C,gq,oa,g1]
inductive rj(o:Int)(x:ByteArray):Tm->Prop where
 |here (t:Tm) (h:t.op=o) (BJ:t.name=x):rj o x t
 |dj (t k:Tm) (h:k∈t.aC) (BJ:rj o x k):rj o x t
def FQ{s x:ByteArray}:∀{l:List ByteArray},x∈fy s l↔x=s\/x∈l
 |[]=>by simp[fy]
 |a::r=>by
  rw[fy];split;.rename_i h;subst h;simp
  split;.simp
  rw[xam,FQ,xam];constructor
  .rintro(h|h|h);.exact .inr (.inl h)
   .exact .inl h
   exact .inr (.inr h)
  rintro(h|h|h);.exact .inr (.inl h)
  .exact .inl h
  exact .inr (.inr h)
def TC(o:Int)(x:ByteArray)(t:Tm):∀l,x∈eh o t l↔x∈l\/rj o x t:=by
 refine Tm.ind (P:=λt=>∀l,x∈eh o t l↔x∈l\/rj o x t) ?_ t;intro t ih l;have key:∀(ks:List Tm),(∀k∈ks,∀l,x∈eh o k l↔x∈l\/rj o x k)->∀l,x∈jQ o ks l↔x∈l\/∃k∈ks,rj o x k:=by
  intro ks
  induction ks with
  |nil=>intro _ l;simp[jQ]
  |cons a r c=>intro h l;rw[jQ,c (λk b=>h k (by simp[b])),h a sZ];simp only[xam,exists_eq_or_imp,or_assoc]
 rw[FL,key t.aC ih];constructor
 .rintro(h|⟨k,b,h⟩)
  .split at h
   .rename_i d;rcases FQ.1 h with rfl|h
    .exact .inr (.here t d rfl)
    exact .inl h
   exact .inl h
  exact .inr (.dj t k b h)
 rintro(h|h)
 .left;split;.exact FQ.2 (.inr h)
  exact h
 cases h with|here _ ab ae=>left;rw[xac ab];exact FQ.2 (.inl ae.symm)|dj _ k b h=>exact .inr ⟨k,b,h⟩
def FR{l:List bd}{t:Tm}{i:Nat}:i∈cG l t↔∃x,rj 3 x t/\cw l x=some i:=by
 unfold cG;rw[List.mem_filterMap];constructor;.rintro⟨x,ab,ae⟩;exact⟨x,((TC 3 x t []).1 ab).resolve_left sZ,ae⟩
 rintro⟨x,ab,ae⟩;exact⟨x,(TC 3 x t []).2 (.inr ab),ae⟩
def K7{l:List bd}{t k:Tm}(a:k∈t.aC):∀i∈cG l k,i∈cG l t:=by intro i ag;obtain⟨x,ab,ae⟩:=FR.1 ag;exact FR.2 ⟨x,.dj t k a ab,ae⟩
def rk(l:List bd)(t:Tm):Bool:=t.op==3&&(cw l t.name).isSome
def hM(l:List bd):Nat->Tm->Tm->Prop
 |0,_,_=>False|h+1,t,X=>(t.op=3/\∃i d,cw l t.name=some i/\l[i]?=some d/\hM l h d.e X)\/(rk l t=false/\∃ks,X= .mk t.op t.num t.name t.nl ks/\ks.length=t.aC.length/\∀(j:Nat)(a b:Tm),t.aC[j]?=some a->ks[j]?=some b->hM l h a b)
def hM.mono{l:List bd}:∀{h c:Nat}{t X:Tm},h<=c->hM l h t X->hM l c t X
 |0,_,_,_,_,H=>H.elim|h+1,0,_,_,hle,_=>absurd hle oZ
 |h+1,c+1,t,X,hle,H=>by
  rcases H with⟨ab,i,d,ae,ai,e⟩|⟨ab,ks,ae,ai,e⟩;.exact .inl ⟨ab,i,d,ae,ai,e.mono oZ⟩
  exact .inr ⟨ab,ks,ae,ai,λj a b f g=>(e j a b f g).mono oZ⟩
def TD:∀{A B:lX},A.Nodup->(∀x∈A,x∈B)->A.length<=B.length
 |[],B,_,_=>by simp
 |a::A,B,d,h=>by
  have c:=h a sZ;have ab:=TD (A:=A) (B:=B.erase a) (List.nodup_cons.1 d).2 (λx e=>by
   have b:x≠a:=by rintro rfl;exact(List.nodup_cons.1 d).1 e
   exact(List.mem_erase_of_ne b).2 (h x (by simp[e])))
  have ae:=List.length_erase_of_mem c;have ai:0<B.length:=List.length_pos_of_mem c;simp;omega
def tx(l:List bd)(i:Nat):Nat:=(ij l (to l i)).length
def ahB{l:List bd}{i j:Nat}(m:j∈to l i)(o:gL l j=false):tx l j<tx l i:=by
 have ag:=ri l (to l i) (iB i);have e:=ri l (to l j) (iB j);have f:j∉ij l (to l j):=by
  intro h;have:gL l j=true:=by simp[gL,h]
  rw[o]at this;cases this
 have d:∀x∈ij l (to l j)++[j],x∈ij l (to l i):=by
  intro x c;rcases xar.1 c with c|c
  .obtain⟨k,ab,ae⟩:=(pV l _ (iB j) x).1 c;exact(pV l _ (iB i) x).2 ⟨j,m,.step j k x ab ae⟩
  simp at c;subst c;exact ag.mem _ m
 have:=TD (A:=ij l (to l j)++[j]) (B:=ij l (to l i)) (by rw[xbH];exact⟨e.inv.1,by simp,by intro a n b g;simp at g;subst g;rintro rfl;exact f n⟩) d;simp at this;unfold tx;omega
def wU(l:List bd)(t:Tm):Prop:=∀x∈ij l (cG l t),gL l x=false
def K8{f:Type}{P:Nat->Tm->f->Prop}:∀(ks:List Tm),(∀(j:Nat)(a:Tm),ks[j]?=some a->∃b,P j a b)->∃r:List f,r.length=ks.length/\∀(j:Nat)(a:Tm)(b:f),ks[j]?=some a->r[j]?=some b->P j a b
 |[],_=>⟨[],rfl,by intro j a b h;simp at h⟩
 |k::r,h=>by obtain⟨b,g⟩:=h 0 k rfl;obtain⟨dm,ab,ae⟩:=K8 (P:=λj=>P (j+1)) r (λj a d=>h (j+1) a (by simpa using d));refine⟨b::dm,by simp[ab],?_⟩;intro j a c d e;cases j with|zero=>simp at d e;subst d;subst e;exact g|succ j=>exact ae j a c (by simpa using d) (by simpa using e)
def ahC{l:List bd}{B:Nat}(ah:fL B l):∀(r:Nat)(t:Tm),t.aP<=B->wU l t->(∀k∈cG l t,tx l k<r)->∃X,hM l (r*(B+1)+t.aP) t X:=by
 intro r
 induction r with
 |zero=>
  intro t;refine Tm.ind (P:=λt=>t.aP<=B->wU l t->(∀k∈cG l t,tx l k<0)->∃X,hM l (0*(B+1)+t.aP) t X) ?_ t;intro t ih I f u;have p:cG l t=[]:=by cases h:cG l t with|nil=>rfl|cons a q=>exact absurd (u a (by rw[h];simp)) (xaF _)
  have D:rk l t=false:=by cases h:rk l t with|false=>rfl|true=>simp only[rk,xan,xbQ,Option.isSome_iff_exists]at h;obtain⟨ab,i,ae⟩:=h;have:i∈cG l t:=FR.2 ⟨_,.here t ab rfl,ae⟩;rw[p]at this;cases this
  obtain⟨ks,ab,ae⟩:=K8 (P:=λj a b=>hM l (t.aP-1) a b) t.aC (λj a y=>by
   have g:=xad y;have G:=Tm.gg g;have m:cG l a=[]:=by cases h:cG l a with|nil=>rfl|cons b q=>have:=K7 g b (by rw[h];simp);rw[p]at this;cases this
   obtain⟨X,o⟩:=ih a g oZ (λx n=>by rw[m]at n;simp[ij,fA]at n) (by rw[m];simp);exact⟨X,o.mono oZ⟩)
  have G:=t.iz;refine⟨.mk t.op t.num t.name t.nl ks,?_⟩;have e:0*(B+1)+t.aP=(t.aP-1)+1:=oZ
  rw[e];exact .inr ⟨D,ks,rfl,ab,ae⟩
 |succ r E=>
  intro t;refine Tm.ind (P:=λt=>t.aP<=B->wU l t->(∀k∈cG l t,tx l k<r+1)->∃X,hM l ((r+1)*(B+1)+t.aP) t X) ?_ t;intro t ih I f u;have G:=t.iz;have e:(r+1)*(B+1)+t.aP=((r+1)*(B+1)+(t.aP-1))+1:=oZ
  cases C:rk l t with
  |true=>
   simp only[rk,xan,xbQ,Option.isSome_iff_exists]at C;obtain⟨ab,i,ae⟩:=C;obtain⟨d,ai,K,L⟩:=Jp ae;have ag:i∈cG l t:=FR.2 ⟨_,.here t ab rfl,ae⟩;have s:=wS ai;have z:=ah.e d (xad ai);have H:=ri l (cG l t) kd;obtain⟨X,o⟩:=E d.e z.2 (λx n=>f x (by
    obtain⟨k,w,F⟩:=(pV l _ kd x).1 n;rw[<-s]at w;exact(pV l _ kd x).2 ⟨i,ag,.step i k x w F⟩)) (λk c=>by
    rw[<-s]at c;have A:k∈ij l (cG l t):=(pV l _ kd k).2 ⟨i,ag,.step i k k c (.refl k)⟩;have:=ahB c (f k A);have:=u i ag;omega)
   refine⟨X,?_⟩;rw[e];exact .inl ⟨ab,i,d,ae,ai,o.mono (by have:(r+1)*(B+1)=r*(B+1)+(B+1):=Nat.succ_mul _ _;omega)⟩
  |false=>
   obtain⟨ks,ab,ae⟩:=K8 (P:=λj a b=>hM l ((r+1)*(B+1)+(t.aP-1)) a b) t.aC (λj a y=>by
    have g:=xad y;have J:=Tm.gg g;obtain⟨X,o⟩:=ih a g oZ (λx n=>f x (by obtain⟨k,w,F⟩:=(pV l _ kd x).1 n;exact(pV l _ kd x).2 ⟨k,K7 g k w,F⟩)) (λk c=>u k (K7 g k c))
    exact⟨X,o.mono oZ⟩)
   refine⟨.mk t.op t.num t.name t.nl ks,?_⟩;rw[e];exact .inr ⟨C,ks,rfl,ab,ae⟩
def ahD(l:List bd)(i:Nat):tx l i<=l.length:=(ri l (to l i) (iB i)).inv.len
def ahE{l:List bd}{B:Nat}(ah:fL B l){t:Tm}(b:t.aP<=B)(h:wU l t):∃X,hM l ((l.length+1)*(B+1)+B) t X:=by obtain⟨X,a⟩:=ahC ah (l.length+1) t b h (λk _=>by have:=ahD l k;omega);exact⟨X,a.mono oZ⟩
mutual
def dt:Tm->Int->Int->Tm×Int
 | .mk o m s b ks,deep,n=>if ks.isEmpty then(.mk o m s b ks,n+1)else(.mk o m s false (ep ks deep (n+1)).1,(ep ks deep (n+1)).2)
def ep:List Tm->Int->Int->List Tm×Int
 |[],_,n=>([],n)|k::r,deep,n=>if deep<=64/\n<=4096 then((dt k (deep+1) n).1::(ep r deep (dt k (deep+1) n).2).1,(ep r deep (dt k (deep+1) n).2).2)else(T0::(ep r deep n).1,(ep r deep n).2)
end
mutual
def eA:Tm->Tm
 | .mk o m s b ks=> .mk o m s false (kz ks)
def kz:List Tm->List Tm
 |[]=>[]|k::r=>eA k::kz r
end
def TE:∀l:List Tm,(kz l).length=l.length
 |[]=>rfl|k::r=>by simp[kz,TE r]
def FT:∀(l:List Tm)(d n:Int),(ep l d n).1.length=l.length
 |[],_,_=>rfl|k::r,d,n=>by rw[ep];split<;>simp[FT r]
def ahF(o m:Int)(s:ByteArray)(n:Nat):Int:=if(et o).1<0 then 11
 else if(m<(if o=1 then-255 else 0))\/m>(if o=1 then 255 else if o=2 then 1 else 0)then 2
 else if(if wP o then s=⟨#[]⟩\/s.size>24 else s≠⟨#[]⟩)then 12
 else if(n:Int)<(et o).1\/(n:Int)>(et o).2 then 3 else 0
theorem TF(o m:Int)(s:ByteArray)(b:Bool)(ks:List Tm):fS (.mk o m s b ks)=ahF o m s ks.length:=rfl
def TG{o m:Int}{s:ByteArray}{b b':Bool}{ks ks':List Tm}(h:ks.length=ks'.length):fS (.mk o m s b ks)=fS (.mk o m s b' ks'):=by rw[TF,TF,h]
mutual
def K9:∀(X:Tm)(deep n:Int),n<=4096->(cq (dt X deep n).1 deep n).1=(cq X deep n).1/\((cq X deep n).1=0->(cq X deep n).2=(dt X deep n).2/\(cq (dt X deep n).1 deep n).2=(dt X deep n).2/\FN (dt X deep n).1 (eA X)=true)
 | .mk o m s b ks,deep,n,e=>by
  rw[dt];cases ks with
  |nil=>
   simp only[List.isEmpty_nil,xaD,true_and];intro h;rw[cq]at h⊢;split at h;.cases h
   split at h;.rename_i ae;exact absurd h ae
   split at h;.cases h
   rename_i ab ae ai;rw[xab ab,xab ae,xab ai];simp[dI,eA,kz,Tx,Tm.op,Tm.num,Tm.name,Tm.aC,tw]
  |cons k r=>
   simp only[List.isEmpty_cons,xaq,xaG];rw[cq,cq,TG (b':=b) (ks':=k::r) (FT (k::r) deep (n+1))];by_cases ab:deep>64;.rw[xac ab,xac ab];simp
   rw[xab ab,xab ab];by_cases ae:fS (.mk o m s b (k::r))≠0;.rw[xac ae,xac ae];exact⟨rfl,λh=>absurd h ae⟩
   rw[xab ae,xab ae];by_cases ai:n+1>4096;.rw[xac ai,xac ai];simp
   rw[xab ai,xab ai];obtain⟨g1,g2⟩:=TH (k::r) deep (n+1) oZ oZ;refine⟨g1,λh=>?_⟩;obtain⟨a,f,g⟩:=g2 h;refine⟨a,f,?_⟩;rw[Tx];simp only[eA,Tm.op,Tm.num,Tm.name,Tm.aC,g,FT,TE];simp
def TH:∀(ks:List Tm)(deep n:Int),deep<=64->n<=4096->(dI (ep ks deep n).1 (deep+1) n).1=(dI ks (deep+1) n).1/\((dI ks (deep+1) n).1=0->(dI ks (deep+1) n).2=(ep ks deep n).2/\(dI (ep ks deep n).1 (deep+1) n).2=(ep ks deep n).2/\tw (ep ks deep n).1 (kz ks)=true)
 |[],deep,n,_,_=>by simp[ep,dI,kz,tw]
 |k::r,deep,n,i,e=>by
  rw[ep,xac ⟨i,e⟩,dI,dI];obtain⟨g1,g2⟩:=K9 k (deep+1) n e;have j:=wQ k (deep+1) n;by_cases h:(cq k (deep+1) n).1=0
  .obtain⟨a,f,g⟩:=g2 h;have c:=g1.trans h;simp only[h,c,ne_eq,xbP,xaG,a,f];have d:(dt k (deep+1) n).2<=4096:=by rw[<-a];exact j.2 h
   obtain⟨l,p⟩:=TH r deep (dt k (deep+1) n).2 i d;refine⟨l,λh=>?_⟩;obtain⟨s1,s2,q⟩:=p h;exact⟨s1,s2,by rw[kz,tw,g,q];rfl⟩
  have c:(cq (dt k (deep+1) n).1 (deep+1) n).1≠0:=by rw[g1];exact h
  simp only[ne_eq,h,c,xcs,xaD];exact⟨g1,λaX=>aX.elim⟩
end
def Tm.TI(l:List Tm)(t:Tm):Tm.rows (l++[t])=Tm.rows l++[t.cells]:=by simp[Tm.fP]
def ahG(o m:Int)(s:ByteArray)(b:Bool)(ks:List Tm):eA (.mk o m s b ks)= .mk o m s false (kz ks):=by rw[eA]
def FU{c d:Type}{a:List c}{b:List d}{i:Nat}{x:c×d}(h:(a.zip b)[i]?=some x):a[i]?=some x.1/\b[i]?=some x.2:=by rw[List.getElem?_zip_eq_some]at h;exact h
def La{c d:Type}{a:List c}{b:List d}(h:b.length=a.length):(a.zip b).map (·.2)=b:=List.map_snd_zip oZ
def Lb{l:List bd}{B:Nat}(ah:fL B l):∀(h n:Nat)(t X:Tm)(deep k:Int),hM l h t X->t.Ok->t.aP<=B->1<=deep->deep<=65->0<=k->k<=4096->h+2*B+100<n->om n [t.d,ay l,aa deep,aa k]=some (.aB [if(cq X deep k).1=0 then(eA X).d else T0.d,aa (cq X deep k).2,aa (cq X deep k).1])
 |0,_,_,_,_,_,H,_,_,_,_,_,_,_=>H.elim|h+1,0,_,_,_,_,_,_,_,_,_,_,_,U=>absurd U (xaF _)
 |h+1,n+1,t,X,deep,k,H,J,cx,ab,ae,ai,bX,U=>by
  have G:=ah.len;have b5:=ah.b;have C:=Ty n l t.name oZ oZ;have K:=Tn n t deep;have j:D.agg [aa 0,aa 0,aD ⟨#[]⟩,D.val (.slice none 0 0)]=T0.d:=Df.symm;rcases H with⟨V,i,d,ag,M,b3⟩|⟨P,ks,rfl,x,O⟩
  .have E:=ah.e d (xad M);have y:=Lb ah h n d.e X deep k b3 E.1 E.2 ab ae ai bX oZ;simp only[ag]at C;show nm (om n) n t.d (ay l) (aa deep) (aa k)=_;have A:((3:Int)==3)=true:=rfl;by_cases ak:(cq X deep k).1=0
   .simp only[ak,xaD]at y⊢;simp only[nm,go_sem,V,A,C,yT ((i:Int)>=0),dU M,y]
   simp only[ak,xaG]at y⊢;simp only[nm,go_sem,V,A,C,yT ((i:Int)>=0),dU M,y]
  have b0:fS (.mk t.op t.num t.name t.nl ks)=fS t:=by have:=TG (o:=t.op) (m:=t.num) (s:=t.name) (b:=t.nl) (b':=t.nl) x;rw[this];cases t;rfl
  have g:(t.op==3)=false/\True\/(t.op==3)=true/\vv n [ay l,aD t.name]=some (aa (-1)):=by
   by_cases ai:t.op=3
   .right;have I:cw l t.name=none:=by simpa[rk,ai]using P
    rw[I]at C;exact⟨by simp[ai],C⟩
   left;simp[ai]
  have u:decide ((-1:Int)>=0)=false:=dZ
  show nm (om n) n t.d (ay l) (aa deep) (aa k)=_;rw[pS,b0];by_cases c1:64<deep
  .have p:((17:Int) !=0)=true:=rfl;rcases g with⟨aj,c⟩|⟨aj,c⟩<;>
   simp only[nm,go_sem,aj,c,u,iP k,K,gt_iff_lt,c1,j,p,show¬((17:Int)=0) by omega]
  by_cases c2:fS t=0
  case neg=>
   have p:(fS t !=0)=true:=by simpa using c2
   rcases g with⟨aj,c⟩|⟨aj,c⟩<;>
   simp only[nm,go_sem,aj,c,u,iP k,K,gt_iff_lt,c1,j,p,c2,ne_eq,xcs]
  have w:((0:Int) !=0)=false:=rfl;by_cases b8:4096<k+1
  .rcases g with⟨aj,c⟩|⟨aj,c⟩<;>
   simp only[nm,go_sem,aj,c,u,iP k,K,gt_iff_lt,c1,j,c2,w,ne_eq,xbP,decide_true,b8,show¬((4:Int)=0) by omega]
  have q:=ch (f:=zg (om n) n) (t.aC.zip ks) (λi (s:Int×List Tm)=>[ay l,aa deep,aa s.1,aa (i:Int),aa t.op,aa t.num,aD t.name,bJ 4 t.nl (Tm.rows t.aC),aa 0,aa 0,aD ⟨#[]⟩,cg,.aw 4 (Tm.rows s.2)]) (λr (s:Int×List Tm)=>if(dI (r.map (·.2)) (deep+1) s.1).1=0 then(Sum.inl [aa (dI (r.map (·.2)) (deep+1) s.1).2,aa t.op,aa t.num,aD t.name,bJ 4 t.nl (Tm.rows t.aC),aa 0,aa 0,aD ⟨#[]⟩,cg,.aw 4 (Tm.rows (s.2++kz (r.map (·.2))))]:lZ⊕D)else .inr (.aB [T0.d,aa (dI (r.map (·.2)) (deep+1) s.1).2,aa (dI (r.map (·.2)) (deep+1) s.1).1])) (λi s=>0<=s.1/\s.1<=4096/\s.2.length=i) ?_ ?_ n 0 (k+1,[]) ⟨by simp;omega,by simp;omega,rfl⟩ (by have:=t.iz;simp[x];omega) (xah _)
  .have W:(aa ((0:Nat):Int))=aa 0:=rfl;have Z:Tm.rows []=[]:=rfl;simp only[xak,La x,W,Z,xaM]at q;have R:(Tm.mk t.op t.num t.name t.nl ks).aC=ks:=rfl;have N:(eA (.mk t.op t.num t.name t.nl ks)).d=D.agg [aa t.op,aa t.num,aD t.name,.aw 4 (Tm.rows (kz ks))]:=by rw[ahG,Tm.gI];simp[bJ,Tm.op,Tm.num,Tm.name,Tm.nl,Tm.aC]
   by_cases ak:(dI ks (deep+1) (k+1)).1=0
   .simp only[ak,xaD]at q;rcases g with⟨aj,c⟩|⟨aj,c⟩<;>
    simp only[nm,go_sem,aj,c,u,iP k,K,gt_iff_lt,c1,j,c2,w,ne_eq,xbP,decide_false,b8,q,R,ak,N]
   simp only[ak,xaG]at q;rcases g with⟨aj,c⟩|⟨aj,c⟩<;>
   simp only[nm,go_sem,aj,c,u,iP k,K,gt_iff_lt,c1,j,c2,w,ne_eq,xbP,decide_false,b8,q,R,ak]
  .intro s _;have e:((t.aC.zip ks).length:Int)=t.aC.length:=by simp[x]
   simp only[zg,go_sem,e,yF ((t.aC.length:Int)<t.aC.length),xbd,dI,kz,xat]
  rintro i ⟨a,b⟩ s dV ag ⟨ck,cA,cC⟩;obtain⟨z,S⟩:=FU dV;simp only at z S;have T:=xad z;have cU:=Tm.gg T;have G:=J.len;have F:(i:Int)<t.aC.length:=by have:=(lV.1 z).1;omega
  have y:=Lb ah h n a b (deep+1) s.1 (O i a b z S) (J.dj T) oZ oZ oZ ck cA oZ;have L:=wQ b (deep+1) s.1;have Q:b1 (s.2.length+1) 56=true:=eB;by_cases ak:(cq b (deep+1) s.1).1=0
  .simp only[ak,xaD]at y;left;refine⟨((cq b (deep+1) s.1).2,s.2++[eA b]),?_,?_,by simp;omega,by simpa using L.2 ak,by simp[cC]⟩;.have Y:[aa (eA b).op,aa (eA b).num,aD (eA b).name,bJ 4 (eA b).nl (Tm.rows (eA b).aC)]=(eA b).cells:=((eA b).hj).symm;simp only[zg,go_sem,xao F,Tm.eO z,iP deep,y,w,Y,Tm.TI,xal,xaA,xav,Q,bk i]
   simp only[xaw,dI,ak,ne_eq,xbP,xaG,kz,xaL,xbo]
  simp only[ak,xaG]at y;have p:((cq b (deep+1) s.1).1 !=0)=true:=by simpa using ak
  right;simp only[zg,go_sem,xao F,Tm.eO z,iP deep,y,p,j,xaw,dI,ne_eq,ak,xcs]
theorem Lc(t:Tm)(deep n:Int):dt t deep n=if t.aC.isEmpty then(t,n+1)else(.mk t.op t.num t.name false (ep t.aC deep (n+1)).1,(ep t.aC deep (n+1)).2):=by cases t;rw[dt];rfl
def TJ(t:Tm):∀(deep n:Int),n+1<=(dt t deep n).2/\(n<=4096->(dt t deep n).2<=4097):=by
 refine Tm.ind (P:=λt=>∀(deep n:Int),n+1<=(dt t deep n).2/\(n<=4096->(dt t deep n).2<=4097)) ?_ t;intro t ih deep n;have key:∀(ks:List Tm),(∀k∈ks,∀(deep n:Int),n+1<=(dt k deep n).2/\(n<=4096->(dt k deep n).2<=4097))->∀(n:Int),n<=(ep ks deep n).2/\(n<=4097->(ep ks deep n).2<=4097):=by
  intro ks
  induction ks with
  |nil=>intro _ n;simp[ep]
  |cons a r b=>
   intro h n;have ab:=h a sZ (deep+1) n;rw[ep];split
   .have ae:=b (λk c=>h k (by simp[c])) (dt a (deep+1) n).2;simp only;constructor;.omega
    intro _;exact ae.2 oZ
   exact b (λk c=>h k (by simp[c])) n
 rw[Lc];split;.simp only[Int.le_refl,true_and];omega
 have:=key t.aC ih (n+1);simp only;constructor;.omega
 intro _;exact this.2 oZ
def TK{l:List bd}{B:Nat}(ah:fL B l){M:List (Value×D)}(o:FO M l)(r:lZ->oY)(A:Nat)(deep h3:Int):∀(h n:Nat)(t X:Tm),hM l h t X->t.Ok->t.aP<=B->h<n-> ∃(t':Tm)(m:Nat)(ks:List Tm),m<h/\t'.Ok/\t'.aP<=B/\X= .mk t'.op t'.num t'.name t'.nl ks/\ks.length=t'.aC.length/\(∀(j:Nat)(a b:Tm),t'.aC[j]?=some a->ks[j]?=some b->hM l m a b)/\aS (Ab r A) n [aa deep,.mp M,ay l,aa h3,aa t.op,aa t.num,aD t.name,bJ 4 t.nl (Tm.rows t.aC),aa 0,aa 0,aD ⟨#[]⟩,cg]=some (.inl [aa deep,aa h3,aa t'.op,aa t'.num,aD t'.name,bJ 4 t'.nl (Tm.rows t'.aC),aa 0,aa 0,aD ⟨#[]⟩,cg,.mp M,ay l])
 |0,_,_,_,H,_,_,_=>H.elim|h+1,0,_,_,_,_,_,y=>absurd y (xaF _)
 |h+1,n+1,t,X,H,u,F,y=>by
  have c:=uM o.1 (z:= .int .i64 0) (x:=t.name);rw[o.2]at c;rcases H with⟨E,i,d,ag,w,C⟩|⟨s,ks,rfl,q,p⟩
  .have g:=ah.e d (xad w);have f:((3:Int)==3)=true:=rfl;rw[ag]at c;simp only[xaI]at c;obtain⟨t',m,ks,g1,g2,g3,g4,g5,g6,g7⟩:=TK ah o r A deep h3 h n d.e X C g.1 g.2 oZ;refine⟨t',m,ks,by omega,g2,g3,g4,g5,g6,?_⟩;rw[ic,<-g7];simp only[Ab,go_sem,E,f,jA,c,dU w]
  refine⟨t,h,ks,by omega,u,F,rfl,q,p,?_⟩;rw[ic];by_cases ai:t.op=3
  .have k:cw l t.name=none:=by simpa[rk,ai]using s
   have f:((3:Int)==3)=true:=rfl;rw[k]at c;simp only[xbE]at c;simp only[Ab,go_sem,ai,f,jA,c]
  have aj:(t.op==3)=false:=by simp[ai]
  simp only[Ab,go_sem,aj]
def TL{s:List Tm}{x:Tm}{i k:Nat}(ag:s.length=i)(c:i<k):(Tm.rows (s++List.replicate (k-i) T0)).set i x.cells=Tm.rows ((s++[x])++List.replicate (k-(i+1)) T0):=by
 obtain⟨m,rfl⟩:∃m,k=i+1+m:=⟨k-(i+1),by omega⟩;have a:i+1+m-i=m+1:=oZ
 have b:i+1+m-(i+1)=m:=oZ
 subst ag;rw[a,b];simp[Tm.fP,xcu]
def ahH{s:List Tm}{i k:Nat}(ag:s.length=i)(b:i<k):(Tm.rows (s++List.replicate (k-i) T0))[i]?=some T0.cells:=by
 obtain⟨m,rfl⟩:∃m,k=i+1+m:=⟨k-(i+1),by omega⟩;have a:i+1+m-i=m+1:=oZ
 subst ag;rw[a];simp[Tm.fP,xcu]
def ahI{t:Nat}(h:t<=1000000):e5 56 (aa (t:Int)) (aa (t:Int))=some t:=by simp only[e5,aa];rw[xac ⟨by omega,by omega,by omega,by omega⟩];simp
def TM{l:List bd}{B:Nat}(ah:fL B l){M:List (Value×D)}(R:FO M l):∀(n h:Nat)(t X:Tm)(deep k:Int),hM l h t X->t.Ok->t.aP<=B->1<=deep->deep<=65->0<=k->k<=4096->h+2*B+100<n->ov n [t.d,aa deep,.mp M,ay l,aa k]=some [(dt X deep k).1.d,.mp M,ay l,aa (dt X deep k).2]
 |0,_,_,_,_,_,_,_,_,_,_,_,_,V=>absurd V (xaF _)
 |n+1,h,t0,X,deep,k,H,z,P,ab,ae,ai,cK,V=>by
  have U:=ah.len;have cA:=ah.b;obtain⟨t,ck,ks,g1,O,dE,rfl,c,I,g7⟩:=TK ah R (ov n) n deep k h n t0 X H z P oZ;have b3:(Tm.mk t.op t.num t.name t.nl ks).aC=ks:=rfl;have Q:∀(b:Bool)(r:List Tm),(Tm.mk t.op t.num t.name b r).d=D.agg [aa t.op,aa t.num,aD t.name,bJ 4 b (Tm.rows r)]:=λb r=>by rw[Tm.gI];rfl
  have cU:=t.iz;have Y:(aa ((0:Nat):Int))=aa 0:=rfl;show Ac (ov n) n _=_;rw[Lc,b3];cases j:t.aC with
  |nil=>
   have w:ks=[]:=by rw[j]at c;exact xaO c
   subst w;rw[j]at g7;have Z:((((Tm.rows []).length:Nat):Int)==0)=true:=rfl;simp only[Ac,go_sem,g7,iP k,List.isEmpty_nil,Q];simp
  |cons a0 dD=>
   have L:¬ks.isEmpty=true:=by cases ks with|nil=>rw[j]at c;simp at c|cons _ _=>simp
   have J:((t.aC.length:Int)==0)=false:=by rw[j];simp;omega
   rw[xab L];show _=some [(Tm.mk t.op t.num t.name false (ep ks deep (k+1)).1).d,.mp M,ay l,aa (ep ks deep (k+1)).2];clear j;have y:=ch (f:=vZ (ov n) n) (t.aC.zip ks) (λi (s:Int×List Tm)=>[aa deep,bJ 4 t.nl (Tm.rows t.aC),aa t.aC.length,aa (i:Int),aa s.1,aa t.op,aa t.num,aD t.name,bJ 4 t.nl (Tm.rows t.aC),aa 0,aa 0,aD ⟨#[]⟩,cg,.aw 4 (Tm.rows (s.2++List.replicate (t.aC.length-i) T0)),.mp M,ay l]) (λr (s:Int×List Tm)=>(Sum.inl [aa t.op,aa t.num,aD t.name,bJ 4 t.nl (Tm.rows t.aC),aa 0,aa 0,aD ⟨#[]⟩,cg,.aw 4 (Tm.rows (s.2++(ep (r.map (·.2)) deep s.1).1)),.mp M,ay l,aa (ep (r.map (·.2)) deep s.1).2]:lZ⊕lZ)) (λi s=>0<=s.1/\s.1<=4097/\s.2.length=i) ?_ ?_ n 0 (k+1,[]) ⟨by simp;omega,by simp;omega,rfl⟩ (by simp[c];omega) (xah _)
   .have b0:Tm.rows (List.replicate t.aC.length T0)=List.replicate t.aC.length [aa 0,aa 0,aD ⟨#[]⟩,D.val (.slice none 0 0)]:=by
     rw[Tm.fP,List.map_replicate];rfl
    simp only[xak,La c,Y,xaM,Nat.sub_zero,b0]at y;have K:=ahI (t:=t.aC.length) oZ;simp only[Ac,go_sem,g7,iP k,J,K,y,Q,ab5]
   .intro s aj;have e:(t.aC.zip ks).length=t.aC.length:=by simp[c]
    simp only[e,vZ,go_sem,yF ((t.aC.length:Int)<t.aC.length),xbd,ep,xbV,List.replicate_zero,xat]
   rintro i ⟨a,b⟩ s dV ag ⟨W,de,C⟩;obtain⟨o,T⟩:=FU dV;simp only at o T;have E:=xad o;have dR:=Tm.gg E;have g:=(lV.1 o).1;have u:(i:Int)<t.aC.length:=oZ
   left;by_cases p:deep<=64/\s.1<=4096
   .have cC:=TM ah R n ck a b (deep+1) s.1 (I i a b o T) (O.dj E) oZ oZ oZ W p.2 oZ;have A:=TJ b (deep+1) s.1;have N:cI (s.2++List.replicate (t.aC.length-i) T0).length (aa (i:Int))=some i:=by
     rw[jI,xac];simp;omega
    have G:dS T0.cells 0 [aa (dt b (deep+1) s.1).1.op,aa (dt b (deep+1) s.1).1.num,aD (dt b (deep+1) s.1).1.name,bJ 4 (dt b (deep+1) s.1).1.nl (Tm.rows (dt b (deep+1) s.1).1.aC)]=(dt b (deep+1) s.1).1.cells:=by rw[Tm.hj (dt b (deep+1) s.1).1];rfl
    refine⟨((dt b (deep+1) s.1).2,s.2++[(dt b (deep+1) s.1).1]),?_,?_,by simp;omega,by simpa using A.2 p.2,by simp[C]⟩;.simp only[vZ,go_sem,xao u,Tm.eO o,xao p.1,xao p.2,iP deep,cC,N,ahH C g,G,TL C g,bk i]
    simp only[xaw,ep,xac p,xaL,xbo]
   refine⟨(s.1,s.2++[T0]),?_,?_,by simpa using W,by simpa using de,by simp[C]⟩
   .have cx:=TL (x:=T0) C g;have S:Tm.rows (s.2++List.replicate (t.aC.length-i) T0)=Tm.rows (s.2++[T0]++List.replicate (t.aC.length-(i+1)) T0):=by
     obtain⟨m,E⟩:∃m,t.aC.length=i+1+m:=⟨t.aC.length-(i+1),by omega⟩;have bX:i+1+m-i=m+1:=oZ
     have b5:i+1+m-(i+1)=m:=oZ
     rw[E,bX,b5];simp[xcu]
    by_cases q:deep<=64;.have F:¬s.1<=4096:=λh=>p ⟨q,h⟩;simp only[vZ,go_sem,xao u,Tm.eO o,xao q,xax F,S,bk i]
    simp only[vZ,go_sem,xao u,Tm.eO o,xax q,S,bk i,xce]
   simp only[xaw,ep,xab p,xaL,xbo]
def tz(l:List bd)(S:lX):Prop:=∀x∈S,∀y∈to l x,y∈S
def tz.nz{l:List bd}{S:lX}(h:tz l S){a b:Nat}(e:hL (to l) a b)(d:a∈S):b∈S:=by induction e with|refl=>exact d|step i j k c _ ih=>exact ih (h i d j c)
def TN(l:List bd)(i n:Nat)(S:lX)(ab:gw l.length S)(ae:tz l S)(g:l.length<n):gw l.length (fA (to l) n (to l i) S)/\tz l (fA (to l) n (to l i) S)/\∀x,x∈fA (to l) n (to l i) S↔x∈S\/∃k∈to l i,hL (to l) k x:=by
 have h:=wT (λi k b=>iB i k b) n (to l i) S ab (λx a=>iB i x a) oZ;obtain⟨T,c⟩:=h.pre;have d:tz l (fA (to l) n (to l i) S):=by
  intro x a y e;by_cases aj:x∈S;.rw[c];simp[ae x aj y e]
  exact h.pU x a aj y e
 refine⟨h.inv,d,λx=>⟨h.nz x,?_⟩⟩;rintro(a|⟨k,b,f⟩);.rw[c];simp[a]
 exact d.nz f (h.mem k b)
def TO(l:List bd){B:Nat}(ah:fL B l)(n:Nat)(u:3*B+200<n)(fr:lX)(b:∀i∈fr,i<l.length)(p:fr.length<1000000000):∀(m j:Nat)(S:lX)(M:List (Value×D)),dX M S->gw l.length S->tz l S->fr.length-j<m->j<=fr.length-> ∃f a,aS (EB n) m [cn fr,aa fr.length,aa (j:Int),.mp M,fC (l.map λd=>cG l d.e)]=some (.inl [.mp f])/\dX f a/\gw l.length a/\∀x,x∈a↔x∈S\/∃i∈fr.drop j,∃k∈to l i,hL (to l) k x
 |0,_,_,_,_,_,_,h,_=>absurd h (xaF _)
 |m+1,j,S,M,q,g,t,hm,A=>by
  have r:=ah.len;rw[ic];by_cases c:j<fr.length
  .have o:=xaa c;generalize fr[j]=i at o;have ag:=b i (xad o);have k4:fr.drop j=i::fr.drop (j+1):=by
    obtain⟨y,z⟩:=lV.1 o;rw[xaV y,z]
   have w:=g.len;obtain⟨s,c3,df⟩:=K6 l ah n i S M ag q g oZ;obtain⟨c1,c2,b8⟩:=TN l i n S g t oZ;obtain⟨f,a,g1,g2,g3,g4⟩:=TO l ah n u fr b p m (j+1) _ s df c1 c2 oZ c;refine⟨f,a,?_,g2,g3,λx=>?_⟩;.simp only[EB,go_sem,yT ((j:Int)<(fr.length:Int)),pw o,gq,c3,bk j,g1]
   rw[g4,b8,k4];simp only[xam,exists_eq_or_imp,or_assoc]
  have:j=fr.length:=oZ
  subst this;refine⟨M,S,?_,q,g,λx=>by simp⟩;simp only[EB,go_sem,yF ((fr.length:Int)<fr.length)]
def TP(l:List bd){B:Nat}(ah:fL B l)(n:Nat)(u:3*B+200<n)(fr:lX)(b:∀i∈fr,i<l.length)(p:fr.length<1000000000):∀(m j:Nat)(S:lX)(M:List (Value×D)),dX M S->gw l.length S->tz l S->fr.length-j<m->j<=fr.length-> ∃f a,aS (EC n) m [cn fr,aa fr.length,aa (j:Int),.mp M,fC (l.map λd=>cG l d.e)]=some (.inl [.mp f])/\dX f a/\gw l.length a/\∀x,x∈a↔x∈S\/∃i∈fr.drop j,∃k∈to l i,hL (to l) k x
 |0,_,_,_,_,_,_,h,_=>absurd h (xaF _)
 |m+1,j,S,M,q,g,t,hm,A=>by
  have r:=ah.len;rw[ic];by_cases c:j<fr.length
  .have o:=xaa c;generalize fr[j]=i at o;have ag:=b i (xad o);have k4:fr.drop j=i::fr.drop (j+1):=by
    obtain⟨y,z⟩:=lV.1 o;rw[xaV y,z]
   have w:=g.len;obtain⟨s,c3,df⟩:=K6 l ah n i S M ag q g oZ;obtain⟨c1,c2,b8⟩:=TN l i n S g t oZ;obtain⟨f,a,g1,g2,g3,g4⟩:=TP l ah n u fr b p m (j+1) _ s df c1 c2 oZ c;refine⟨f,a,?_,g2,g3,λx=>?_⟩;.simp only[EC,go_sem,yT ((j:Int)<(fr.length:Int)),pw o,gq,c3,bk j,g1]
   rw[g4,b8,k4];simp only[xam,exists_eq_or_imp,or_assoc]
  have:j=fr.length:=oZ
  subst this;refine⟨M,S,?_,q,g,λx=>by simp⟩;simp only[EC,go_sem,yF ((fr.length:Int)<fr.length)]
theorem Ld(l:List bd):c8 (ay l)=true:=rfl
theorem TQ(l:mZ):c8 (fC l)=true:=rfl
def dX.wV{M:List (Value×D)}{S:lX}(h:dX M S):True:=trivial
def ahJ(l:List bd){B:Nat}(ah:fL B l)(n:Nat)(g:3*B+200<n)(fr:lX)(b:∀i∈fr,i<l.length)(f:fr.length<n)(a:fr.length<1000000000): ∃M S,Aa n [fC (l.map λd=>cG l d.e),cn fr]=some [.mp M]/\dX M S/\∀x,x∈S↔∃i∈fr,∃k∈to l i,hL (to l) k x:=by have c:(aa ((0:Nat):Int))=aa 0:=rfl;obtain⟨M,S,g1,g2,g3,g4⟩:=TO l ah n g fr b a n 0 [] [] dX.nil ⟨by simp,by simp⟩ (by intro x h;cases h) oZ (xah _);refine⟨M,S,?_,g2,λx=>by rw[g4];simp⟩;rw[c]at g1;simp only[Aa,go_sem,TQ,oa,g1]
def ahK(l:List bd){B:Nat}(ah:fL B l)(n:Nat)(g:3*B+200<n)(fr:lX)(b:∀i∈fr,i<l.length)(f:fr.length<n)(a:fr.length<1000000000): ∃M S,vY n [fC (l.map λd=>cG l d.e),cn fr]=some (.mp M)/\dX M S/\∀x,x∈S↔∃i∈fr,∃k∈to l i,hL (to l) k x:=by have c:(aa ((0:Nat):Int))=aa 0:=rfl;obtain⟨M,S,g1,g2,g3,g4⟩:=TP l ah n g fr b a n 0 [] [] dX.nil ⟨by simp,by simp⟩ (by intro x h;cases h) oZ (xah _);refine⟨M,S,?_,g2,λx=>by rw[g4];simp⟩;rw[c]at g1;simp only[vY,Rq,go_sem,TQ,oa,g1]
def ahL(l:List bd){B:Nat}(ah:fL B l)(n:Nat)(b:3*B+200<n)(i:Nat)(ag:i<l.length): ∃M,vY n [fC (l.map λd=>cG l d.e),D.aw 1 [[aa (i:Int)]]]=some (.mp M)/\gU (.int .i64) (.bool false) false M (aa (i:Int))=some (aE (gL l i)):=by
 obtain⟨M,S,g1,g2,g3⟩:=ahK l ah n b [i] (by simpa using ag) uZ sZ;refine⟨M,g1,?_⟩;rw[g2.look (z:= .bool false)];have:(i∈S)↔gL l i=true:=by rw[g3,K4];simp
 congr 2
 by_cases h:i∈S;.rw[this.1 h];simp[h]
 have a:gL l i=false:=by cases ae:gL l i with|false=>rfl|true=>exact absurd (this.2 ae) h
 rw[a];simp[h]
def nA(l:List bd)(t:Tm):Bool:=(ij l (cG l t)).all λx=>!gL l x
def ahM(l:List bd)(t:Tm):nA l t=true↔wU l t:=by simp[nA,wU]
def ahN(n:Nat)(l:List bd){M:List (Value×D)}(w:FO M l)(N t:D)(m:List ByteArray)(a b c d e f g h:D)(ab:m.length<n)(ae:m.length<100000000):aS (v7 n) n [ay l,.mp M,N,cB m,aa m.length,aa 0,a,b,c,d,e,f,g,h,D.aw 1 []]=some (.inl [ay l,N,a,b,c,d,e,f,g,h,cn (m.filterMap (cw l))]):=by
 have A:(aa ((0:Nat):Int))=aa 0:=rfl;have B:cn []=D.aw 1 []:=rfl;have p:∀x,D.aw 1 (aF (cn x))=cn x:=λ_=>rfl;have q:=ch (f:=v7 n) m (λj (s:lX)=>[ay l,.mp M,N,cB m,aa m.length,aa (j:Int),a,b,c,d,e,f,g,h,cn s]) (λr s=>(.inl [ay l,N,a,b,c,d,e,f,g,h,cn (s++r.filterMap (cw l))]:lZ⊕D)) (λj s=>s.length<=j) ?_ ?_ n 0 [] sZ oZ (xah _)
 .rw[A,B]at q;simpa using q
 .intro s _;simp only[v7,go_sem,yF ((m.length:Int)<m.length),p,List.filterMap_nil,xat]
 intro j b' s F q aj;have y:=A5 F;have i:=uM w.1 (z:= .int .i64 0) (x:=b');rw[w.2]at i;left;cases o:cw l b' with
 |none=>rw[o]at i;simp only[xbE]at i;refine⟨s,?_,by simp[o],by omega⟩;simp only[v7,go_sem,yT ((j:Int)<(m.length:Int)),y,gq,jA,i,p,bk j]
 |some k=>
  rw[o]at i;simp only[xaI]at i;have u:b1 (s.length+1) 8=true:=eB;have C:D.aw 1 (aF (cn s)++[[aa (k:Int)]])=cn (s++[k]):=by simp[cn]
  have E:(aF (cn s)).length=s.length:=by simp[cn]
  refine⟨s++[k],?_,by simp[o],by simp;omega⟩;simp only[v7,go_sem,yT ((j:Int)<(m.length:Int)),y,gq,jA,i,p,C,E,xal,xaA,xav,u,bk j]
def TR(n:Nat)(fr:lX)(L N a b c d e f g h:D)(ae:fr.length<100000000):∀(m j:Nat)(S:lX)(M:List (Value×D)),dX M S->fr.length-j<m->j<=fr.length-> ∃l o,aS (ED n) m [L,N,cn fr,aa fr.length,aa (j:Int),a,b,c,d,e,f,g,h,.mp M]=some (.inl [L,N,a,b,c,d,e,f,g,h,.mp l])/\dX l o/\∀x,x∈o↔x∈S\/x∈fr.drop j
 |0,_,_,_,_,h,_=>absurd h (xaF _)
 |m+1,j,S,M,q,hm,y=>by
  rw[ic];by_cases k:j<fr.length
  .have p:=xaa k;generalize fr[j]=i at p;have k4:fr.drop j=i::fr.drop (j+1):=by
    obtain⟨u,w⟩:=lV.1 p;rw[xaV u,w]
   obtain⟨r,s,t⟩:=q.put i;obtain⟨l,o,g1,g2,g3⟩:=TR n fr L N a b c d e f g h ae m (j+1) _ r t oZ k;refine⟨l,o,?_,g2,λx=>?_⟩;.simp only[ED,go_sem,yT ((j:Int)<(fr.length:Int)),pw p,gq,s,bk j,g1]
   rw[g3,k4,xam];by_cases ag:i∈S
   .rw[xac ag];constructor
    .rintro(h|h);.exact .inl h
     exact .inr (.inr h)
    rintro(h|rfl|h);.exact .inl h
    .exact .inl ag
    exact .inr h
   rw[xab ag];simp only[xar,xcg,or_assoc]
  have:j=fr.length:=oZ
  subst this;refine⟨M,S,?_,q,λx=>by simp⟩;simp only[ED,go_sem,yF ((fr.length:Int)<fr.length)]
def ahO(n:Nat)(l:List bd){B:Nat}(ah:fL B l)(I:3*B+200<n){M:List (Value×D)}{S:lX}(H:dX M S)(a b c d e f g h:D):aS (sV n) n [ay l,fC (l.map λd=>cG l d.e),aa l.length,aa 0,a,b,c,d,e,f,g,h,.mp M]=some (if(List.range l.length).all (λi=>!(decide (i∈S)&&gL l i))then .inl [ay l,a,b,c,d,e,f,g,h]else .inr (.aB [T0.d,aa 14])):=by
 have C:=ah.len;have G:=ah.b;have E:(aa ((0:Nat):Int))=aa 0:=rfl;have m:D.agg [aa 0,aa 0,aD ⟨#[]⟩,D.val (.slice none 0 0)]=T0.d:=Df.symm;have o:=ch (f:=sV n) (List.range l.length) (λj (s:Unit)=>[ay l,fC (l.map λd=>cG l d.e),aa l.length,aa (j:Int),a,b,c,d,e,f,g,h,.mp M]) (λr s=>(if r.all (λi=>!(decide (i∈S)&&gL l i))then .inl [ay l,a,b,c,d,e,f,g,h]else .inr (.aB [T0.d,aa 14]):lZ⊕D)) (λj s=>True) ?_ ?_ n 0 () trivial uZ (xah _)
 .rw[E]at o;simpa using o
 .intro s _;rw[xbg];simp only[sV,go_sem,yF ((l.length:Int)<l.length),xcf]
 intro j b' s A o aj;rw[xbg]at o;have t:b'=j:=by rw[xbN o]at A;exact(xaX A).symm
 subst t;have k:=H.look (i:=b') (z:= .bool false);obtain⟨w,c3,df⟩:=ahL l ah n I b' o;have y:jA (D.mp w)=some w:=rfl;by_cases q:b'∈S
 .by_cases u:gL l b'=true;.right;rw[u]at df;simp only[sV,go_sem,yT ((b':Int)<(l.length:Int)),k,xao q,c3,y,df,m,xbc,u,xce]
  have p:gL l b'=false:=by simpa using u
  left;rw[p]at df;refine⟨(),?_,by simp only[xbc,p,Bool.and_false,xcc,xbm],trivial⟩;simp only[sV,go_sem,yT ((b':Int)<(l.length:Int)),k,xao q,c3,y,df,uL (bt:=false) (i:=b') oZ]
 left;refine⟨(),?_,by simp only[xbc,xax q,xce,xcc,xbm],trivial⟩;have F:∀(x:oX)(f:D->Option (lZ⊕(lZ⊕D))),af (cE (aE false) true x) (λv=>af (en (aE false) v (aE false)) f)=f (aE false):=λ_ _=>rfl;simp only[sV,go_sem,yT ((b':Int)<(l.length:Int)),k,xax q,F,uL (bt:=false) (i:=b') oZ]
inductive nB(C:Nat):Tm->Prop where
 |mk (o m:Int) (s:ByteArray) (b:Bool) (ks:List Tm) (ah:ks.length<=C) (Hk:∀k∈ks,nB C k):nB C (.mk o m s b ks)
def hM.ok{l:List bd}{B:Nat}(ah:fL B l):∀{h:Nat}{t X:Tm},hM l h t X->t.Ok->t.aP<=B->X.Ok/\nB B X
 |0,_,_,H,_,_=>H.elim
 |h+1,t,X,H,a,I=>by
  rcases H with⟨u,i,d,ag,x,w⟩|⟨C,ks,rfl,z,g⟩;.have f:=ah.e d (xad x);exact w.ok ah f.1 f.2
  have key:∀k∈ks,k.Ok/\nB B k:=by intro k c;obtain⟨j,p⟩:=xaJ.1 c;have y:=(lV.1 p).1;have m:t.aC[j]?=some (t.aC[j]'oZ):=xaa oZ;have r:=xad m;have J:=Tm.gg r;exact(g j _ k m p).ok ah (a.dj r) oZ
  have D:=t.iz;have q:=a.len;obtain⟨E,F,G⟩:(-9223372036854775808<=t.op/\t.op<=9223372036854775807)/\(-9223372036854775808<=t.num/\t.num<=9223372036854775807)/\t.name.size<=140737488355328:=by cases a with|mk o n s b ks u A aj ah c=>exact⟨u,A,aj⟩
  exact⟨.mk _ _ _ _ _ E F G oZ λk c=>(key k c).1,.mk _ _ _ _ _ oZ λk c=>(key k c).2⟩
def nB.dj{C:Nat}{t k:Tm}(h:nB C t)(c:k∈t.aC):nB C k:=by cases h with|mk o m s b ks ah a=>exact a k c
def nB.len{C:Nat}{t:Tm}(h:nB C t):t.aC.length<=C:=by cases h;assumption
theorem Tm.tA(t:Tm):t.aP=2+Tm.cS t.aC:=by cases t;rw[Tm.aP];rfl
def ahP(C:Nat)(X:Tm):∀(deep n:Int),X.Ok->nB C X->(dt X deep n).1.Ok/\((dt X deep n).1.aP:Int)<=(2+3*(C:Int))*((dt X deep n).2-n):=by
 refine Tm.ind (P:=λX=>∀(deep n:Int),X.Ok->nB C X->(dt X deep n).1.Ok/\((dt X deep n).1.aP:Int)<=(2+3*(C:Int))*((dt X deep n).2-n)) ?_ X;intro t ih deep n d i;generalize z:(2+3*(C:Int))=K at*;have key:∀(ks:List Tm),(∀k∈ks,∀(deep n:Int),(dt k deep n).1.Ok/\((dt k deep n).1.aP:Int)<=K*((dt k deep n).2-n))->∀(n:Int),(∀k∈(ep ks deep n).1,k.Ok)/\(Tm.cS (ep ks deep n).1:Int)<=K*((ep ks deep n).2-n)+3*(ks.length:Int):=by
  intro ks
  induction ks with
  |nil=>intro _ n;simp[ep,Tm.cS]
  |cons a r f=>
   intro h n;have ab:=h a sZ (deep+1) n;rw[ep];split
   .have ae:=f (λk c=>h k (by simp[c])) (dt a (deep+1) n).2;refine⟨?_,?_⟩
    .intro k c;rcases xam.1 c with rfl|c
     .exact ab.1
     exact ae.1 k c
    have e:K*((ep r deep (dt a (deep+1) n).2).2-n)=K*((dt a (deep+1) n).2-n)+K*((ep r deep (dt a (deep+1) n).2).2-(dt a (deep+1) n).2):=by rw[<-Int.mul_add];congr 1;omega
    simp only[Tm.cS,xal];rw[e];omega
   have ae:=f (λk c=>h k (by simp[c])) n;refine⟨?_,?_⟩
   .intro k c;rcases xam.1 c with rfl|c
    .exact uP
    exact ae.1 k c
   have e:T0.aP=2:=rfl;simp only[Tm.cS,xal,e];omega
 rw[Lc];split
 .rename_i m;have:t.aC=[]:=by simpa using m
  have j:t.aP=2:=by rw[Tm.tA,this];rfl
  refine⟨d,?_⟩;simp only[j];have l:K*(n+1-n)=K:=by rw[show n+1-n=(1:Int) by omega];exact Int.mul_one K
  rw[l];omega
 obtain⟨bS,cy⟩:=key t.aC (λk c deep n=>ih k c deep n (d.dj c) (i.dj c)) (n+1);have g:=d.len;have u:=i.len;obtain⟨w,x,y⟩:(-9223372036854775808<=t.op/\t.op<=9223372036854775807)/\(-9223372036854775808<=t.num/\t.num<=9223372036854775807)/\t.name.size<=140737488355328:=by cases d with|mk o n s b ks q p aj ah c=>exact⟨q,p,aj⟩
 refine⟨.mk _ _ _ _ _ w x y (by rw[FT];omega) bS,?_⟩;rw[Tm.tA];have e:K*((ep t.aC deep (n+1)).2-n)=K+K*((ep t.aC deep (n+1)).2-(n+1)):=by
  have:(ep t.aC deep (n+1)).2-n=1+((ep t.aC deep (n+1)).2-(n+1)):=oZ
  rw[this,Int.mul_add,Int.mul_one]
 show((2+Tm.cS (ep t.aC deep (n+1)).1:Nat):Int)<=_;rw[e];omega
def TS{l:List bd}{B h:Nat}(ah:fL B l){t X:Tm}(H:hM l h t X)(a:t.Ok)(d:t.aP<=B):(dt X 1 0).1.Ok/\(dt X 1 0).1.aP<=8194+12291*B:=by obtain⟨ab,ae⟩:=H.ok ah a d;obtain⟨ai,e⟩:=ahP B X 1 0 ab ae;refine⟨ai,?_⟩;have b:=TJ X 1 0;have c:=b.2 oZ;have f:(2+3*(B:Int))*((dt X 1 0).2-0)<=(2+3*(B:Int))*4097:=Int.mul_le_mul_of_nonneg_left oZ oZ;omega
def ahQ{l:List bd}{B:Nat}(ah:fL B l)(n h:Nat)(t X:Tm)(H:hM l h t X)(a:t.Ok)(g:t.aP<=B)(j:h+2*B+200<n):Ad n [t.d,ay l]=some (dt X 1 0).1.d:=by have c:=ah.len;have e:=ah.b;obtain⟨M,m1,m2⟩:=K2 n l oZ oZ;have f:=TM ah m2 n h t X 1 0 H a g oZ oZ oZ oZ oZ;have i:c8 (D.mp M)=true:=rfl;simp only[Ad,Rr,go_sem,Ld,m1,i,f]
def Le{l:List bd}{B:Nat}(ah:fL B l)(n:Nat)(t:Tm)(f:t.Ok)(K:t.aP<=B)(W:20000*B+20000<n):((cq t 1 0).1≠0->k1 n [t.d,ay l]=some (.aB [T0.d,aa (cq t 1 0).1]))/\((cq t 1 0).1=0->nA l t=false->k1 n [t.d,ay l]=some (.aB [T0.d,aa 14]))/\(∀h X,(cq t 1 0).1=0->nA l t=true->hM l h t X->h+2*B+200<n->k1 n [t.d,ay l]=some (.aB [if(cq (dt X 1 0).1 1 0).1=0 then(dt X 1 0).1.d else T0.d,aa (cq (dt X 1 0).1 1 0).1])):=by
 have J:=ah.len;have Q:=ah.b;have c:D.agg [aa 0,aa 0,aD ⟨#[]⟩,D.val (.slice none 0 0)]=T0.d:=Df.symm;have s:=FK n t oZ f;obtain⟨M,m1,m2⟩:=K2 n l oZ oZ;have y:=ahz n l ah oZ;have z:=FM n t oZ f oZ;have S:=wR t;have r:=ahN n l m2 (fC (l.map λd=>cG l d.e)) T0.d (eh 3 t []) (aa t.op) (aa t.num) (aD t.name) (bJ 4 t.nl (Tm.rows t.aC)) (aa 0) (aa 0) (aD ⟨#[]⟩) cg oZ oZ;have P:(eh 3 t []).filterMap (cw l)=cG l t:=rfl;rw[P]at r;have R:=FP l t;obtain⟨L,N,c3,df,T⟩:=ahJ l ah n oZ (cG l t) kd oZ oZ;obtain⟨V,G,s1,s2,U⟩:=TR n (cG l t) (ay l) (fC (l.map λd=>cG l d.e)) (aa t.op) (aa t.num) (aD t.name) (bJ 4 t.nl (Tm.rows t.aC)) (aa 0) (aa 0) (aD ⟨#[]⟩) cg oZ n 0 N L df oZ (xah _);have p:∀x,x∈G↔x∈ij l (cG l t):=by
  intro x;rw[U,T,pV l _ kd,xak];constructor
  .rintro(⟨i,ag,k,A,g⟩|h);.exact⟨i,ag,.step i k x A g⟩
   exact⟨x,h,.refl x⟩
  rintro⟨i,ag,g⟩;cases g with|refl=>exact .inr ag|step _ k _ A g=>exact .inl ⟨i,ag,k,A,g⟩
 have a:=ahO n l ah oZ s2 (aa t.op) (aa t.num) (aD t.name) (bJ 4 t.nl (Tm.rows t.aC)) (aa 0) (aa 0) (aD ⟨#[]⟩) cg;have q:(List.range l.length).all (λi=>!(decide (i∈G)&&gL l i))=nA l t:=by
  rw[Bool.eq_iff_iff];simp only[nA,xay,xbU,xcr,Bool.and_eq_false_imp,xaC];constructor;.intro h x E;exact h x ((ri l _ kd).inv.2 x E) ((p x).2 E)
  intro h x E F;exact h x ((p x).1 F)
 rw[q]at a;have O:(aa ((0:Nat):Int))=aa 0:=rfl;rw[O]at s1;have w:∀x,D.aw 1 (aF (cn x))=cn x:=λ_=>rfl;have j:((0:Int) !=0)=false:=rfl;have u:∀x,(aF (cn x)).length=x.length:=λx=>by simp[cn]
 refine⟨λak=>?_,λak g=>?_,λh X ak g H C=>?_⟩
 .have m:((cq t 1 0).1 !=0)=true:=by simpa using ak
  simp only[k1,Ae,go_sem,s,m,c]
 .rw[g]at a;simp only[xaq,xaG]at a;simp only[k1,Ae,go_sem,s,ak,j,m1,y,z,A6,r,w,u,c3,s1,a]
 rw[g]at a;simp only[xaD]at a;have I:=ahQ ah n h t X H f K C;obtain⟨f1,f2⟩:=TS ah H f K;have o:=FK n (dt X 1 0).1 oZ f1;by_cases ai:(cq (dt X 1 0).1 1 0).1=0
 .rw[ai]at o;simp only[k1,Ae,go_sem,s,ak,j,m1,y,z,A6,r,w,u,c3,s1,a,I,o,ai]
 have m:((cq (dt X 1 0).1 1 0).1 !=0)=true:=by simpa using ai
 simp only[k1,Ae,go_sem,s,ak,j,m1,y,z,A6,r,w,u,c3,s1,a,I,o,ai,m,c]
def Lf{l:List bd}{B:Nat}(ah:fL B l)(n:Nat)(t:Tm)(p:t.Ok)(K:t.aP<=B)(R:20000*B+20000<n):((cq t 1 0).1≠0->k0 n [t.d,ay l]=some (.aB [T0.d,aa (cq t 1 0).1]))/\((cq t 1 0).1=0->nA l t=false->k0 n [t.d,ay l]=some (.aB [T0.d,aa 14]))/\(∀h X,(cq t 1 0).1=0->nA l t=true->hM l h t X->h+2*B+200<n->k0 n [t.d,ay l]=some (.aB [if(cq X 1 0).1=0 then(eA X).d else T0.d,aa (cq X 1 0).1])):=by
 have J:=ah.len;have M:=ah.b;have e:D.agg [aa 0,aa 0,aD ⟨#[]⟩,D.val (.slice none 0 0)]=T0.d:=Df.symm;have w:=KX n t oZ p;have P:=FP l t;have y:=K5 l ah n t [] cg (.inr ⟨rfl,rfl⟩) p K ⟨by simp,by simp⟩ uZ;have F:fA (to l) n (cG l t) []=ij l (cG l t):=K3 (λi k O=>iB i k O) n _ (cG l t) [] ⟨by simp,by simp⟩ kd uZ sZ;rw[F]at y;have u:=ri l (cG l t) kd;have N:=u.inv.len;have L:(aa ((0:Nat):Int))=aa 0:=rfl;have o:((0:Int) !=0)=false:=rfl;generalize E:ij l (cG l t)=C at*;have c:dL (ik [] cg C)=some (aa C.length):=by
  unfold ik;split;.rename_i h;rw[h];rfl
  exact oa C
 have j:∀(i x:Nat),C[i]?=some x->bc 1 (ik [] cg C) (aa (i:Int))=some [aa (x:Int)]:=by
  intro i x q;unfold ik;split;.rename_i h;have:C=[]:=xaO h;subst this;simp at q
  exact pw q
 have a:=ch (f:=zh n) C (λi (s:Unit)=>[ay l,ik [] cg C,aa (i:Int),aa t.op,aa t.num,aD t.name,bJ 4 t.nl (Tm.rows t.aC),aa 0,aa 0,aD ⟨#[]⟩,cg]) (λr s=>(if r.all (λx=>!gL l x)then .inl [ay l,aa t.op,aa t.num,aD t.name,bJ 4 t.nl (Tm.rows t.aC),aa 0,aa 0,aD ⟨#[]⟩,cg]else .inr (.aB [T0.d,aa 14]):lZ⊕D)) (λi s=>True) ?_ ?_ n 0 () trivial oZ (xah _)
 .rw[L,xak]at a;have G:C.all (λx=>!gL l x)=nA l t:=by rw[nA,E]
  rw[G]at a;refine⟨λak=>?_,λak m=>?_,λh X ak m H Q=>?_⟩
  .have A:((cq t 1 0).1 !=0)=true:=by simpa using ak
   simp only[k0,zi,go_sem,w,A,e]
  .rw[m]at a;simp only[xaq,xaG]at a;simp only[k0,zi,go_sem,w,ak,o,y,a]
  rw[m]at a;simp only[xaD]at a;have z:=Lb ah h n t X 1 0 H p K oZ oZ oZ oZ oZ;by_cases ai:(cq X 1 0).1=0
  .simp only[ai,xaD]at z;simp only[k0,zi,go_sem,w,ak,o,y,a,z,ai]
  simp only[ai,xaG]at z;simp only[k0,zi,go_sem,w,ak,o,y,a,z,ai]
 .intro s _;simp only[zh,go_sem,c,yF ((C.length:Int)<C.length),xcf]
 intro i x s q ag aj;have I:=xad q;have m:=ahA l ah n x (u.inv.2 x I) oZ;cases g:gL l x with
 |true=>right;rw[g]at m;simp only[zh,go_sem,c,yT ((i:Int)<(C.length:Int)),j i x q,gq,m,e,xbc,g,xce]
 |false=>left;rw[g]at m;refine⟨(),?_,by simp only[xbc,g,xcc,xbm],trivial⟩;simp only[zh,go_sem,c,yT ((i:Int)<(C.length:Int)),j i x q,gq,m,bk i]
mutual
def h4:Tm->Tm
 | .mk o m s b ks=> .mk o m s (b&&ks.isEmpty) (rl ks)
def rl:List Tm->List Tm
 |[]=>[]|k::r=>h4 k::rl r
end
def TT:∀l:List Tm,rl l=l.map h4
 |[]=>rfl|k::r=>by rw[rl,TT r];rfl
theorem A7(t:Tm):h4 t= .mk t.op t.num t.name (t.nl&&t.aC.isEmpty) (t.aC.map h4):=by cases t;rw[h4,TT];rfl
mutual
def TU:∀(X:Tm)(deep n:Int),n<=4096->(cq X deep n).1=0->(dt X deep n).1=h4 X
 | .mk o m s b ks,deep,n,a=>by
  intro h;rw[dt,h4];cases ks with
  |nil=>simp[rl]
  |cons k r=>
   simp only[List.isEmpty_cons,xaq,xaG,Bool.and_false];rw[cq]at h;by_cases ab:deep>64;.rw[xac ab]at h;cases h
   rw[xab ab]at h;by_cases ae:fS (.mk o m s b (k::r))≠0;.rw[xac ae]at h;exact absurd h ae
   rw[xab ae]at h;by_cases ai:n+1>4096;.rw[xac ai]at h;cases h
   rw[xab ai]at h;rw[TV (k::r) deep (n+1) oZ oZ h]
def TV:∀(ks:List Tm)(deep n:Int),deep<=64->n<=4096->(dI ks (deep+1) n).1=0->(ep ks deep n).1=rl ks
 |[],deep,n,_,_=>by simp[ep,rl]
 |k::r,deep,n,c,a=>by
  intro h;rw[ep,xac ⟨c,a⟩,rl];rw[dI]at h;obtain⟨g1,g2⟩:=K9 k (deep+1) n a;by_cases ak:(cq k (deep+1) n).1=0;.simp only[ak,ne_eq,xbP,xaG]at h;obtain⟨e,f,g⟩:=g2 ak;have d:=(wQ k (deep+1) n).2 ak;rw[e]at h d;rw[TU k (deep+1) n a ak,TV r deep _ c d h]
  simp only[ne_eq,ak,xcs,xaD]at h
end
def Lg(t:Tm):(h4 t).aP=t.aP:=by
 refine Tm.ind (P:=λt=>(h4 t).aP=t.aP) ?_ t;intro t ih;have key:∀l:List Tm,(∀k∈l,(h4 k).aP=k.aP)->Tm.cS (l.map h4)=Tm.cS l:=by
  intro l
  induction l with
  |nil=>intro _;rfl
  |cons a r b=>intro h;simp only[xaw,Tm.cS];rw[h a sZ,b λk c=>h k (by simp[c])]
 rw[Tm.tA,Tm.tA t,A7];show 2+Tm.cS (t.aC.map h4)=_;rw[key _ ih]
def TW:∀(ks:List Tm),(∀k∈ks,∀(deep n:Int),(cq k deep n).1=0->(k.aP:Int)+1<=3*((cq k deep n).2-n))->∀(deep n:Int),(dI ks deep n).1=0->(Tm.cS ks:Int)<=3*((dI ks deep n).2-n)
 |[],_,deep,n,_=>by simp[dI,Tm.cS]
 |k::r,b,deep,n,h=>by
  rw[dI]at h⊢;by_cases ak:(cq k deep n).1=0;.simp only[ak,ne_eq,xbP,xaG]at h⊢;have ab:=b k sZ deep n ak;have ae:=TW r (λk a=>b k (by simp[a])) deep _ h;simp only[Tm.cS];omega
  simp only[ne_eq,ak,xcs,xaD]at h
def ahR(t:Tm):∀(deep n:Int),(cq t deep n).1=0->(t.aP:Int)+1<=3*((cq t deep n).2-n):=by
 refine Tm.ind (P:=λt=>∀(deep n:Int),(cq t deep n).1=0->(t.aP:Int)+1<=3*((cq t deep n).2-n)) ?_ t;intro t ih deep n h;rw[pS]at h⊢;by_cases ab:deep>64;.rw[xac ab]at h;cases h
 rw[xab ab]at h⊢;by_cases ae:fS t≠0;.rw[xac ae]at h;exact absurd h ae
 rw[xab ae]at h⊢;by_cases ai:n+1>4096;.rw[xac ai]at h;cases h
 rw[xab ai]at h⊢;have:=TW t.aC ih (deep+1) (n+1) h;rw[Tm.tA];omega
def gM(op:Int):Int:=if op=1 then 0 else if op=3\/op=4\/op=5\/op=9\/op=13 then 2 else if op=2\/op=6\/op=7\/op=8\/op=10\/op=11\/op=12 then 1 else-1
def ahS(n:Nat)(op:Int):Ex n [aa op]=some (aa (gM op)):=by
 rcases Db op with rfl|rfl|rfl|rfl|rfl|rfl|rfl|rfl|rfl|rfl|rfl|rfl|rfl|rfl|rfl|rfl|rfl|rfl|h
 case inr.inr.inr.inr.inr.inr.inr.inr.inr.inr.inr.inr.inr.inr.inr.inr.inr.inr=>
  have e:∀k:Int,1<=k->k<=18->(op==k)=false:=λk ab ae=>by simp;omega
  have a:gM op=-1:=by unfold gM;repeat(first|rw[xab oZ]|rw[xac oZ])
  simp[Ex,Rm,e,a]
 all_goals rfl
def ahT(n:Nat)(op:Int):zq n [aa op]=some (aa (gM op)):=by
 rcases Db op with rfl|rfl|rfl|rfl|rfl|rfl|rfl|rfl|rfl|rfl|rfl|rfl|rfl|rfl|rfl|rfl|rfl|rfl|h
 case inr.inr.inr.inr.inr.inr.inr.inr.inr.inr.inr.inr.inr.inr.inr.inr.inr.inr=>
  have e:∀k:Int,1<=k->k<=18->(op==k)=false:=λk ab ae=>by simp;omega
  have a:gM op=-1:=by unfold gM;repeat(first|rw[xab oZ]|rw[xac oZ])
  simp[zq,QW,e,a]
 all_goals rfl
def wW(t:Tm):Int:=if(cq t 1 0).1≠0 then(cq t 1 0).1 else if 0<(eh 4 t []).length then 24 else 0
def pW(t:Tm):Bool:=t.op==0&&(t.num==0&&(decide (t.name=⟨#[]⟩)&&decide (t.aC.length=0)))
def il(f:Fm):Int:=if gM f.op<0 then 11 else if f.op=1/\wW f.e≠0 then wW f.e
 else if(f.aC.length:Int)≠gM f.op\/(f.op≠1/\pW f.e=false)then 3 else 0
def ahU(n:Nat)(f:Fm)(j:2*f.e.aP+40<n)(a:f.Ok)(i:f.e.aP<100000000):vX n [f.d]=some (aa (if f.op≠1 then 0 else wW f.e)):=by
 have ab:=FK n f.e oZ a.e;have ae:=FM n f.e oZ a.e i;by_cases b:f.op=1
 case neg=>simp[vX,Ew,b]
 unfold wW;by_cases c:(cq f.e 1 0).1=0
 .have g:dL (cB (eh 4 f.e []))=some (aa (eh 4 f.e []).length):=by simp[cB]
  by_cases h:0<(eh 4 f.e []).length<;>simp[vX,Ew,b,ab,c,ae,g,h]
 simp[vX,Ew,b,ab,c]
def ahV(n:Nat)(t:Tm):D9 n [t.d]=some (aE (pW t)):=by unfold pW;simp[D9,QX];by_cases ab:t.op=0<;>by_cases ae:t.num=0<;>by_cases ai:t.name=⟨#[]⟩<;>by_cases a:t.aC=[]<;>simp[ab,ae,ai,a]
def ahW(n:Nat)(f:Fm)(o:2*f.e.aP+40<n)(c:f.Ok)(m:f.e.aP<100000000):qZ n [f.d]=some (aa (il f)):=by
 have ab:=KX n f.e oZ c.e;have ae:=K0 n f.e oZ c.e oZ;have a:=ahT n f.op;have k:=ahV n f.e;have i:dL (hK true (eh 4 f.e []))=some (aa (eh 4 f.e []).length):=ky _ _;unfold il;by_cases ak:gM f.op<0
 .simp[qZ,vD,a,ak]
 by_cases b:f.op=1
 .unfold wW;have bS:gM 1=0:=rfl;rw[b,bS]at a;by_cases h:(cq f.e 1 0).1=0
  .by_cases j:0<(eh 4 f.e []).length;.simp[qZ,vD,a,b,ab,h,ae,i,j,bS]
   simp[qZ,vD,a,b,ab,h,ae,i,j,bS];by_cases g:f.aC=[]<;>simp[g]
  simp[qZ,vD,a,b,ab,h,bS]
 simp[qZ,vD,a,ak,b,k];by_cases g:(f.aC.length:Int)=gM f.op;.cases l:pW f.e<;>simp[g]
 simp[g]
mutual
def fF:Fm->Int->Int->Int×Int
 | .mk o t b ks,deep,k=>if deep>64 then(17,k+1)else if il (.mk o t b ks)≠0 then(il (.mk o t b ks),k+1)else if k+1>4096 then(4,k+1)else hq ks (deep+1) (k+1)
def hq:List Fm->Int->Int->Int×Int
 |[],_,k=>(0,k)|t::r,deep,k=>if(fF t deep k).1≠0 then fF t deep k else hq r deep (fF t deep k).2
end
theorem wX(t:Fm)(deep k:Int):fF t deep k=if deep>64 then(17,k+1)else if il t≠0 then(il t,k+1)else if k+1>4096 then(4,k+1)else hq t.aC (deep+1) (k+1):=by cases t;rw[fF];rfl
mutual
def iT:Fm->Int->Int->Int×Int
 | .mk o t b ks,deep,k=>if deep>64 then(17,k)else if il (.mk o t b ks)≠0 then(il (.mk o t b ks),k)else if k+1>4096 then(4,k+1)else kA ks (deep+1) (k+1)
def kA:List Fm->Int->Int->Int×Int
 |[],_,k=>(0,k)|t::r,deep,k=>if(iT t deep k).1≠0 then iT t deep k else kA r deep (iT t deep k).2
end
theorem TX(t:Fm)(deep k:Int):iT t deep k=if deep>64 then(17,k)else if il t≠0 then(il t,k)else if k+1>4096 then(4,k+1)else kA t.aC (deep+1) (k+1):=by cases t;rw[iT];rfl
def TY(t:Fm):∀deep k,(iT t deep k).1=(fF t deep k).1/\((iT t deep k).1=0->(iT t deep k).2=(fF t deep k).2):=by
 refine Fm.ind (P:=λt=>∀deep k,(iT t deep k).1=(fF t deep k).1/\((iT t deep k).1=0->(iT t deep k).2=(fF t deep k).2)) ?_ t;intro t ih deep k;rw[TX,wX];split;.simp
 split;.rename_i h;simp[h]
 split;.simp
 have key:∀(l:List Fm),(∀x∈l,∀deep k,(iT x deep k).1=(fF x deep k).1/\((iT x deep k).1=0->(iT x deep k).2=(fF x deep k).2))->∀deep k,(kA l deep k).1=(hq l deep k).1/\((kA l deep k).1=0->(kA l deep k).2=(hq l deep k).2):=by
  intro l
  induction l with
  |nil=>intro _ deep k;simp[kA,hq]
  |cons a r b=>
   intro h deep k;rw[kA,hq];have ab:=h a sZ deep k;by_cases ae:(fF a deep k).1=0
   .have ai:=ab.1.trans ae;have c:=ab.2 ai;simp only[ae,ai,ne_eq,xbP,xaG,c];exact b (λx d=>h x (by simp[d])) deep _
   have ai:(iT a deep k).1≠0:=by rw[ab.1];exact ae
   simp only[ne_eq,ae,ai,xcs,xaD];exact⟨ab.1,λh=>h.elim⟩
 exact key t.aC ih _ _
def TZ(t:Fm):∀(deep k:Int),k+1<=(fF t deep k).2/\((fF t deep k).1=0->(fF t deep k).2<=4096):=by
 refine Fm.ind (P:=λt=>∀(deep k:Int),k+1<=(fF t deep k).2/\((fF t deep k).1=0->(fF t deep k).2<=4096)) ?_ t;intro t ih deep k;rw[wX];split;.simp
 split;.rename_i h;simp[h]
 split;.simp
 have key:∀(l:List Fm)(deep k:Int),(∀x∈l,∀(deep k:Int),k+1<=(fF x deep k).2/\((fF x deep k).1=0->(fF x deep k).2<=4096))->k<=4096->k<=(hq l deep k).2/\((hq l deep k).1=0->(hq l deep k).2<=4096):=by
  intro l
  induction l with
  |nil=>intro deep k _ h;simp[hq,h]
  |cons a r b=>
   intro deep k h d;rw[hq];have ab:=h a sZ deep k;split
   .rename_i ae;exact⟨by omega,λai=>absurd ai ae⟩
   rename_i ae;simp only[ne_eq,Decidable.not_not]at ae;have ai:=b deep (fF a deep k).2 (λx c=>h x (by simp[c])) (ab.2 ae);exact⟨by omega,ai.2⟩
 exact key t.aC (deep+1) (k+1) ih oZ
def T1:∀(n:Nat)(t:Fm)(deep k:Int),2*t.aP+40<n->t.Ok->t.aP<100000000->0<=deep->deep<=65->0<=k->k<=4096->pF n [t.d,aa deep,aa k]=some (.aB [aa (iT t deep k).1,aa (iT t deep k).2])
 |0,t,_,_,h,_,_,_,_,_,_=>absurd h (xaF _)
 |n+1,t,deep,k,E,b,C,ab,ae,ai,A=>by
  have z:=t.su;have x:=ahW n t oZ b oZ;rw[TX];simp[pF,J3,iP k,x];by_cases m:64<deep
  .simp[m]
  simp[m];by_cases q:il t=0
  case neg=>simp[q]
  simp[q];by_cases l:4096<k+1;.simp[l]
  simp[l];have ah:=ch (f:=Ea (pF n) n) t.aC (λi s=>[aa deep,aa s,aa (i:Int),aa t.op,aa t.e.op,aa t.e.num,aD t.e.name,bJ 4 t.e.nl (Tm.rows t.e.aC),bJ 6 t.nl (Fm.rows t.aC)]) (λr (s:Int)=>if(kA r (deep+1) s).1=0 then(Sum.inl [aa (kA r (deep+1) s).2]:lZ⊕D)else .inr (.aB [aa (kA r (deep+1) s).1,aa (kA r (deep+1) s).2])) (λi s=>0<=s/\s<=4096) ?_ ?_ n 0 (k+1) ⟨by omega,by omega⟩ (by have:=t.iz;omega) (xah _)
  .have u:(aa ((0:Nat):Int))=aa 0:=rfl;rw[u]at ah;rw[ah];simp only[xak,cL];by_cases ak:(kA t.aC (deep+1) (k+1)).1=0;.simp[ak]
   simp[ak]
  .intro s aj;simp[Ea,kA]
  intro i a s j ag aj;have p:=xad j;have F:=Fm.gg p;have o:=b.len;have y:=T1 n a (deep+1) s oZ (b.dj p) oZ oZ oZ aj.1 aj.2;have g:=TZ a (deep+1) s;have c:=TY a (deep+1) s;simp[Ea,ag,Fm.eO j,iP deep,y,bk i,kA];by_cases ak:(iT a (deep+1) s).1=0
  .left;simp only[ak];have w:=c.2 ak;have B:=c.1▸ak;refine⟨(iT a (deep+1) s).2,by simp,by simp,by omega,by rw[w];exact g.2 (by rw[<-c.1];exact ak)⟩
  right;simp[ak]
def gN(f:Fm):Int:=(fF f 1 0).1
def Lh(n:Nat)(f:Fm)(c:2*f.aP+50<n)(a:f.Ok)(b:f.aP<100000000):zr n [f.d]=some (aa (gN f)):=by have:=T1 n f 1 0 oZ a b oZ oZ oZ oZ;have e:=(TY f 1 0).1;simp[zr,QY,this,e,gN]
def ahX(n:Nat)(f:Fm)(deep k w:Int)(q:2*f.aP+40<n)(c:f.Ok)(p:f.aP<100000000)(ab:0<=k)(ae:k<=4096):∃e,e=(if deep>64 then 17 else if il f≠0 then il f else if k+1>4096 then 4 else w)/\zZ n [f.d,aa deep,aa k,aa w]=some [aE (decide (e=0)),aa (k+1),aa e]:=by
 refine⟨_,rfl,?_⟩;have o:=f.su;have m:=ahU n f oZ c oZ;have l:=ahS n f.op;have g:dL (bJ 6 f.nl (Fm.rows f.aC))=some (aa f.aC.length):=sZ
 have a:(f.e.op==0&&(f.e.num==0&&(decide (f.e.name=⟨#[]⟩)&&decide (f.e.aC.length=0))))=pW f.e:=rfl;have b:((f.e.aC.length:Int)==0)=decide (f.e.aC.length=0):=by by_cases h:f.e.aC.length=0<;>simp[h]
 unfold il;simp only[zZ,go_sem,Tm.qN,iP k,m,l,b,Bool.and_assoc,a];have i:(w==0)=decide (w=0):=by by_cases h:w=0<;>simp[h]
 generalize pW f.e=j;by_cases c1:64<deep;.simp[c1]
 by_cases c2:gM f.op<0;.simp[c1,c2]
 by_cases b8:f.op=1
 .have bS:gM 1=0:=rfl;by_cases eZ:wW f.e=0;.by_cases jl:f.aC=[]<;>by_cases jm:4096<k+1<;>simp[c1,b8,eZ,jl,jm,bS,i]
  simp[c1,b8,eZ,bS]
 by_cases jl:(f.aC.length:Int)=gM f.op<;>by_cases jm:4096<k+1<;>cases j<;>simp[c1,c2,b8,jl,jm,i]
def T2:∀(n:Nat)(t:Fm)(deep k:Int),2*t.aP+45<n->t.Ok->t.aP<100000000->0<=deep->deep<=65->0<=k->k<=4096->pK n [t.d,aa deep,aa k,aa 0]=some [aE (decide ((fF t deep k).1=0)),aa (fF t deep k).2,aa (fF t deep k).1]
 |0,t,_,_,h,_,_,_,_,_,_=>absurd h (xaF _)
 |n+1,t,deep,k,z,b,q,ab,ae,ai,p=>by
  obtain⟨e,y,w⟩:=ahX n t deep k 0 oZ b q ai p;rw[wX];simp only[pK,Kk,go_sem,w];by_cases c:e=0
  case neg=>simp[c];grind
  have u:¬deep>64/\il t=0/\¬k+1>4096:=by grind
  simp[c,u];have ah:=ch (f:=Ey (pK n) n) t.aC (λi (s:Int)=>[aa deep,bJ 6 t.nl (Fm.rows t.aC),aa t.aC.length,aa (i:Int),aa s,aa 0]) (λr (s:Int)=>if(hq r (deep+1) s).1=0 then(Sum.inl [aa (hq r (deep+1) s).2,aa 0]:lZ⊕lZ)else .inr [aE false,aa (hq r (deep+1) s).2,aa (hq r (deep+1) s).1]) (λi s=>0<=s/\s<=4096) ?_ ?_ n 0 (k+1) ⟨by omega,by omega⟩ (by have:=t.iz;omega) (xah _)
  .have o:(aa ((0:Nat):Int))=aa 0:=rfl;rw[o]at ah;rw[ah];simp only[xak,cL];by_cases ak:(hq t.aC (deep+1) (k+1)).1=0;.simp[ak]
   simp[ak]
  .intro s aj;simp[Ey,hq]
  intro i a s j ag aj;have m:=xad j;have A:=Fm.gg m;have l:=b.len;have x:=T2 n a (deep+1) s oZ (b.dj m) oZ oZ oZ aj.1 aj.2;have g:=TZ a (deep+1) s;simp[Ey,ag,Fm.eO j,iP deep,x,bk i,hq];by_cases ak:(fF a (deep+1) s).1=0
  .left;exact⟨(fF a (deep+1) s).2,by simp[ak],by simp[ak],by omega,g.2 ak⟩
  right;simp[ak]
def FV(n:Nat)(f:Fm)(c:2*f.aP+50<n)(a:f.Ok)(b:f.aP<100000000):pL n [f.d]=some (aa (gN f)):=by have:=T2 n f 1 0 oZ a b oZ oZ oZ oZ;simp[pL,Rn,this,gN]
def kB(t:Fm):Prop:=∃deep k,(fF t deep k).1=0
def kB.one{t:Fm}(h:kB t):il t=0:=by
 obtain⟨d,k,h⟩:=h;rw[wX]at h;split at h;.cases h
 split at h;.rename_i ae;exact absurd h ae
 rename_i ae;simpa using ae
def ahY{l:List Fm}{d k:Int}(h:(hq l d k).1=0):∀x∈l,kB x:=by
 induction l generalizing k with
 |nil=>intro x b;cases b
 |cons a r ih=>
  intro x b;rw[hq]at h;by_cases ae:(fF a d k).1=0
  .simp only[ae,ne_eq,xbP,xaG]at h;rcases xam.1 b with rfl|b
   .exact⟨d,k,ae⟩
   exact ih h x b
  simp only[ne_eq,ae,xcs,xaD]at h
def kB.dj{t k:Fm}(h:kB t)(a:k∈t.aC):kB k:=by
 obtain⟨d,n,h⟩:=h;rw[wX]at h;split at h;.cases h
 split at h;.rename_i ae;exact absurd h ae
 split at h;.cases h
 exact ahY h k a
def Li{op:Int}(h:¬gM op<0):op=1\/op=2\/op=3\/op=4\/op=5\/op=6\/op=7\/op=8\/op=9\/op=10\/op=11\/op=12\/op=13:=by
 unfold gM at h;split at h;.exact .inl ‹_›
 split at h;.rename_i ae;omega
 split at h;.rename_i ae;omega
 omega
def kB.len{t:Fm}(h:kB t):(t.aC.length:Int)=gM t.op/\¬gM t.op<0:=by
 have ab:=h.one;unfold il at ab;split at ab;.cases ab
 rename_i ae;refine⟨?_,ae⟩;split at ab;.rename_i ai;exact absurd ab ai.2
 split at ab;.cases ab
 rename_i a;simp only[not_or,Decidable.not_not,ne_eq]at a;exact a.1
def T.rm(t:Tm):[aa t.op,aa t.num,aD t.name,bJ 4 t.nl (Tm.rows t.aC)]=t.cells:=(Tm.hj t).symm
def F.T3(t:Fm):[aa t.op,aa t.e.op,aa t.e.num,aD t.e.name,bJ 4 t.e.nl (Tm.rows t.e.aC),bJ 6 t.nl (Fm.rows t.aC)]=t.cells:=(Fm.hj t).symm
def TI(s:List Fm)(p:Fm):Fm.rows (s++[p])=Fm.rows s++[p.cells]:=by simp[Fm.fP]
theorem T.tB(t:Tm):D.agg t.cells=t.d:=rfl
theorem F.tB(t:Fm):D.agg t.cells=t.d:=rfl
structure Y where
 b:Bool
 lo:Int
 ag:Int
deriving DecidableEq
def Y.cells(y:Y):lZ:=[aE y.b,aa y.lo,aa y.ag]
def Y.d(y:Y):D:= .agg [aE y.b,aa y.lo,aa y.ag]
def dJ:Y:=⟨false,0,0⟩
def gB:Y:=⟨true,0,0⟩
def Y.im(y:Y):Prop:=(y.b=true->y.lo=0/\y.ag=0)/\-1048576<=y.lo/\y.lo<=y.ag/\y.ag<=1048576
@[simp] theorem Y.jJ (y:Y):cz 3 y.d=true:=rfl
attribute [go_sem] Y.jJ
@[simp] theorem Y.bK (y:Y):ad y.d 0=aE y.b:=rfl
attribute [go_sem] Y.bK
@[simp] theorem Y.c1 (y:Y):ad y.d 1=aa y.lo:=rfl
attribute [go_sem] Y.c1
@[simp] theorem Y.c2 (y:Y):ad y.d 2=aa y.ag:=rfl
attribute [go_sem] Y.c2
@[simp] theorem Y.yq (y:Y):D.agg [aE y.b,aa y.lo,aa y.ag]=y.d:=rfl
@[simp high] theorem Y.aR (y:Y):Go.Am.aR true 3 0 y.cells=some y.d:=rfl
@[simp] theorem Y.yr (y:Y):y.cells[0]?=some (aE y.b):=rfl
@[simp] theorem Y.ys (y:Y):y.cells[1]?=some (aa y.lo):=rfl
@[simp] theorem Y.aca (y:Y):y.cells[2]?=some (aa y.ag):=rfl
@[simp] theorem Y.flat (y:Y):y.d.flat=true:=rfl
@[simp] theorem aoP (y:Y) (e:Int):(D.aB [y.d,aa e]).flat=true:=rfl
def e8(lo ag:Int):Y×Int:=if lo< -1048576\/ag>1048576\/lo>ag\/ag-lo>4096 then(dJ,2)else(⟨false,lo,ag⟩,0)
def wY{lo ag:Int}(h:(e8 lo ag).2=0):(e8 lo ag).1.im:=by
 unfold e8 at*;split at h;.cases h
 rename_i a;rw[xab a];exact⟨by simp,by simp;omega,by simp;omega,by simp;omega⟩
theorem T4(lo ag:Int):(D.aB [(e8 lo ag).1.d,aa (e8 lo ag).2])=if lo< -1048576\/ag>1048576\/lo>ag\/ag-lo>4096 then D.aB [.agg [aE false,aa 0,aa 0],aa 2]else D.aB [.agg [aE false,aa lo,aa ag],aa 0]:=by unfold e8;split<;>rfl
def pX(n:Nat)(lo ag:Int):py n [aa lo,aa ag]=some (.aB [(e8 lo ag).1.d,aa (e8 lo ag).2]):=by rw[T4];have a:-1048576<=lo->ag<=1048576->lo<=ag->IntKind.i64.wrap (ag-lo)=ag-lo:=λ_ _ _=>wrap64 _ oZ oZ;simp[py,Qo,I9,-Ji,-I3];grind
def A8(n:Nat)(lo ag:Int):oo n [aa lo,aa ag]=some (.aB [(e8 lo ag).1.d,aa (e8 lo ag).2]):=by
 have a:IntKind.i64.wrap (-1048576)=-1048576:=dZ
 rw[T4];have b:-1048576<=lo->ag<=1048576->lo<=ag->IntKind.i64.wrap (ag-lo)=ag-lo:=λ_ _ _=>wrap64 _ oZ oZ;simp[oo,QS,I9,a,-Ji,-I3];grind
def eQ(l:List Y):D:= .aw 3 (l.map Y.cells)
def A9{l:List Y}{i:Nat}{y:Y}(h:l[i]?=some y):bc 3 (eQ l) (aa (i:Int))=some y.cells:=by simp[eQ,h]
def ahZ(n:Nat)(l:List Y)(k:l.length<n)(ah:l.length<1000000000):Dp n [eQ l]=some (.aB [(if l.all Y.b then gB else dJ).d,aa (if l.all Y.b then 0 else 13)]):=by
 have ag:=ch (f:=yJ n) l (λi (s:Unit)=>[eQ l,aa l.length,aa (i:Int),aE false,aa 0,aa 0]) (λr _=>if r.all Y.b then(Sum.inl [aE false,aa 0,aa 0]:lZ⊕D)else .inr (.aB [dJ.d,aa 13])) (λ_ _=>True) (λ_ _=>by simp[yJ]) ?_ n 0 () trivial oZ (xah _)
 .have g:(aa ((0:Nat):Int))=aa 0:=rfl;rw[g]at ag;have c:dL (eQ l)=some (aa l.length):=by simp[eQ]
  simp only[Dp,Qp,c,cL,ag,xak,bh,kr,bo,cf,al];by_cases h:l.all Y.b=true;.simp only[h,xaD,l5];rfl
  simp only[h,xaq,xaG,yk]
 intro i a _ j ag _;have:=A9 j;cases e:a.b
 .right;simp[yJ,ag,this,bk i,e];rfl
 left;exact⟨(),by simp[yJ,ag,this,bk i,e],by simp[e],trivial⟩
def ah0(n:Nat)(l:List Y)(j:l.length<n)(ah:l.length<1000000000):D5 n [eQ l]=some (aE (l.all Y.b)):=by
 have c:dL (eQ l)=some (aa l.length):=by simp[eQ]
 have ag:=ch (f:=zk n) l (λi (s:Unit)=>[eQ l,aa (i:Int)]) (λr _=>if r.all Y.b then(Sum.inl []:lZ⊕D)else .inr (aE false)) (λ_ _=>True) (λ_ _=>by simp[zk,c]) ?_ n 0 () trivial oZ (xah _)
 .have e:(aa ((0:Nat):Int))=aa 0:=rfl;rw[e]at ag;simp only[D5,QU,cL,ag,xak,kr,cf,al];by_cases h:l.all Y.b=true;.simp only[h,xaD,l5]
  simp only[h,xaq,xaG,yk]
 intro i a _ g ag _;have:=A9 g;cases d:a.b
 .right;simp[zk,c,ag,this,bk i,d]
 left;exact⟨(),by simp[zk,c,ag,this,bk i,d],by simp[d],trivial⟩
def iC(a b:Int):Int:=if b<a then b else a
def ed(a b:Int):Int:=if b>a then b else a
def FW(a b:Int):hZ true [aa a,aa b]=some (aa (ed a b)):=Jh a b
def Lj(a b:Int):hZ false [aa a,aa b]=some (aa (iC a b)):=PM a b
theorem ah1(a b c d:Int):hZ true [aa a,aa b,aa c,aa d]=some (aa (ed (ed (ed a b) c) d)):=rfl
theorem ah2(a b c d:Int):hZ false [aa a,aa b,aa c,aa d]=some (aa (iC (iC (iC a b) c) d)):=rfl
def rn{x y:Int}(a:-1048576<=x/\x<=1048576)(b:-1048576<=y/\y<=1048576):-1099511627776<=x*y/\x*y<=1099511627776:=by
 have ab:x.natAbs<=1048576:=oZ
 have ae:y.natAbs<=1048576:=oZ
 have ai:(x*y).natAbs<=1048576*1048576:=by rw[Int.natAbs_mul];exact Nat.mul_le_mul ab ae
 omega
def wZ(a b:Y):Int:=iC (iC (iC (a.lo*b.lo) (a.lo*b.ag)) (a.ag*b.lo)) (a.ag*b.ag)
def w1(a b:Y):Int:=ed (ed (ed (a.lo*b.lo) (a.lo*b.ag)) (a.ag*b.lo)) (a.ag*b.ag)
def k5(op:Int)(a b:Y):Y×Int:=if op=15 then e8 (a.lo-b.ag) (a.ag-b.lo)else if op=14 then e8 (a.lo+b.lo) (a.ag+b.ag)else e8 (wZ a b) (w1 a b)
def ah3(n:Nat)(op:Int)(a b:Y)(f:a.im)(g:b.im):u4 n [aa op,a.d,b.d]=some (.aB [(k5 op a b).1.d,aa (k5 op a b).2]):=by
 obtain⟨_,aG,a2,a3⟩:=f;obtain⟨_,j,k,l⟩:=g;have h:IntKind.i64.wrap (-b.ag)=-b.ag:=wrap64 _ oZ oZ;have i:IntKind.i64.wrap (-b.lo)=-b.lo:=wrap64 _ oZ oZ;by_cases ab:op=15
 .subst ab;have c:a.lo+-b.ag=a.lo-b.ag:=oZ
  have e:a.ag+-b.lo=a.ag-b.lo:=oZ
  simp(disch:=omega) [u4,Dq,k5,h,i,dx,pX,c,e]
 by_cases ae:op=14;.subst ae;simp(disch:=omega) [u4,Dq,k5,dx,pX]
 have m1:=rn (x:=a.lo) (y:=b.lo) oZ oZ;have m2:=rn (x:=a.lo) (y:=b.ag) oZ oZ;have m3:=rn (x:=a.ag) (y:=b.lo) oZ oZ;have m4:=rn (x:=a.ag) (y:=b.ag) oZ oZ;simp(disch:=omega) [u4,Dq,k5,ab,ae,qK,pX,ah1,ah2,wZ,w1]
def ah4(n:Nat)(a b:Y)(s:6<=n)(e:a.im)(f:b.im):D7 n [a.d,b.d]=some (.aB [aa (wZ a b),aa (w1 a b)]):=by
 obtain⟨_,aG,a2,a3⟩:=e;obtain⟨_,l,m,o⟩:=f;have m1:=rn (x:=a.lo) (y:=b.lo) oZ oZ;have m2:=rn (x:=a.lo) (y:=b.ag) oZ oZ;have m3:=rn (x:=a.ag) (y:=b.lo) oZ oZ;have m4:=rn (x:=a.ag) (y:=b.ag) oZ oZ;obtain⟨k,rfl⟩:∃k,n=k+4:=⟨n-4,by omega⟩;have h:cI 4 (aa 0)=some 0:=rfl;have t:cI 4 (aa 1)=some 1:=rfl;have u:cI 4 (aa 2)=some 2:=rfl;have A:cI 4 (aa 3)=some 3:=rfl;unfold wZ w1;simp(disch:=omega) [D7,QV,qK,h];generalize a.lo*b.lo=w at*;generalize a.lo*b.ag=x at*;generalize a.ag*b.lo=y at*;generalize a.ag*b.ag=z at*;have g:iC w x=iC w x:=rfl;have step:∀(p q:Int)(i j:Int)(r:Int),i+1=j->(cI 4 (aa i)=some i.toNat)->i<4->0<=i->([[aa w],[aa x],[aa y],[aa z]]:mW)[i.toNat]?=some [aa r]->D6 (k+4) [aa p,aa q,aa i,.aw 1 [[aa w],[aa x],[aa y],[aa z]]]=some (.inl [aa (iC p r),aa (ed q r),aa j,.aw 1 [[aa w],[aa x],[aa y],[aa z]]]):=by intro p q i j r ak ab ae ai c;subst ak;simp(disch:=omega) [D6,ab,ae,c,FW,Lj,dx]
 rw[ic,step w w 1 2 x rfl rfl oZ oZ rfl];simp only[cL];rw[ic,step _ _ 2 3 y rfl rfl oZ oZ rfl];simp only[cL];rw[ic,step _ _ 3 4 z rfl rfl oZ oZ rfl];simp only[cL];rw[ic];simp[D6]
def Valid(t:Tm):Prop:=∃deep k:Int,(cq t deep k).1=0
def Valid.FX{t:Tm}(h:Valid t):fS t=0:=by
 obtain⟨deep,k,h⟩:=h;rw[pS]at h;split at h;.cases h
 split at h;.assumption
 rename_i a;simpa using a
def T5:∀(l:List Tm)(deep k:Int),(dI l deep k).1=0->∀x∈l,Valid x
 |[],_,_,_,x,b=>by cases b
 |a::r,deep,k,h,x,b=>by
  rw[dI]at h;split at h;.rename_i c;exact absurd h c
  rename_i c;rcases xam.1 b with rfl|b
  .exact⟨deep,k,by simpa using c⟩
  exact T5 r deep _ h x b
def Valid.dj{t x:Tm}(h:Valid t)(c:x∈t.aC):Valid x:=by
 have b:=h.FX;obtain⟨deep,k,h⟩:=h;rw[pS]at h;split at h;.cases h
 split at h;.rename_i a;exact absurd b a
 split at h;.cases h
 exact T5 _ _ _ h x c
def Valid.op{t:Tm}(h:Valid t):1<=t.op/\t.op<=18:=by
 have b:=h.FX;unfold fS at b;split at b;.cases b
 rename_i a;unfold et at a;refine xbi λc=>?_;simp only[show¬(t.op=1\/t.op=2\/t.op=3\/t.op=4) by omega,show¬t.op=5 by omega,show¬(t.op=6\/t.op=7) by omega,show¬t.op=18 by omega,show(t.op<1\/t.op>18) by omega,xaD,xaG]at a;exact a dZ
def T6{t:Tm}(a:fS t=0):¬(et t.op).1<0/\¬((t.num<(if t.op=1 then-255 else 0))\/t.num>(if t.op=1 then 255 else if t.op=2 then 1 else 0))/\ ¬(if wP t.op then t.name=⟨#[]⟩\/t.name.size>24 else t.name≠⟨#[]⟩)/\¬((t.aC.length:Int)<(et t.op).1\/(t.aC.length:Int)>(et t.op).2):=by
 unfold fS at a;by_cases ab:(et t.op).1<0;.rw[xac ab]at a;cases a
 rw[xab ab]at a;by_cases ae:(t.num<(if t.op=1 then-255 else 0))\/t.num>(if t.op=1 then 255 else if t.op=2 then 1 else 0);.rw[xac ae]at a;cases a
 rw[xab ae]at a;by_cases ai:(if wP t.op then t.name=⟨#[]⟩\/t.name.size>24 else t.name≠⟨#[]⟩);.rw[xac ai]at a;cases a
 rw[xab ai]at a;by_cases b:((t.aC.length:Int)<(et t.op).1\/(t.aC.length:Int)>(et t.op).2);.rw[xac b]at a;cases a
 exact⟨ab,ae,ai,b⟩
def Valid.len{t:Tm}(h:Valid t):(et t.op).1<=t.aC.length/\(t.aC.length:Int)<=(et t.op).2:=by have:=(T6 h.FX).2.2.2;omega
def Valid.num{t:Tm}(h:Valid t):-255<=t.num/\t.num<=255/\(t.op≠1->0<=t.num/\t.num<=1)/\(t.op≠1->t.op≠2->t.num=0):=by
 have ae:=(T6 h.FX).2.1;by_cases c1:t.op=1;.simp only[c1,xaD]at ae;exact⟨by omega,by omega,by omega,by omega⟩
 by_cases c2:t.op=2;.simp only[c2,xaD]at ae;exact⟨by omega,by omega,by omega,by omega⟩
 simp only[c1,c2,xaG]at ae;exact⟨by omega,by omega,by omega,by omega⟩
def eR(t:Tm)(l:List Y):Y×Int:=if 5<=t.op/\t.op<=9 then if l.all Y.b then(gB,0)else(dJ,13)
 else match l with
  |[a,b,c]=>if(!a.b||(b.b !=c.b))then(dJ,13)else if b.b then(gB,0)else e8 (iC b.lo c.lo) (ed b.ag c.ag)
  |[a,b]=>if t.op=10\/t.op=11 then if a.b !=b.b then(dJ,13)else(gB,0)
   else if(a.b||b.b)then(dJ,13)
   else if t.op=12\/t.op=13 then(gB,0)
   else if t.op=17 then(match t.aC[1]? with
    |some k=>if k.op≠1\/k.num<1 then(dJ,2)else e8 0 (k.num-1)
    |none=>(dJ,0))
   else k5 t.op a b
  |_=>(dJ,0)
theorem pY{d:Type}{l:List d}(h:l.length=3):∃a b c,l=[a,b,c]:=by match l,h with|[a,b,c],_=>exact⟨a,b,c,rfl⟩
theorem mi{c:Type}{l:List c}(h:l.length=2):∃a b,l=[a,b]:=by match l,h with|[a,b],_=>exact⟨a,b,rfl⟩
theorem tC{op:Int}(h:op=18):et op=(3,3):=by subst h;rfl
def rp{op:Int}(h:8<=op/\op<=17):et op=(2,2):=by unfold et;rw[xab oZ,xab oZ,xab oZ,xab oZ,xab oZ]
def T7{l:List Tm}{b:Bool}{t:Tm}(h:l[1]?=some t):bc 4 (bJ 4 b (Tm.rows l)) (aa 1)=some t.cells:=Tm.eO (i:=1) h
def FY{l:List Y}{y:Y}(h:l[0]?=some y):bc 3 (eQ l) (aa 0)=some y.cells:=A9 (i:=0) h
def FZ{l:List Y}{y:Y}(h:l[1]?=some y):bc 3 (eQ l) (aa 1)=some y.cells:=A9 (i:=1) h
def T8{l:List Y}{y:Y}(h:l[2]?=some y):bc 3 (eQ l) (aa 2)=some y.cells:=A9 (i:=2) h
set_option maxHeartbeats 1000000 in
def ah5(n:Nat)(t:Tm)(l:List Y)(o:Valid t)(E:l.length=t.aC.length)(m:5<=t.op)(u:∀y∈l,y.im)(Q:100<n):vy n [t.d,eQ l]=some (.aB [(eR t l).1.d,aa (eR t l).2]):=by
 have I:=o.op;have f:=o.len;have bK:=Tm.lx t;have b8:=Tm.nb t;have h:=Tm.jJ t;have i:D.agg [aE false,aa 0,aa 0]=dJ.d:=rfl;have p:D.agg [aE true,aa 0,aa 0]=gB.d:=rfl;have C:=rp (op:=t.op);have k:=tC (op:=t.op);have w:l.length<=64:=by
  have:(et t.op).2<=64:=by unfold et;repeat(first|split|decide)
  omega
 have H:=ah0 n l oZ oZ;by_cases ab:t.op<=9
 .have e:eR t l=if l.all Y.b then(gB,0)else(dJ,13):=by unfold eR;rw[xac ⟨m,ab⟩]
  rw[e];have j:t.op=5\/t.op=6\/t.op=7\/t.op=8\/t.op=9:=oZ
  generalize t.op=op at*;generalize l.all Y.b=q at*;rcases j with rfl|rfl|rfl|rfl|rfl<;>simp[vy,D8,h,bK,H,i,p]<;>cases q<;>simp
 by_cases ae:t.op=18;.rw[k ae]at f;obtain⟨a,b,c,rfl⟩:=pY (l:=l) (by simp at f;omega);have g0:=FY (l:=[a,b,c]) rfl;have g1:=FZ (l:=[a,b,c]) rfl;have g2:=T8 (l:=[a,b,c]) rfl;unfold eR;generalize eQ [a,b,c]=L at*;rw[xab oZ];simp[vy,D8,h,bK,ae,g0,g1,g2,i,p,A8,FW,Lj];cases a.b<;>cases b.b<;>cases c.b<;>(try simp)
 have ai:10<=t.op/\t.op<=17:=oZ
 rw[C oZ]at f;obtain⟨a,b,rfl⟩:=mi (l:=l) (by simp at f;omega);have g0:=FY (l:=[a,b]) rfl;have g1:=FZ (l:=[a,b]) rfl;have r:=u a sZ;have s:=u b sZ;have F:=ah4 n a b oZ r s;obtain⟨_,aG,a2,a3⟩:=r;obtain⟨_,M,N,O⟩:=s;unfold eR;generalize eQ [a,b]=L at*;rw[xab oZ];obtain⟨uj,bS,g⟩:=mi (l:=t.aC) (by simp at f;omega);have z:=T7 (l:=t.aC) (b:=t.nl) (t:=bS) (by rw[g];rfl);have P:=(o.dj (x:=bS) (by rw[g];simp)).num;have s1:IntKind.i64.wrap (bS.num-1)=bS.num-1:=wrap64 _ oZ oZ;have f5:aV false .sub (aa bS.num) (aa 1)=some (aa (bS.num-1)):=j6 oZ oZ;have f1:aV false .add (aa a.lo) (aa b.lo)=some (aa (a.lo+b.lo)):=dx oZ oZ;have f2:aV false .add (aa a.ag) (aa b.ag)=some (aa (a.ag+b.ag)):=dx oZ oZ;have f3:aV false .sub (aa a.lo) (aa b.ag)=some (aa (a.lo-b.ag)):=j6 oZ oZ;have f4:aV false .sub (aa a.ag) (aa b.lo)=some (aa (a.ag-b.lo)):=j6 oZ oZ;have j:t.op=10\/t.op=11\/t.op=12\/t.op=13\/t.op=14\/t.op=15\/t.op=16\/t.op=17:=oZ
 have J:(t.aC[1]?)=some bS:=by rw[g];rfl
 generalize t.op=op at*;have G:∀x y:Int,e8 x y=e8 x y:=λ_ _=>rfl;rcases j with rfl|rfl|rfl|rfl|rfl|rfl|rfl|rfl<;>
  cases A:a.b<;>cases B:b.b<;>simp[vy,D8,h,bK,b8,g0,g1,z,J,i,p,A8,k5,f1,f2,f3,f4,f5,F,A,B]
 all_goals (by_cases K:bS.op=1<;>by_cases z2:bS.num<1<;>simp[K,z2])
set_option maxHeartbeats 2000000 in
def ah6(n:Nat)(z M:D)(t:Tm)(nx:Bool)(l:List Y)(r:Valid t)(I:l.length=t.aC.length)(p:5<=t.op)(m:∀y∈l,y.im)(V:100<n):lz n [z,M,t.d,aE nx,eQ l]=some (.aB [(eR t l).1.d,aa (eR t l).2]):=by
 have O:=r.op;have f:=r.len;have bK:=Tm.lx t;have b8:=Tm.nb t;have i:=Tm.jJ t;have j:D.agg [aE false,aa 0,aa 0]=dJ.d:=rfl;have s:D.agg [aE true,aa 0,aa 0]=gB.d:=rfl;have H:=rp (op:=t.op);have o:=tC (op:=t.op);have w:l.length<=64:=by
  have:(et t.op).2<=64:=by unfold et;repeat(first|split|decide)
  omega
 have N:=ahZ n l oZ oZ;by_cases ab:t.op<=9
 .have e:eR t l=if l.all Y.b then(gB,0)else(dJ,13):=by unfold eR;rw[xac ⟨p,ab⟩]
  rw[e];have k:t.op=5\/t.op=6\/t.op=7\/t.op=8\/t.op=9:=oZ
  generalize t.op=op at*;generalize l.all Y.b=q at*;rcases k with rfl|rfl|rfl|rfl|rfl<;>simp[lz,oe,i,bK,N,j,s]<;>cases q<;>simp
 by_cases ae:t.op=18;.rw[o ae]at f;obtain⟨a,b,c,rfl⟩:=pY (l:=l) (by simp at f;omega);have g0:=FY (l:=[a,b,c]) rfl;have g1:=FZ (l:=[a,b,c]) rfl;have g2:=T8 (l:=[a,b,c]) rfl;have h:=(m b sZ).1;unfold eR;generalize eQ [a,b,c]=L at*;rw[xab oZ];simp[lz,oe,i,bK,ae,g0,g1,g2,j,s,pX,FW,Lj];obtain⟨A,C,B⟩:=b;cases a.b<;>cases A<;>cases c.b<;>simp at h⊢;obtain⟨rfl,rfl⟩:=h;rfl
 have ai:10<=t.op/\t.op<=17:=oZ
 rw[H oZ]at f;obtain⟨a,b,rfl⟩:=mi (l:=l) (by simp at f;omega);have g0:=FY (l:=[a,b]) rfl;have g1:=FZ (l:=[a,b]) rfl;have u:=m a sZ;have h:=m b sZ;have J:=λop=>ah3 n op a b u h;obtain⟨_,aG,a2,a3⟩:=u;obtain⟨_,R,S,T⟩:=h;unfold eR;generalize eQ [a,b]=L at*;rw[xab oZ];obtain⟨uj,bS,g⟩:=mi (l:=t.aC) (by simp at f;omega);have E:=T7 (l:=t.aC) (b:=t.nl) (t:=bS) (by rw[g];rfl);have U:=(r.dj (x:=bS) (by rw[g];simp)).num;have s1:IntKind.i64.wrap (bS.num-1)=bS.num-1:=wrap64 _ oZ oZ;have f5:aV false .sub (aa bS.num) (aa 1)=some (aa (bS.num-1)):=j6 oZ oZ;have f1:aV false .add (aa a.lo) (aa b.lo)=some (aa (a.lo+b.lo)):=dx oZ oZ;have f2:aV false .add (aa a.ag) (aa b.ag)=some (aa (a.ag+b.ag)):=dx oZ oZ;have f3:aV false .sub (aa a.lo) (aa b.ag)=some (aa (a.lo-b.ag)):=j6 oZ oZ;have f4:aV false .sub (aa a.ag) (aa b.lo)=some (aa (a.ag-b.lo)):=j6 oZ oZ;have k:t.op=10\/t.op=11\/t.op=12\/t.op=13\/t.op=14\/t.op=15\/t.op=16\/t.op=17:=oZ
 have P:(t.aC[1]?)=some bS:=by rw[g];rfl
 generalize t.op=op at*;have K:∀x y:Int,e8 x y=e8 x y:=λ_ _=>rfl;rcases k with rfl|rfl|rfl|rfl|rfl|rfl|rfl|rfl<;>
  cases F:a.b<;>cases G:b.b<;>simp[lz,oe,i,bK,b8,g0,g1,E,P,j,s,pX,J,f5,F,G]
 all_goals (by_cases Q:bS.op=1<;>by_cases z2:bS.num<1<;>simp[Q,z2])
def c4(vs:List V)(x:ByteArray):Option Nat:=vs.findIdx? (λv=>decide (v.name=x))
def rq{vs:List V}{x:ByteArray}{i:Nat}(h:c4 vs x=some i):∃v,vs[i]?=some v/\v.name=x/\i<vs.length:=by obtain⟨ab,ae,_⟩:=xbv.1 h;exact⟨_,xaa ab,by simpa using ae,ab⟩
theorem V.pZ(v:V):v.cells[0]?=some (aD v.name)/\v.cells[1]?=some (aE v.bool)/\v.cells[2]?=some (aa v.lo)/\v.cells[3]?=some (aa v.ag):=⟨rfl,rfl,rfl,rfl⟩
def eS{l:List V}{i:Nat}{v:V}(h:l[i]?=some v):bc 4 (aO l) (aa (i:Int))=some v.cells:=by simp[aO,h]
def jR(l:List V):dL (aO l)=some (aa l.length):=by simp[aO]
attribute [go_sem] jR
theorem V.ah7(v:V):aR true 4 0 v.cells=some v.d/\cz 4 v.d=true/\ad v.d 0=aD v.name:=⟨rfl,rfl,rfl⟩
def oE:List V->Nat->List (Value×D)->List (Value×D)
 |[],_,M=>M|v::r,i,M=>oE r (i+1) (if(eC M v.name).isSome then M else(lU .string M (aD v.name) (aa i)).getD [])
def Lk:∀(r:List V)(i:Nat)(M:List (Value×D)),iQ M->iQ (oE r i M)/\∀x,eC (oE r i M) x=match eC M x with|some d=>some d|none=>(c4 r x).map λj=>aa ((i+j:Nat):Int)
 |[],i,M,h=>⟨h,λx=>by simp only[oE,c4,List.findIdx?_nil];cases eC M x<;>rfl⟩
 |v::r,i,M,h=>by
  rw[oE];have e:∀x,c4 (v::r) x=if v.name=x then some 0 else(c4 r x).map (·+1):=by intro x;simp[c4,xca]
  by_cases aj:(eC M v.name).isSome
  .rw[xac aj];obtain⟨ab,ae⟩:=Lk r (i+1) M h;refine⟨ab,λx=>?_⟩;rw[ae x,e x];cases b:eC M x with
   |some d=>rfl
   |none=>
    have a:¬v.name=x:=by rintro rfl;simp[b]at aj
    simp only[a,xaG,Option.map_map]
    congr 1
    funext j
    simp only[Function.comp]
    congr 2
    omega
  rw[xab aj];obtain⟨c,g,k,l,_⟩:=Dc h v.name (aa i);rw[g,xbn];obtain⟨ab,ae⟩:=Lk r (i+1) c k;refine⟨ab,λx=>?_⟩;rw[ae x,l x,e x];by_cases b:x=v.name
  .subst b;have f:eC M v.name=none:=by simpa using aj
   simp[f]
  have a:¬v.name=x:=λh=>b h.symm;simp only[b,a,xaG];cases m:eC M x with
  |some d=>rfl
  |none=>
   simp only[Option.map_map]
   congr 1
   funext j
   simp only[Function.comp]
   congr 2
   omega
def F0(M:List (Value×D))(vs:List V):Prop:=iQ M/\∀x,eC M x=(c4 vs x).map λ(j:Nat)=>aa (j:Int)
def T9(n:Nat)(vs:List V)(q:vs.length<n)(ah:vs.length<1000000000000):∃M,yI n [aO vs]=some (.mp M)/\F0 M vs:=by
 have ak:iQ []:=by intro e o;cases o
 obtain⟨ab,ae⟩:=Lk vs 0 [] ak;refine⟨oE vs 0 [],?_,ab,λx=>by rw[ae x];simp only[eC,xav]⟩;have ag:=ch (f:=yH n) vs (λi (M:List (Value×D))=>[aO vs,aa vs.length,aa (i:Int),.mp M]) (λr M=>(Sum.inl [.mp (oE r (vs.length-r.length) M)]:lZ⊕D)) (λi M=>iQ M) (λM _=>by simp[yH,oE]) ?_ n 0 [] ak oZ (xah _)
 .have m:(aa ((0:Nat):Int))=aa 0:=rfl;rw[m]at ag;simp[yI,Qn,jR,ag]
 intro i a M j ag c;left;have e:vs.length-(a::vs.drop (i+1)).length=i:=uZ
 have h:vs.length-(vs.drop (i+1)).length=i+1:=uZ
 have ai:=uM c (z:= .int .i64 0) (x:=a.name);have g:=a.ah7;cases b:eC M a.name with|some d=>rw[b]at ai;refine⟨M,by simp[yH,ag,eS j,g,ai,bk i],?_,c⟩;rw[e,oE,b,h];rfl|none=>rw[b]at ai;obtain⟨l,k,p,s,_⟩:=Dc c a.name (aa i);refine⟨l,by simp[yH,ag,eS j,g,ai,k,bk i],?_,p⟩;rw[e,oE,b,h];simp only[xcx,xaq,xaG,k,xbn]
def Ll(n:Nat)(vs:List V)(x:ByteArray)(l:vs.length<n)(ah:vs.length<1000000000000):vx n [aO vs,aD x]=some (aa (match c4 vs x with|some i=>(i:Int)|none=>-1)):=by
 have ag:=ch (f:=zj n) vs (λi (_:Unit)=>[aO vs,aD x,aa (i:Int)]) (λr _=>match c4 r x with|some j=>(Sum.inr (aa ((vs.length-r.length+j:Nat):Int)):lZ⊕D)|none=> .inl []) (λ_ _=>True) (λ_ _=>by simp[zj,jR,c4]) ?_ n 0 () trivial oZ (xah _);.have k:(aa ((0:Nat):Int))=aa 0:=rfl;rw[k]at ag;simp only[vx,QT,ag,xak,cL,sj,al];cases c4 vs x<;>simp
 intro i a _ g ag _;have e:vs.length-(a::vs.drop (i+1)).length=i:=uZ
 have h:vs.length-(vs.drop (i+1)).length=i+1:=uZ
 have d:c4 (a::vs.drop (i+1)) x=if a.name=x then some 0 else(c4 (vs.drop (i+1)) x).map (·+1):=by simp[c4,xca]
 have c:=a.pZ;by_cases b:a.name=x;.right;rw[d,xac b,e];simp[zj,jR,ag,eS g,c,b]
 left;refine⟨(),by simp[zj,jR,ag,eS g,c,b,bk i],?_,trivial⟩;rw[d,xab b,e,h];cases c4 (vs.drop (i+1)) x with|none=>rfl|some j=>simp;omega
def h5(vs:List V)(nx:Bool)(t:Tm):Y×Int:=if t.op=1 then e8 t.num t.num else if t.op=2 then(gB,0)
 else match c4 vs t.name with
  |none=>(dJ,12)
  |some i=>if t.op=4/\nx=false then(dJ,24)else match vs[i]? with
   |some v=>if v.bool then(gB,0)else e8 v.lo v.ag
   |none=>(dJ,12)
mutual
def cP(vs:List V)(nx:Bool):Tm->Y×Int
 | .mk o n s b ks=>if o<=4 then h5 vs nx (.mk o n s b ks)else if(cX vs nx ks).2≠0 then(dJ,(cX vs nx ks).2)else eR (.mk o n s b ks) (cX vs nx ks).1
def cX(vs:List V)(nx:Bool):List Tm->List Y×Int
 |[]=>([],0)|t::r=>if(cP vs nx t).2≠0 then([],(cP vs nx t).2)else if(cX vs nx r).2≠0 then([],(cX vs nx r).2)else((cP vs nx t).1::(cX vs nx r).1,0)
end
theorem kC(vs:List V)(nx:Bool)(t:Tm):cP vs nx t=if t.op<=4 then h5 vs nx t else if(cX vs nx t.aC).2≠0 then(dJ,(cX vs nx t.aC).2)else eR t (cX vs nx t.aC).1:=by cases t;rw[cP];rfl
def Lm:gB.im:=⟨by simp[gB],by simp[gB],by simp[gB],by simp[gB]⟩
def ah8{vs:List V}{nx:Bool}{t:Tm}(h:(h5 vs nx t).2=0):(h5 vs nx t).1.im:=by
 unfold h5 at*;by_cases ab:t.op=1;.rw[xac ab]at*;exact wY h
 rw[xab ab]at*;by_cases ae:t.op=2;.rw[xac ae];exact Lm
 rw[xab ae]at*;cases ag:c4 vs t.name with
 |none=>simp[ag]at h
 |some i=>
  simp only[ag]at h⊢;by_cases ai:t.op=4/\nx=false;.simp[ai]at h
  rw[xab ai]at*;cases b:vs[i]? with
  |none=>simp[b]at h
  |some v=>
   simp only[b]at h⊢;by_cases a:v.bool=true;.rw[xac a];exact Lm
   rw[xab a]at*;exact wY h
def ah9{op:Int}{a b:Y}(h:(k5 op a b).2=0):(k5 op a b).1.im:=by
 unfold k5 at*;split at h;.rename_i ab;rw[xac ab];exact wY h
 rename_i ab;split at h;.rename_i ae;rw[xab ab,xac ae];exact wY h
 rename_i ae;rw[xab ab,xab ae];exact wY h
def oF{c:Prop}[Decidable c]{x y:Y×Int}(a:x.2=0->x.1.im\/x.1=dJ)(b:y.2=0->y.1.im\/y.1=dJ):(if c then x else y).2=0->(if c then x else y).1.im\/(if c then x else y).1=dJ:=by
 split;.exact a
 exact b
def aia{t:Tm}{l:List Y}:(eR t l).2=0->(eR t l).1.im\/(eR t l).1=dJ:=by
 have z:∀e:Int,((dJ,e):Y×Int).2=0->((dJ,e):Y×Int).1.im\/((dJ,e):Y×Int).1=dJ:=λ_ _=> .inr rfl;have y:((gB,0):Y×Int).2=0->((gB,0):Y×Int).1.im\/((gB,0):Y×Int).1=dJ:=λ_=> .inl Lm;have sp:∀a b:Int,(e8 a b).2=0->(e8 a b).1.im\/(e8 a b).1=dJ:=λa b h=> .inl (wY h);unfold eR;refine oF (oF y (z _)) ?_;split
 .exact oF (z _) (oF y (sp _ _))
 .refine oF (oF (z _) y) (oF (z _) (oF y (oF ?_ (λh=> .inl (ah9 h)))));split;.exact oF (z _) (sp _ _)
  exact z _
 exact z _
def aib:dJ.im:=⟨by simp[dJ],by simp[dJ],by simp[dJ],by simp[dJ]⟩
def aic(vs:List V)(nx:Bool)(t:Tm)(h:(cP vs nx t).2=0):(cP vs nx t).1.im:=by
 rw[kC]at*;split at h;.rename_i b;rw[xac b];exact ah8 h
 rename_i b;rw[xab b];split at h;.rename_i a;exact absurd h a
 rename_i a;rw[xab a];rcases aia h with ab|ab
 .exact ab
 rw[ab];exact aib
def w2(vs:List V)(nx:Bool):∀(l:List Tm),(cX vs nx l).2=0->(cX vs nx l).1.length=l.length/\∀y∈(cX vs nx l).1,y.im
 |[],_=>⟨rfl,by intro y a;cases a⟩
 |t::r,h=>by
  rw[cX]at*;by_cases ab:(cP vs nx t).2=0
  case neg=>rw[xac ab]at h;exact absurd h ab
  rw[xab (by simpa using ab)]at*;by_cases ae:(cX vs nx r).2=0
  case neg=>rw[xac ae]at h;exact absurd h ae
  rw[xab (by simpa using ae)];obtain⟨g1,g2⟩:=w2 vs nx r ae;refine⟨by simp[g1],λy a=>?_⟩;rcases xam.1 a with rfl|a
  .exact aic vs nx t ab
  exact g2 y a
def aid(n:Nat)(vs:List V)(M:List (Value×D))(t:Tm)(nx:Bool)(L:D)(g:F0 M vs)(j:t.op<=4)(ab:1<=t.op):lz n [aO vs,.mp M,t.d,aE nx,L]=some (.aB [(h5 vs nx t).1.d,aa (h5 vs nx t).2]):=by
 have bK:=Tm.lx t;have c1:=Tm.n7 t;have c2:=Tm.n8 t;have b:=Tm.jJ t;have c:D.agg [aE false,aa 0,aa 0]=dJ.d:=rfl;have e:D.agg [aE true,aa 0,aa 0]=gB.d:=rfl;have ah:=uM g.1 (z:= .int .i64 0) (x:=t.name);rw[g.2]at ah;unfold h5;have h:t.op=1\/t.op=2\/t.op=3\/t.op=4:=oZ
 have a:jA (.mp M)=some M:=rfl;generalize t.op=op at*;rcases h with rfl|rfl|rfl|rfl
 .simp[lz,oe,b,bK,c1,c,e,pX]
 .simp[lz,oe,b,bK,c1,c,e,pX]
 .cases ag:c4 vs t.name with|none=>rw[ag]at ah;simp[lz,oe,b,bK,c1,c2,c,e,a,ah]|some i=>rw[ag]at ah;obtain⟨v,f,v2,v3⟩:=rq ag;simp[lz,oe,b,bK,c1,c2,c,e,a,ah,f,eS f,v.pZ,pX];cases v.bool<;>simp
 cases ag:c4 vs t.name with|none=>rw[ag]at ah;simp[lz,oe,b,bK,c1,c2,c,e,a,ah]|some i=>rw[ag]at ah;obtain⟨v,f,v2,v3⟩:=rq ag;simp[lz,oe,b,bK,c1,c2,c,e,a,ah,f,eS f,v.pZ,pX];cases v.bool<;>cases nx<;>simp
def Valid.leaf{t:Tm}(h:Valid t)(a:t.op<=4):t.aC=[]:=by
 have ab:=h.op;have ae:=h.len;have:et t.op=(0,0):=by unfold et;rw[xac oZ]
 rw[this]at ae;exact xaO (by have:=ae.2;simp only at this;omega)
def Valid.w3{t:Tm}(h:Valid t):t.aC.length<=64:=by
 have ae:=h.len;have:(et t.op).2<=64:=by unfold et;repeat(first|split|decide)
 omega
def Ua{a b:Nat}(h:a+b<=1000):b1 (a+b) 24=true:=eB
def Ub(vs:List V)(M:List (Value×D))(nx:Bool)(u:F0 M vs):∀(n:Nat)(t:Tm),t.aP+200<n->t.Ok->Valid t->og n [aO vs,.mp M,t.d,aE nx]=some (.aB [(cP vs nx t).1.d,aa (cP vs nx t).2])
 |0,t,h,_,_=>absurd h (xaF _)
 |n+1,t,C,m,e=>by
  rw[kC];have z:D.agg [aE false,aa 0,aa 0]=dJ.d:=rfl;have B:=e.w3;have ah:=ch (f:=u5 (og n) n) t.aC (λi (s:List Y)=>[aO vs,.mp M,aE nx,bJ 4 t.nl (Tm.rows t.aC),aa t.aC.length,aa (i:Int),aa t.op,aa t.num,aD t.name,bJ 4 t.nl (Tm.rows t.aC),aE false,aa 0,aa 0,eQ s]) (λr s=>if(cX vs nx r).2=0 then(Sum.inl [aO vs,.mp M,aE nx,aa t.op,aa t.num,aD t.name,bJ 4 t.nl (Tm.rows t.aC),aE false,aa 0,aa 0,eQ (s++(cX vs nx r).1)]:lZ⊕D)else .inr (.aB [dJ.d,aa (cX vs nx r).2])) (λi s=>s.length=i) ?_ ?_ n 0 [] rfl oZ (xah _)
  .have x:(aa ((0:Nat):Int))=aa 0:=rfl;have y:eQ []= .aw 3 []:=rfl;rw[x,y]at ah;simp only[og,Jv,Tm.jJ,Tm.lx,Tm.n7,Tm.n8,Tm.nb,l4,PL,Tm.qN,cL,ah,xak,xaM,aK,bh,bo,bT,bU,al];by_cases ak:(cX vs nx t.aC).2=0
   .obtain⟨g1,g2⟩:=w2 vs nx t.aC ak;have q:∀l:List Y,D.aw 3 (aF (eQ l))=eQ l:=λ_=>rfl;have j:=λb=>aid n vs M t nx (eQ (cX vs nx t.aC).1) u b e.op.1;have o:=λA=>ah6 n (aO vs) (.mp M) t nx _ e g1 A g2 oZ;by_cases b:t.op<=4
    .simp[ak,q,j b,b]
    simp[ak,q,o oZ,b]
   have b:¬t.op<=4:=λb=>ak (by rw[e.leaf b];rfl);simp[ak,b]
  .intro s aj;simp[u5,cX,eQ]
  intro i a s g ag aj;have k:=xad g;have E:=Tm.gg k;have w:=Ub vs M nx u n a oZ (m.dj k) (e.dj k);have p:b1 (s.length+1) 24=true:=Ua oZ;have c:u5 (og n) n [aO vs,.mp M,aE nx,bJ 4 t.nl (Tm.rows t.aC),aa t.aC.length,aa (i:Int),aa t.op,aa t.num,aD t.name,bJ 4 t.nl (Tm.rows t.aC),aE false,aa 0,aa 0,eQ s]=
    if(cP vs nx a).2=0 then some (.inl [aO vs,.mp M,aE nx,bJ 4 t.nl (Tm.rows t.aC),aa t.aC.length,aa ((i+1:Nat):Int),aa t.op,aa t.num,aD t.name,bJ 4 t.nl (Tm.rows t.aC),aE false,aa 0,aa 0,eQ (s++[(cP vs nx a).1])])
    else some (.inr (.inr (.aB [dJ.d,aa (cP vs nx a).2]))):=by
   by_cases ak:(cP vs nx a).2=0;.simp[u5,ag,Tm.eO g,w,ak,bk i,eQ,p];simp[Y.cells]
   .simp[u5,ag,Tm.eO g,w,ak,z]
  rw[c];simp only[cX];by_cases ak:(cP vs nx a).2=0
  .left;refine⟨s++[(cP vs nx a).1],by simp[ak],?_,by simp[aj]⟩;by_cases ab:(cX vs nx (t.aC.drop (i+1))).2=0;.simp[ak,ab]
   simp[ak,ab]
  right;simp[ak]
def Uc(vs:List V)(nx:Bool)(m:vs.length<1000000000000):∀(n:Nat)(t:Tm),t.aP+200+vs.length<n->t.Ok->Valid t->kb n [aO vs,t.d,aE nx]=some (.aB [(cP vs nx t).1.d,aa (cP vs nx t).2])
 |0,t,h,_,_=>absurd h (xaF _)
 |n+1,t,M,w,p=>by
  rw[kC];have c:D.agg [aE false,aa 0,aa 0]=dJ.d:=rfl;have k:D.agg [aE true,aa 0,aa 0]=gB.d:=rfl;have J:=p.w3;have L:=p.op;by_cases z:t.op<=4
  .rw[xac z];have bK:=Tm.lx t;have c1:=Tm.n7 t;have c2:=Tm.n8 t;have b8:=Tm.nb t;have j:=Tm.jJ t;unfold h5;have b:=Ll n vs t.name oZ m;have K:t.op=1\/t.op=2\/t.op=3\/t.op=4:=oZ
   generalize t.op=op at*;rcases K with rfl|rfl|rfl|rfl
   .simp[kb,pE,j,bK,c1,c,k,A8]
   .simp[kb,pE,j,bK,c1,c,k]
   .cases ag:c4 vs t.name with
    |none=>rw[ag]at b;simp[kb,pE,j,bK,c1,c2,b8,c,k,b]
    |some i=>
     rw[ag]at b;obtain⟨v,o,v2,v3⟩:=rq ag;have e:¬((i:Int)<0):=oZ
     simp[kb,pE,j,bK,c1,c2,b8,c,k,b,e,o,eS o,v.pZ,A8];cases v.bool<;>simp
   cases ag:c4 vs t.name with
   |none=>rw[ag]at b;simp[kb,pE,j,bK,c1,c2,b8,c,k,b]
   |some i=>
    rw[ag]at b;obtain⟨v,o,v2,v3⟩:=rq ag;have e:¬((i:Int)<0):=oZ
    simp[kb,pE,j,bK,c1,c2,b8,c,k,b,e,o,eS o,v.pZ,A8];cases v.bool<;>cases nx<;>simp
  rw[xab z];have ah:=ch (f:=vz (kb n) n) t.aC (λi (s:List Y)=>[aO vs,aE nx,aa (i:Int),aa t.op,aa t.num,aD t.name,bJ 4 t.nl (Tm.rows t.aC),aE false,aa 0,aa 0,eQ s]) (λr s=>if(cX vs nx r).2=0 then(Sum.inl [aa t.op,aa t.num,aD t.name,bJ 4 t.nl (Tm.rows t.aC),aE false,aa 0,aa 0,eQ (s++(cX vs nx r).1)]:lZ⊕D)else .inr (.aB [dJ.d,aa (cX vs nx r).2])) (λi s=>s.length=i) ?_ ?_ n 0 [] rfl oZ (xah _)
  .have G:(aa ((0:Nat):Int))=aa 0:=rfl;have H:eQ []= .aw 3 []:=rfl;rw[G,H]at ah;have B:(t.op==1)=false:=uZ
   have C:(t.op==2)=false:=uZ
   have E:(t.op==3)=false:=uZ
   have F:(t.op==4)=false:=uZ
   simp only[kb,pE,Tm.jJ,Tm.lx,Tm.n7,Tm.n8,Tm.nb,l4,uG,B,C,E,F,iM,xaq,xaG,cL,l5,l6,mV,ah,xak,xaM,b7,aN,av,aK,aU,e7,eL,u8,fR,hn,fD,bo,cf,aM,db,bT,bU,al,bH];by_cases ak:(cX vs nx t.aC).2=0;.obtain⟨g1,g2⟩:=w2 vs nx t.aC ak;have I:∀l:List Y,D.aw 3 (aF (eQ l))=eQ l:=λ_=>rfl;have x:=ah5 n t _ p g1 oZ g2 oZ;simp[ak,I,x]
   simp[ak]
  .intro s aj;simp[vz,cX,eQ]
  intro i a s q ag aj;have u:=xad q;have N:=Tm.gg u;have A:=Uc vs nx m n a oZ (w.dj u) (p.dj u);have y:b1 (s.length+1) 24=true:=Ua oZ;have g:vz (kb n) n [aO vs,aE nx,aa (i:Int),aa t.op,aa t.num,aD t.name,bJ 4 t.nl (Tm.rows t.aC),aE false,aa 0,aa 0,eQ s]=
    if(cP vs nx a).2=0 then some (.inl [aO vs,aE nx,aa ((i+1:Nat):Int),aa t.op,aa t.num,aD t.name,bJ 4 t.nl (Tm.rows t.aC),aE false,aa 0,aa 0,eQ (s++[(cP vs nx a).1])])
    else some (.inr (.inr (.aB [dJ.d,aa (cP vs nx a).2]))):=by
   by_cases ak:(cP vs nx a).2=0;.simp[vz,ag,Tm.eO q,A,ak,bk i,eQ,y];simp[Y.cells]
   .simp[vz,ag,Tm.eO q,A,ak,c]
  rw[g];simp only[cX];by_cases ak:(cP vs nx a).2=0
  .left;refine⟨s++[(cP vs nx a).1],by simp[ak],?_,by simp[aj]⟩;by_cases ab:(cX vs nx (t.aC.drop (i+1))).2=0;.simp[ak,ab]
   simp[ak,ab]
  right;simp[ak]
def eF(vs:List V)(nx:Bool)(t:Tm):Y×Int:=if(cq t 1 0).1≠0 then(dJ,(cq t 1 0).1)else cP vs nx t
def Ln(n:Nat)(vs:List V)(t:Tm)(nx:Bool)(g:t.aP+200+vs.length<n)(a:t.Ok)(b:vs.length<1000000000000):sW n [aO vs,t.d,aE nx]=some (.aB [(eF vs nx t).1.d,aa (eF vs nx t).2]):=by
 have c:=FK n t oZ a;obtain⟨M,m1,m2⟩:=T9 n vs oZ b;have e:D.agg [aE false,aa 0,aa 0]=dJ.d:=rfl;unfold eF;by_cases ak:(cq t 1 0).1=0
 .have f:=Ub vs M nx m2 n t oZ a ⟨1,0,ak⟩;simp[sW,Kl,c,ak,m1,f]
 simp[sW,Kl,c,ak,e]
def Ud(n:Nat)(vs:List V)(t:Tm)(nx:Bool)(g:t.aP+200+vs.length<n)(a:t.Ok)(b:vs.length<1000000000000):vA n [aO vs,t.d,aE nx]=some (.aB [(eF vs nx t).1.d,aa (eF vs nx t).2]):=by
 have c:=KX n t oZ a;have e:D.agg [aE false,aa 0,aa 0]=dJ.d:=rfl;unfold eF;by_cases ak:(cq t 1 0).1=0
 .have f:=Uc vs nx b n t oZ a ⟨1,0,ak⟩;simp[vA,JY,c,ak,f]
 simp[vA,JY,c,ak,e]
end Go.Am
