/- The laws, on data. No condition. -/
import Derived.Test.YtjonbfbkkkcjgaaGreatDoorEngD
import Derived.Test.YtjonbfbkkkcjgaaGreatDoorCode
import Derived.Test.YtjonbfbkkkcjgaaGreatDoorEngS
set_option linter.all false
set_option linter.unnecessarySimpa false
namespace Go.Am
def eh(op:Int):Int×Int:=if op=1\/op=2\/op=3\/op=4 then(0,0)else if op=5 then(1,1)else if op=6\/op=7 then(1,64)else if op=18 then(3,3)else if op<1\/op>18 then(-1,-1)else(2,2)
def vq(op:Int):Bool:=op==3||op==4
def fy(t:Tm):Int:=if(eh t.op).1<0 then 11
 else if(t.num<(if t.op=1 then-255 else 0))\/t.num>(if t.op=1 then 255 else if t.op=2 then 1 else 0)then 2
 else if(if vq t.op then t.name=⟨#[]⟩\/t.name.size>24 else t.name≠⟨#[]⟩)then 12
 else if(t.aC.length:Int)<(eh t.op).1\/(t.aC.length:Int)>(eh t.op).2 then 3 else 0
def afg(n:Nat)(op:Int):B4 n [aa op]=some (.az [aa (eh op).1,aa (eh op).2]):=by
 rcases BU op with rfl|rfl|rfl|rfl|rfl|rfl|rfl|rfl|rfl|rfl|rfl|rfl|rfl|rfl|rfl|rfl|rfl|rfl|h
 case inr.inr.inr.inr.inr.inr.inr.inr.inr.inr.inr.inr.inr.inr.inr.inr.inr.inr=>
  have e:∀k:Int,1<=k->k<=18->(op==k)=false:=λk ab ad=>by simp;omega
  have a:eh op=(-1,-1):=by unfold eh;repeat(first|rw[xab oZ]|rw[xac oZ])
  simp[B4,Ob,e,a]
 all_goals rfl
def afh(n:Nat)(op:Int):xV n [aa op]=some (.az [aa (eh op).1,aa (eh op).2]):=by
 rcases BU op with rfl|rfl|rfl|rfl|rfl|rfl|rfl|rfl|rfl|rfl|rfl|rfl|rfl|rfl|rfl|rfl|rfl|rfl|h
 case inr.inr.inr.inr.inr.inr.inr.inr.inr.inr.inr.inr.inr.inr.inr.inr.inr.inr=>
  have e:∀k:Int,1<=k->k<=18->(op==k)=false:=λk ab ad=>by simp;omega
  have a:eh op=(-1,-1):=by unfold eh;repeat(first|rw[xab oZ]|rw[xac oZ])
  rcases h with h|h;.simp[xV,H9,e,a,h]
  have:¬op<1:=oZ
  simp[xV,H9,e,a,h,this]
 all_goals rfl
def afi(s:ByteArray):decide (s=⟨#[]⟩)=decide ((s.size:Int)<1):=by
 have:s=⟨#[]⟩↔(s.size:Int)<1:=by
  constructor;.rintro rfl;decide
  intro h;have:s.size=0:=oZ
  cases s with|mk a=>congr;exact xbp this
 simp[this]
def afj(n:Nat)(t:Tm):B5 n [t.d]=some (aa (fy t)):=by
 cases t with|mk op num s b ks=>
 have g:=afg n op;have fl:cw 4 (Tm.d (.mk op num s b ks))=true:=Tm.jf _;have a:ae (Tm.d (.mk op num s b ks)) 0=aa op:=rfl;have c:ae (Tm.d (.mk op num s b ks)) 1=aa num:=rfl;have e:ae (Tm.d (.mk op num s b ks)) 2=aA s:=rfl;have f:ae (Tm.d (.mk op num s b ks)) 3=bM 4 b (Tm.rows ks):=rfl;generalize Tm.d (.mk op num s b ks)=x at*;simp only[fy,Tm.op,Tm.num,Tm.name,Tm.aC];simp only[B5,Oc,fl,a,c,e,f,ln,g,cG,Hm,xbE,xcs,BK,h9,cj,aK,av,aJ,aR,bd,cI,jV,bh,cc,aL,bP,bQ,an,bC];by_cases ak:(eh op).1<0
 .simp[ak]
 simp only[ak,decide_false,xaq,xaF,tA,cG,h9];simp[vq];grind
def Ro(n:Nat)(t:Tm)(deep:Int):xW n [t.d,aa deep]=some (aa (if deep>64 then 17 else fy t)):=by
 cases t with|mk op num s b ks=>
 have h:=afh n op;have fl:cw 4 (Tm.d (.mk op num s b ks))=true:=Tm.jf _;have c:ae (Tm.d (.mk op num s b ks)) 0=aa op:=rfl;have e:ae (Tm.d (.mk op num s b ks)) 1=aa num:=rfl;have f:ae (Tm.d (.mk op num s b ks)) 2=aA s:=rfl;have g:ae (Tm.d (.mk op num s b ks)) 3=bM 4 b (Tm.rows ks):=rfl;have i:D.agg [aa op,aa num,aA s,bM 4 b (Tm.rows ks)]=(Tm.d (.mk op num s b ks)):=rfl;have aj:=afi s;simp only[fy,Tm.op,Tm.num,Tm.name,Tm.aC];simp only[xW,OV,fl,c,e,f,g,ln,h,cG,Hm,xbE,xcs,BK,kV,h9,cj,aK,av,aJ,aR,bd,cI,ru,bh,cc,aL,bP,bQ,an,bC];by_cases a:deep>64
 .simp[a]
 by_cases ak:(eh op).1<0;.simp[ak]
 simp only[ak,a,decide_false,xaq,xaF,tA,cG,h9];simp[vq];simp at aj;grind
mutual
def ck:Tm->Int->Int->Int×Int
 | .mk op n s b ks,deep,k=>if deep>64 then(17,k+1)else if fy (.mk op n s b ks)≠0 then(fy (.mk op n s b ks),k+1)else if k+1>4096 then(4,k+1)else dy ks (deep+1) (k+1)
def dy:List Tm->Int->Int->Int×Int
 |[],_,k=>(0,k)|t::r,deep,k=>if(ck t deep k).1≠0 then ck t deep k else dy r deep (ck t deep k).2
end
theorem o3(t:Tm)(deep k:Int):ck t deep k=if deep>64 then(17,k+1)else if fy t≠0 then(fy t,k+1)else if k+1>4096 then(4,k+1)else dy t.aC (deep+1) (k+1):=by cases t;rw[ck];rfl
def vr(t:Tm):∀(deep k:Int),k+1<=(ck t deep k).2/\((ck t deep k).1=0->(ck t deep k).2<=4096):=by
 refine Tm.ind (P:=λt=>∀(deep k:Int),k+1<=(ck t deep k).2/\((ck t deep k).1=0->(ck t deep k).2<=4096)) ?_ t;intro t ih deep k;rw[o3];split;.simp
 split;.rename_i h;simp[h]
 split;.simp
 have key:∀(l:List Tm)(deep k:Int),(∀x∈l,∀(deep k:Int),k+1<=(ck x deep k).2/\((ck x deep k).1=0->(ck x deep k).2<=4096))->k<=4096->k<=(dy l deep k).2/\((dy l deep k).1=0->(dy l deep k).2<=4096):=by
  intro l
  induction l with
  |nil=>intro deep k _ h;simp[dy,h]
  |cons a r b=>
   intro deep k h d;rw[dy];have ab:=h a sZ deep k;split
   .rename_i ad;exact⟨by omega,λai=>absurd ai ad⟩
   rename_i ad;simp only[ne_eq,Decidable.not_not]at ad;have ai:=b deep (ck a deep k).2 (λx c=>h x (by simp[c])) (ab.2 ad);exact⟨by omega,ai.2⟩
 have:=key t.aC (deep+1) (k+1) ih oZ;exact this
def Rp:∀(n:Nat)(t:Tm)(deep k:Int),t.aO<n->t.Ok->0<=deep->deep<=65->0<=k->k<=4096->oN n [t.d,aa deep,aa k]=some (.az [aa (ck t deep k).1,aa (ck t deep k).2])
 |0,t,_,_,h,_,_,_,_,_=>absurd h (xaI _)
 |n+1,t,deep,k,x,b,ab,ad,ai,w=>by
  have q:=Ro n t deep;rw[o3];simp[oN,Ia,ig k,q];by_cases j:64<deep;.simp[j]
  simp[j];by_cases o:fy t=0
  case neg=>simp[o]
  simp[o];by_cases g:4096<k+1;.simp[g]
  simp[g];have ah:=cd (f:=CB (oN n) n) t.aC (λi s=>[aa deep,aa s,aa (i:Int),aa t.op,aa t.num,aA t.name,bM 4 t.nl (Tm.rows t.aC)]) (λr (s:Int)=>if(dy r (deep+1) s).1=0 then(Sum.inl [aa (dy r (deep+1) s).2]:lZ⊕D)else .inr (.az [aa (dy r (deep+1) s).1,aa (dy r (deep+1) s).2])) (λi s=>0<=s/\s<=4096) ?_ ?_ n 0 (k+1) ⟨by omega,by omega⟩ (by have:=t.ie;omega) (xah _)
  .have p:(aa ((0:Nat):Int))=aa 0:=rfl;rw[p]at ah;rw[ah];simp only[xak,cG];by_cases ak:(dy t.aC (deep+1) (k+1)).1=0;.simp[ak]
   simp[ak]
  .intro s aj;simp[CB,dy]
  intro i a s e ag aj;have m:=xad e;have y:=Tm.gC m;have l:=b.len;have u:=Rp n a (deep+1) s oZ (b.dx m) oZ oZ aj.1 aj.2;have c:=vr a (deep+1) s;simp[CB,ag,Tm.e9 e,ig deep,u,bu i,dy];by_cases ak:(ck a (deep+1) s).1=0
  .left;simp only[ak];exact⟨(ck a (deep+1) s).2,by simp,by simp,by omega,c.2 ak⟩
  right;simp[ak]
def Jc(n:Nat)(t:Tm)(b:t.aO<n)(a:t.Ok):uj n [t.d]=some (aa (ck t 1 0).1):=by have:=Rp n t 1 0 b a oZ oZ oZ oZ;simp[uj,OW,this]
def afk(n:Nat)(t:Tm)(deep k w:Int)(ab:0<=k)(ad:k<=4096):∃e,e=(if deep>64 then 17 else if fy t≠0 then fy t else if k+1>4096 then 4 else 0)/\xv n [t.d,aa deep,aa k,aa w]=some [aD (decide (e=0)),aa (k+1),aa e]:=by refine⟨_,rfl,?_⟩;have a:=afj n t;simp[xv,ig k,a];by_cases c1:64<deep<;>by_cases c2:fy t=0<;>by_cases b3:4096<k+1<;>simp[c1,c2,b3]
def Rq:∀(n:Nat)(t:Tm)(deep k w:Int),t.aO<n->t.Ok->0<=deep->deep<=65->0<=k->k<=4096->oS n [t.d,aa deep,aa k,aa w]=some [aD (decide ((ck t deep k).1=0)),aa (ck t deep k).2,aa (ck t deep k).1]
 |0,t,_,_,_,h,_,_,_,_,_=>absurd h (xaI _)
 |n+1,t,deep,k,w,z,c,ab,ad,ai,p=>by
  obtain⟨e,y,u⟩:=afk n t deep k w ai p;rw[o3];simp[oS,Iz,u];by_cases b:e=0
  case neg=>simp[b];grind
  have q:¬deep>64/\fy t=0/\¬k+1>4096:=by grind
  simp[b,q];have ah:=cd (f:=C2 (oS n) n) t.aC (λi (s:Int×Int)=>[aa deep,bM 4 t.nl (Tm.rows t.aC),aa t.aC.length,aa (i:Int),aa s.1,aa s.2]) (λr (s:Int×Int)=>if(dy r (deep+1) s.1).1=0 then(Sum.inl [aa (dy r (deep+1) s.1).2,aa 0]:lZ⊕lZ)else .inr [aD false,aa (dy r (deep+1) s.1).2,aa (dy r (deep+1) s.1).1]) (λi s=>0<=s.1/\s.1<=4096/\s.2=0) ?_ ?_ n 0 (k+1,0) ⟨by simp;omega,by simp;omega,rfl⟩ (by have:=t.ie;omega) (xah _)
  .have o:(aa ((0:Nat):Int))=aa 0:=rfl;rw[o]at ah;rw[ah];simp only[xak,cG];by_cases ak:(dy t.aC (deep+1) (k+1)).1=0;.simp[ak]
   simp[ak]
  .intro s aj;simp[C2,dy,aj.2.2]
  intro i a s j ag aj;have m:=xad j;have A:=Tm.gC m;have l:=c.len;have x:=Rq n a (deep+1) s.1 s.2 oZ (c.dx m) oZ oZ aj.1 aj.2.1;have g:=vr a (deep+1) s.1;simp[C2,ag,Tm.e9 j,ig deep,x,bu i,dy];by_cases ak:(ck a (deep+1) s.1).1=0
  .left;exact⟨(ck a (deep+1) s.1).2,0,by simp[ak],by simp[ak],by omega,g.2 ak,rfl⟩
  right;simp[ak]
def D4(n:Nat)(t:Tm)(b:t.aO<n)(a:t.Ok):qn n [t.d]=some (aa (ck t 1 0).1):=by have:=Rq n t 1 0 0 b a oZ oZ oZ oZ;simp[qn,Ps,this]
def afl{a:Type}(A B:List a)(z s:a):(((A++B++[z]).take (A.length+1)++(((A++B++[z]).drop A.length).take (B.length+1)).take (min ((((A++B++[z]).drop A.length).take (B.length+1)).length) B.length)++(A++B++[z]).drop (A.length+1+min ((((A++B++[z]).drop A.length).take (B.length+1)).length) B.length)).set A.length s)=A++s::B:=by
 have c:(A++B++[z]).drop A.length=B++[z]:=by rw[xaL,List.drop_left]
 have d:(B++[z]).take (B.length+1)=B++[z]:=xbz sZ;rw[c,d];have e:min (B++[z]).length B.length=B.length:=sZ
 rw[e];have f:(B++[z]).take B.length=B:=List.take_left;have g:(A++B++[z]).drop (A.length+1+B.length)=[]:=xcv uZ;rw[f,g,xat];obtain⟨w,h⟩:∃w,(A++B++[z]).take (A.length+1)=A++[w]:=by rw[xaL,List.take_append];cases B with|nil=>exact⟨z,by rw[xbz oZ];simp⟩|cons b B=>exact⟨b,by rw[xbz oZ];simp⟩
 rw[h,xaL];simp
def Jd{n i:Nat}(h:i<=n):h5 n (some (aa (i:Int))) none=some (i,n-i):=by simp[h5,ld,aa,h]
theorem afm(l:List ByteArray):aF (cx l)=l.map λs=>[aA s]:=rfl
def Rr(n:Nat)(s:ByteArray)(l:List ByteArray)(aj:gN l)(b5:l.length+2<n)(ah:l.length<1000000000):qm n [aA s,cx l]=some [cx (fa s l)]:=by
 obtain⟨a,b,rfl,ad,ai,U,V,W⟩:=HD s aj;have es:=afm (a++b);have key:aS (yL n) n [aA s,aa ((a++b).length:Int),cx (a++b)]=some (.inl [aA s,aa (a.length:Int),cx (a++b)]):=by
  refine ia (λj=>[aA s,aa (((a++b).length-j:Nat):Int),cx (a++b)]) b.length sZ ?_ ?_ (by simp at b5;omega)
  .intro j cL;have q:(a++b).length=a.length+b.length:=sZ
   obtain⟨m,A⟩:∃m:Nat,(a++b).length-j=m+1:=⟨(a++b).length-j-1,by omega⟩;have L:(a++b).length-(j+1)=m:=oZ
   have g:(a++b)[m]?=b[m-a.length]?:=xas oZ;have f:m-a.length<b.length:=oZ
   have J:=xaa f;rw[J]at g;have bU:=ai _ (xaX f);generalize b[m-a.length]=x at*;have o:aP false .sub (aa ((m+1:Nat):Int)) (aa 1)=some (aa (m:Int)):=by rw[jX oZ oZ];congr 2;omega
   have d:cS (aF (cx (a++b))).length (aa (m:Int))=some m:=by rw[jW,xac (by rw[es];simp at q⊢;omega)]
   have p:(aF (cx (a++b)))[m]?=some [aA x]:=by rw[es,xag,g];rfl
   have k:((m+1:Nat):Int)>0:=oZ
   simp only[A,L];simp only[yL,lq,ma,kV,xap k,cG,oC,xaE,o,d,p,fW,xbE,BW,bU,oD,h9,cj,aK,ct,av,aR,aB,ff,bx,cF,an,bC];rfl
  have q:(a++b).length-b.length=a.length:=sZ
  simp only[q];by_cases ak:a.length=0
  .have:¬((a.length:Int)>0):=oZ
   simp only[yL,lq,ma,kV,xaB this,cG,oC,xaq,xaF,oD,h9,Hk,cj,aK,ct,av,aR,aB,ff,bx,cF,an,bC];rfl
  obtain⟨m,A⟩:∃m:Nat,a.length=m+1:=⟨a.length-1,by omega⟩;have f:m<a.length:=oZ
  have g:(a++b)[m]?=a[m]?:=xao f;rw[xaa f]at g;have bY:=ad _ (xaX f);generalize a[m]=x at*;have o:aP false .sub (aa ((m+1:Nat):Int)) (aa 1)=some (aa (m:Int)):=by rw[jX oZ (by simp at ah;omega)];congr 2;omega
  have d:cS (aF (cx (a++b))).length (aa (m:Int))=some m:=by rw[jW,xac (by rw[es];simp;omega)]
  have p:(aF (cx (a++b)))[m]?=some [aA x]:=by rw[es,xag,g];rfl
  have k:((m+1:Nat):Int)>0:=oZ
  simp only[A];simp only[yL,lq,ma,kV,xap k,cG,oC,xaE,o,d,p,fW,xbE,BW,bY,oD,h9,xaq,xaF,Hk,cj,aK,ct,av,aR,aB,ff,bx,cF,an,bC];rfl
 have y:D.aw 1 (aF (cx (a++b)))=cx (a++b):=rfl;have E:(aF (cx (a++b))).length=(a++b).length:=by rw[es];simp
 by_cases c:s∈a++b
 .obtain⟨t,rfl⟩:=U c;rw[HC aj c];have I:(t++[s]).length=t.length+1:=sZ
  have o:aP false .sub (aa ((t.length+1:Nat):Int)) (aa 1)=some (aa (t.length:Int)):=by rw[jX oZ (by simp at ah;omega)];congr 2;omega
  have d:cS ((t++[s]++b).length) (aa (t.length:Int))=some t.length:=by rw[jW,xac sZ]
  have p:(aF (cx (t++[s]++b)))[t.length]?=some [aA s]:=by rw[es];simp
  have k:((t.length+1:Nat):Int)>0:=oZ
  rw[I]at key;simp only[qm,lq,ma,E,y,key,cG,lp,kV,xap k,oC,xaE,o,d,p,fW,xbE,Hq,decide_true,oD,h9,cj,aK,ct,aR,aB,cR,ff,bq,cF,bp,an,bC]
 rw[W c];have M:=V c;have z:af (cu (aD (decide ((a.length:Int)>0))) true (af (aP false .sub (aa (a.length:Int)) (aa 1)) λv26=>af (cS (a++b).length v26) λR=>af ((aF (cx (a++b)))[R]?) λG=>af (aN false 1 0 G) λv28=>af (aP false .eql v28 (aA s)) λu=>some u)) (λu=>af (dQ (aD (decide ((a.length:Int)>0))) u (aD false)) λv31=>some v31)=some (aD false):=by
  by_cases ak:a.length=0
  .have:¬((a.length:Int)>0):=oZ
   simp only[xaB this,oC,xaq,xaF,cG,oD]
  obtain⟨m,A⟩:∃m:Nat,a.length=m+1:=⟨a.length-1,by omega⟩;have f:m<a.length:=oZ
  have g:(a++b)[m]?=a[m]?:=xao f;rw[xaa f]at g;have N:a[m]≠s:=λe=>M (by rw[<-e];exact xaX f);generalize a[m]=x at*;have o:aP false .sub (aa ((m+1:Nat):Int)) (aa 1)=some (aa (m:Int)):=by rw[jX oZ (by simp at ah;omega)];congr 2;omega
  have d:cS (a++b).length (aa (m:Int))=some m:=by rw[jW,xac uZ]
  have p:(aF (cx (a++b)))[m]?=some [aA x]:=by rw[es,xag,g];rfl
  have k:((m+1:Nat):Int)>0:=oZ
  rw[A];simp only[xap k,oC,xaE,o,cG,d,p,fW,xbE,Hq,xaB N,oD]
 obtain⟨u,bX,b6⟩:=cN z;obtain⟨v31,cv,cz⟩:=cN b6;cases cz;have O:bZ ((a++b).length+1) 16=true:=eB;have C:=tI (bt:=false) (i:=a.length) (by simp at ah;omega);have Y:aF (cx (a++b))++[[aA ⟨#[]⟩]]=(a.map λs=>[aA s])++(b.map λs=>[aA s])++[[aA ⟨#[]⟩]]:=by rw[es];simp
 have H:((a.map λs=>[aA s])++(b.map λs=>[aA s])++[[aA ⟨#[]⟩]]:mW).length=a.length+b.length+1:=uZ
 have c1:h5 (a.length+b.length+1) (some (aa ((a.length+1:Nat):Int))) none=some (a.length+1,b.length):=by rw[Jd oZ];congr 2;omega
 have c2:h5 (a.length+b.length+1) (some (aa (a.length:Int))) none=some (a.length,b.length+1):=by rw[Jd oZ];congr 2;omega
 have B:=afl (a.map λs=>[aA s]) (b.map λs=>[aA s]) [aA ⟨#[]⟩] [aA s];simp only[xaT]at B;have T:∀(X:mW) (w:lZ),X[a.length]?=some w->er w 0 [aA s]=[aA s]->(X.set a.length (er w 0 [aA s]))=X.set a.length [aA s]:=λX w _ h=>by rw[h]
 generalize S:(((a.map λs=>[aA s])++(b.map λs=>[aA s])++[[aA ⟨#[]⟩]]:mW).take (a.length+1)++((((a.map λs=>[aA s])++(b.map λs=>[aA s])++[[aA ⟨#[]⟩]]:mW).drop a.length).take (b.length+1)).take (min (((((a.map λs=>[aA s])++(b.map λs=>[aA s])++[[aA ⟨#[]⟩]]:mW).drop a.length).take (b.length+1)).length) b.length)++((a.map λs=>[aA s])++(b.map λs=>[aA s])++[[aA ⟨#[]⟩]]:mW).drop (a.length+1+min (((((a.map λs=>[aA s])++(b.map λs=>[aA s])++[[aA ⟨#[]⟩]]:mW).drop a.length).take (b.length+1)).length) b.length))=X at*;have Z:X.length=a.length+b.length+1:=by have:=congrArg List.length B;simp at this;omega
 have d:cS X.length (aa (a.length:Int))=some a.length:=by rw[jW,xac oZ]
 have r:∃x,X[a.length]?=some [x]:=by
  have A:∀w∈X,∃x,w=[x]:=by
   rw[<-S];intro w r;have c:w∈((a.map λs=>[aA s])++(b.map λs=>[aA s])++[[aA ⟨#[]⟩]]:mW):=by
    rcases xar.1 r with r|r
    .rcases xar.1 r with r|r;.exact xbr r
     exact xbq (xbr (xbr r))
    exact xbq r
   rcases xar.1 c with c|c
   .rcases xar.1 c with c|c;.obtain⟨x,_,rfl⟩:=xaK.1 c;exact⟨_,rfl⟩
    obtain⟨x,_,rfl⟩:=xaK.1 c;exact⟨_,rfl⟩
   simp at c;exact⟨_,c⟩
  have f:a.length<X.length:=oZ
  obtain⟨x,Q⟩:=A _ (xaX f);exact⟨x,by rw[xaa f,Q]⟩
 obtain⟨x,Q⟩:=r;have P:er [x] 0 [aA s]=[aA s]:=rfl;have d1:decide (a.length+(b.length+1)<=a.length+b.length+1)=true:=xap oZ;have d2:decide (a.length+1+b.length<=a.length+b.length+1)=true:=xap oZ;have F:da (aA s)=true:=rfl;have K:([[aA ⟨#[]⟩]]:mW).length=1:=rfl;simp only[qm,lq,ma,E,y,key,cG,lp,kV,cj,aK,ct,aR,aB,cR,ff,bq,cF,bp,an,bC];rw[bX];simp only[cG,cv,h9,xaq,xaF,K,O,ln,C,Y,H,c1,c2,d1,d2,S,d,F,Q,P,B];simp[cx]
def hd(nl:Bool)(l:List ByteArray):D:=bM 1 nl (l.map λs=>[aA s])
def Rs{nl:Bool}{l:List ByteArray}(h:l≠[]):hd nl l=cx l:=by cases l with|nil=>exact absurd rfl h|cons a r=>simp[hd,cx,bM]
def j0(nl:Bool)(l:List ByteArray):dK (hd nl l)=some (aa l.length):=by simp[hd]
def sl{nl:Bool}{l:List ByteArray}{i:Nat}{s:ByteArray}(h:l[i]?=some s):a8 1 (hd nl l) (aa (i:Int))=some [aA s]:=by unfold hd;rw[Hv];simp[h]
def afn(s:ByteArray)(l:List ByteArray):fa s l≠[]:=by cases l with|nil=>simp[fa]|cons a r=>rw[fa];split<;>(try split)<;>simp
def afo(n:Nat)(nl:Bool)(l:List ByteArray)(s:ByteArray)(d:l.length<n)(ah:l.length<1000000000):Cw n [hd nl l,aA s]=some (aD (l.any λx=>decide (x=s))):=by
 have ag:=cd (f:=xT n) l (λi (_:Unit)=>[hd nl l,aA s,aa (i:Int)]) (λr _=>if r.any (λx=>decide (x=s))=true then(.inr (aD true):lZ⊕D)else .inl []) (λ_ _=>True) (λ_ _=>by simp[xT,j0]) ?_ n 0 () trivial oZ (xah _)
 .have b:(aa ((0:Nat):Int))=aa 0:=rfl;rw[b]at ag;simp only[xak]at ag;simp only[Cw,OS,ag,cG,ru,bh,an];by_cases h:l.any (λx=>decide (x=s))=true;.rw[xac h,h];rfl
  rw[xab h];cases c:l.any (λx=>decide (x=s))with|false=>rfl|true=>exact absurd c h
 intro i x _ a ag _;by_cases h:x=s;.right;simp[xT,j0,ag,sl a,h]
 left;exact⟨(),by simp[xT,j0,ag,sl a,h,bu i],by simp only[xcr,xaB h,xbG],trivial⟩
def wf(s:ByteArray):List ByteArray->Bool->List ByteArray->Bool×List ByteArray
 |[],d,o=>(d,o)|x::r,d,o=>if(!d&&blt s x)=true then wf s r true (o++[s,x])else wf s r d (o++[x])
def Rt(s:ByteArray):∀(l o:List ByteArray),wf s l true o=(true,o++l)
 |[],o=>by simp[wf]|x::r,o=>by rw[wf];simp[Rt s r]
def Ru(s:ByteArray):∀(a b o:List ByteArray),(∀x∈a,blt s x=false)->wf s (a++b) false o=wf s b false (o++a)
 |[],b,o,_=>by simp|x::a,b,o,h=>by rw[xbD,wf];have:=h x sZ;simp[this,Ru s a b _ (λy c=>h y (by simp[c]))]
def afp(s:ByteArray):∀(b o:List ByteArray),(∀x∈b,blt s x=true)->wf s b false o=(match b with|[]=>(false,o)|_=>(true,o++s::b))
 |[],o,_=>rfl|x::r,o,h=>by rw[wf];have:=h x sZ;simp[this,Rt]
@[simp] theorem amx (p:List ByteArray) (x:ByteArray):D.aw 1 (aF (cx p)++[[aA x]])=cx (p++[x]):=by simp[cx]
@[simp] theorem amy (p:List ByteArray):(aF (cx p)).length=p.length:=by simp[cx]
@[simp] theorem amz (p:List ByteArray):D.aw 1 (aF (cx p))=cx p:=rfl
def afq(n:Nat)(nl:Bool)(l:List ByteArray)(s:ByteArray)(aj:gN l)(H:l.length+2<n)(ah:l.length<1000000000):uh n [hd nl l,aA s]=some (cx (fa s l)):=by
 have g:=afo n nl l s oZ ah;by_cases k:s∈l;.have:l.any (λx=>decide (x=s))=true:=xbn.2 ⟨s,k,by simp⟩;rw[this]at g;rw[HC aj k];simp only[uh,Cx,g,cG,h9,xaE,av,aB,ru,bh,dc,bp,an];rw[Rs (List.ne_nil_of_mem k)]
 have t:l.any (λx=>decide (x=s))=false:=by cases h:l.any (λx=>decide (x=s))with|false=>rfl|true=>obtain⟨x,ab,ad⟩:=xbn.1 h;simp at ad;subst ad;exact absurd ab k
 rw[t]at g;obtain⟨a,b,eb,ad,ai,F,G,A⟩:=HD s aj;have E:wf s l false []=wf s b false a:=by rw[eb,Ru s a b _ ad];simp
 have e:=cd (f:=ug n) l (λi (p:Bool×List ByteArray)=>[hd nl l,aA s,aD p.1,aa (i:Int),cx p.2]) (λr p=>(.inl [aA s,aD (wf s r p.1 p.2).1,cx (wf s r p.1 p.2).2]:lZ⊕D)) (λi p=>p.2.length<=i+(if p.1=true then 1 else 0)) (λp _=>by simp[ug,j0,wf]) ?_ n 0 (false,[]) sZ oZ (xah _)
 .have y:(aa ((0:Nat):Int))=aa 0:=rfl;have z:cx []= .aw 1 []:=rfl;rw[y,z]at e;simp only[xak,E]at e;rw[A k];have B:a.length<=l.length:=by rw[eb];simp
  cases b with|nil=>simp only[wf]at e;have u:bZ (a.length+1) 16=true:=eB;simp[uh,Cx,g,e,u]|cons c r=>have j:=afp s (c::r) a ai;simp only at j;rw[j]at e;simp[uh,Cx,g,e]
 intro i x p w ag m;left;have q:=bu i;have C:p.2.length<=i+1:=by split at m<;>omega
 have c7:bZ (p.2.length+1) 16=true:=eB;have dm:bZ (p.2.length+1+1) 16=true:=eB;obtain⟨d,o⟩:=p;simp only at m c7 dm;cases d with
 |true=>
  refine⟨(true,o++[x]),?_,by rw[wf];simp,?_⟩;.simp[ug,j0,ag,sl w,c7,q]
  simp at m⊢;omega
 |false=>
  cases j:blt s x
  .refine⟨(false,o++[x]),?_,by rw[wf];simp[j],?_⟩;.simp[ug,j0,ag,sl w,c7,q,BW,j,-Hr]
   simp at m⊢;omega
  refine⟨(true,o++[s]++[x]),?_,by rw[wf];simp[j],?_⟩;.simp[ug,j0,ag,sl w,c7,dm,q,BW,j,-Hr]
  simp at m⊢;omega
mutual
def dX(o:Int):Tm->List ByteArray->List ByteArray
 | .mk op _ s _ ks,l=>jm o ks (if op=o then fa s l else l)
def jm(o:Int):List Tm->List ByteArray->List ByteArray
 |[],l=>l|t::r,l=>jm o r (dX o t l)
end
theorem D5(o:Int)(t:Tm)(l:List ByteArray):dX o t l=jm o t.aC (if t.op=o then fa t.name l else l):=by cases t;rw[dX];rfl
mutual
def zE(o:Int):∀(t:Tm)(l:List ByteArray),gN l->gN (dX o t l)/\(dX o t l).length<=l.length+t.aO
 | .mk op n s b ks,l,h=>by
  rw[dX];have ab:gN (if op=o then fa s l else l):=by split;exact xb h;exact h
  have ad:(if op=o then fa s l else l).length<=l.length+1:=by split;exact xc l;omega
  have:=Rv o ks _ ab;exact⟨this.1,by simp only[Tm.aO];omega⟩
def Rv(o:Int):∀(ks:List Tm)(l:List ByteArray),gN l->gN (jm o ks l)/\(jm o ks l).length<=l.length+Tm.dp ks
 |[],l,h=>⟨h,by simp[jm,Tm.dp]⟩|t::r,l,h=>by rw[jm];have ab:=zE o t l h;have ad:=Rv o r _ ab.1;exact⟨ad.1,by simp only[Tm.dp];omega⟩
end
theorem Rw{l:List Tm}{i:Nat}{a:Tm}(h:l[i]?=some a):Tm.dp (l.drop i)=1+a.aO+Tm.dp (l.drop (i+1)):=by obtain⟨ab,ad⟩:=lV.1 h;rw[xaU ab,ad];rfl
def afr(nl:Bool)(s:ByteArray)(l:List ByteArray):hd nl (fa s l)=cx (fa s l):=Rs (afn s l)
def Je(o:Int):∀(n:Nat)(t:Tm)(nl:Bool)(l:List ByteArray),t.aO+l.length+10<n->t.Ok->gN l->l.length+t.aO<1000000000->nD n [t.d,aa o,hd nl l]=some (hd nl (dX o t l))
 |0,t,_,_,h,_,_,_=>absurd h (xaI _)
 |n+1,t,nl,l,C,e,aj,A=>by
  have m:=e.len;have w:=t.ie;show xU (nD n) n t.d (aa o) (hd nl l)=_;rw[D5];generalize b:(if t.op=o then fa t.name l else l)=g;have ab:gN g:=by rw[<-b];split;exact xb aj;exact aj
  have ad:g.length<=l.length+1:=by rw[<-b];split;exact xc l;omega
  have u:Tm.dp t.aC+2=t.aO:=by cases t;simp[Tm.aO,Tm.aC];omega
  have ah:=cd (f:=Cy (nD n) n) t.aC (λi (p:List ByteArray)=>[aa o,hd nl p,aa (i:Int),aa t.op,aa t.num,aA t.name,bM 4 t.nl (Tm.rows t.aC)]) (λr p=>(.inl [hd nl (jm o r p)]:lZ⊕D)) (λi p=>gN p/\p.length+Tm.dp (t.aC.drop i)<=g.length+Tm.dp t.aC) (λp _=>by simp[Cy,jm]) ?_ n 0 g ⟨ab,by simp⟩ oZ (xah _)
  .have y:(aa ((0:Nat):Int))=aa 0:=rfl;rw[y]at ah;simp only[xak]at ah;by_cases c:t.op=o;.rw[xac c]at b;have x:=afq n nl l t.name aj oZ oZ;rw[b,<-b,<-afr nl,b]at x;simp[xU,c,x];rw[c]at ah;rw[ah];rfl
   rw[xab c]at b;subst b;simp[xU,c,ah]
  intro i a p j ag s;have q:=xad j;have E:=Tm.gC q;have B:=Rw j;have z:=Je o n a nl p oZ (e.dx q) s.1 oZ;have k:=zE o a p s.1;left;refine⟨dX o a p,?_,by rw[jm],k.1,by omega⟩;simp[Cy,ag,Tm.e9 j,z,bu i]
def Jf(n:Nat)(t:Tm)(f:t.aO+10<n)(a:t.Ok)(c:t.aO<1000000000):ui n [t.d]=some (.az [hd true (dX 3 t []),hd true (dX 4 t [])]):=by have ai:=Je 3 n t true [] uZ a trivial uZ;have b:=Je 4 n t true [] uZ a trivial uZ;have e:hd true []=b9:=rfl;rw[e]at ai b;simp[ui,OT,ai,b]
def afs(n:Nat)(t:Tm)(e8:D)(p q:List ByteArray)(b:gN p)(c:gN q)(h:p.length+q.length+5<n)(g:p.length+q.length<1000000000):rZ n [t.d,e8,cx p,cx q]=some [aD true,cx (if t.op=3 then fa t.name p else p),cx (if t.op=4 then fa t.name q else q)]:=by
 have e:=Rr n t.name p b oZ oZ;have f:=Rr n t.name q c oZ oZ;by_cases ai:t.op=3
 .simp[rZ,ai,e]
 by_cases a:t.op=4;.simp[rZ,a,f]
 simp[rZ,ai,a]
def Rx:∀(n:Nat)(t:Tm)(deep:Int)(p q:List ByteArray),t.aO+p.length+q.length+t.aO+20<n->t.Ok->gN p->gN q->0<=deep->deep+t.aO<1000000000->p.length+q.length+t.aO+t.aO<1000000000->oT n [t.d,aa deep,cx p,cx q]=some [aD true,cx (dX 3 t p),cx (dX 4 t q)]
 |0,t,_,_,_,h,_,_,_,_,_,_=>absurd h (xaI _)
 |n+1,t,deep,p,q,M,b,l,m,A,B,K=>by
  have o:=b.len;have w:=t.ie;have u:Tm.dp t.aC+2=t.aO:=by cases t;simp[Tm.aO,Tm.aC];omega
  have ab:=afs n t (aa deep) p q l m oZ oZ;rw[D5,D5];generalize c:(if t.op=3 then fa t.name p else p)=g at*;generalize e:(if t.op=4 then fa t.name q else q)=j at*;have I:gN g:=by rw[<-c];split;exact xb l;exact l
  have N:g.length<=p.length+1:=by rw[<-c];split;exact xc p;omega
  have J:gN j:=by rw[<-e];split;exact xb m;exact m
  have O:j.length<=q.length+1:=by rw[<-e];split;exact xc q;omega
  have ah:=cd (f:=C3 (oT n) n) t.aC (λi (z:List ByteArray×List ByteArray)=>[aa deep,bM 4 t.nl (Tm.rows t.aC),aa t.aC.length,aa (i:Int),cx z.1,cx z.2]) (λr z=>(.inl [cx (jm 3 r z.1),cx (jm 4 r z.2)]:lZ⊕lZ)) (λi z=>gN z.1/\gN z.2/\z.1.length+Tm.dp (t.aC.drop i)<=g.length+Tm.dp t.aC/\z.2.length+Tm.dp (t.aC.drop i)<=j.length+Tm.dp t.aC) (λz _=>by simp[C3,jm]) ?_ n 0 (g,j) ⟨I,J,by simp,by simp⟩ oZ (xah _);.have y:(aa ((0:Nat):Int))=aa 0:=rfl;rw[y]at ah;simp only[xak]at ah;simp[oT,IA,ab,ah]
  intro i a z k ag E;obtain⟨x,z2,z3,z4⟩:=E;have s:=xad k;have F:=Tm.gC s;have L:=Rw k;have C:=Rx n a (deep+1) z.1 z.2 oZ (b.dx s) x z2 oZ oZ oZ;have G:=zE 3 a z.1 x;have H:=zE 4 a z.2 z2;left;refine⟨(dX 3 a z.1,dX 4 a z.2),?_,by simp[jm],G.1,H.1,by simp only;omega,by simp only;omega⟩;simp[C3,ag,Tm.e9 k,C,ig deep,bu i]
def D6(n:Nat)(t:Tm)(c:t.aO+t.aO+30<n)(a:t.Ok)(b:t.aO<100000000):qo n [t.d]=some (.az [cx (dX 3 t []),cx (dX 4 t [])]):=by have h:=Rx n t 1 [] [] uZ a trivial trivial oZ oZ uZ;have e:cx []= .aw 1 []:=rfl;have f:∀l,da (cx l)=true:=λ_=>rfl;rw[e]at h;simp[qo,Pt,h]
mutual
def D7:Tm->Tm->Bool
 | .mk o n s _ ks,u=>decide (o=u.op)&&decide (n=u.num)&&decide (s=u.name)&&decide (ks.length=u.aC.length)&&sm ks u.aC
def sm:List Tm->List Tm->Bool
 |a::r,b::q=>D7 a b&&sm r q|[],_=>true|_::_,[]=>true
end
theorem Ry(t u:Tm):D7 t u=(decide (t.op=u.op)&&decide (t.num=u.num)&&decide (t.name=u.name)&&decide (t.aC.length=u.aC.length)&&sm t.aC u.aC):=by cases t;rw[D7];rfl
def nR:List a7->Nat->List (Value×D)->List (Value×D)
 |[],_,M=>M|v::r,i,M=>nR r (i+1) (if(eu M v.name).isSome then M else(lf .string M (aA v.name) (aa i)).getD [])
def Jg:∀(r:List a7)(i:Nat)(M:List (Value×D)),ij M->ij (nR r i M)/\∀x,eu (nR r i M) x=match eu M x with|some d=>some d|none=>(cq r x).map λj=>aa ((i+j:Nat):Int)
 |[],i,M,h=>⟨h,λx=>by simp only[nR,cq,List.findIdx?_nil];cases eu M x<;>rfl⟩
 |v::r,i,M,h=>by
  rw[nR];have e:∀x,cq (v::r) x=if v.name=x then some 0 else(cq r x).map (·+1):=by intro x;simp[cq,xbY]
  by_cases aj:(eu M v.name).isSome
  .rw[xac aj];obtain⟨ab,ad⟩:=Jg r (i+1) M h;refine⟨ab,λx=>?_⟩;rw[ad x,e x];cases b:eu M x with
   |some d=>rfl
   |none=>
    have a:¬v.name=x:=by rintro rfl;simp[b]at aj
    simp only[a,xaF,Option.map_map]
    congr 1
    funext j
    simp only[Function.comp]
    congr 2
    omega
  rw[xab aj];obtain⟨c,g,k,l,_⟩:=BV h v.name (aa i);rw[g,xbm];obtain⟨ab,ad⟩:=Jg r (i+1) c k;refine⟨ab,λx=>?_⟩;rw[ad x,l x,e x];by_cases b:x=v.name
  .subst b;have f:eu M v.name=none:=by simpa using aj
   simp[f]
  have a:¬v.name=x:=λh=>b h.symm;simp only[b,a,xaF];cases m:eu M x with
  |some d=>rfl
  |none=>
   simp only[Option.map_map]
   congr 1
   funext j
   simp only[Function.comp]
   congr 2
   omega
def D8(M:List (Value×D))(vs:List a7):Prop:=ij M/\∀x,eu M x=(cq vs x).map λ(j:Nat)=>aa (j:Int)
def Jh(n:Nat)(vs:List a7)(p:vs.length<n)(ah:vs.length<1000000000000):∃M,r0 n [ay vs]=some (.mp M)/\D8 M vs:=by
 have ak:ij []:=by intro e m;cases m
 obtain⟨ab,ad⟩:=Jg vs 0 [] ak;refine⟨nR vs 0 [],?_,ab,λx=>by rw[ad x];simp only[eu,xaw]⟩;have ag:=cd (f:=yN n) vs (λi (M:List (Value×D))=>[ay vs,aa vs.length,aa (i:Int),.mp M]) (λr M=>(Sum.inl [.mp (nR r (vs.length-r.length) M)]:lZ⊕D)) (λi M=>ij M) (λM _=>by simp[yN,nR]) ?_ n 0 [] ak oZ (xah _)
 .have l:(aa ((0:Nat):Int))=aa 0:=rfl;rw[l]at ag;simp[r0,Pw,nu,ag]
 intro i a M h ag c;left;have e:vs.length-(a::vs.drop (i+1)).length=i:=uZ
 have g:vs.length-(vs.drop (i+1)).length=i+1:=uZ
 have ai:=tJ c (z:= .int .i64 0) (x:=a.name);cases b:eu M a.name with|some d=>rw[b]at ai;refine⟨M,by simp[yN,ag,dM h,ai,bu i],?_,c⟩;rw[e,nR,b,g];rfl|none=>rw[b]at ai;obtain⟨k,j,o,q,_⟩:=BV c a.name (aa i);refine⟨k,by simp[yN,ag,dM h,ai,j,bu i],?_,o⟩;rw[e,nR,b,g];simp only[xcw,xaq,xaF,j,xbm]
def Rz(n:Nat)(vs:List a7)(x:ByteArray)(k:vs.length<n)(ah:vs.length<1000000000000):uk n [ay vs,aA x]=some (aa (match cq vs x with|some i=>(i:Int)|none=>-1)):=by
 have ag:=cd (f:=xX n) vs (λi (_:Unit)=>[ay vs,aA x,aa (i:Int)]) (λr _=>match cq r x with|some j=>(Sum.inr (aa ((vs.length-r.length+j:Nat):Int)):lZ⊕D)|none=> .inl []) (λ_ _=>True) (λ_ _=>by simp[xX,nu,cq]) ?_ n 0 () trivial oZ (xah _);.have h:(aa ((0:Nat):Int))=aa 0:=rfl;rw[h]at ag;simp only[uk,OX,ag,xak,cG,ru,an];cases cq vs x<;>simp
 intro i a _ d ag _;have e:vs.length-(a::vs.drop (i+1)).length=i:=uZ
 have g:vs.length-(vs.drop (i+1)).length=i+1:=uZ
 have c:cq (a::vs.drop (i+1)) x=if a.name=x then some 0 else(cq (vs.drop (i+1)) x).map (·+1):=by simp[cq,xbY]
 have a0:a.cells[0]?=some (aA a.name):=rfl;by_cases b:a.name=x;.right;rw[c,xac b,e];simp[xX,nu,ag,dM d,a0,b]
 left;refine⟨(),by simp[xX,nu,ag,dM d,a0,b,bu i],?_,trivial⟩;rw[c,xab b,e,g];cases cq (vs.drop (i+1)) x with|none=>rfl|some j=>simp;omega
def cB(l:List a7)(t:Tm):lX:=(dX 3 t []).filterMap (cq l)
def jF{l:List a7}{t:Tm}:∀k∈cB l t,k<l.length:=by intro k a;obtain⟨x,_,b⟩:=List.mem_filterMap.1 a;obtain⟨_,_,_,h⟩:=HH b;exact h
def vt(t:Tm):(dX 3 t []).length<=t.aO:=by have:=(zE 3 t [] trivial).2;simpa using this
def D9(l:List a7)(t:Tm):(cB l t).length<=t.aO:=xbK (List.length_filterMap_le _ _) (vt t)
structure ft(B:Nat)(l:List a7):Prop where
 len:l.length<=B
 e:∀d∈l,d.e.Ok/\d.e.aO<=B
 b:B<=1000000
def to(l:List a7)(i:Nat):lX:=match l[i]? with|some d=>cB l d.e|none=>[]
def hW{l:List a7}(i:Nat):∀k∈to l i,k<l.length:=by
 unfold to;split;.exact jF
 intro k a;cases a
def vu{l:List a7}{i:Nat}{d:a7}(h:l[i]?=some d):to l i=cB l d.e:=by simp[to,h]
def zF{l:List ByteArray}{i:Nat}{s:ByteArray}(h:l[i]?=some s):a8 1 (cx l) (aa (i:Int))=some [aA s]:=by simp[cx,h]
def zG(l:List ByteArray):dK (cx l)=some (aa l.length):=by simp[cx]
def aft(n:Nat)(l:List a7)(t:Tm){B:Nat}(ah:l.length<=B)(g:t.Ok)(C:t.aO<=B)(z:B<=1000000)(A:2*B+100<n):xZ n [t.d,ay l]=some (cg (cB l t)):=by
 have u:=Jf n t oZ g oZ;have y:=vt t;have ag:=cd (f:=xY n) (dX 3 t []) (λi (s:lX)=>[ay l,hd true (dX 3 t []),aa (i:Int),cg s]) (λr s=>(.inl [cg (s++r.filterMap (cq l))]:lZ⊕D)) (λi s=>s.length<=i) (λs _=>by simp[xY,j0,cg]) ?_ n 0 [] sZ oZ (xah _)
 .have m:(aa ((0:Nat):Int))=aa 0:=rfl;have o:cg []=D.aw 1 []:=rfl;have b:∀x,D.aw 1 (aF (cg x))=cg x:=λ_=>rfl;rw[m,o]at ag;simp only[xak,xaM]at ag;simp only[xZ,OY,go_sem,u,ag,b];rfl
 intro i a s w ag aj;have j:=sl (nl:=true) w;have c:=Rz n l a oZ oZ;have b:∀x,D.aw 1 (aF (cg x))=cg x:=λ_=>rfl;left;cases e:cq l a with
 |none=>rw[e]at c;refine⟨s,?_,by simp[e],by omega⟩;simp only[xY,go_sem,j0,yT ((i:Int)<((dX 3 t []).length:Int)),j,fW,c,yF ((-1:Int)>=0),b,bu i]
 |some k=>
  rw[e]at c;have h:bZ (s.length+1) 8=true:=eB;have p:D.aw 1 (aF (cg s)++[[aa (k:Int)]])=cg (s++[k]):=by simp[cg]
  have q:(aF (cg s)).length=s.length:=by simp[cg]
  refine⟨s++[k],?_,by simp[e],by simp;omega⟩;simp only[xY,go_sem,j0,yT ((i:Int)<((dX 3 t []).length:Int)),j,fW,c,yT ((k:Int)>=0),b,p,q,xal,xaA,xaw,h,bu i]
def RA(n:Nat)(l:lX)(k:Nat)(d:D)(p:d=cg l\/(l=[]/\d=b9))(ah:l.length<1000000000)(q:l.length+5<n):rP n [d,aa (k:Int)]=some (aD (decide (k∈l))):=by
 rcases p with rfl|⟨rfl,rfl⟩
 case inr=>obtain⟨m,rfl⟩:∃m,n=m+1:=⟨n-1,by omega⟩;simp[rP,Ib,hJ,um]
 have ag:=cd (f:=um n) l (λi (_:Unit)=>[cg l,aa (k:Int),aa (i:Int)]) (λr _=>if k∈r then(.inr (aD true):lZ⊕D)else .inl []) (λi s=>True) (λs _=>by simp[um,nv]) ?_ n 0 () trivial oZ (xah _);.have j:(aa ((0:Nat):Int))=aa 0:=rfl;rw[j]at ag;simp only[xak]at ag;by_cases h:k∈l<;>simp only[h,xaE,xaF]at ag<;>simp[rP,Ib,ag,h]
 intro i a s o ag _;have g:=oG o;by_cases b:a=k
 .right;subst b;simp[um,nv,ag,g]
 left;have c:¬((a:Int)=(k:Int)):=oZ
 have e:¬k=a:=λh=>b h.symm;refine⟨(),by simp[um,nv,ag,g,c,bu i],by simp[e],trivial⟩
def afu(n:Nat)(l:List a7){B:Nat}(ah:ft B l)(P:4*B+200<n):yP n [ay l]=some (fe (l.map λd=>cB l d.e)):=by
 have G:=ah.len;have J:=ah.b;obtain⟨M,m1,m2,m3⟩:=Jh n l oZ oZ;have C:∀x,D.aw 1 (aF (cg x))=cg x:=λ_=>rfl;have h:∀x,D.aw 1 (aF (fe x))=fe x:=λ_=>rfl;have ag:=cd (f:=C7 n) l (λi (s:mZ)=>[.mp M,ay l,aa l.length,aa (i:Int),fe s]) (λr s=>(.inl [fe (s++r.map λd=>cB l d.e)]:lZ⊕D)) (λi s=>s.length=i) (λs _=>by simp[C7,fe]) ?_ n 0 [] rfl oZ (xah _)
 .have u:(aa ((0:Nat):Int))=aa 0:=rfl;have w:fe []=D.aw 1 []:=rfl;rw[u,w]at ag;simp only[xak,xaM]at ag;simp only[yP,Px,go_sem,m1,ag,h]
 intro i a c F ag o;have N:=xad F;have E:=ah.e a N;have K:=D6 n a.e oZ E.1 oZ;have O:=vt a.e;have q:=cd (f:=yO n) (dX 3 a.e []) (λj (s:lX)=>[.mp M,ay l,aa l.length,aa (i:Int),cx (dX 3 a.e []),aa (dX 3 a.e []).length,aa (j:Int),fe c,cg s]) (λr s=>(.inl [.mp M,ay l,aa l.length,aa (i:Int),fe c,cg (s++r.filterMap (cq l))]:lZ⊕(lZ⊕(lZ⊕(lZ⊕D))))) (λj s=>s.length<=j) (λs _=>by simp[yO,cg,fe]) ?_ n 0 [] sZ oZ (xah _)
 .have u:(aa ((0:Nat):Int))=aa 0:=rfl;have w:cg []=D.aw 1 []:=rfl;rw[u,w]at q;simp only[xak,xaM]at q;have m:bZ (c.length+1) 24=true:=eB;have y:D.aw 1 (aF (fe c)++[[cg (cB l a.e)]])=fe (c++[cB l a.e]):=by simp[fe]
  have A:(aF (fe c)).length=c.length:=by simp[fe]
  have I:(dX 3 a.e []).filterMap (cq l)=cB l a.e:=rfl;have Q:∀x,da (cg x)=true:=λ_=>rfl;rw[I]at q;left;refine⟨c++[cB l a.e],?_,by simp,by simp[o]⟩;simp only[C7,go_sem,yT ((i:Int)<(l.length:Int)),dM F,a7.aah,a7.agg,a7.c1,a7.c2,a7.b3,a7.eM,Tm.w8,K,zG,h,q,C,y,A,xal,xaA,xaw,m,bu i]
 intro j b s L q aj;have H:=zF L;have g:=tJ m2 (z:= .int .i64 0) (x:=b);have p:=m3 b;left;cases t:cq l b with
 |none=>rw[p,t]at g;simp only[xbB]at g;refine⟨s,?_,by simp[t],by omega⟩;simp only[yO,go_sem,yT ((j:Int)<((dX 3 a.e []).length:Int)),H,fW,iX,g,C,h,bu j]
 |some k=>
  rw[p,t]at g;simp only[xaH]at g;have m:bZ (s.length+1) 8=true:=eB;have y:D.aw 1 (aF (cg s)++[[aa (k:Int)]])=cg (s++[k]):=by simp[cg]
  have A:(aF (cg s)).length=s.length:=by simp[cg]
  refine⟨s++[k],?_,by simp[t],by simp;omega⟩;simp only[yO,go_sem,yT ((j:Int)<((dX 3 a.e []).length:Int)),H,fW,iX,g,C,h,y,A,xal,xaA,xaw,m,bu j]
def fc(to:Nat->lX):Nat->lX->lX->lX
 |0,_,S=>S|n+1,ks,S=>ks.foldl (λS k=>if k∈S then S else fc to n (to k) (S++[k])) S
inductive hf(to:Nat->lX):Nat->Nat->Prop where
 |refl (i:Nat):hf to i i
 |step (i j k:Nat) (h:j∈to i) (Ar:hf to j k):hf to i k
def hf.trans{to:Nat->lX}{i j k:Nat}(h:hf to i j)(d:hf to j k):hf to i k:=by induction h with|refl=>exact d|step a b c eb _ ih=>exact .step a b _ eb (ih d)
def fZ(N:Nat)(S:lX):Prop:=S.Nodup/\∀x∈S,x<N
def o4:∀(N:Nat)(S:lX),S.Nodup->(∀x∈S,x<N)->S.length<=N
 |0,S,_,h=>by cases S with|nil=>simp|cons a r=>exact absurd (h a sZ) (xaI _)
 |N+1,S,b,h=>by
  have ab:=o4 N (S.erase N) (b.erase N) (λx c=>by
   have ad:=h x (List.mem_of_mem_erase c);have ai:x≠N:=by rintro rfl;exact b.not_mem_erase c
   omega)
  have d:=List.length_erase (a:=N) (l:=S);split at d<;>omega
def fZ.len{N:Nat}{S:lX}(h:fZ N S):S.length<=N:=o4 N S h.1 h.2
def fZ.lt{N k:Nat}{S:lX}(h:fZ N S)(g:k<N)(f:k∉S):S.length<N:=by have ad:fZ N (S++[k]):=⟨by rw[xbF];exact⟨h.1,by simp,by intro a e b d;simp at d;subst d;rintro rfl;exact f e⟩,by intro x c;rcases xar.1 c with c|c;exact h.2 x c;simp at c;omega⟩;have:=ad.len;simp at this;omega
def fZ.snoc{N k:Nat}{S:lX}(h:fZ N S)(g:k<N)(f:k∉S):fZ N (S++[k]):=⟨by rw[xbF];exact⟨h.1,by simp,by intro a e b d;simp at d;subst d;rintro rfl;exact f e⟩,by intro x c;rcases xar.1 c with c|c;exact h.2 x c;simp at c;omega⟩
structure RB(to:Nat->lX)(N:Nat)(ks S R:lX):Prop where
 inv:fZ N R
 pre:∃T,R=S++T
 mem:∀k∈ks,k∈R
 o5:∀x∈R,x∉S->∀y∈to x,y∈R
 mA:∀x∈R,x∈S\/∃k∈ks,hf to k x
def vv{to:Nat->lX}{N:Nat}(l:∀i,∀k∈to i,k<N):∀(n:Nat)(ks S:lX),fZ N S->(∀k∈ks,k<N)->N-S.length<n->RB to N ks S (fc to n ks S)
 |0,_,_,_,_,h=>absurd h (xaI _)
 |n+1,ks,S,p,c,q=>by
  rw[fc]
  induction ks generalizing S with
  |nil=>exact⟨p,⟨[],by simp⟩,by simp,λx a q=>absurd a q,λx a=> .inl a⟩
  |cons k r ih=>
   rw[xcl];by_cases e:k∈S
   .rw[xac e];have h:=ih S p (λx a=>c x (by simp[a])) q;obtain⟨T,d⟩:=h.pre;refine⟨h.inv,h.pre,?_,h.o5,λx a=>?_⟩
    .intro x a;rcases xan.1 a with rfl|a
     .rw[d];simp[e]
     exact h.mem x a
    rcases h.mA x a with ab|⟨j,ab,ad⟩;.exact .inl ab
    exact .inr ⟨j,by simp[ab],ad⟩
   rw[xab e];have f:=c k sZ;have z:=p.lt f e;have ak:=vv l n (to k) (S++[k]) (p.snoc f e) (l k) uZ;obtain⟨T0,b⟩:=ak.pre;have h:=ih (fc to n (to k) (S++[k])) ak.inv (λx a=>c x (by simp[a])) (by rw[b];simp;omega);obtain⟨T,d⟩:=h.pre;have g:k∈fc to n (to k) (S++[k]):=by rw[b];simp
   refine⟨h.inv,⟨[k]++T0++T,by rw[d,b];simp⟩,?_,?_,?_⟩
   .intro x a;rcases xan.1 a with rfl|a
    .rw[d];exact xaW _ g
    exact h.mem x a
   .intro x a s y u;by_cases m:x∈fc to n (to k) (S++[k])
    .by_cases o:x∈S++[k]
     .have t:x=k:=by
       rcases xar.1 o with h|h;.exact absurd h s
       simpa using h
      subst t;rw[d];exact xaW _ (ak.mem y u)
     rw[d];exact xaW _ (ak.o5 x m o y u)
    exact h.o5 x a m y u
   intro x a;rcases h.mA x a with ab|⟨j,ab,ad⟩
   .rcases ak.mA x ab with ai|⟨j,ai,w⟩
    .rcases xar.1 ai with ai|ai;.exact .inl ai
     simp at ai;subst ai;exact .inr ⟨x,by simp,.refl x⟩
    exact .inr ⟨k,by simp,.step k j x ai w⟩
   exact .inr ⟨j,by simp[ab],ad⟩
def Ji{to:Nat->lX}{N:Nat}(a:∀i,∀k∈to i,k<N):∀(n m:Nat)(ks S:lX),fZ N S->(∀k∈ks,k<N)->N-S.length<n->N-S.length<m->fc to n ks S=fc to m ks S
 |0,_,_,_,_,_,h,_=>absurd h (xaI _)|_+1,0,_,_,_,_,_,h=>absurd h (xaI _)
 |n+1,m+1,ks,S,g,d,o,hm=>by
  rw[fc,fc]
  induction ks generalizing S with
  |nil=>rfl
  |cons k r ih=>
   rw[xcl,xcl];by_cases b:k∈S;.rw[xac b,xac b];exact ih S g (λx j=>d x (by simp[j])) o hm
   rw[xab b,xab b];have c:=d k sZ;have l:=g.lt c b;have e:=Ji a n m (to k) (S++[k]) (g.snoc c b) (a k) uZ uZ;have ak:=vv a n (to k) (S++[k]) (g.snoc c b) (a k) uZ;obtain⟨T0,f⟩:=ak.pre;rw[<-e];exact ih _ ak.inv (λx j=>d x (by simp[j])) (by rw[f];simp;omega) (by rw[f];simp;omega)
def hL(l:List a7)(ks:lX):lX:=fc (to l) (l.length+1) ks []
def qx(l:List a7)(ks:lX)(a:∀k∈ks,k<l.length):RB (to l) l.length ks [] (hL l ks):=vv (λi k a=>hW i k a) _ ks [] ⟨by simp,by simp⟩ a sZ
def o6(l:List a7)(ks:lX)(f:∀k∈ks,k<l.length)(x:Nat):x∈hL l ks↔∃k∈ks,hf (to l) k x:=by
 have h:=qx l ks f;constructor
 .intro m;rcases h.mA x m with ab|ab
  .cases ab
  exact ab
 rintro⟨k,e,g⟩;have c:∀a b,hf (to l) a b->a∈hL l ks->b∈hL l ks:=by
  intro a b eb
  induction eb with|refl=>exact λh=>h|step i j k d _ ih=>exact λag=>ih (h.o5 i ag sZ j d)
 exact c k x g (h.mem k e)
def gu(l:List a7)(i:Nat):Bool:=decide (i∈hL l (to l i))
def Jj(l:List a7)(i:Nat):gu l i=true↔∃k∈to l i,hf (to l) k i:=by unfold gu;rw[xaC,o6 l _ (hW i)]
def RC{to:Nat->lX}:∀(n:Nat)(ks S:lX),∃T,fc to n ks S=S++T
 |0,ks,S=>⟨[],by simp[fc]⟩
 |n+1,ks,S=>by
  rw[fc]
  induction ks generalizing S with
  |nil=>exact⟨[],by simp⟩
  |cons k r ih=>
   rw[xcl];split;.exact ih S
   obtain⟨T0,ak⟩:=RC n (to k) (S++[k]);obtain⟨T,a⟩:=ih (fc to n (to k) (S++[k]));exact⟨[k]++T0++T,by rw[a,ak];simp⟩
def hM(S:lX)(d:D)(s:lX):D:=if s.length=S.length then d else cg s
def Jk(l:List a7){B:Nat}(ah:ft B l):∀(n:Nat)(t:Tm)(S:lX)(d:D),d=cg S\/(S=[]/\d=b9)->t.Ok->t.aO<=B->fZ l.length S->l.length-S.length+4*B+300<n->nE n [t.d,ay l,d]=some (hM S d (fc (to l) n (cB l t) S))
 |0,_,_,_,_,_,_,_,h=>absurd h (xaI _)
 |n+1,t,S,d,U,K,Y,Q,b5=>by
  have A:=ah.len;have H:=ah.b;have V:=D9 l t;have w:=aft n l t A K Y H oZ;have u:∀T,hM S d (S++T)=cg (S++T)\/(S++T=[]/\hM S d (S++T)=b9):=by
   intro T;unfold hM;split
   .rename_i h;have:T=[]:=by simpa using h
    subst this;rcases U with rfl|⟨rfl,rfl⟩
    .left;simp
    right;simp
   exact .inl rfl
  have N:(aa ((0:Nat):Int))=aa 0:=rfl;have I:hM S d S=d:=by simp[hM]
  rw[fc];have o:=cd (f:=x0 (nE n) n) (cB l t) (λi (s:lX)=>[ay l,hM S d s,cg (cB l t),aa (i:Int)]) (λr s=>(.inl [hM S d (r.foldl (λS k=>if k∈S then S else fc (to l) n (to l k) (S++[k])) s)]:lZ⊕D)) (λi s=>fZ l.length s/\∃T,s=S++T) (λs _=>by simp[x0,nv]) ?_ n 0 S ⟨Q,[],by simp⟩ oZ (xah _)
  .rw[N,I]at o;simp only[xak]at o;show CC (nE n) n t.d (ay l) d=_;simp only[CC,go_sem,w,o]
  rintro i k s z ag ⟨ab,T,p⟩;have J:=xad z;have m:=jF k J;obtain⟨G,j⟩:∃G,l[k]?=some G:=⟨l[k],xaa m⟩;have y:=ah.e G (xad j);have X:=ab.len;have ai:=u T;rw[<-p]at ai;have R:S.length<=s.length:=by rw[p];simp
  have c:=RA n s k (hM S d s) ai oZ oZ;left;by_cases a:k∈s
  .refine⟨s,?_,?_,ab,T,p⟩;.simp only[x0,go_sem,nv,yT ((i:Int)<((cB l t).length:Int)),oG z,fW,c,xap a,bu i]
   simp only[xcl,xac a]
  have W:=ab.lt m a;have F:=ab.snoc m a;have g1:=Jk l ah n G.e (s++[k]) (cg (s++[k])) (.inl rfl) y.1 y.2 F uZ;have L:=vv (λi k z=>hW i k z) n (to l k) (s++[k]) F (λx Z=>hW k x Z) uZ;rw[<-vu j]at g1;obtain⟨M,g⟩:=RC (to:=to l) n (to l k) (s++[k]);have g2:hM (s++[k]) (cg (s++[k])) (fc (to l) n (to l k) (s++[k]))=cg (fc (to l) n (to l k) (s++[k])):=by
   unfold hM;split
   .rename_i h;rw[g]at h⊢;have:M=[]:=by simpa using h
    subst this;simp
   rfl
  have g3:hM S d (fc (to l) n (to l k) (s++[k]))=cg (fc (to l) n (to l k) (s++[k])):=by unfold hM;rw[xab];rw[g,p];simp<;>omega
  rw[g2]at g1;obtain⟨q,bY,bU⟩:∃q,jR (hM S d s)=some (q,s.map λ(i:Nat)=>[aa (i:Int)])/\(decide (q=1\/(s.map λ(i:Nat)=>[aa (i:Int)])=[])&&decide (0<1))=true:=by
   rcases ai with ai|⟨ai,P⟩;.rw[ai];exact⟨1,rfl,by simp⟩
   rw[P,ai];exact⟨0,rfl,by simp⟩
  have C:bZ (s.map λ(i:Nat)=>[aa (i:Int)]).length 8=true:=rz uZ uZ;have E:bZ ((s.map λ(i:Nat)=>[aa (i:Int)]).length+1) 8=true:=rz uZ uZ;have O:D.aw 1 ((s.map λ(i:Nat)=>[aa (i:Int)])++[[aa (k:Int)]])=cg (s++[k]):=by simp[cg]
  refine⟨fc (to l) n (to l k) (s++[k]),?_,?_,L.inv,T++[k]++M,?_⟩;.rw[g3];simp only[x0,go_sem,nv,yT ((i:Int)<((cB l t).length:Int)),oG z,fW,c,xaB a,dM j,bY,bU,xaA,C,xaM,xal,xaw,E,O,g1,bu i]
  .simp only[xcl,xab a]
  rw[g,p];simp
def afv(l:List a7){B:Nat}(ah:ft B l)(n:Nat)(i:Nat)(ag:i<l.length)(t:6*B+400<n):CD n [ay l,aa (i:Int)]=some (aD (gu l i)):=by
 have m:=ah.len;have o:=ah.b;obtain⟨d,g⟩:∃d,l[i]?=some d:=⟨l[i],xaa ag⟩;have a:=ah.e d (xad g);have f:=Jk l ah n d.e [] b9 (.inr ⟨rfl,rfl⟩) a.1 a.2 ⟨by simp,by simp⟩ uZ;have r:=Ji (λi k s=>hW (l:=l) i k s) n (l.length+1) (cB l d.e) [] ⟨by simp,by simp⟩ jF uZ sZ;have j:=qx l (cB l d.e) jF;have q:=j.inv.len;rw[r]at f;have p:fc (to l) (l.length+1) (cB l d.e) []=hL l (cB l d.e):=rfl;rw[p]at f;have c:=RA n (hL l (cB l d.e)) i (hM [] b9 (hL l (cB l d.e))) (by
  unfold hM;split;.rename_i h;exact .inr ⟨xaO h,rfl⟩
  exact .inl rfl) oZ oZ
 simp only[CD,OZ,go_sem,dM g,f,c,gu,vu g]
def Jl(l:List a7){B:Nat}(ah:ft B l):∀(n:Nat)(i:Nat)(S:lX)(M:List (Value×D)),i<l.length->dO M S->fZ l.length S->l.length-S.length+2*B+100<n-> ∃c,mx n [aa (i:Int),fe (l.map λd=>cB l d.e),.mp M]=some [D.az [],fe (l.map λd=>cB l d.e),.mp c]/\dO c (fc (to l) n (to l i) S)
 |0,_,_,_,_,_,_,h=>absurd h (xaI _)
 |n+1,i,S,M,ag,p,K,W=>by
  have E:=ah.len;have J:=ah.b;obtain⟨d,w⟩:∃d,l[i]?=some d:=⟨l[i],xaa ag⟩;have L:=ah.e d (xad w);have N:=D9 l d.e;have C:a8 1 (fe (l.map λd=>cB l d.e)) (aa (i:Int))=some [cg (cB l d.e)]:=aai (by simp[w]);have I:(aa ((0:Nat):Int))=aa 0:=rfl;rw[vu w,fc];have key:∀(m j:Nat)(s:lX)(M:List (Value×D)),dO M s->fZ l.length s->S.length<=s.length->(cB l d.e).length-j<m->j<=(cB l d.e).length-> ∃c,aS (yQ (mx n) n) m [cg (cB l d.e),aa (cB l d.e).length,aa (j:Int),fe (l.map λd=>cB l d.e),.mp M]=some (.inl [fe (l.map λd=>cB l d.e),.mp c])/\dO c (((cB l d.e).drop j).foldl (λS k=>if k∈S then S else fc (to l) n (to l k) (S++[k])) s):=by
   intro m
   induction m with
   |zero=>intro j s M _ _ _ h _;exact absurd h (xaI _)
   |succ m ih=>
    intro j s M p aj A V U;rw[hJ];by_cases f:j<(cB l d.e).length
    .have g:=xaa f;generalize (cB l d.e)[j]=k at g;have y:=xad g;have o:=jF k y;have kC:(cB l d.e).drop j=k::(cB l d.e).drop (j+1):=by
      obtain⟨Q,R⟩:=lV.1 g;rw[xaU Q,R]
     rw[kC,xcl];have q:=p.look (i:=k) (z:= .bool false);by_cases a:k∈s
     .rw[xac a];obtain⟨c,g1,g2⟩:=ih (j+1) s M p aj A oZ f;refine⟨c,?_,g2⟩;simp only[yQ,go_sem,yT ((j:Int)<((cB l d.e).length:Int)),oG g,fW,q,xap a,bu j,g1]
     rw[xab a];obtain⟨G,P,F⟩:=p.put k;rw[xab a]at F;have r:=aj.snoc o a;have O:=aj.lt o a;obtain⟨H,c7,dm⟩:=Jl l ah n k (s++[k]) G o F r uZ;have t:=vv (λi k g=>hW i k g) n (to l k) (s++[k]) r (λx C=>hW k x C) uZ;obtain⟨T,u⟩:=t.pre;obtain⟨c,g1,g2⟩:=ih (j+1) _ H dm t.inv (by rw[u];simp;omega) oZ f;refine⟨c,?_,g2⟩;simp only[yQ,go_sem,yT ((j:Int)<((cB l d.e).length:Int)),oG g,fW,q,xaB a,P,c7,bu j,g1]
    have:j=(cB l d.e).length:=oZ
    subst this;refine⟨M,?_,by simpa using p⟩;simp only[yQ,go_sem,yF (((cB l d.e).length:Int)<(cB l d.e).length)]
  obtain⟨c,g1,g2⟩:=key n 0 S M p K (xaQ _) oZ (xah _);rw[I]at g1;refine⟨c,?_,by simpa using g2⟩;show C8 (mx n) n _=_;simp only[C8,go_sem,C,fW,nv,g1]
inductive qy(o:Int)(x:ByteArray):Tm->Prop where
 |here (t:Tm) (h:t.op=o) (Ar:t.name=x):qy o x t
 |dx (t k:Tm) (h:k∈t.aC) (Ar:qy o x k):qy o x t
def Ea{s x:ByteArray}:∀{l:List ByteArray},x∈fa s l↔x=s\/x∈l
 |[]=>by simp[fa]
 |a::r=>by
  rw[fa];split;.rename_i h;subst h;simp
  split;.simp
  rw[xan,Ea,xan];constructor
  .rintro(h|h|h);.exact .inr (.inl h)
   .exact .inl h
   exact .inr (.inr h)
  rintro(h|h|h);.exact .inr (.inl h)
  .exact .inl h
  exact .inr (.inr h)
def RD(o:Int)(x:ByteArray)(t:Tm):∀l,x∈dX o t l↔x∈l\/qy o x t:=by
 refine Tm.ind (P:=λt=>∀l,x∈dX o t l↔x∈l\/qy o x t) ?_ t;intro t ih l;have key:∀(ks:List Tm),(∀k∈ks,∀l,x∈dX o k l↔x∈l\/qy o x k)->∀l,x∈jm o ks l↔x∈l\/∃k∈ks,qy o x k:=by
  intro ks
  induction ks with
  |nil=>intro _ l;simp[jm]
  |cons a r c=>intro h l;rw[jm,c (λk b=>h k (by simp[b])),h a sZ];simp only[xan,exists_eq_or_imp,or_assoc]
 rw[D5,key t.aC ih];constructor
 .rintro(h|⟨k,b,h⟩)
  .split at h
   .rename_i d;rcases Ea.1 h with rfl|h
    .exact .inr (.here t d rfl)
    exact .inl h
   exact .inl h
  exact .inr (.dx t k b h)
 rintro(h|h)
 .left;split;.exact Ea.2 (.inr h)
  exact h
 cases h with|here _ ab ad=>left;rw[xac ab];exact Ea.2 (.inl ad.symm)|dx _ k b h=>exact .inr ⟨k,b,h⟩
def Eb{l:List a7}{t:Tm}{i:Nat}:i∈cB l t↔∃x,qy 3 x t/\cq l x=some i:=by
 unfold cB;rw[List.mem_filterMap];constructor;.rintro⟨x,ab,ad⟩;exact⟨x,((RD 3 x t []).1 ab).resolve_left sZ,ad⟩
 rintro⟨x,ab,ad⟩;exact⟨x,(RD 3 x t []).2 (.inr ab),ad⟩
def Jm{l:List a7}{t k:Tm}(a:k∈t.aC):∀i∈cB l k,i∈cB l t:=by intro i ag;obtain⟨x,ab,ad⟩:=Eb.1 ag;exact Eb.2 ⟨x,.dx t k a ab,ad⟩
def qz(l:List a7)(t:Tm):Bool:=t.op==3&&(cq l t.name).isSome
def hg(l:List a7):Nat->Tm->Tm->Prop
 |0,_,_=>False|h+1,t,X=>(t.op=3/\∃i d,cq l t.name=some i/\l[i]?=some d/\hg l h d.e X)\/(qz l t=false/\∃ks,X= .mk t.op t.num t.name t.nl ks/\ks.length=t.aC.length/\∀(j:Nat)(a b:Tm),t.aC[j]?=some a->ks[j]?=some b->hg l h a b)
def hg.mono{l:List a7}:∀{h c:Nat}{t X:Tm},h<=c->hg l h t X->hg l c t X
 |0,_,_,_,_,H=>H.elim|h+1,0,_,_,hle,_=>absurd hle oZ
 |h+1,c+1,t,X,hle,H=>by
  rcases H with⟨ab,i,d,ad,ai,e⟩|⟨ab,ks,ad,ai,e⟩;.exact .inl ⟨ab,i,d,ad,ai,e.mono oZ⟩
  exact .inr ⟨ab,ks,ad,ai,λj a b f g=>(e j a b f g).mono oZ⟩
def RE:∀{A B:lX},A.Nodup->(∀x∈A,x∈B)->A.length<=B.length
 |[],B,_,_=>by simp
 |a::A,B,d,h=>by
  have c:=h a sZ;have ab:=RE (A:=A) (B:=B.erase a) (List.nodup_cons.1 d).2 (λx e=>by
   have b:x≠a:=by rintro rfl;exact(List.nodup_cons.1 d).1 e
   exact(List.mem_erase_of_ne b).2 (h x (by simp[e])))
  have ad:=List.length_erase_of_mem c;have ai:0<B.length:=List.length_pos_of_mem c;simp;omega
def sn(l:List a7)(i:Nat):Nat:=(hL l (to l i)).length
def afw{l:List a7}{i j:Nat}(m:j∈to l i)(o:gu l j=false):sn l j<sn l i:=by
 have ag:=qx l (to l i) (hW i);have e:=qx l (to l j) (hW j);have f:j∉hL l (to l j):=by
  intro h;have:gu l j=true:=by simp[gu,h]
  rw[o]at this;cases this
 have d:∀x∈hL l (to l j)++[j],x∈hL l (to l i):=by
  intro x c;rcases xar.1 c with c|c
  .obtain⟨k,ab,ad⟩:=(o6 l _ (hW j) x).1 c;exact(o6 l _ (hW i) x).2 ⟨j,m,.step j k x ab ad⟩
  simp at c;subst c;exact ag.mem _ m
 have:=RE (A:=hL l (to l j)++[j]) (B:=hL l (to l i)) (by rw[xbF];exact⟨e.inv.1,by simp,by intro a n b g;simp at g;subst g;rintro rfl;exact f n⟩) d;simp at this;unfold sn;omega
def vw(l:List a7)(t:Tm):Prop:=∀x∈hL l (cB l t),gu l x=false
def Jn{f:Type}{P:Nat->Tm->f->Prop}:∀(ks:List Tm),(∀(j:Nat)(a:Tm),ks[j]?=some a->∃b,P j a b)->∃r:List f,r.length=ks.length/\∀(j:Nat)(a:Tm)(b:f),ks[j]?=some a->r[j]?=some b->P j a b
 |[],_=>⟨[],rfl,by intro j a b h;simp at h⟩
 |k::r,h=>by obtain⟨b,g⟩:=h 0 k rfl;obtain⟨et,ab,ad⟩:=Jn (P:=λj=>P (j+1)) r (λj a d=>h (j+1) a (by simpa using d));refine⟨b::et,by simp[ab],?_⟩;intro j a c d e;cases j with|zero=>simp at d e;subst d;subst e;exact g|succ j=>exact ad j a c (by simpa using d) (by simpa using e)
def afx{l:List a7}{B:Nat}(ah:ft B l):∀(r:Nat)(t:Tm),t.aO<=B->vw l t->(∀k∈cB l t,sn l k<r)->∃X,hg l (r*(B+1)+t.aO) t X:=by
 intro r
 induction r with
 |zero=>
  intro t;refine Tm.ind (P:=λt=>t.aO<=B->vw l t->(∀k∈cB l t,sn l k<0)->∃X,hg l (0*(B+1)+t.aO) t X) ?_ t;intro t ih I f u;have p:cB l t=[]:=by cases h:cB l t with|nil=>rfl|cons a q=>exact absurd (u a (by rw[h];simp)) (xaI _)
  have D:qz l t=false:=by cases h:qz l t with|false=>rfl|true=>simp only[qz,xam,xbQ,Option.isSome_iff_exists]at h;obtain⟨ab,i,ad⟩:=h;have:i∈cB l t:=Eb.2 ⟨_,.here t ab rfl,ad⟩;rw[p]at this;cases this
  obtain⟨ks,ab,ad⟩:=Jn (P:=λj a b=>hg l (t.aO-1) a b) t.aC (λj a y=>by
   have g:=xad y;have G:=Tm.gC g;have m:cB l a=[]:=by cases h:cB l a with|nil=>rfl|cons b q=>have:=Jm g b (by rw[h];simp);rw[p]at this;cases this
   obtain⟨X,o⟩:=ih a g oZ (λx n=>by rw[m]at n;simp[hL,fc]at n) (by rw[m];simp);exact⟨X,o.mono oZ⟩)
  have G:=t.ie;refine⟨.mk t.op t.num t.name t.nl ks,?_⟩;have e:0*(B+1)+t.aO=(t.aO-1)+1:=oZ
  rw[e];exact .inr ⟨D,ks,rfl,ab,ad⟩
 |succ r E=>
  intro t;refine Tm.ind (P:=λt=>t.aO<=B->vw l t->(∀k∈cB l t,sn l k<r+1)->∃X,hg l ((r+1)*(B+1)+t.aO) t X) ?_ t;intro t ih I f u;have G:=t.ie;have e:(r+1)*(B+1)+t.aO=((r+1)*(B+1)+(t.aO-1))+1:=oZ
  cases C:qz l t with
  |true=>
   simp only[qz,xam,xbQ,Option.isSome_iff_exists]at C;obtain⟨ab,i,ad⟩:=C;obtain⟨d,ai,K,L⟩:=HH ad;have ag:i∈cB l t:=Eb.2 ⟨_,.here t ab rfl,ad⟩;have s:=vu ai;have z:=ah.e d (xad ai);have H:=qx l (cB l t) jF;obtain⟨X,o⟩:=E d.e z.2 (λx n=>f x (by
    obtain⟨k,w,F⟩:=(o6 l _ jF x).1 n;rw[<-s]at w;exact(o6 l _ jF x).2 ⟨i,ag,.step i k x w F⟩)) (λk c=>by
    rw[<-s]at c;have A:k∈hL l (cB l t):=(o6 l _ jF k).2 ⟨i,ag,.step i k k c (.refl k)⟩;have:=afw c (f k A);have:=u i ag;omega)
   refine⟨X,?_⟩;rw[e];exact .inl ⟨ab,i,d,ad,ai,o.mono (by have:(r+1)*(B+1)=r*(B+1)+(B+1):=Nat.succ_mul _ _;omega)⟩
  |false=>
   obtain⟨ks,ab,ad⟩:=Jn (P:=λj a b=>hg l ((r+1)*(B+1)+(t.aO-1)) a b) t.aC (λj a y=>by
    have g:=xad y;have J:=Tm.gC g;obtain⟨X,o⟩:=ih a g oZ (λx n=>f x (by obtain⟨k,w,F⟩:=(o6 l _ jF x).1 n;exact(o6 l _ jF x).2 ⟨k,Jm g k w,F⟩)) (λk c=>u k (Jm g k c))
    exact⟨X,o.mono oZ⟩)
   refine⟨.mk t.op t.num t.name t.nl ks,?_⟩;rw[e];exact .inr ⟨C,ks,rfl,ab,ad⟩
def afy(l:List a7)(i:Nat):sn l i<=l.length:=(qx l (to l i) (hW i)).inv.len
def afz{l:List a7}{B:Nat}(ah:ft B l){t:Tm}(b:t.aO<=B)(h:vw l t):∃X,hg l ((l.length+1)*(B+1)+B) t X:=by obtain⟨X,a⟩:=afx ah (l.length+1) t b h (λk _=>by have:=afy l k;omega);exact⟨X,a.mono oZ⟩
mutual
def dk:Tm->Int->Int->Tm×Int
 | .mk o m s b ks,deep,n=>if ks.isEmpty then(.mk o m s b ks,n+1)else(.mk o m s false (ec ks deep (n+1)).1,(ec ks deep (n+1)).2)
def ec:List Tm->Int->Int->List Tm×Int
 |[],_,n=>([],n)|k::r,deep,n=>if deep<=64/\n<=4096 then((dk k (deep+1) n).1::(ec r deep (dk k (deep+1) n).2).1,(ec r deep (dk k (deep+1) n).2).2)else(T0::(ec r deep n).1,(ec r deep n).2)
end
mutual
def ep:Tm->Tm
 | .mk o m s b ks=> .mk o m s false (j1 ks)
def j1:List Tm->List Tm
 |[]=>[]|k::r=>ep k::j1 r
end
def RF:∀l:List Tm,(j1 l).length=l.length
 |[]=>rfl|k::r=>by simp[j1,RF r]
def Ec:∀(l:List Tm)(d n:Int),(ec l d n).1.length=l.length
 |[],_,_=>rfl|k::r,d,n=>by rw[ec];split<;>simp[Ec r]
def afA(o m:Int)(s:ByteArray)(n:Nat):Int:=if(eh o).1<0 then 11
 else if(m<(if o=1 then-255 else 0))\/m>(if o=1 then 255 else if o=2 then 1 else 0)then 2
 else if(if vq o then s=⟨#[]⟩\/s.size>24 else s≠⟨#[]⟩)then 12
 else if(n:Int)<(eh o).1\/(n:Int)>(eh o).2 then 3 else 0
theorem RG(o m:Int)(s:ByteArray)(b:Bool)(ks:List Tm):fy (.mk o m s b ks)=afA o m s ks.length:=rfl
def RH{o m:Int}{s:ByteArray}{b b':Bool}{ks ks':List Tm}(h:ks.length=ks'.length):fy (.mk o m s b ks)=fy (.mk o m s b' ks'):=by rw[RG,RG,h]
mutual
def Jo:∀(X:Tm)(deep n:Int),n<=4096->(ck (dk X deep n).1 deep n).1=(ck X deep n).1/\((ck X deep n).1=0->(ck X deep n).2=(dk X deep n).2/\(ck (dk X deep n).1 deep n).2=(dk X deep n).2/\D7 (dk X deep n).1 (ep X)=true)
 | .mk o m s b ks,deep,n,e=>by
  rw[dk];cases ks with
  |nil=>
   simp only[List.isEmpty_nil,xaE,true_and];intro h;rw[ck]at h⊢;split at h;.cases h
   split at h;.rename_i ad;exact absurd h ad
   split at h;.cases h
   rename_i ab ad ai;rw[xab ab,xab ad,xab ai];simp[dy,ep,j1,Ry,Tm.op,Tm.num,Tm.name,Tm.aC,sm]
  |cons k r=>
   simp only[List.isEmpty_cons,xaq,xaF];rw[ck,ck,RH (b':=b) (ks':=k::r) (Ec (k::r) deep (n+1))];by_cases ab:deep>64;.rw[xac ab,xac ab];simp
   rw[xab ab,xab ab];by_cases ad:fy (.mk o m s b (k::r))≠0;.rw[xac ad,xac ad];exact⟨rfl,λh=>absurd h ad⟩
   rw[xab ad,xab ad];by_cases ai:n+1>4096;.rw[xac ai,xac ai];simp
   rw[xab ai,xab ai];obtain⟨g1,g2⟩:=RI (k::r) deep (n+1) oZ oZ;refine⟨g1,λh=>?_⟩;obtain⟨a,f,g⟩:=g2 h;refine⟨a,f,?_⟩;rw[Ry];simp only[ep,Tm.op,Tm.num,Tm.name,Tm.aC,g,Ec,RF];simp
def RI:∀(ks:List Tm)(deep n:Int),deep<=64->n<=4096->(dy (ec ks deep n).1 (deep+1) n).1=(dy ks (deep+1) n).1/\((dy ks (deep+1) n).1=0->(dy ks (deep+1) n).2=(ec ks deep n).2/\(dy (ec ks deep n).1 (deep+1) n).2=(ec ks deep n).2/\sm (ec ks deep n).1 (j1 ks)=true)
 |[],deep,n,_,_=>by simp[ec,dy,j1,sm]
 |k::r,deep,n,i,e=>by
  rw[ec,xac ⟨i,e⟩,dy,dy];obtain⟨g1,g2⟩:=Jo k (deep+1) n e;have j:=vr k (deep+1) n;by_cases h:(ck k (deep+1) n).1=0
  .obtain⟨a,f,g⟩:=g2 h;have c:=g1.trans h;simp only[h,c,ne_eq,xbP,xaF,a,f];have d:(dk k (deep+1) n).2<=4096:=by rw[<-a];exact j.2 h
   obtain⟨l,p⟩:=RI r deep (dk k (deep+1) n).2 i d;refine⟨l,λh=>?_⟩;obtain⟨s1,s2,q⟩:=p h;exact⟨s1,s2,by rw[j1,sm,g,q];rfl⟩
  have c:(ck (dk k (deep+1) n).1 (deep+1) n).1≠0:=by rw[g1];exact h
  simp only[ne_eq,h,c,xcq,xaE];exact⟨g1,λaY=>aY.elim⟩
end
def Tm.RJ(l:List Tm)(t:Tm):Tm.rows (l++[t])=Tm.rows l++[t.cells]:=by simp[Tm.gM]
def afB(o m:Int)(s:ByteArray)(b:Bool)(ks:List Tm):ep (.mk o m s b ks)= .mk o m s false (j1 ks):=by rw[ep]
def Ed{c d:Type}{a:List c}{b:List d}{i:Nat}{x:c×d}(h:(a.zip b)[i]?=some x):a[i]?=some x.1/\b[i]?=some x.2:=by rw[List.getElem?_zip_eq_some]at h;exact h
def Jp{c d:Type}{a:List c}{b:List d}(h:b.length=a.length):(a.zip b).map (·.2)=b:=List.map_snd_zip oZ
def Jq{l:List a7}{B:Nat}(ah:ft B l):∀(h n:Nat)(t X:Tm)(deep k:Int),hg l h t X->t.Ok->t.aO<=B->1<=deep->deep<=65->0<=k->k<=4096->h+2*B+100<n->nF n [t.d,ay l,aa deep,aa k]=some (.az [if(ck X deep k).1=0 then(ep X).d else T0.d,aa (ck X deep k).2,aa (ck X deep k).1])
 |0,_,_,_,_,_,H,_,_,_,_,_,_,_=>H.elim|h+1,0,_,_,_,_,_,_,_,_,_,_,_,U=>absurd U (xaI _)
 |h+1,n+1,t,X,deep,k,H,J,cL,ab,ad,ai,bY,U=>by
  have G:=ah.len;have bU:=ah.b;have C:=Rz n l t.name oZ oZ;have K:=Ro n t deep;have j:D.agg [aa 0,aa 0,aA ⟨#[]⟩,D.val (.slice none 0 0)]=T0.d:=BY.symm;rcases H with⟨V,i,d,ag,M,b5⟩|⟨P,ks,rfl,x,O⟩
  .have E:=ah.e d (xad M);have y:=Jq ah h n d.e X deep k b5 E.1 E.2 ab ad ai bY oZ;simp only[ag]at C;show mo (nF n) n t.d (ay l) (aa deep) (aa k)=_;have A:((3:Int)==3)=true:=rfl;by_cases ak:(ck X deep k).1=0
   .simp only[ak,xaE]at y⊢;simp only[mo,go_sem,V,A,C,yT ((i:Int)>=0),dM M,y]
   simp only[ak,xaF]at y⊢;simp only[mo,go_sem,V,A,C,yT ((i:Int)>=0),dM M,y]
  have bX:fy (.mk t.op t.num t.name t.nl ks)=fy t:=by have:=RH (o:=t.op) (m:=t.num) (s:=t.name) (b:=t.nl) (b':=t.nl) x;rw[this];cases t;rfl
  have g:(t.op==3)=false/\True\/(t.op==3)=true/\uk n [ay l,aA t.name]=some (aa (-1)):=by
   by_cases ai:t.op=3
   .right;have I:cq l t.name=none:=by simpa[qz,ai]using P
    rw[I]at C;exact⟨by simp[ai],C⟩
   left;simp[ai]
  have u:decide ((-1:Int)>=0)=false:=dZ
  show mo (nF n) n t.d (ay l) (aa deep) (aa k)=_;rw[o3,bX];by_cases c1:64<deep
  .have p:((17:Int) !=0)=true:=rfl;rcases g with⟨aj,c⟩|⟨aj,c⟩<;>
   simp only[mo,go_sem,aj,c,u,ig k,K,gt_iff_lt,c1,j,p,show¬((17:Int)=0) by omega]
  by_cases c2:fy t=0
  case neg=>
   have p:(fy t !=0)=true:=by simpa using c2
   rcases g with⟨aj,c⟩|⟨aj,c⟩<;>
   simp only[mo,go_sem,aj,c,u,ig k,K,gt_iff_lt,c1,j,p,c2,ne_eq,xcq]
  have w:((0:Int) !=0)=false:=rfl;by_cases b3:4096<k+1
  .rcases g with⟨aj,c⟩|⟨aj,c⟩<;>
   simp only[mo,go_sem,aj,c,u,ig k,K,gt_iff_lt,c1,j,c2,w,ne_eq,xbP,decide_true,b3,show¬((4:Int)=0) by omega]
  have q:=cd (f:=x2 (nF n) n) (t.aC.zip ks) (λi (s:Int×List Tm)=>[ay l,aa deep,aa s.1,aa (i:Int),aa t.op,aa t.num,aA t.name,bM 4 t.nl (Tm.rows t.aC),aa 0,aa 0,aA ⟨#[]⟩,b9,.aw 4 (Tm.rows s.2)]) (λr (s:Int×List Tm)=>if(dy (r.map (·.2)) (deep+1) s.1).1=0 then(Sum.inl [aa (dy (r.map (·.2)) (deep+1) s.1).2,aa t.op,aa t.num,aA t.name,bM 4 t.nl (Tm.rows t.aC),aa 0,aa 0,aA ⟨#[]⟩,b9,.aw 4 (Tm.rows (s.2++j1 (r.map (·.2))))]:lZ⊕D)else .inr (.az [T0.d,aa (dy (r.map (·.2)) (deep+1) s.1).2,aa (dy (r.map (·.2)) (deep+1) s.1).1])) (λi s=>0<=s.1/\s.1<=4096/\s.2.length=i) ?_ ?_ n 0 (k+1,[]) ⟨by simp;omega,by simp;omega,rfl⟩ (by have:=t.ie;simp[x];omega) (xah _)
  .have W:(aa ((0:Nat):Int))=aa 0:=rfl;have Z:Tm.rows []=[]:=rfl;simp only[xak,Jp x,W,Z,xaM]at q;have R:(Tm.mk t.op t.num t.name t.nl ks).aC=ks:=rfl;have N:(ep (.mk t.op t.num t.name t.nl ks)).d=D.agg [aa t.op,aa t.num,aA t.name,.aw 4 (Tm.rows (j1 ks))]:=by rw[afB,Tm.ha];simp[bM,Tm.op,Tm.num,Tm.name,Tm.nl,Tm.aC]
   by_cases ak:(dy ks (deep+1) (k+1)).1=0
   .simp only[ak,xaE]at q;rcases g with⟨aj,c⟩|⟨aj,c⟩<;>
    simp only[mo,go_sem,aj,c,u,ig k,K,gt_iff_lt,c1,j,c2,w,ne_eq,xbP,decide_false,b3,q,R,ak,N]
   simp only[ak,xaF]at q;rcases g with⟨aj,c⟩|⟨aj,c⟩<;>
   simp only[mo,go_sem,aj,c,u,ig k,K,gt_iff_lt,c1,j,c2,w,ne_eq,xbP,decide_false,b3,q,R,ak]
  .intro s _;have e:((t.aC.zip ks).length:Int)=t.aC.length:=by simp[x]
   simp only[x2,go_sem,e,yF ((t.aC.length:Int)<t.aC.length),xbb,dy,j1,xat]
  rintro i ⟨a,b⟩ s eb ag ⟨b6,cv,cz⟩;obtain⟨z,S⟩:=Ed eb;simp only at z S;have T:=xad z;have cy:=Tm.gC T;have G:=J.len;have F:(i:Int)<t.aC.length:=by have:=(lV.1 z).1;omega
  have y:=Jq ah h n a b (deep+1) s.1 (O i a b z S) (J.dx T) oZ oZ oZ b6 cv oZ;have L:=vr b (deep+1) s.1;have Q:bZ (s.2.length+1) 56=true:=eB;by_cases ak:(ck b (deep+1) s.1).1=0
  .simp only[ak,xaE]at y;left;refine⟨((ck b (deep+1) s.1).2,s.2++[ep b]),?_,?_,by simp;omega,by simpa using L.2 ak,by simp[cz]⟩;.have Y:[aa (ep b).op,aa (ep b).num,aA (ep b).name,bM 4 (ep b).nl (Tm.rows (ep b).aC)]=(ep b).cells:=((ep b).hU).symm;simp only[x2,go_sem,xap F,Tm.e9 z,ig deep,y,w,Y,Tm.RJ,xal,xaA,xaw,Q,bu i]
   simp only[xav,dy,ak,ne_eq,xbP,xaF,j1,xaL,xbo]
  simp only[ak,xaF]at y;have p:((ck b (deep+1) s.1).1 !=0)=true:=by simpa using ak
  right;simp only[x2,go_sem,xap F,Tm.e9 z,ig deep,y,p,j,xav,dy,ne_eq,ak,xcq]
theorem Jr(t:Tm)(deep n:Int):dk t deep n=if t.aC.isEmpty then(t,n+1)else(.mk t.op t.num t.name false (ec t.aC deep (n+1)).1,(ec t.aC deep (n+1)).2):=by cases t;rw[dk];rfl
def RK(t:Tm):∀(deep n:Int),n+1<=(dk t deep n).2/\(n<=4096->(dk t deep n).2<=4097):=by
 refine Tm.ind (P:=λt=>∀(deep n:Int),n+1<=(dk t deep n).2/\(n<=4096->(dk t deep n).2<=4097)) ?_ t;intro t ih deep n;have key:∀(ks:List Tm),(∀k∈ks,∀(deep n:Int),n+1<=(dk k deep n).2/\(n<=4096->(dk k deep n).2<=4097))->∀(n:Int),n<=(ec ks deep n).2/\(n<=4097->(ec ks deep n).2<=4097):=by
  intro ks
  induction ks with
  |nil=>intro _ n;simp[ec]
  |cons a r b=>
   intro h n;have ab:=h a sZ (deep+1) n;rw[ec];split
   .have ad:=b (λk c=>h k (by simp[c])) (dk a (deep+1) n).2;simp only;constructor;.omega
    intro _;exact ad.2 oZ
   exact b (λk c=>h k (by simp[c])) n
 rw[Jr];split;.simp only[Int.le_refl,true_and];omega
 have:=key t.aC ih (n+1);simp only;constructor;.omega
 intro _;exact this.2 oZ
def RL{l:List a7}{B:Nat}(ah:ft B l){M:List (Value×D)}(o:D8 M l)(r:lZ->oY)(A:Nat)(deep jG:Int):∀(h n:Nat)(t X:Tm),hg l h t X->t.Ok->t.aO<=B->h<n-> ∃(t':Tm)(m:Nat)(ks:List Tm),m<h/\t'.Ok/\t'.aO<=B/\X= .mk t'.op t'.num t'.name t'.nl ks/\ks.length=t'.aC.length/\(∀(j:Nat)(a b:Tm),t'.aC[j]?=some a->ks[j]?=some b->hg l m a b)/\aS (yS r A) n [aa deep,.mp M,ay l,aa jG,aa t.op,aa t.num,aA t.name,bM 4 t.nl (Tm.rows t.aC),aa 0,aa 0,aA ⟨#[]⟩,b9]=some (.inl [aa deep,aa jG,aa t'.op,aa t'.num,aA t'.name,bM 4 t'.nl (Tm.rows t'.aC),aa 0,aa 0,aA ⟨#[]⟩,b9,.mp M,ay l])
 |0,_,_,_,H,_,_,_=>H.elim|h+1,0,_,_,_,_,_,y=>absurd y (xaI _)
 |h+1,n+1,t,X,H,u,F,y=>by
  have c:=tJ o.1 (z:= .int .i64 0) (x:=t.name);rw[o.2]at c;rcases H with⟨E,i,d,ag,w,C⟩|⟨s,ks,rfl,q,p⟩
  .have g:=ah.e d (xad w);have f:((3:Int)==3)=true:=rfl;rw[ag]at c;simp only[xaH]at c;obtain⟨t',m,ks,g1,g2,g3,g4,g5,g6,g7⟩:=RL ah o r A deep jG h n d.e X C g.1 g.2 oZ;refine⟨t',m,ks,by omega,g2,g3,g4,g5,g6,?_⟩;rw[hJ,<-g7];simp only[yS,go_sem,E,f,iX,c,dM w]
  refine⟨t,h,ks,by omega,u,F,rfl,q,p,?_⟩;rw[hJ];by_cases ai:t.op=3
  .have k:cq l t.name=none:=by simpa[qz,ai]using s
   have f:((3:Int)==3)=true:=rfl;rw[k]at c;simp only[xbB]at c;simp only[yS,go_sem,ai,f,iX,c]
  have aj:(t.op==3)=false:=by simp[ai]
  simp only[yS,go_sem,aj]
def RM{s:List Tm}{x:Tm}{i k:Nat}(ag:s.length=i)(c:i<k):(Tm.rows (s++List.replicate (k-i) T0)).set i x.cells=Tm.rows ((s++[x])++List.replicate (k-(i+1)) T0):=by
 obtain⟨m,rfl⟩:∃m,k=i+1+m:=⟨k-(i+1),by omega⟩;have a:i+1+m-i=m+1:=oZ
 have b:i+1+m-(i+1)=m:=oZ
 subst ag;rw[a,b];simp[Tm.gM,xct]
def afC{s:List Tm}{i k:Nat}(ag:s.length=i)(b:i<k):(Tm.rows (s++List.replicate (k-i) T0))[i]?=some T0.cells:=by
 obtain⟨m,rfl⟩:∃m,k=i+1+m:=⟨k-(i+1),by omega⟩;have a:i+1+m-i=m+1:=oZ
 subst ag;rw[a];simp[Tm.gM,xct]
def afD{t:Nat}(h:t<=1000000):fm 56 (aa (t:Int)) (aa (t:Int))=some t:=by simp only[fm,aa];rw[xac ⟨by omega,by omega,by omega,by omega⟩];simp
def RN{l:List a7}{B:Nat}(ah:ft B l){M:List (Value×D)}(R:D8 M l):∀(n h:Nat)(t X:Tm)(deep k:Int),hg l h t X->t.Ok->t.aO<=B->1<=deep->deep<=65->0<=k->k<=4096->h+2*B+100<n->nK n [t.d,aa deep,.mp M,ay l,aa k]=some [(dk X deep k).1.d,.mp M,ay l,aa (dk X deep k).2]
 |0,_,_,_,_,_,_,_,_,_,_,_,_,V=>absurd V (xaI _)
 |n+1,h,t0,X,deep,k,H,z,P,ab,ad,ai,cU,V=>by
  have U:=ah.len;have cv:=ah.b;obtain⟨t,b6,ks,g1,O,de,rfl,c,I,g7⟩:=RL ah R (nK n) n deep k h n t0 X H z P oZ;have b5:(Tm.mk t.op t.num t.name t.nl ks).aC=ks:=rfl;have Q:∀(b:Bool)(r:List Tm),(Tm.mk t.op t.num t.name b r).d=D.agg [aa t.op,aa t.num,aA t.name,bM 4 b (Tm.rows r)]:=λb r=>by rw[Tm.ha];rfl
  have cy:=t.ie;have Y:(aa ((0:Nat):Int))=aa 0:=rfl;show yU (nK n) n _=_;rw[Jr,b5];cases j:t.aC with
  |nil=>
   have w:ks=[]:=by rw[j]at c;exact xaO c
   subst w;rw[j]at g7;have Z:((((Tm.rows []).length:Nat):Int)==0)=true:=rfl;simp only[yU,go_sem,g7,ig k,List.isEmpty_nil,Q];simp
  |cons a0 dS=>
   have L:¬ks.isEmpty=true:=by cases ks with|nil=>rw[j]at c;simp at c|cons _ _=>simp
   have J:((t.aC.length:Int)==0)=false:=by rw[j];simp;omega
   rw[xab L];show _=some [(Tm.mk t.op t.num t.name false (ec ks deep (k+1)).1).d,.mp M,ay l,aa (ec ks deep (k+1)).2];clear j;have y:=cd (f:=uT (nK n) n) (t.aC.zip ks) (λi (s:Int×List Tm)=>[aa deep,bM 4 t.nl (Tm.rows t.aC),aa t.aC.length,aa (i:Int),aa s.1,aa t.op,aa t.num,aA t.name,bM 4 t.nl (Tm.rows t.aC),aa 0,aa 0,aA ⟨#[]⟩,b9,.aw 4 (Tm.rows (s.2++List.replicate (t.aC.length-i) T0)),.mp M,ay l]) (λr (s:Int×List Tm)=>(Sum.inl [aa t.op,aa t.num,aA t.name,bM 4 t.nl (Tm.rows t.aC),aa 0,aa 0,aA ⟨#[]⟩,b9,.aw 4 (Tm.rows (s.2++(ec (r.map (·.2)) deep s.1).1)),.mp M,ay l,aa (ec (r.map (·.2)) deep s.1).2]:lZ⊕lZ)) (λi s=>0<=s.1/\s.1<=4097/\s.2.length=i) ?_ ?_ n 0 (k+1,[]) ⟨by simp;omega,by simp;omega,rfl⟩ (by simp[c];omega) (xah _)
   .have bX:Tm.rows (List.replicate t.aC.length T0)=List.replicate t.aC.length [aa 0,aa 0,aA ⟨#[]⟩,D.val (.slice none 0 0)]:=by
     rw[Tm.gM,List.map_replicate];rfl
    simp only[xak,Jp c,Y,xaM,Nat.sub_zero,bX]at y;have K:=afD (t:=t.aC.length) oZ;simp only[yU,go_sem,g7,ig k,J,K,y,Q,ZS]
   .intro s aj;have e:(t.aC.zip ks).length=t.aC.length:=by simp[c]
    simp only[e,uT,go_sem,yF ((t.aC.length:Int)<t.aC.length),xbb,ec,xbU,List.replicate_zero,xat]
   rintro i ⟨a,b⟩ s eb ag ⟨W,di,C⟩;obtain⟨o,T⟩:=Ed eb;simp only at o T;have E:=xad o;have dD:=Tm.gC E;have g:=(lV.1 o).1;have u:(i:Int)<t.aC.length:=oZ
   left;by_cases p:deep<=64/\s.1<=4096
   .have cz:=RN ah R n b6 a b (deep+1) s.1 (I i a b o T) (O.dx E) oZ oZ oZ W p.2 oZ;have A:=RK b (deep+1) s.1;have N:cS (s.2++List.replicate (t.aC.length-i) T0).length (aa (i:Int))=some i:=by
     rw[jW,xac];simp;omega
    have G:er T0.cells 0 [aa (dk b (deep+1) s.1).1.op,aa (dk b (deep+1) s.1).1.num,aA (dk b (deep+1) s.1).1.name,bM 4 (dk b (deep+1) s.1).1.nl (Tm.rows (dk b (deep+1) s.1).1.aC)]=(dk b (deep+1) s.1).1.cells:=by rw[Tm.hU (dk b (deep+1) s.1).1];rfl
    refine⟨((dk b (deep+1) s.1).2,s.2++[(dk b (deep+1) s.1).1]),?_,?_,by simp;omega,by simpa using A.2 p.2,by simp[C]⟩;.simp only[uT,go_sem,xap u,Tm.e9 o,xap p.1,xap p.2,ig deep,cz,N,afC C g,G,RM C g,bu i]
    simp only[xav,ec,xac p,xaL,xbo]
   refine⟨(s.1,s.2++[T0]),?_,?_,by simpa using W,by simpa using di,by simp[C]⟩
   .have cL:=RM (x:=T0) C g;have S:Tm.rows (s.2++List.replicate (t.aC.length-i) T0)=Tm.rows (s.2++[T0]++List.replicate (t.aC.length-(i+1)) T0):=by
     obtain⟨m,E⟩:∃m,t.aC.length=i+1+m:=⟨t.aC.length-(i+1),by omega⟩;have bY:i+1+m-i=m+1:=oZ
     have bU:i+1+m-(i+1)=m:=oZ
     rw[E,bY,bU];simp[xct]
    by_cases q:deep<=64;.have F:¬s.1<=4096:=λh=>p ⟨q,h⟩;simp only[uT,go_sem,xap u,Tm.e9 o,xap q,xaB F,S,bu i]
    simp only[uT,go_sem,xap u,Tm.e9 o,xaB q,S,bu i,xcd]
   simp only[xav,ec,xab p,xaL,xbo]
def so(l:List a7)(S:lX):Prop:=∀x∈S,∀y∈to l x,y∈S
def so.mA{l:List a7}{S:lX}(h:so l S){a b:Nat}(e:hf (to l) a b)(d:a∈S):b∈S:=by induction e with|refl=>exact d|step i j k c _ ih=>exact ih (h i d j c)
def RO(l:List a7)(i n:Nat)(S:lX)(ab:fZ l.length S)(ad:so l S)(g:l.length<n):fZ l.length (fc (to l) n (to l i) S)/\so l (fc (to l) n (to l i) S)/\∀x,x∈fc (to l) n (to l i) S↔x∈S\/∃k∈to l i,hf (to l) k x:=by
 have h:=vv (λi k b=>hW i k b) n (to l i) S ab (λx a=>hW i x a) oZ;obtain⟨T,c⟩:=h.pre;have d:so l (fc (to l) n (to l i) S):=by
  intro x a y e;by_cases aj:x∈S;.rw[c];simp[ad x aj y e]
  exact h.o5 x a aj y e
 refine⟨h.inv,d,λx=>⟨h.mA x,?_⟩⟩;rintro(a|⟨k,b,f⟩);.rw[c];simp[a]
 exact d.mA f (h.mem k b)
def RP(l:List a7){B:Nat}(ah:ft B l)(n:Nat)(u:3*B+200<n)(fr:lX)(b:∀i∈fr,i<l.length)(p:fr.length<1000000000):∀(m j:Nat)(S:lX)(M:List (Value×D)),dO M S->fZ l.length S->so l S->fr.length-j<m->j<=fr.length-> ∃f a,aS (C9 n) m [cg fr,aa fr.length,aa (j:Int),.mp M,fe (l.map λd=>cB l d.e)]=some (.inl [.mp f])/\dO f a/\fZ l.length a/\∀x,x∈a↔x∈S\/∃i∈fr.drop j,∃k∈to l i,hf (to l) k x
 |0,_,_,_,_,_,_,h,_=>absurd h (xaI _)
 |m+1,j,S,M,q,g,t,hm,A=>by
  have r:=ah.len;rw[hJ];by_cases c:j<fr.length
  .have o:=xaa c;generalize fr[j]=i at o;have ag:=b i (xad o);have kC:fr.drop j=i::fr.drop (j+1):=by
    obtain⟨y,z⟩:=lV.1 o;rw[xaU y,z]
   have w:=g.len;obtain⟨s,c7,dm⟩:=Jl l ah n i S M ag q g oZ;obtain⟨c1,c2,b3⟩:=RO l i n S g t oZ;obtain⟨f,a,g1,g2,g3,g4⟩:=RP l ah n u fr b p m (j+1) _ s dm c1 c2 oZ c;refine⟨f,a,?_,g2,g3,λx=>?_⟩;.simp only[C9,go_sem,yT ((j:Int)<(fr.length:Int)),oG o,fW,c7,bu j,g1]
   rw[g4,b3,kC];simp only[xan,exists_eq_or_imp,or_assoc]
  have:j=fr.length:=oZ
  subst this;refine⟨M,S,?_,q,g,λx=>by simp⟩;simp only[C9,go_sem,yF ((fr.length:Int)<fr.length)]
def RQ(l:List a7){B:Nat}(ah:ft B l)(n:Nat)(u:3*B+200<n)(fr:lX)(b:∀i∈fr,i<l.length)(p:fr.length<1000000000):∀(m j:Nat)(S:lX)(M:List (Value×D)),dO M S->fZ l.length S->so l S->fr.length-j<m->j<=fr.length-> ∃f a,aS (Da n) m [cg fr,aa fr.length,aa (j:Int),.mp M,fe (l.map λd=>cB l d.e)]=some (.inl [.mp f])/\dO f a/\fZ l.length a/\∀x,x∈a↔x∈S\/∃i∈fr.drop j,∃k∈to l i,hf (to l) k x
 |0,_,_,_,_,_,_,h,_=>absurd h (xaI _)
 |m+1,j,S,M,q,g,t,hm,A=>by
  have r:=ah.len;rw[hJ];by_cases c:j<fr.length
  .have o:=xaa c;generalize fr[j]=i at o;have ag:=b i (xad o);have kC:fr.drop j=i::fr.drop (j+1):=by
    obtain⟨y,z⟩:=lV.1 o;rw[xaU y,z]
   have w:=g.len;obtain⟨s,c7,dm⟩:=Jl l ah n i S M ag q g oZ;obtain⟨c1,c2,b3⟩:=RO l i n S g t oZ;obtain⟨f,a,g1,g2,g3,g4⟩:=RQ l ah n u fr b p m (j+1) _ s dm c1 c2 oZ c;refine⟨f,a,?_,g2,g3,λx=>?_⟩;.simp only[Da,go_sem,yT ((j:Int)<(fr.length:Int)),oG o,fW,c7,bu j,g1]
   rw[g4,b3,kC];simp only[xan,exists_eq_or_imp,or_assoc]
  have:j=fr.length:=oZ
  subst this;refine⟨M,S,?_,q,g,λx=>by simp⟩;simp only[Da,go_sem,yF ((fr.length:Int)<fr.length)]
theorem Js(l:List a7):da (ay l)=true:=rfl
theorem RR(l:mZ):da (fe l)=true:=rfl
def dO.vx{M:List (Value×D)}{S:lX}(h:dO M S):True:=trivial
def afE(l:List a7){B:Nat}(ah:ft B l)(n:Nat)(g:3*B+200<n)(fr:lX)(b:∀i∈fr,i<l.length)(f:fr.length<n)(a:fr.length<1000000000): ∃M S,yR n [fe (l.map λd=>cB l d.e),cg fr]=some [.mp M]/\dO M S/\∀x,x∈S↔∃i∈fr,∃k∈to l i,hf (to l) k x:=by have c:(aa ((0:Nat):Int))=aa 0:=rfl;obtain⟨M,S,g1,g2,g3,g4⟩:=RP l ah n g fr b a n 0 [] [] dO.nil ⟨by simp,by simp⟩ (by intro x h;cases h) oZ (xah _);refine⟨M,S,?_,g2,λx=>by rw[g4];simp⟩;rw[c]at g1;simp only[yR,go_sem,RR,nv,g1]
def afF(l:List a7){B:Nat}(ah:ft B l)(n:Nat)(g:3*B+200<n)(fr:lX)(b:∀i∈fr,i<l.length)(f:fr.length<n)(a:fr.length<1000000000): ∃M S,uS n [fe (l.map λd=>cB l d.e),cg fr]=some (.mp M)/\dO M S/\∀x,x∈S↔∃i∈fr,∃k∈to l i,hf (to l) k x:=by have c:(aa ((0:Nat):Int))=aa 0:=rfl;obtain⟨M,S,g1,g2,g3,g4⟩:=RQ l ah n g fr b a n 0 [] [] dO.nil ⟨by simp,by simp⟩ (by intro x h;cases h) oZ (xah _);refine⟨M,S,?_,g2,λx=>by rw[g4];simp⟩;rw[c]at g1;simp only[uS,Py,go_sem,RR,nv,g1]
def afG(l:List a7){B:Nat}(ah:ft B l)(n:Nat)(b:3*B+200<n)(i:Nat)(ag:i<l.length): ∃M,uS n [fe (l.map λd=>cB l d.e),D.aw 1 [[aa (i:Int)]]]=some (.mp M)/\gA (.int .i64) (.bool false) false M (aa (i:Int))=some (aD (gu l i)):=by
 obtain⟨M,S,g1,g2,g3⟩:=afF l ah n b [i] (by simpa using ag) uZ sZ;refine⟨M,g1,?_⟩;rw[g2.look (z:= .bool false)];have:(i∈S)↔gu l i=true:=by rw[g3,Jj];simp
 congr 2
 by_cases h:i∈S;.rw[this.1 h];simp[h]
 have a:gu l i=false:=by cases ad:gu l i with|false=>rfl|true=>exact absurd (this.2 ad) h
 rw[a];simp[h]
def mB(l:List a7)(t:Tm):Bool:=(hL l (cB l t)).all λx=>!gu l x
def afH(l:List a7)(t:Tm):mB l t=true↔vw l t:=by simp[mB,vw]
def afI(n:Nat)(l:List a7){M:List (Value×D)}(w:D8 M l)(N t:D)(m:List ByteArray)(a b c d e f g h:D)(ab:m.length<n)(ad:m.length<100000000):aS (uU n) n [ay l,.mp M,N,cx m,aa m.length,aa 0,a,b,c,d,e,f,g,h,D.aw 1 []]=some (.inl [ay l,N,a,b,c,d,e,f,g,h,cg (m.filterMap (cq l))]):=by
 have A:(aa ((0:Nat):Int))=aa 0:=rfl;have B:cg []=D.aw 1 []:=rfl;have p:∀x,D.aw 1 (aF (cg x))=cg x:=λ_=>rfl;have q:=cd (f:=uU n) m (λj (s:lX)=>[ay l,.mp M,N,cx m,aa m.length,aa (j:Int),a,b,c,d,e,f,g,h,cg s]) (λr s=>(.inl [ay l,N,a,b,c,d,e,f,g,h,cg (s++r.filterMap (cq l))]:lZ⊕D)) (λj s=>s.length<=j) ?_ ?_ n 0 [] sZ oZ (xah _)
 .rw[A,B]at q;simpa using q
 .intro s _;simp only[uU,go_sem,yF ((m.length:Int)<m.length),p,List.filterMap_nil,xat]
 intro j b' s F q aj;have y:=zF F;have i:=tJ w.1 (z:= .int .i64 0) (x:=b');rw[w.2]at i;left;cases o:cq l b' with
 |none=>rw[o]at i;simp only[xbB]at i;refine⟨s,?_,by simp[o],by omega⟩;simp only[uU,go_sem,yT ((j:Int)<(m.length:Int)),y,fW,iX,i,p,bu j]
 |some k=>
  rw[o]at i;simp only[xaH]at i;have u:bZ (s.length+1) 8=true:=eB;have C:D.aw 1 (aF (cg s)++[[aa (k:Int)]])=cg (s++[k]):=by simp[cg]
  have E:(aF (cg s)).length=s.length:=by simp[cg]
  refine⟨s++[k],?_,by simp[o],by simp;omega⟩;simp only[uU,go_sem,yT ((j:Int)<(m.length:Int)),y,fW,iX,i,p,C,E,xal,xaA,xaw,u,bu j]
def RS(n:Nat)(fr:lX)(L N a b c d e f g h:D)(ad:fr.length<100000000):∀(m j:Nat)(S:lX)(M:List (Value×D)),dO M S->fr.length-j<m->j<=fr.length-> ∃l o,aS (Db n) m [L,N,cg fr,aa fr.length,aa (j:Int),a,b,c,d,e,f,g,h,.mp M]=some (.inl [L,N,a,b,c,d,e,f,g,h,.mp l])/\dO l o/\∀x,x∈o↔x∈S\/x∈fr.drop j
 |0,_,_,_,_,h,_=>absurd h (xaI _)
 |m+1,j,S,M,q,hm,y=>by
  rw[hJ];by_cases k:j<fr.length
  .have p:=xaa k;generalize fr[j]=i at p;have kC:fr.drop j=i::fr.drop (j+1):=by
    obtain⟨u,w⟩:=lV.1 p;rw[xaU u,w]
   obtain⟨r,s,t⟩:=q.put i;obtain⟨l,o,g1,g2,g3⟩:=RS n fr L N a b c d e f g h ad m (j+1) _ r t oZ k;refine⟨l,o,?_,g2,λx=>?_⟩;.simp only[Db,go_sem,yT ((j:Int)<(fr.length:Int)),oG p,fW,s,bu j,g1]
   rw[g3,kC,xan];by_cases ag:i∈S
   .rw[xac ag];constructor
    .rintro(h|h);.exact .inl h
     exact .inr (.inr h)
    rintro(h|rfl|h);.exact .inl h
    .exact .inl ag
    exact .inr h
   rw[xab ag];simp only[xar,xcf,or_assoc]
  have:j=fr.length:=oZ
  subst this;refine⟨M,S,?_,q,λx=>by simp⟩;simp only[Db,go_sem,yF ((fr.length:Int)<fr.length)]
def afJ(n:Nat)(l:List a7){B:Nat}(ah:ft B l)(I:3*B+200<n){M:List (Value×D)}{S:lX}(H:dO M S)(a b c d e f g h:D):aS (r1 n) n [ay l,fe (l.map λd=>cB l d.e),aa l.length,aa 0,a,b,c,d,e,f,g,h,.mp M]=some (if(List.range l.length).all (λi=>!(decide (i∈S)&&gu l i))then .inl [ay l,a,b,c,d,e,f,g,h]else .inr (.az [T0.d,aa 14])):=by
 have C:=ah.len;have G:=ah.b;have E:(aa ((0:Nat):Int))=aa 0:=rfl;have m:D.agg [aa 0,aa 0,aA ⟨#[]⟩,D.val (.slice none 0 0)]=T0.d:=BY.symm;have o:=cd (f:=r1 n) (List.range l.length) (λj (s:Unit)=>[ay l,fe (l.map λd=>cB l d.e),aa l.length,aa (j:Int),a,b,c,d,e,f,g,h,.mp M]) (λr s=>(if r.all (λi=>!(decide (i∈S)&&gu l i))then .inl [ay l,a,b,c,d,e,f,g,h]else .inr (.az [T0.d,aa 14]):lZ⊕D)) (λj s=>True) ?_ ?_ n 0 () trivial uZ (xah _)
 .rw[E]at o;simpa using o
 .intro s _;rw[xbd];simp only[r1,go_sem,yF ((l.length:Int)<l.length),xce]
 intro j b' s A o aj;rw[xbd]at o;have t:b'=j:=by rw[xbN o]at A;exact(xaZ A).symm
 subst t;have k:=H.look (i:=b') (z:= .bool false);obtain⟨w,c7,dm⟩:=afG l ah n I b' o;have y:iX (D.mp w)=some w:=rfl;by_cases q:b'∈S
 .by_cases u:gu l b'=true;.right;rw[u]at dm;simp only[r1,go_sem,yT ((b':Int)<(l.length:Int)),k,xap q,c7,y,dm,m,xba,u,xcd]
  have p:gu l b'=false:=by simpa using u
  left;rw[p]at dm;refine⟨(),?_,by simp only[xba,p,Bool.and_false,xca,xbl],trivial⟩;simp only[r1,go_sem,yT ((b':Int)<(l.length:Int)),k,xap q,c7,y,dm,tI (bt:=false) (i:=b') oZ]
 left;refine⟨(),?_,by simp only[xba,xaB q,xcd,xca,xbl],trivial⟩;have F:∀(x:oX)(f:D->Option (lZ⊕(lZ⊕D))),af (cu (aD false) true x) (λv=>af (dQ (aD false) v (aD false)) f)=f (aD false):=λ_ _=>rfl;simp only[r1,go_sem,yT ((b':Int)<(l.length:Int)),k,xaB q,F,tI (bt:=false) (i:=b') oZ]
inductive mC(C:Nat):Tm->Prop where
 |mk (o m:Int) (s:ByteArray) (b:Bool) (ks:List Tm) (ah:ks.length<=C) (FD:∀k∈ks,mC C k):mC C (.mk o m s b ks)
def hg.ok{l:List a7}{B:Nat}(ah:ft B l):∀{h:Nat}{t X:Tm},hg l h t X->t.Ok->t.aO<=B->X.Ok/\mC B X
 |0,_,_,H,_,_=>H.elim
 |h+1,t,X,H,a,I=>by
  rcases H with⟨u,i,d,ag,x,w⟩|⟨C,ks,rfl,z,g⟩;.have f:=ah.e d (xad x);exact w.ok ah f.1 f.2
  have key:∀k∈ks,k.Ok/\mC B k:=by intro k c;obtain⟨j,p⟩:=xaJ.1 c;have y:=(lV.1 p).1;have m:t.aC[j]?=some (t.aC[j]'oZ):=xaa oZ;have r:=xad m;have J:=Tm.gC r;exact(g j _ k m p).ok ah (a.dx r) oZ
  have D:=t.ie;have q:=a.len;obtain⟨E,F,G⟩:(-9223372036854775808<=t.op/\t.op<=9223372036854775807)/\(-9223372036854775808<=t.num/\t.num<=9223372036854775807)/\t.name.size<=140737488355328:=by cases a with|mk o n s b ks u A aj ah c=>exact⟨u,A,aj⟩
  exact⟨.mk _ _ _ _ _ E F G oZ λk c=>(key k c).1,.mk _ _ _ _ _ oZ λk c=>(key k c).2⟩
def mC.dx{C:Nat}{t k:Tm}(h:mC C t)(c:k∈t.aC):mC C k:=by cases h with|mk o m s b ks ah a=>exact a k c
def mC.len{C:Nat}{t:Tm}(h:mC C t):t.aC.length<=C:=by cases h;assumption
theorem Tm.sq(t:Tm):t.aO=2+Tm.dp t.aC:=by cases t;rw[Tm.aO];rfl
def afK(C:Nat)(X:Tm):∀(deep n:Int),X.Ok->mC C X->(dk X deep n).1.Ok/\((dk X deep n).1.aO:Int)<=(2+3*(C:Int))*((dk X deep n).2-n):=by
 refine Tm.ind (P:=λX=>∀(deep n:Int),X.Ok->mC C X->(dk X deep n).1.Ok/\((dk X deep n).1.aO:Int)<=(2+3*(C:Int))*((dk X deep n).2-n)) ?_ X;intro t ih deep n d i;generalize z:(2+3*(C:Int))=K at*;have key:∀(ks:List Tm),(∀k∈ks,∀(deep n:Int),(dk k deep n).1.Ok/\((dk k deep n).1.aO:Int)<=K*((dk k deep n).2-n))->∀(n:Int),(∀k∈(ec ks deep n).1,k.Ok)/\(Tm.dp (ec ks deep n).1:Int)<=K*((ec ks deep n).2-n)+3*(ks.length:Int):=by
  intro ks
  induction ks with
  |nil=>intro _ n;simp[ec,Tm.dp]
  |cons a r f=>
   intro h n;have ab:=h a sZ (deep+1) n;rw[ec];split
   .have ad:=f (λk c=>h k (by simp[c])) (dk a (deep+1) n).2;refine⟨?_,?_⟩
    .intro k c;rcases xan.1 c with rfl|c
     .exact ab.1
     exact ad.1 k c
    have e:K*((ec r deep (dk a (deep+1) n).2).2-n)=K*((dk a (deep+1) n).2-n)+K*((ec r deep (dk a (deep+1) n).2).2-(dk a (deep+1) n).2):=by rw[<-Int.mul_add];congr 1;omega
    simp only[Tm.dp,xal];rw[e];omega
   have ad:=f (λk c=>h k (by simp[c])) n;refine⟨?_,?_⟩
   .intro k c;rcases xan.1 c with rfl|c
    .exact HF
    exact ad.1 k c
   have e:T0.aO=2:=rfl;simp only[Tm.dp,xal,e];omega
 rw[Jr];split
 .rename_i m;have:t.aC=[]:=by simpa using m
  have j:t.aO=2:=by rw[Tm.sq,this];rfl
  refine⟨d,?_⟩;simp only[j];have l:K*(n+1-n)=K:=by rw[show n+1-n=(1:Int) by omega];exact Int.mul_one K
  rw[l];omega
 obtain⟨bT,cM⟩:=key t.aC (λk c deep n=>ih k c deep n (d.dx c) (i.dx c)) (n+1);have g:=d.len;have u:=i.len;obtain⟨w,x,y⟩:(-9223372036854775808<=t.op/\t.op<=9223372036854775807)/\(-9223372036854775808<=t.num/\t.num<=9223372036854775807)/\t.name.size<=140737488355328:=by cases d with|mk o n s b ks q p aj ah c=>exact⟨q,p,aj⟩
 refine⟨.mk _ _ _ _ _ w x y (by rw[Ec];omega) bT,?_⟩;rw[Tm.sq];have e:K*((ec t.aC deep (n+1)).2-n)=K+K*((ec t.aC deep (n+1)).2-(n+1)):=by
  have:(ec t.aC deep (n+1)).2-n=1+((ec t.aC deep (n+1)).2-(n+1)):=oZ
  rw[this,Int.mul_add,Int.mul_one]
 show((2+Tm.dp (ec t.aC deep (n+1)).1:Nat):Int)<=_;rw[e];omega
def RT{l:List a7}{B h:Nat}(ah:ft B l){t X:Tm}(H:hg l h t X)(a:t.Ok)(d:t.aO<=B):(dk X 1 0).1.Ok/\(dk X 1 0).1.aO<=8194+12291*B:=by obtain⟨ab,ad⟩:=H.ok ah a d;obtain⟨ai,e⟩:=afK B X 1 0 ab ad;refine⟨ai,?_⟩;have b:=RK X 1 0;have c:=b.2 oZ;have f:(2+3*(B:Int))*((dk X 1 0).2-0)<=(2+3*(B:Int))*4097:=Int.mul_le_mul_of_nonneg_left oZ oZ;omega
def afL{l:List a7}{B:Nat}(ah:ft B l)(n h:Nat)(t X:Tm)(H:hg l h t X)(a:t.Ok)(g:t.aO<=B)(j:h+2*B+200<n):yV n [t.d,ay l]=some (dk X 1 0).1.d:=by have c:=ah.len;have e:=ah.b;obtain⟨M,m1,m2⟩:=Jh n l oZ oZ;have f:=RN ah m2 n h t X 1 0 H a g oZ oZ oZ oZ oZ;have i:da (D.mp M)=true:=rfl;simp only[yV,Pz,go_sem,Js,m1,i,f]
def Jt{l:List a7}{B:Nat}(ah:ft B l)(n:Nat)(t:Tm)(f:t.Ok)(K:t.aO<=B)(W:20000*B+20000<n):((ck t 1 0).1≠0->kz n [t.d,ay l]=some (.az [T0.d,aa (ck t 1 0).1]))/\((ck t 1 0).1=0->mB l t=false->kz n [t.d,ay l]=some (.az [T0.d,aa 14]))/\(∀h X,(ck t 1 0).1=0->mB l t=true->hg l h t X->h+2*B+200<n->kz n [t.d,ay l]=some (.az [if(ck (dk X 1 0).1 1 0).1=0 then(dk X 1 0).1.d else T0.d,aa (ck (dk X 1 0).1 1 0).1])):=by
 have J:=ah.len;have Q:=ah.b;have c:D.agg [aa 0,aa 0,aA ⟨#[]⟩,D.val (.slice none 0 0)]=T0.d:=BY.symm;have s:=D4 n t oZ f;obtain⟨M,m1,m2⟩:=Jh n l oZ oZ;have y:=afu n l ah oZ;have z:=D6 n t oZ f oZ;have S:=vt t;have r:=afI n l m2 (fe (l.map λd=>cB l d.e)) T0.d (dX 3 t []) (aa t.op) (aa t.num) (aA t.name) (bM 4 t.nl (Tm.rows t.aC)) (aa 0) (aa 0) (aA ⟨#[]⟩) b9 oZ oZ;have P:(dX 3 t []).filterMap (cq l)=cB l t:=rfl;rw[P]at r;have R:=D9 l t;obtain⟨L,N,c7,dm,T⟩:=afE l ah n oZ (cB l t) jF oZ oZ;obtain⟨V,G,s1,s2,U⟩:=RS n (cB l t) (ay l) (fe (l.map λd=>cB l d.e)) (aa t.op) (aa t.num) (aA t.name) (bM 4 t.nl (Tm.rows t.aC)) (aa 0) (aa 0) (aA ⟨#[]⟩) b9 oZ n 0 N L dm oZ (xah _);have p:∀x,x∈G↔x∈hL l (cB l t):=by
  intro x;rw[U,T,o6 l _ jF,xak];constructor
  .rintro(⟨i,ag,k,A,g⟩|h);.exact⟨i,ag,.step i k x A g⟩
   exact⟨x,h,.refl x⟩
  rintro⟨i,ag,g⟩;cases g with|refl=>exact .inr ag|step _ k _ A g=>exact .inl ⟨i,ag,k,A,g⟩
 have a:=afJ n l ah oZ s2 (aa t.op) (aa t.num) (aA t.name) (bM 4 t.nl (Tm.rows t.aC)) (aa 0) (aa 0) (aA ⟨#[]⟩) b9;have q:(List.range l.length).all (λi=>!(decide (i∈G)&&gu l i))=mB l t:=by
  rw[Bool.eq_iff_iff];simp only[mB,xax,xbT,xcp,Bool.and_eq_false_imp,xaC];constructor;.intro h x E;exact h x ((qx l _ jF).inv.2 x E) ((p x).2 E)
  intro h x E F;exact h x ((p x).1 F)
 rw[q]at a;have O:(aa ((0:Nat):Int))=aa 0:=rfl;rw[O]at s1;have w:∀x,D.aw 1 (aF (cg x))=cg x:=λ_=>rfl;have j:((0:Int) !=0)=false:=rfl;have u:∀x,(aF (cg x)).length=x.length:=λx=>by simp[cg]
 refine⟨λak=>?_,λak g=>?_,λh X ak g H C=>?_⟩
 .have m:((ck t 1 0).1 !=0)=true:=by simpa using ak
  simp only[kz,yW,go_sem,s,m,c]
 .rw[g]at a;simp only[xaq,xaF]at a;simp only[kz,yW,go_sem,s,ak,j,m1,y,z,zG,r,w,u,c7,s1,a]
 rw[g]at a;simp only[xaE]at a;have I:=afL ah n h t X H f K C;obtain⟨f1,f2⟩:=RT ah H f K;have o:=D4 n (dk X 1 0).1 oZ f1;by_cases ai:(ck (dk X 1 0).1 1 0).1=0
 .rw[ai]at o;simp only[kz,yW,go_sem,s,ak,j,m1,y,z,zG,r,w,u,c7,s1,a,I,o,ai]
 have m:((ck (dk X 1 0).1 1 0).1 !=0)=true:=by simpa using ai
 simp only[kz,yW,go_sem,s,ak,j,m1,y,z,zG,r,w,u,c7,s1,a,I,o,ai,m,c]
def Ju{l:List a7}{B:Nat}(ah:ft B l)(n:Nat)(t:Tm)(p:t.Ok)(K:t.aO<=B)(R:20000*B+20000<n):((ck t 1 0).1≠0->ky n [t.d,ay l]=some (.az [T0.d,aa (ck t 1 0).1]))/\((ck t 1 0).1=0->mB l t=false->ky n [t.d,ay l]=some (.az [T0.d,aa 14]))/\(∀h X,(ck t 1 0).1=0->mB l t=true->hg l h t X->h+2*B+200<n->ky n [t.d,ay l]=some (.az [if(ck X 1 0).1=0 then(ep X).d else T0.d,aa (ck X 1 0).1])):=by
 have J:=ah.len;have M:=ah.b;have e:D.agg [aa 0,aa 0,aA ⟨#[]⟩,D.val (.slice none 0 0)]=T0.d:=BY.symm;have w:=Jc n t oZ p;have P:=D9 l t;have y:=Jk l ah n t [] b9 (.inr ⟨rfl,rfl⟩) p K ⟨by simp,by simp⟩ uZ;have F:fc (to l) n (cB l t) []=hL l (cB l t):=Ji (λi k O=>hW i k O) n _ (cB l t) [] ⟨by simp,by simp⟩ jF uZ sZ;rw[F]at y;have u:=qx l (cB l t) jF;have N:=u.inv.len;have L:(aa ((0:Nat):Int))=aa 0:=rfl;have o:((0:Int) !=0)=false:=rfl;generalize E:hL l (cB l t)=C at*;have c:dK (hM [] b9 C)=some (aa C.length):=by
  unfold hM;split;.rename_i h;rw[h];rfl
  exact nv C
 have j:∀(i x:Nat),C[i]?=some x->a8 1 (hM [] b9 C) (aa (i:Int))=some [aa (x:Int)]:=by
  intro i x q;unfold hM;split;.rename_i h;have:C=[]:=xaO h;subst this;simp at q
  exact oG q
 have a:=cd (f:=x3 n) C (λi (s:Unit)=>[ay l,hM [] b9 C,aa (i:Int),aa t.op,aa t.num,aA t.name,bM 4 t.nl (Tm.rows t.aC),aa 0,aa 0,aA ⟨#[]⟩,b9]) (λr s=>(if r.all (λx=>!gu l x)then .inl [ay l,aa t.op,aa t.num,aA t.name,bM 4 t.nl (Tm.rows t.aC),aa 0,aa 0,aA ⟨#[]⟩,b9]else .inr (.az [T0.d,aa 14]):lZ⊕D)) (λi s=>True) ?_ ?_ n 0 () trivial oZ (xah _)
 .rw[L,xak]at a;have G:C.all (λx=>!gu l x)=mB l t:=by rw[mB,E]
  rw[G]at a;refine⟨λak=>?_,λak m=>?_,λh X ak m H Q=>?_⟩
  .have A:((ck t 1 0).1 !=0)=true:=by simpa using ak
   simp only[ky,x4,go_sem,w,A,e]
  .rw[m]at a;simp only[xaq,xaF]at a;simp only[ky,x4,go_sem,w,ak,o,y,a]
  rw[m]at a;simp only[xaE]at a;have z:=Jq ah h n t X 1 0 H p K oZ oZ oZ oZ oZ;by_cases ai:(ck X 1 0).1=0
  .simp only[ai,xaE]at z;simp only[ky,x4,go_sem,w,ak,o,y,a,z,ai]
  simp only[ai,xaF]at z;simp only[ky,x4,go_sem,w,ak,o,y,a,z,ai]
 .intro s _;simp only[x3,go_sem,c,yF ((C.length:Int)<C.length),xce]
 intro i x s q ag aj;have I:=xad q;have m:=afv l ah n x (u.inv.2 x I) oZ;cases g:gu l x with
 |true=>right;rw[g]at m;simp only[x3,go_sem,c,yT ((i:Int)<(C.length:Int)),j i x q,fW,m,e,xba,g,xcd]
 |false=>left;rw[g]at m;refine⟨(),?_,by simp only[xba,g,xca,xbl],trivial⟩;simp only[x3,go_sem,c,yT ((i:Int)<(C.length:Int)),j i x q,fW,m,bu i]
mutual
def hA:Tm->Tm
 | .mk o m s b ks=> .mk o m s (b&&ks.isEmpty) (qA ks)
def qA:List Tm->List Tm
 |[]=>[]|k::r=>hA k::qA r
end
def RU:∀l:List Tm,qA l=l.map hA
 |[]=>rfl|k::r=>by rw[qA,RU r];rfl
theorem zH(t:Tm):hA t= .mk t.op t.num t.name (t.nl&&t.aC.isEmpty) (t.aC.map hA):=by cases t;rw[hA,RU];rfl
mutual
def RV:∀(X:Tm)(deep n:Int),n<=4096->(ck X deep n).1=0->(dk X deep n).1=hA X
 | .mk o m s b ks,deep,n,a=>by
  intro h;rw[dk,hA];cases ks with
  |nil=>simp[qA]
  |cons k r=>
   simp only[List.isEmpty_cons,xaq,xaF,Bool.and_false];rw[ck]at h;by_cases ab:deep>64;.rw[xac ab]at h;cases h
   rw[xab ab]at h;by_cases ad:fy (.mk o m s b (k::r))≠0;.rw[xac ad]at h;exact absurd h ad
   rw[xab ad]at h;by_cases ai:n+1>4096;.rw[xac ai]at h;cases h
   rw[xab ai]at h;rw[RW (k::r) deep (n+1) oZ oZ h]
def RW:∀(ks:List Tm)(deep n:Int),deep<=64->n<=4096->(dy ks (deep+1) n).1=0->(ec ks deep n).1=qA ks
 |[],deep,n,_,_=>by simp[ec,qA]
 |k::r,deep,n,c,a=>by
  intro h;rw[ec,xac ⟨c,a⟩,qA];rw[dy]at h;obtain⟨g1,g2⟩:=Jo k (deep+1) n a;by_cases ak:(ck k (deep+1) n).1=0;.simp only[ak,ne_eq,xbP,xaF]at h;obtain⟨e,f,g⟩:=g2 ak;have d:=(vr k (deep+1) n).2 ak;rw[e]at h d;rw[RV k (deep+1) n a ak,RW r deep _ c d h]
  simp only[ne_eq,ak,xcq,xaE]at h
end
def Jv(t:Tm):(hA t).aO=t.aO:=by
 refine Tm.ind (P:=λt=>(hA t).aO=t.aO) ?_ t;intro t ih;have key:∀l:List Tm,(∀k∈l,(hA k).aO=k.aO)->Tm.dp (l.map hA)=Tm.dp l:=by
  intro l
  induction l with
  |nil=>intro _;rfl
  |cons a r b=>intro h;simp only[xav,Tm.dp];rw[h a sZ,b λk c=>h k (by simp[c])]
 rw[Tm.sq,Tm.sq t,zH];show 2+Tm.dp (t.aC.map hA)=_;rw[key _ ih]
def RX:∀(ks:List Tm),(∀k∈ks,∀(deep n:Int),(ck k deep n).1=0->(k.aO:Int)+1<=3*((ck k deep n).2-n))->∀(deep n:Int),(dy ks deep n).1=0->(Tm.dp ks:Int)<=3*((dy ks deep n).2-n)
 |[],_,deep,n,_=>by simp[dy,Tm.dp]
 |k::r,b,deep,n,h=>by
  rw[dy]at h⊢;by_cases ak:(ck k deep n).1=0;.simp only[ak,ne_eq,xbP,xaF]at h⊢;have ab:=b k sZ deep n ak;have ad:=RX r (λk a=>b k (by simp[a])) deep _ h;simp only[Tm.dp];omega
  simp only[ne_eq,ak,xcq,xaE]at h
def afM(t:Tm):∀(deep n:Int),(ck t deep n).1=0->(t.aO:Int)+1<=3*((ck t deep n).2-n):=by
 refine Tm.ind (P:=λt=>∀(deep n:Int),(ck t deep n).1=0->(t.aO:Int)+1<=3*((ck t deep n).2-n)) ?_ t;intro t ih deep n h;rw[o3]at h⊢;by_cases ab:deep>64;.rw[xac ab]at h;cases h
 rw[xab ab]at h⊢;by_cases ad:fy t≠0;.rw[xac ad]at h;exact absurd h ad
 rw[xab ad]at h⊢;by_cases ai:n+1>4096;.rw[xac ai]at h;cases h
 rw[xab ai]at h⊢;have:=RX t.aC ih (deep+1) (n+1) h;rw[Tm.sq];omega
def hh(op:Int):Int:=if op=1 then 0 else if op=3\/op=4\/op=5\/op=9\/op=13 then 2 else if op=2\/op=6\/op=7\/op=8\/op=10\/op=11\/op=12 then 1 else-1
def afN(n:Nat)(op:Int):C5 n [aa op]=some (aa (hh op)):=by
 rcases BU op with rfl|rfl|rfl|rfl|rfl|rfl|rfl|rfl|rfl|rfl|rfl|rfl|rfl|rfl|rfl|rfl|rfl|rfl|h
 case inr.inr.inr.inr.inr.inr.inr.inr.inr.inr.inr.inr.inr.inr.inr.inr.inr.inr=>
  have e:∀k:Int,1<=k->k<=18->(op==k)=false:=λk ab ad=>by simp;omega
  have a:hh op=-1:=by unfold hh;repeat(first|rw[xab oZ]|rw[xac oZ])
  simp[C5,Pu,e,a]
 all_goals rfl
def afO(n:Nat)(op:Int):yc n [aa op]=some (aa (hh op)):=by
 rcases BU op with rfl|rfl|rfl|rfl|rfl|rfl|rfl|rfl|rfl|rfl|rfl|rfl|rfl|rfl|rfl|rfl|rfl|rfl|h
 case inr.inr.inr.inr.inr.inr.inr.inr.inr.inr.inr.inr.inr.inr.inr.inr.inr.inr=>
  have e:∀k:Int,1<=k->k<=18->(op==k)=false:=λk ab ad=>by simp;omega
  have a:hh op=-1:=by unfold hh;repeat(first|rw[xab oZ]|rw[xac oZ])
  simp[yc,O4,e,a]
 all_goals rfl
def vy(t:Tm):Int:=if(ck t 1 0).1≠0 then(ck t 1 0).1 else if 0<(dX 4 t []).length then 24 else 0
def qB(t:Tm):Bool:=t.op==0&&(t.num==0&&(decide (t.name=⟨#[]⟩)&&decide (t.aC.length=0)))
def iP(f:Fm):Int:=if hh f.op<0 then 11 else if f.op=1/\vy f.e≠0 then vy f.e
 else if(f.aC.length:Int)≠hh f.op\/(f.op≠1/\qB f.e=false)then 3 else 0
def afP(n:Nat)(f:Fm)(j:2*f.e.aO+40<n)(a:f.Ok)(i:f.e.aO<100000000):uR n [f.d]=some (aa (if f.op≠1 then 0 else vy f.e)):=by
 have ab:=D4 n f.e oZ a.e;have ad:=D6 n f.e oZ a.e i;by_cases b:f.op=1
 case neg=>simp[uR,C4,b]
 unfold vy;by_cases c:(ck f.e 1 0).1=0
 .have g:dK (cx (dX 4 f.e []))=some (aa (dX 4 f.e []).length):=by simp[cx]
  by_cases h:0<(dX 4 f.e []).length<;>simp[uR,C4,b,ab,c,ad,g,h]
 simp[uR,C4,b,ab,c]
def afQ(n:Nat)(t:Tm):CI n [t.d]=some (aD (qB t)):=by unfold qB;simp[CI,O5];by_cases ab:t.op=0<;>by_cases ad:t.num=0<;>by_cases ai:t.name=⟨#[]⟩<;>by_cases a:t.aC=[]<;>simp[ab,ad,ai,a]
def afR(n:Nat)(f:Fm)(o:2*f.e.aO+40<n)(c:f.Ok)(m:f.e.aO<100000000):qg n [f.d]=some (aa (iP f)):=by
 have ab:=Jc n f.e oZ c.e;have ad:=Jf n f.e oZ c.e oZ;have a:=afO n f.op;have k:=afQ n f.e;have i:dK (hd true (dX 4 f.e []))=some (aa (dX 4 f.e []).length):=j0 _ _;unfold iP;by_cases ak:hh f.op<0
 .simp[qg,ux,a,ak]
 by_cases b:f.op=1
 .unfold vy;have bT:hh 1=0:=rfl;rw[b,bT]at a;by_cases h:(ck f.e 1 0).1=0
  .by_cases j:0<(dX 4 f.e []).length;.simp[qg,ux,a,b,ab,h,ad,i,j,bT]
   simp[qg,ux,a,b,ab,h,ad,i,j,bT];by_cases g:f.aC=[]<;>simp[g]
  simp[qg,ux,a,b,ab,h,bT]
 simp[qg,ux,a,ak,b,k];by_cases g:(f.aC.length:Int)=hh f.op;.cases l:qB f.e<;>simp[g]
 simp[g]
mutual
def fz:Fm->Int->Int->Int×Int
 | .mk o t b ks,deep,k=>if deep>64 then(17,k+1)else if iP (.mk o t b ks)≠0 then(iP (.mk o t b ks),k+1)else if k+1>4096 then(4,k+1)else hN ks (deep+1) (k+1)
def hN:List Fm->Int->Int->Int×Int
 |[],_,k=>(0,k)|t::r,deep,k=>if(fz t deep k).1≠0 then fz t deep k else hN r deep (fz t deep k).2
end
theorem zI(t:Fm)(deep k:Int):fz t deep k=if deep>64 then(17,k+1)else if iP t≠0 then(iP t,k+1)else if k+1>4096 then(4,k+1)else hN t.aC (deep+1) (k+1):=by cases t;rw[fz];rfl
mutual
def il:Fm->Int->Int->Int×Int
 | .mk o t b ks,deep,k=>if deep>64 then(17,k)else if iP (.mk o t b ks)≠0 then(iP (.mk o t b ks),k)else if k+1>4096 then(4,k+1)else j2 ks (deep+1) (k+1)
def j2:List Fm->Int->Int->Int×Int
 |[],_,k=>(0,k)|t::r,deep,k=>if(il t deep k).1≠0 then il t deep k else j2 r deep (il t deep k).2
end
theorem RY(t:Fm)(deep k:Int):il t deep k=if deep>64 then(17,k)else if iP t≠0 then(iP t,k)else if k+1>4096 then(4,k+1)else j2 t.aC (deep+1) (k+1):=by cases t;rw[il];rfl
def RZ(t:Fm):∀deep k,(il t deep k).1=(fz t deep k).1/\((il t deep k).1=0->(il t deep k).2=(fz t deep k).2):=by
 refine Fm.ind (P:=λt=>∀deep k,(il t deep k).1=(fz t deep k).1/\((il t deep k).1=0->(il t deep k).2=(fz t deep k).2)) ?_ t;intro t ih deep k;rw[RY,zI];split;.simp
 split;.rename_i h;simp[h]
 split;.simp
 have key:∀(l:List Fm),(∀x∈l,∀deep k,(il x deep k).1=(fz x deep k).1/\((il x deep k).1=0->(il x deep k).2=(fz x deep k).2))->∀deep k,(j2 l deep k).1=(hN l deep k).1/\((j2 l deep k).1=0->(j2 l deep k).2=(hN l deep k).2):=by
  intro l
  induction l with
  |nil=>intro _ deep k;simp[j2,hN]
  |cons a r b=>
   intro h deep k;rw[j2,hN];have ab:=h a sZ deep k;by_cases ad:(fz a deep k).1=0
   .have ai:=ab.1.trans ad;have c:=ab.2 ai;simp only[ad,ai,ne_eq,xbP,xaF,c];exact b (λx d=>h x (by simp[d])) deep _
   have ai:(il a deep k).1≠0:=by rw[ab.1];exact ad
   simp only[ne_eq,ad,ai,xcq,xaE];exact⟨ab.1,λh=>h.elim⟩
 exact key t.aC ih _ _
def R0(t:Fm):∀(deep k:Int),k+1<=(fz t deep k).2/\((fz t deep k).1=0->(fz t deep k).2<=4096):=by
 refine Fm.ind (P:=λt=>∀(deep k:Int),k+1<=(fz t deep k).2/\((fz t deep k).1=0->(fz t deep k).2<=4096)) ?_ t;intro t ih deep k;rw[zI];split;.simp
 split;.rename_i h;simp[h]
 split;.simp
 have key:∀(l:List Fm)(deep k:Int),(∀x∈l,∀(deep k:Int),k+1<=(fz x deep k).2/\((fz x deep k).1=0->(fz x deep k).2<=4096))->k<=4096->k<=(hN l deep k).2/\((hN l deep k).1=0->(hN l deep k).2<=4096):=by
  intro l
  induction l with
  |nil=>intro deep k _ h;simp[hN,h]
  |cons a r b=>
   intro deep k h d;rw[hN];have ab:=h a sZ deep k;split
   .rename_i ad;exact⟨by omega,λai=>absurd ai ad⟩
   rename_i ad;simp only[ne_eq,Decidable.not_not]at ad;have ai:=b deep (fz a deep k).2 (λx c=>h x (by simp[c])) (ab.2 ad);exact⟨by omega,ai.2⟩
 exact key t.aC (deep+1) (k+1) ih oZ
def R1:∀(n:Nat)(t:Fm)(deep k:Int),2*t.aO+40<n->t.Ok->t.aO<100000000->0<=deep->deep<=65->0<=k->k<=4096->oP n [t.d,aa deep,aa k]=some (.az [aa (il t deep k).1,aa (il t deep k).2])
 |0,t,_,_,h,_,_,_,_,_,_=>absurd h (xaI _)
 |n+1,t,deep,k,E,b,C,ab,ad,ai,A=>by
  have z:=t.xe;have x:=afR n t oZ b oZ;rw[RY];simp[oP,Ij,ig k,x];by_cases m:64<deep
  .simp[m]
  simp[m];by_cases q:iP t=0
  case neg=>simp[q]
  simp[q];by_cases l:4096<k+1;.simp[l]
  simp[l];have ah:=cd (f:=CJ (oP n) n) t.aC (λi s=>[aa deep,aa s,aa (i:Int),aa t.op,aa t.e.op,aa t.e.num,aA t.e.name,bM 4 t.e.nl (Tm.rows t.e.aC),bM 6 t.nl (Fm.rows t.aC)]) (λr (s:Int)=>if(j2 r (deep+1) s).1=0 then(Sum.inl [aa (j2 r (deep+1) s).2]:lZ⊕D)else .inr (.az [aa (j2 r (deep+1) s).1,aa (j2 r (deep+1) s).2])) (λi s=>0<=s/\s<=4096) ?_ ?_ n 0 (k+1) ⟨by omega,by omega⟩ (by have:=t.ie;omega) (xah _)
  .have u:(aa ((0:Nat):Int))=aa 0:=rfl;rw[u]at ah;rw[ah];simp only[xak,cG];by_cases ak:(j2 t.aC (deep+1) (k+1)).1=0;.simp[ak]
   simp[ak]
  .intro s aj;simp[CJ,j2]
  intro i a s j ag aj;have p:=xad j;have F:=Fm.gC p;have o:=b.len;have y:=R1 n a (deep+1) s oZ (b.dx p) oZ oZ oZ aj.1 aj.2;have g:=R0 a (deep+1) s;have c:=RZ a (deep+1) s;simp[CJ,ag,Fm.e9 j,ig deep,y,bu i,j2];by_cases ak:(il a (deep+1) s).1=0
  .left;simp only[ak];have w:=c.2 ak;have B:=c.1▸ak;refine⟨(il a (deep+1) s).2,by simp,by simp,by omega,by rw[w];exact g.2 (by rw[<-c.1];exact ak)⟩
  right;simp[ak]
def hX(f:Fm):Int:=(fz f 1 0).1
def Jw(n:Nat)(f:Fm)(c:2*f.aO+50<n)(a:f.Ok)(b:f.aO<100000000):yd n [f.d]=some (aa (hX f)):=by have:=R1 n f 1 0 oZ a b oZ oZ oZ oZ;have e:=(RZ f 1 0).1;simp[yd,O6,this,e,hX]
def afS(n:Nat)(f:Fm)(deep k w:Int)(q:2*f.aO+40<n)(c:f.Ok)(p:f.aO<100000000)(ab:0<=k)(ad:k<=4096):∃e,e=(if deep>64 then 17 else if iP f≠0 then iP f else if k+1>4096 then 4 else w)/\yM n [f.d,aa deep,aa k,aa w]=some [aD (decide (e=0)),aa (k+1),aa e]:=by
 refine⟨_,rfl,?_⟩;have o:=f.xe;have m:=afP n f oZ c oZ;have l:=afN n f.op;have g:dK (bM 6 f.nl (Fm.rows f.aC))=some (aa f.aC.length):=sZ
 have a:(f.e.op==0&&(f.e.num==0&&(decide (f.e.name=⟨#[]⟩)&&decide (f.e.aC.length=0))))=qB f.e:=rfl;have b:((f.e.aC.length:Int)==0)=decide (f.e.aC.length=0):=by by_cases h:f.e.aC.length=0<;>simp[h]
 unfold iP;simp only[yM,go_sem,Tm.tH,ig k,m,l,b,Bool.and_assoc,a];have i:(w==0)=decide (w=0):=by by_cases h:w=0<;>simp[h]
 generalize qB f.e=j;by_cases c1:64<deep;.simp[c1]
 by_cases c2:hh f.op<0;.simp[c1,c2]
 by_cases b3:f.op=1
 .have bT:hh 1=0:=rfl;by_cases eM:vy f.e=0;.by_cases iF:f.aC=[]<;>by_cases iG:4096<k+1<;>simp[c1,b3,eM,iF,iG,bT,i]
  simp[c1,b3,eM,bT]
 by_cases iF:(f.aC.length:Int)=hh f.op<;>by_cases iG:4096<k+1<;>cases j<;>simp[c1,c2,b3,iF,iG,i]
def R2:∀(n:Nat)(t:Fm)(deep k:Int),2*t.aO+45<n->t.Ok->t.aO<100000000->0<=deep->deep<=65->0<=k->k<=4096->oU n [t.d,aa deep,aa k,aa 0]=some [aD (decide ((fz t deep k).1=0)),aa (fz t deep k).2,aa (fz t deep k).1]
 |0,t,_,_,h,_,_,_,_,_,_=>absurd h (xaI _)
 |n+1,t,deep,k,z,b,q,ab,ad,ai,p=>by
  obtain⟨e,y,w⟩:=afS n t deep k 0 oZ b q ai p;rw[zI];simp only[oU,IB,go_sem,w];by_cases c:e=0
  case neg=>simp[c];grind
  have u:¬deep>64/\iP t=0/\¬k+1>4096:=by grind
  simp[c,u];have ah:=cd (f:=C6 (oU n) n) t.aC (λi (s:Int)=>[aa deep,bM 6 t.nl (Fm.rows t.aC),aa t.aC.length,aa (i:Int),aa s,aa 0]) (λr (s:Int)=>if(hN r (deep+1) s).1=0 then(Sum.inl [aa (hN r (deep+1) s).2,aa 0]:lZ⊕lZ)else .inr [aD false,aa (hN r (deep+1) s).2,aa (hN r (deep+1) s).1]) (λi s=>0<=s/\s<=4096) ?_ ?_ n 0 (k+1) ⟨by omega,by omega⟩ (by have:=t.ie;omega) (xah _)
  .have o:(aa ((0:Nat):Int))=aa 0:=rfl;rw[o]at ah;rw[ah];simp only[xak,cG];by_cases ak:(hN t.aC (deep+1) (k+1)).1=0;.simp[ak]
   simp[ak]
  .intro s aj;simp[C6,hN]
  intro i a s j ag aj;have m:=xad j;have A:=Fm.gC m;have l:=b.len;have x:=R2 n a (deep+1) s oZ (b.dx m) oZ oZ oZ aj.1 aj.2;have g:=R0 a (deep+1) s;simp[C6,ag,Fm.e9 j,ig deep,x,bu i,hN];by_cases ak:(fz a (deep+1) s).1=0
  .left;exact⟨(fz a (deep+1) s).2,by simp[ak],by simp[ak],by omega,g.2 ak⟩
  right;simp[ak]
def Jx(n:Nat)(f:Fm)(c:2*f.aO+50<n)(a:f.Ok)(b:f.aO<100000000):oV n [f.d]=some (aa (hX f)):=by have:=R2 n f 1 0 oZ a b oZ oZ oZ oZ;simp[oV,Pv,this,hX]
def k0(t:Fm):Prop:=∃deep k,(fz t deep k).1=0
def k0.one{t:Fm}(h:k0 t):iP t=0:=by
 obtain⟨d,k,h⟩:=h;rw[zI]at h;split at h;.cases h
 split at h;.rename_i ad;exact absurd h ad
 rename_i ad;simpa using ad
def afT{l:List Fm}{d k:Int}(h:(hN l d k).1=0):∀x∈l,k0 x:=by
 induction l generalizing k with
 |nil=>intro x b;cases b
 |cons a r ih=>
  intro x b;rw[hN]at h;by_cases ad:(fz a d k).1=0
  .simp only[ad,ne_eq,xbP,xaF]at h;rcases xan.1 b with rfl|b
   .exact⟨d,k,ad⟩
   exact ih h x b
  simp only[ne_eq,ad,xcq,xaE]at h
def k0.dx{t k:Fm}(h:k0 t)(a:k∈t.aC):k0 k:=by
 obtain⟨d,n,h⟩:=h;rw[zI]at h;split at h;.cases h
 split at h;.rename_i ad;exact absurd h ad
 split at h;.cases h
 exact afT h k a
def afU{op:Int}(h:¬hh op<0):op=1\/op=2\/op=3\/op=4\/op=5\/op=6\/op=7\/op=8\/op=9\/op=10\/op=11\/op=12\/op=13:=by
 unfold hh at h;split at h;.exact .inl ‹_›
 split at h;.rename_i ad;omega
 split at h;.rename_i ad;omega
 omega
def k0.len{t:Fm}(h:k0 t):(t.aC.length:Int)=hh t.op/\¬hh t.op<0:=by
 have ab:=h.one;unfold iP at ab;split at ab;.cases ab
 rename_i ad;refine⟨?_,ad⟩;split at ab;.rename_i ai;exact absurd ab ai.2
 split at ab;.cases ab
 rename_i a;simp only[not_or,Decidable.not_not,ne_eq]at a;exact a.1
def T.qC(t:Tm):[aa t.op,aa t.num,aA t.name,bM 4 t.nl (Tm.rows t.aC)]=t.cells:=(Tm.hU t).symm
def F.R3(t:Fm):[aa t.op,aa t.e.op,aa t.e.num,aA t.e.name,bM 4 t.e.nl (Tm.rows t.e.aC),bM 6 t.nl (Fm.rows t.aC)]=t.cells:=(Fm.hU t).symm
def RJ(s:List Fm)(p:Fm):Fm.rows (s++[p])=Fm.rows s++[p.cells]:=by simp[Fm.gM]
theorem T.sr(t:Tm):D.agg t.cells=t.d:=rfl
theorem F.sr(t:Fm):D.agg t.cells=t.d:=rfl
structure Y where
 b:Bool
 lo:Int
 ag:Int
deriving DecidableEq
def Y.cells(y:Y):lZ:=[aD y.b,aa y.lo,aa y.ag]
def Y.d(y:Y):D:= .agg [aD y.b,aa y.lo,aa y.ag]
def dz:Y:=⟨false,0,0⟩
def gi:Y:=⟨true,0,0⟩
def Y.hP(y:Y):Prop:=(y.b=true->y.lo=0/\y.ag=0)/\-1048576<=y.lo/\y.lo<=y.ag/\y.ag<=1048576
@[simp] theorem Y.jf (y:Y):cw 3 y.d=true:=rfl
attribute [go_sem] Y.jf
@[simp] theorem Y.bF (y:Y):ae y.d 0=aD y.b:=rfl
attribute [go_sem] Y.bF
@[simp] theorem Y.c1 (y:Y):ae y.d 1=aa y.lo:=rfl
attribute [go_sem] Y.c1
@[simp] theorem Y.c2 (y:Y):ae y.d 2=aa y.ag:=rfl
attribute [go_sem] Y.c2
@[simp] theorem Y.w8 (y:Y):D.agg [aD y.b,aa y.lo,aa y.ag]=y.d:=rfl
@[simp high] theorem Y.aN (y:Y):Go.Am.aN true 3 0 y.cells=some y.d:=rfl
@[simp] theorem Y.w9 (y:Y):y.cells[0]?=some (aD y.b):=rfl
@[simp] theorem Y.xa (y:Y):y.cells[1]?=some (aa y.lo):=rfl
@[simp] theorem Y.ZV (y:Y):y.cells[2]?=some (aa y.ag):=rfl
@[simp] theorem Y.flat (y:Y):y.d.flat=true:=rfl
@[simp] theorem amA (y:Y) (e:Int):(D.az [y.d,aa e]).flat=true:=rfl
def eS(lo ag:Int):Y×Int:=if lo< -1048576\/ag>1048576\/lo>ag\/ag-lo>4096 then(dz,2)else(⟨false,lo,ag⟩,0)
def vz{lo ag:Int}(h:(eS lo ag).2=0):(eS lo ag).1.hP:=by
 unfold eS at*;split at h;.cases h
 rename_i a;rw[xab a];exact⟨by simp,by simp;omega,by simp;omega,by simp;omega⟩
theorem R4(lo ag:Int):(D.az [(eS lo ag).1.d,aa (eS lo ag).2])=if lo< -1048576\/ag>1048576\/lo>ag\/ag-lo>4096 then D.az [.agg [aD false,aa 0,aa 0],aa 2]else D.az [.agg [aD false,aa lo,aa ag],aa 0]:=by unfold eS;split<;>rfl
def o7(n:Nat)(lo ag:Int):oI n [aa lo,aa ag]=some (.az [(eS lo ag).1.d,aa (eS lo ag).2]):=by rw[R4];have a:-1048576<=lo->ag<=1048576->lo<=ag->IntKind.i64.wrap (ag-lo)=ag-lo:=λ_ _ _=>wrap64 _ oZ oZ;simp[oI,Oe,Hp,-Hz,-Hj];grind
def zJ(n:Nat)(lo ag:Int):nG n [aa lo,aa ag]=some (.az [(eS lo ag).1.d,aa (eS lo ag).2]):=by
 have a:IntKind.i64.wrap (-1048576)=-1048576:=dZ
 rw[R4];have b:-1048576<=lo->ag<=1048576->lo<=ag->IntKind.i64.wrap (ag-lo)=ag-lo:=λ_ _ _=>wrap64 _ oZ oZ;simp[nG,O0,Hp,a,-Hz,-Hj];grind
def eF(l:List Y):D:= .aw 3 (l.map Y.cells)
def zK{l:List Y}{i:Nat}{y:Y}(h:l[i]?=some y):a8 3 (eF l) (aa (i:Int))=some y.cells:=by simp[eF,h]
def afV(n:Nat)(l:List Y)(k:l.length<n)(ah:l.length<1000000000):B6 n [eF l]=some (.az [(if l.all Y.b then gi else dz).d,aa (if l.all Y.b then 0 else 13)]):=by
 have ag:=cd (f:=xy n) l (λi (s:Unit)=>[eF l,aa l.length,aa (i:Int),aD false,aa 0,aa 0]) (λr _=>if r.all Y.b then(Sum.inl [aD false,aa 0,aa 0]:lZ⊕D)else .inr (.az [dz.d,aa 13])) (λ_ _=>True) (λ_ _=>by simp[xy]) ?_ n 0 () trivial oZ (xah _)
 .have g:(aa ((0:Nat):Int))=aa 0:=rfl;rw[g]at ag;have c:dK (eF l)=some (aa l.length):=by simp[eF]
  simp only[B6,Of,c,cG,ag,xak,bd,jV,bh,cc,an];by_cases h:l.all Y.b=true;.simp only[h,xaE,lp];rfl
  simp only[h,xaq,xaF,w1]
 intro i a _ j ag _;have:=zK j;cases e:a.b
 .right;simp[xy,ag,this,bu i,e];rfl
 left;exact⟨(),by simp[xy,ag,this,bu i,e],by simp[e],trivial⟩
def afW(n:Nat)(l:List Y)(j:l.length<n)(ah:l.length<1000000000):CE n [eF l]=some (aD (l.all Y.b)):=by
 have c:dK (eF l)=some (aa l.length):=by simp[eF]
 have ag:=cd (f:=x6 n) l (λi (s:Unit)=>[eF l,aa (i:Int)]) (λr _=>if r.all Y.b then(Sum.inl []:lZ⊕D)else .inr (aD false)) (λ_ _=>True) (λ_ _=>by simp[x6,c]) ?_ n 0 () trivial oZ (xah _)
 .have e:(aa ((0:Nat):Int))=aa 0:=rfl;rw[e]at ag;simp only[CE,O2,cG,ag,xak,jV,cc,an];by_cases h:l.all Y.b=true;.simp only[h,xaE,lp]
  simp only[h,xaq,xaF,w1]
 intro i a _ g ag _;have:=zK g;cases d:a.b
 .right;simp[x6,c,ag,this,bu i,d]
 left;exact⟨(),by simp[x6,c,ag,this,bu i,d],by simp[d],trivial⟩
def hY(a b:Int):Int:=if b<a then b else a
def dU(a b:Int):Int:=if b>a then b else a
def Ee(a b:Int):ht true [aa a,aa b]=some (aa (dU a b)):=Hy a b
def Jy(a b:Int):ht false [aa a,aa b]=some (aa (hY a b)):=NG a b
theorem afX(a b c d:Int):ht true [aa a,aa b,aa c,aa d]=some (aa (dU (dU (dU a b) c) d)):=rfl
theorem afY(a b c d:Int):ht false [aa a,aa b,aa c,aa d]=some (aa (hY (hY (hY a b) c) d)):=rfl
def qD{x y:Int}(a:-1048576<=x/\x<=1048576)(b:-1048576<=y/\y<=1048576):-1099511627776<=x*y/\x*y<=1099511627776:=by
 have ab:x.natAbs<=1048576:=oZ
 have ad:y.natAbs<=1048576:=oZ
 have ai:(x*y).natAbs<=1048576*1048576:=by rw[Int.natAbs_mul];exact Nat.mul_le_mul ab ad
 omega
def vA(a b:Y):Int:=hY (hY (hY (a.lo*b.lo) (a.lo*b.ag)) (a.ag*b.lo)) (a.ag*b.ag)
def vB(a b:Y):Int:=dU (dU (dU (a.lo*b.lo) (a.lo*b.ag)) (a.ag*b.lo)) (a.ag*b.ag)
def kD(op:Int)(a b:Y):Y×Int:=if op=15 then eS (a.lo-b.ag) (a.ag-b.lo)else if op=14 then eS (a.lo+b.lo) (a.ag+b.ag)else eS (vA a b) (vB a b)
def afZ(n:Nat)(op:Int)(a b:Y)(f:a.hP)(g:b.hP):tS n [aa op,a.d,b.d]=some (.az [(kD op a b).1.d,aa (kD op a b).2]):=by
 obtain⟨_,aE,a2,a3⟩:=f;obtain⟨_,j,k,l⟩:=g;have h:IntKind.i64.wrap (-b.ag)=-b.ag:=wrap64 _ oZ oZ;have i:IntKind.i64.wrap (-b.lo)=-b.lo:=wrap64 _ oZ oZ;by_cases ab:op=15
 .subst ab;have c:a.lo+-b.ag=a.lo-b.ag:=oZ
  have e:a.ag+-b.lo=a.ag-b.lo:=oZ
  simp(disch:=omega) [tS,B7,kD,h,i,ds,o7,c,e]
 by_cases ad:op=14;.subst ad;simp(disch:=omega) [tS,B7,kD,ds,o7]
 have m1:=qD (x:=a.lo) (y:=b.lo) oZ oZ;have m2:=qD (x:=a.lo) (y:=b.ag) oZ oZ;have m3:=qD (x:=a.ag) (y:=b.lo) oZ oZ;have m4:=qD (x:=a.ag) (y:=b.ag) oZ oZ;simp(disch:=omega) [tS,B7,kD,ab,ad,p3,o7,afX,afY,vA,vB]
def af0(n:Nat)(a b:Y)(s:6<=n)(e:a.hP)(f:b.hP):CG n [a.d,b.d]=some (.az [aa (vA a b),aa (vB a b)]):=by
 obtain⟨_,aE,a2,a3⟩:=e;obtain⟨_,l,m,o⟩:=f;have m1:=qD (x:=a.lo) (y:=b.lo) oZ oZ;have m2:=qD (x:=a.lo) (y:=b.ag) oZ oZ;have m3:=qD (x:=a.ag) (y:=b.lo) oZ oZ;have m4:=qD (x:=a.ag) (y:=b.ag) oZ oZ;obtain⟨k,rfl⟩:∃k,n=k+4:=⟨n-4,by omega⟩;have h:cS 4 (aa 0)=some 0:=rfl;have t:cS 4 (aa 1)=some 1:=rfl;have u:cS 4 (aa 2)=some 2:=rfl;have A:cS 4 (aa 3)=some 3:=rfl;unfold vA vB;simp(disch:=omega) [CG,O3,p3,h];generalize a.lo*b.lo=w at*;generalize a.lo*b.ag=x at*;generalize a.ag*b.lo=y at*;generalize a.ag*b.ag=z at*;have g:hY w x=hY w x:=rfl;have step:∀(p q:Int)(i j:Int)(r:Int),i+1=j->(cS 4 (aa i)=some i.toNat)->i<4->0<=i->([[aa w],[aa x],[aa y],[aa z]]:mW)[i.toNat]?=some [aa r]->CF (k+4) [aa p,aa q,aa i,.aw 1 [[aa w],[aa x],[aa y],[aa z]]]=some (.inl [aa (hY p r),aa (dU q r),aa j,.aw 1 [[aa w],[aa x],[aa y],[aa z]]]):=by intro p q i j r ak ab ad ai c;subst ak;simp(disch:=omega) [CF,ab,ad,c,Ee,Jy,ds]
 rw[hJ,step w w 1 2 x rfl rfl oZ oZ rfl];simp only[cG];rw[hJ,step _ _ 2 3 y rfl rfl oZ oZ rfl];simp only[cG];rw[hJ,step _ _ 3 4 z rfl rfl oZ oZ rfl];simp only[cG];rw[hJ];simp[CF]
def Valid(t:Tm):Prop:=∃deep k:Int,(ck t deep k).1=0
def Valid.Ef{t:Tm}(h:Valid t):fy t=0:=by
 obtain⟨deep,k,h⟩:=h;rw[o3]at h;split at h;.cases h
 split at h;.assumption
 rename_i a;simpa using a
def R5:∀(l:List Tm)(deep k:Int),(dy l deep k).1=0->∀x∈l,Valid x
 |[],_,_,_,x,b=>by cases b
 |a::r,deep,k,h,x,b=>by
  rw[dy]at h;split at h;.rename_i c;exact absurd h c
  rename_i c;rcases xan.1 b with rfl|b
  .exact⟨deep,k,by simpa using c⟩
  exact R5 r deep _ h x b
def Valid.dx{t x:Tm}(h:Valid t)(c:x∈t.aC):Valid x:=by
 have b:=h.Ef;obtain⟨deep,k,h⟩:=h;rw[o3]at h;split at h;.cases h
 split at h;.rename_i a;exact absurd b a
 split at h;.cases h
 exact R5 _ _ _ h x c
def Valid.op{t:Tm}(h:Valid t):1<=t.op/\t.op<=18:=by
 have b:=h.Ef;unfold fy at b;split at b;.cases b
 rename_i a;unfold eh at a;refine xbi λc=>?_;simp only[show¬(t.op=1\/t.op=2\/t.op=3\/t.op=4) by omega,show¬t.op=5 by omega,show¬(t.op=6\/t.op=7) by omega,show¬t.op=18 by omega,show(t.op<1\/t.op>18) by omega,xaE,xaF]at a;exact a dZ
def R6{t:Tm}(a:fy t=0):¬(eh t.op).1<0/\¬((t.num<(if t.op=1 then-255 else 0))\/t.num>(if t.op=1 then 255 else if t.op=2 then 1 else 0))/\ ¬(if vq t.op then t.name=⟨#[]⟩\/t.name.size>24 else t.name≠⟨#[]⟩)/\¬((t.aC.length:Int)<(eh t.op).1\/(t.aC.length:Int)>(eh t.op).2):=by
 unfold fy at a;by_cases ab:(eh t.op).1<0;.rw[xac ab]at a;cases a
 rw[xab ab]at a;by_cases ad:(t.num<(if t.op=1 then-255 else 0))\/t.num>(if t.op=1 then 255 else if t.op=2 then 1 else 0);.rw[xac ad]at a;cases a
 rw[xab ad]at a;by_cases ai:(if vq t.op then t.name=⟨#[]⟩\/t.name.size>24 else t.name≠⟨#[]⟩);.rw[xac ai]at a;cases a
 rw[xab ai]at a;by_cases b:((t.aC.length:Int)<(eh t.op).1\/(t.aC.length:Int)>(eh t.op).2);.rw[xac b]at a;cases a
 exact⟨ab,ad,ai,b⟩
def Valid.len{t:Tm}(h:Valid t):(eh t.op).1<=t.aC.length/\(t.aC.length:Int)<=(eh t.op).2:=by have:=(R6 h.Ef).2.2.2;omega
def Valid.num{t:Tm}(h:Valid t):-255<=t.num/\t.num<=255/\(t.op≠1->0<=t.num/\t.num<=1)/\(t.op≠1->t.op≠2->t.num=0):=by
 have ad:=(R6 h.Ef).2.1;by_cases c1:t.op=1;.simp only[c1,xaE]at ad;exact⟨by omega,by omega,by omega,by omega⟩
 by_cases c2:t.op=2;.simp only[c2,xaE]at ad;exact⟨by omega,by omega,by omega,by omega⟩
 simp only[c1,c2,xaF]at ad;exact⟨by omega,by omega,by omega,by omega⟩
def eG(t:Tm)(l:List Y):Y×Int:=if 5<=t.op/\t.op<=9 then if l.all Y.b then(gi,0)else(dz,13)
 else match l with
  |[a,b,c]=>if(!a.b||(b.b !=c.b))then(dz,13)else if b.b then(gi,0)else eS (hY b.lo c.lo) (dU b.ag c.ag)
  |[a,b]=>if t.op=10\/t.op=11 then if a.b !=b.b then(dz,13)else(gi,0)
   else if(a.b||b.b)then(dz,13)
   else if t.op=12\/t.op=13 then(gi,0)
   else if t.op=17 then(match t.aC[1]? with
    |some k=>if k.op≠1\/k.num<1 then(dz,2)else eS 0 (k.num-1)
    |none=>(dz,0))
   else kD t.op a b
  |_=>(dz,0)
theorem o8{d:Type}{l:List d}(h:l.length=3):∃a b c,l=[a,b,c]:=by match l,h with|[a,b,c],_=>exact⟨a,b,c,rfl⟩
theorem lD{c:Type}{l:List c}(h:l.length=2):∃a b,l=[a,b]:=by match l,h with|[a,b],_=>exact⟨a,b,rfl⟩
theorem ss{op:Int}(h:op=18):eh op=(3,3):=by subst h;rfl
def qE{op:Int}(h:8<=op/\op<=17):eh op=(2,2):=by unfold eh;rw[xab oZ,xab oZ,xab oZ,xab oZ,xab oZ]
def R7{l:List Tm}{b:Bool}{t:Tm}(h:l[1]?=some t):a8 4 (bM 4 b (Tm.rows l)) (aa 1)=some t.cells:=Tm.e9 (i:=1) h
def Eg{l:List Y}{y:Y}(h:l[0]?=some y):a8 3 (eF l) (aa 0)=some y.cells:=zK (i:=0) h
def Eh{l:List Y}{y:Y}(h:l[1]?=some y):a8 3 (eF l) (aa 1)=some y.cells:=zK (i:=1) h
def R8{l:List Y}{y:Y}(h:l[2]?=some y):a8 3 (eF l) (aa 2)=some y.cells:=zK (i:=2) h
set_option maxHeartbeats 1000000 in
def af1(n:Nat)(t:Tm)(l:List Y)(o:Valid t)(E:l.length=t.aC.length)(m:5<=t.op)(u:∀y∈l,y.hP)(Q:100<n):uq n [t.d,eF l]=some (.az [(eG t l).1.d,aa (eG t l).2]):=by
 have I:=o.op;have f:=o.len;have bF:=Tm.kW t;have b3:=Tm.me t;have h:=Tm.jf t;have i:D.agg [aD false,aa 0,aa 0]=dz.d:=rfl;have p:D.agg [aD true,aa 0,aa 0]=gi.d:=rfl;have C:=qE (op:=t.op);have k:=ss (op:=t.op);have w:l.length<=64:=by
  have:(eh t.op).2<=64:=by unfold eh;repeat(first|split|decide)
  omega
 have H:=afW n l oZ oZ;by_cases ab:t.op<=9
 .have e:eG t l=if l.all Y.b then(gi,0)else(dz,13):=by unfold eG;rw[xac ⟨m,ab⟩]
  rw[e];have j:t.op=5\/t.op=6\/t.op=7\/t.op=8\/t.op=9:=oZ
  generalize t.op=op at*;generalize l.all Y.b=q at*;rcases j with rfl|rfl|rfl|rfl|rfl<;>simp[uq,CH,h,bF,H,i,p]<;>cases q<;>simp
 by_cases ad:t.op=18;.rw[k ad]at f;obtain⟨a,b,c,rfl⟩:=o8 (l:=l) (by simp at f;omega);have g0:=Eg (l:=[a,b,c]) rfl;have g1:=Eh (l:=[a,b,c]) rfl;have g2:=R8 (l:=[a,b,c]) rfl;unfold eG;generalize eF [a,b,c]=L at*;rw[xab oZ];simp[uq,CH,h,bF,ad,g0,g1,g2,i,p,zJ,Ee,Jy];cases a.b<;>cases b.b<;>cases c.b<;>(try simp)
 have ai:10<=t.op/\t.op<=17:=oZ
 rw[C oZ]at f;obtain⟨a,b,rfl⟩:=lD (l:=l) (by simp at f;omega);have g0:=Eg (l:=[a,b]) rfl;have g1:=Eh (l:=[a,b]) rfl;have r:=u a sZ;have s:=u b sZ;have F:=af0 n a b oZ r s;obtain⟨_,aE,a2,a3⟩:=r;obtain⟨_,M,N,O⟩:=s;unfold eG;generalize eF [a,b]=L at*;rw[xab oZ];obtain⟨s9,bT,g⟩:=lD (l:=t.aC) (by simp at f;omega);have z:=R7 (l:=t.aC) (b:=t.nl) (t:=bT) (by rw[g];rfl);have P:=(o.dx (x:=bT) (by rw[g];simp)).num;have s1:IntKind.i64.wrap (bT.num-1)=bT.num-1:=wrap64 _ oZ oZ;have f5:aP false .sub (aa bT.num) (aa 1)=some (aa (bT.num-1)):=jX oZ oZ;have f1:aP false .add (aa a.lo) (aa b.lo)=some (aa (a.lo+b.lo)):=ds oZ oZ;have f2:aP false .add (aa a.ag) (aa b.ag)=some (aa (a.ag+b.ag)):=ds oZ oZ;have f3:aP false .sub (aa a.lo) (aa b.ag)=some (aa (a.lo-b.ag)):=jX oZ oZ;have f4:aP false .sub (aa a.ag) (aa b.lo)=some (aa (a.ag-b.lo)):=jX oZ oZ;have j:t.op=10\/t.op=11\/t.op=12\/t.op=13\/t.op=14\/t.op=15\/t.op=16\/t.op=17:=oZ
 have J:(t.aC[1]?)=some bT:=by rw[g];rfl
 generalize t.op=op at*;have G:∀x y:Int,eS x y=eS x y:=λ_ _=>rfl;rcases j with rfl|rfl|rfl|rfl|rfl|rfl|rfl|rfl<;>
  cases A:a.b<;>cases B:b.b<;>simp[uq,CH,h,bF,b3,g0,g1,z,J,i,p,zJ,kD,f1,f2,f3,f4,f5,F,A,B]
 all_goals (by_cases K:bT.op=1<;>by_cases z2:bT.num<1<;>simp[K,z2])
set_option maxHeartbeats 2000000 in
def af2(n:Nat)(z M:D)(t:Tm)(nx:Bool)(l:List Y)(r:Valid t)(I:l.length=t.aC.length)(p:5<=t.op)(m:∀y∈l,y.hP)(V:100<n):kX n [z,M,t.d,aD nx,eF l]=some (.az [(eG t l).1.d,aa (eG t l).2]):=by
 have O:=r.op;have f:=r.len;have bF:=Tm.kW t;have b3:=Tm.me t;have i:=Tm.jf t;have j:D.agg [aD false,aa 0,aa 0]=dz.d:=rfl;have s:D.agg [aD true,aa 0,aa 0]=gi.d:=rfl;have H:=qE (op:=t.op);have o:=ss (op:=t.op);have w:l.length<=64:=by
  have:(eh t.op).2<=64:=by unfold eh;repeat(first|split|decide)
  omega
 have N:=afV n l oZ oZ;by_cases ab:t.op<=9
 .have e:eG t l=if l.all Y.b then(gi,0)else(dz,13):=by unfold eG;rw[xac ⟨p,ab⟩]
  rw[e];have k:t.op=5\/t.op=6\/t.op=7\/t.op=8\/t.op=9:=oZ
  generalize t.op=op at*;generalize l.all Y.b=q at*;rcases k with rfl|rfl|rfl|rfl|rfl<;>simp[kX,nA,i,bF,N,j,s]<;>cases q<;>simp
 by_cases ad:t.op=18;.rw[o ad]at f;obtain⟨a,b,c,rfl⟩:=o8 (l:=l) (by simp at f;omega);have g0:=Eg (l:=[a,b,c]) rfl;have g1:=Eh (l:=[a,b,c]) rfl;have g2:=R8 (l:=[a,b,c]) rfl;have h:=(m b sZ).1;unfold eG;generalize eF [a,b,c]=L at*;rw[xab oZ];simp[kX,nA,i,bF,ad,g0,g1,g2,j,s,o7,Ee,Jy];obtain⟨A,C,B⟩:=b;cases a.b<;>cases A<;>cases c.b<;>simp at h⊢;obtain⟨rfl,rfl⟩:=h;rfl
 have ai:10<=t.op/\t.op<=17:=oZ
 rw[H oZ]at f;obtain⟨a,b,rfl⟩:=lD (l:=l) (by simp at f;omega);have g0:=Eg (l:=[a,b]) rfl;have g1:=Eh (l:=[a,b]) rfl;have u:=m a sZ;have h:=m b sZ;have J:=λop=>afZ n op a b u h;obtain⟨_,aE,a2,a3⟩:=u;obtain⟨_,R,S,T⟩:=h;unfold eG;generalize eF [a,b]=L at*;rw[xab oZ];obtain⟨s9,bT,g⟩:=lD (l:=t.aC) (by simp at f;omega);have E:=R7 (l:=t.aC) (b:=t.nl) (t:=bT) (by rw[g];rfl);have U:=(r.dx (x:=bT) (by rw[g];simp)).num;have s1:IntKind.i64.wrap (bT.num-1)=bT.num-1:=wrap64 _ oZ oZ;have f5:aP false .sub (aa bT.num) (aa 1)=some (aa (bT.num-1)):=jX oZ oZ;have f1:aP false .add (aa a.lo) (aa b.lo)=some (aa (a.lo+b.lo)):=ds oZ oZ;have f2:aP false .add (aa a.ag) (aa b.ag)=some (aa (a.ag+b.ag)):=ds oZ oZ;have f3:aP false .sub (aa a.lo) (aa b.ag)=some (aa (a.lo-b.ag)):=jX oZ oZ;have f4:aP false .sub (aa a.ag) (aa b.lo)=some (aa (a.ag-b.lo)):=jX oZ oZ;have k:t.op=10\/t.op=11\/t.op=12\/t.op=13\/t.op=14\/t.op=15\/t.op=16\/t.op=17:=oZ
 have P:(t.aC[1]?)=some bT:=by rw[g];rfl
 generalize t.op=op at*;have K:∀x y:Int,eS x y=eS x y:=λ_ _=>rfl;rcases k with rfl|rfl|rfl|rfl|rfl|rfl|rfl|rfl<;>
  cases F:a.b<;>cases G:b.b<;>simp[kX,nA,i,bF,b3,g0,g1,E,P,j,s,o7,J,f5,F,G]
 all_goals (by_cases Q:bT.op=1<;>by_cases z2:bT.num<1<;>simp[Q,z2])
def cX(vs:List V)(x:ByteArray):Option Nat:=vs.findIdx? (λv=>decide (v.name=x))
def qF{vs:List V}{x:ByteArray}{i:Nat}(h:cX vs x=some i):∃v,vs[i]?=some v/\v.name=x/\i<vs.length:=by obtain⟨ab,ad,_⟩:=xbu.1 h;exact⟨_,xaa ab,by simpa using ad,ab⟩
theorem V.o9(v:V):v.cells[0]?=some (aA v.name)/\v.cells[1]?=some (aD v.bool)/\v.cells[2]?=some (aa v.lo)/\v.cells[3]?=some (aa v.ag):=⟨rfl,rfl,rfl,rfl⟩
def eH{l:List V}{i:Nat}{v:V}(h:l[i]?=some v):a8 4 (aM l) (aa (i:Int))=some v.cells:=by simp[aM,h]
def jn(l:List V):dK (aM l)=some (aa l.length):=by simp[aM]
attribute [go_sem] jn
theorem V.af3(v:V):aN true 4 0 v.cells=some v.d/\cw 4 v.d=true/\ae v.d 0=aA v.name:=⟨rfl,rfl,rfl⟩
def nS:List V->Nat->List (Value×D)->List (Value×D)
 |[],_,M=>M|v::r,i,M=>nS r (i+1) (if(eu M v.name).isSome then M else(lf .string M (aA v.name) (aa i)).getD [])
def Jz:∀(r:List V)(i:Nat)(M:List (Value×D)),ij M->ij (nS r i M)/\∀x,eu (nS r i M) x=match eu M x with|some d=>some d|none=>(cX r x).map λj=>aa ((i+j:Nat):Int)
 |[],i,M,h=>⟨h,λx=>by simp only[nS,cX,List.findIdx?_nil];cases eu M x<;>rfl⟩
 |v::r,i,M,h=>by
  rw[nS];have e:∀x,cX (v::r) x=if v.name=x then some 0 else(cX r x).map (·+1):=by intro x;simp[cX,xbY]
  by_cases aj:(eu M v.name).isSome
  .rw[xac aj];obtain⟨ab,ad⟩:=Jz r (i+1) M h;refine⟨ab,λx=>?_⟩;rw[ad x,e x];cases b:eu M x with
   |some d=>rfl
   |none=>
    have a:¬v.name=x:=by rintro rfl;simp[b]at aj
    simp only[a,xaF,Option.map_map]
    congr 1
    funext j
    simp only[Function.comp]
    congr 2
    omega
  rw[xab aj];obtain⟨c,g,k,l,_⟩:=BV h v.name (aa i);rw[g,xbm];obtain⟨ab,ad⟩:=Jz r (i+1) c k;refine⟨ab,λx=>?_⟩;rw[ad x,l x,e x];by_cases b:x=v.name
  .subst b;have f:eu M v.name=none:=by simpa using aj
   simp[f]
  have a:¬v.name=x:=λh=>b h.symm;simp only[b,a,xaF];cases m:eu M x with
  |some d=>rfl
  |none=>
   simp only[Option.map_map]
   congr 1
   funext j
   simp only[Function.comp]
   congr 2
   omega
def Ei(M:List (Value×D))(vs:List V):Prop:=ij M/\∀x,eu M x=(cX vs x).map λ(j:Nat)=>aa (j:Int)
def R9(n:Nat)(vs:List V)(q:vs.length<n)(ah:vs.length<1000000000000):∃M,xx n [aM vs]=some (.mp M)/\Ei M vs:=by
 have ak:ij []:=by intro e o;cases o
 obtain⟨ab,ad⟩:=Jz vs 0 [] ak;refine⟨nS vs 0 [],?_,ab,λx=>by rw[ad x];simp only[eu,xaw]⟩;have ag:=cd (f:=xw n) vs (λi (M:List (Value×D))=>[aM vs,aa vs.length,aa (i:Int),.mp M]) (λr M=>(Sum.inl [.mp (nS r (vs.length-r.length) M)]:lZ⊕D)) (λi M=>ij M) (λM _=>by simp[xw,nS]) ?_ n 0 [] ak oZ (xah _)
 .have m:(aa ((0:Nat):Int))=aa 0:=rfl;rw[m]at ag;simp[xx,Od,jn,ag]
 intro i a M j ag c;left;have e:vs.length-(a::vs.drop (i+1)).length=i:=uZ
 have h:vs.length-(vs.drop (i+1)).length=i+1:=uZ
 have ai:=tJ c (z:= .int .i64 0) (x:=a.name);have g:=a.af3;cases b:eu M a.name with|some d=>rw[b]at ai;refine⟨M,by simp[xw,ag,eH j,g,ai,bu i],?_,c⟩;rw[e,nS,b,h];rfl|none=>rw[b]at ai;obtain⟨l,k,p,s,_⟩:=BV c a.name (aa i);refine⟨l,by simp[xw,ag,eH j,g,ai,k,bu i],?_,p⟩;rw[e,nS,b,h];simp only[xcw,xaq,xaF,k,xbm]
def JA(n:Nat)(vs:List V)(x:ByteArray)(l:vs.length<n)(ah:vs.length<1000000000000):uo n [aM vs,aA x]=some (aa (match cX vs x with|some i=>(i:Int)|none=>-1)):=by
 have ag:=cd (f:=x5 n) vs (λi (_:Unit)=>[aM vs,aA x,aa (i:Int)]) (λr _=>match cX r x with|some j=>(Sum.inr (aa ((vs.length-r.length+j:Nat):Int)):lZ⊕D)|none=> .inl []) (λ_ _=>True) (λ_ _=>by simp[x5,jn,cX]) ?_ n 0 () trivial oZ (xah _);.have k:(aa ((0:Nat):Int))=aa 0:=rfl;rw[k]at ag;simp only[uo,O1,ag,xak,cG,ru,an];cases cX vs x<;>simp
 intro i a _ g ag _;have e:vs.length-(a::vs.drop (i+1)).length=i:=uZ
 have h:vs.length-(vs.drop (i+1)).length=i+1:=uZ
 have d:cX (a::vs.drop (i+1)) x=if a.name=x then some 0 else(cX (vs.drop (i+1)) x).map (·+1):=by simp[cX,xbY]
 have c:=a.o9;by_cases b:a.name=x;.right;rw[d,xac b,e];simp[x5,jn,ag,eH g,c,b]
 left;refine⟨(),by simp[x5,jn,ag,eH g,c,b,bu i],?_,trivial⟩;rw[d,xab b,e,h];cases cX (vs.drop (i+1)) x with|none=>rfl|some j=>simp;omega
def hB(vs:List V)(nx:Bool)(t:Tm):Y×Int:=if t.op=1 then eS t.num t.num else if t.op=2 then(gi,0)
 else match cX vs t.name with
  |none=>(dz,12)
  |some i=>if t.op=4/\nx=false then(dz,24)else match vs[i]? with
   |some v=>if v.bool then(gi,0)else eS v.lo v.ag
   |none=>(dz,12)
mutual
def cJ(vs:List V)(nx:Bool):Tm->Y×Int
 | .mk o n s b ks=>if o<=4 then hB vs nx (.mk o n s b ks)else if(cT vs nx ks).2≠0 then(dz,(cT vs nx ks).2)else eG (.mk o n s b ks) (cT vs nx ks).1
def cT(vs:List V)(nx:Bool):List Tm->List Y×Int
 |[]=>([],0)|t::r=>if(cJ vs nx t).2≠0 then([],(cJ vs nx t).2)else if(cT vs nx r).2≠0 then([],(cT vs nx r).2)else((cJ vs nx t).1::(cT vs nx r).1,0)
end
theorem j3(vs:List V)(nx:Bool)(t:Tm):cJ vs nx t=if t.op<=4 then hB vs nx t else if(cT vs nx t.aC).2≠0 then(dz,(cT vs nx t.aC).2)else eG t (cT vs nx t.aC).1:=by cases t;rw[cJ];rfl
def JB:gi.hP:=⟨by simp[gi],by simp[gi],by simp[gi],by simp[gi]⟩
def af4{vs:List V}{nx:Bool}{t:Tm}(h:(hB vs nx t).2=0):(hB vs nx t).1.hP:=by
 unfold hB at*;by_cases ab:t.op=1;.rw[xac ab]at*;exact vz h
 rw[xab ab]at*;by_cases ad:t.op=2;.rw[xac ad];exact JB
 rw[xab ad]at*;cases ag:cX vs t.name with
 |none=>simp[ag]at h
 |some i=>
  simp only[ag]at h⊢;by_cases ai:t.op=4/\nx=false;.simp[ai]at h
  rw[xab ai]at*;cases b:vs[i]? with
  |none=>simp[b]at h
  |some v=>
   simp only[b]at h⊢;by_cases a:v.bool=true;.rw[xac a];exact JB
   rw[xab a]at*;exact vz h
def af5{op:Int}{a b:Y}(h:(kD op a b).2=0):(kD op a b).1.hP:=by
 unfold kD at*;split at h;.rename_i ab;rw[xac ab];exact vz h
 rename_i ab;split at h;.rename_i ad;rw[xab ab,xac ad];exact vz h
 rename_i ad;rw[xab ab,xab ad];exact vz h
def nT{c:Prop}[Decidable c]{x y:Y×Int}(a:x.2=0->x.1.hP\/x.1=dz)(b:y.2=0->y.1.hP\/y.1=dz):(if c then x else y).2=0->(if c then x else y).1.hP\/(if c then x else y).1=dz:=by
 split;.exact a
 exact b
def af6{t:Tm}{l:List Y}:(eG t l).2=0->(eG t l).1.hP\/(eG t l).1=dz:=by
 have z:∀e:Int,((dz,e):Y×Int).2=0->((dz,e):Y×Int).1.hP\/((dz,e):Y×Int).1=dz:=λ_ _=> .inr rfl;have y:((gi,0):Y×Int).2=0->((gi,0):Y×Int).1.hP\/((gi,0):Y×Int).1=dz:=λ_=> .inl JB;have sp:∀a b:Int,(eS a b).2=0->(eS a b).1.hP\/(eS a b).1=dz:=λa b h=> .inl (vz h);unfold eG;refine nT (nT y (z _)) ?_;split
 .exact nT (z _) (nT y (sp _ _))
 .refine nT (nT (z _) y) (nT (z _) (nT y (nT ?_ (λh=> .inl (af5 h)))));split;.exact nT (z _) (sp _ _)
  exact z _
 exact z _
def af7:dz.hP:=⟨by simp[dz],by simp[dz],by simp[dz],by simp[dz]⟩
def af8(vs:List V)(nx:Bool)(t:Tm)(h:(cJ vs nx t).2=0):(cJ vs nx t).1.hP:=by
 rw[j3]at*;split at h;.rename_i b;rw[xac b];exact af4 h
 rename_i b;rw[xab b];split at h;.rename_i a;exact absurd h a
 rename_i a;rw[xab a];rcases af6 h with ab|ab
 .exact ab
 rw[ab];exact af7
def vC(vs:List V)(nx:Bool):∀(l:List Tm),(cT vs nx l).2=0->(cT vs nx l).1.length=l.length/\∀y∈(cT vs nx l).1,y.hP
 |[],_=>⟨rfl,by intro y a;cases a⟩
 |t::r,h=>by
  rw[cT]at*;by_cases ab:(cJ vs nx t).2=0
  case neg=>rw[xac ab]at h;exact absurd h ab
  rw[xab (by simpa using ab)]at*;by_cases ad:(cT vs nx r).2=0
  case neg=>rw[xac ad]at h;exact absurd h ad
  rw[xab (by simpa using ad)];obtain⟨g1,g2⟩:=vC vs nx r ad;refine⟨by simp[g1],λy a=>?_⟩;rcases xan.1 a with rfl|a
  .exact af8 vs nx t ab
  exact g2 y a
def af9(n:Nat)(vs:List V)(M:List (Value×D))(t:Tm)(nx:Bool)(L:D)(g:Ei M vs)(j:t.op<=4)(ab:1<=t.op):kX n [aM vs,.mp M,t.d,aD nx,L]=some (.az [(hB vs nx t).1.d,aa (hB vs nx t).2]):=by
 have bF:=Tm.kW t;have c1:=Tm.ns t;have c2:=Tm.nt t;have b:=Tm.jf t;have c:D.agg [aD false,aa 0,aa 0]=dz.d:=rfl;have e:D.agg [aD true,aa 0,aa 0]=gi.d:=rfl;have ah:=tJ g.1 (z:= .int .i64 0) (x:=t.name);rw[g.2]at ah;unfold hB;have h:t.op=1\/t.op=2\/t.op=3\/t.op=4:=oZ
 have a:iX (.mp M)=some M:=rfl;generalize t.op=op at*;rcases h with rfl|rfl|rfl|rfl
 .simp[kX,nA,b,bF,c1,c,e,o7]
 .simp[kX,nA,b,bF,c1,c,e,o7]
 .cases ag:cX vs t.name with|none=>rw[ag]at ah;simp[kX,nA,b,bF,c1,c2,c,e,a,ah]|some i=>rw[ag]at ah;obtain⟨v,f,v2,v3⟩:=qF ag;simp[kX,nA,b,bF,c1,c2,c,e,a,ah,f,eH f,v.o9,o7];cases v.bool<;>simp
 cases ag:cX vs t.name with|none=>rw[ag]at ah;simp[kX,nA,b,bF,c1,c2,c,e,a,ah]|some i=>rw[ag]at ah;obtain⟨v,f,v2,v3⟩:=qF ag;simp[kX,nA,b,bF,c1,c2,c,e,a,ah,f,eH f,v.o9,o7];cases v.bool<;>cases nx<;>simp
def Valid.leaf{t:Tm}(h:Valid t)(a:t.op<=4):t.aC=[]:=by
 have ab:=h.op;have ad:=h.len;have:eh t.op=(0,0):=by unfold eh;rw[xac oZ]
 rw[this]at ad;exact xaO (by have:=ad.2;simp only at this;omega)
def Valid.vD{t:Tm}(h:Valid t):t.aC.length<=64:=by
 have ad:=h.len;have:(eh t.op).2<=64:=by unfold eh;repeat(first|split|decide)
 omega
def Sa{a b:Nat}(h:a+b<=1000):bZ (a+b) 24=true:=eB
def Sb(vs:List V)(M:List (Value×D))(nx:Bool)(u:Ei M vs):∀(n:Nat)(t:Tm),t.aO+200<n->t.Ok->Valid t->nB n [aM vs,.mp M,t.d,aD nx]=some (.az [(cJ vs nx t).1.d,aa (cJ vs nx t).2])
 |0,t,h,_,_=>absurd h (xaI _)
 |n+1,t,C,m,e=>by
  rw[j3];have z:D.agg [aD false,aa 0,aa 0]=dz.d:=rfl;have B:=e.vD;have ah:=cd (f:=tT (nB n) n) t.aC (λi (s:List Y)=>[aM vs,.mp M,aD nx,bM 4 t.nl (Tm.rows t.aC),aa t.aC.length,aa (i:Int),aa t.op,aa t.num,aA t.name,bM 4 t.nl (Tm.rows t.aC),aD false,aa 0,aa 0,eF s]) (λr s=>if(cT vs nx r).2=0 then(Sum.inl [aM vs,.mp M,aD nx,aa t.op,aa t.num,aA t.name,bM 4 t.nl (Tm.rows t.aC),aD false,aa 0,aa 0,eF (s++(cT vs nx r).1)]:lZ⊕D)else .inr (.az [dz.d,aa (cT vs nx r).2])) (λi s=>s.length=i) ?_ ?_ n 0 [] rfl oZ (xah _)
  .have x:(aa ((0:Nat):Int))=aa 0:=rfl;have y:eF []= .aw 3 []:=rfl;rw[x,y]at ah;simp only[nB,HN,Tm.jf,Tm.kW,Tm.ns,Tm.nt,Tm.me,ln,NF,Tm.tH,cG,ah,xak,xaM,aJ,bd,bh,bP,bQ,an];by_cases ak:(cT vs nx t.aC).2=0
   .obtain⟨g1,g2⟩:=vC vs nx t.aC ak;have q:∀l:List Y,D.aw 3 (aF (eF l))=eF l:=λ_=>rfl;have j:=λb=>af9 n vs M t nx (eF (cT vs nx t.aC).1) u b e.op.1;have o:=λA=>af2 n (aM vs) (.mp M) t nx _ e g1 A g2 oZ;by_cases b:t.op<=4
    .simp[ak,q,j b,b]
    simp[ak,q,o oZ,b]
   have b:¬t.op<=4:=λb=>ak (by rw[e.leaf b];rfl);simp[ak,b]
  .intro s aj;simp[tT,cT,eF]
  intro i a s g ag aj;have k:=xad g;have E:=Tm.gC k;have w:=Sb vs M nx u n a oZ (m.dx k) (e.dx k);have p:bZ (s.length+1) 24=true:=Sa oZ;have c:tT (nB n) n [aM vs,.mp M,aD nx,bM 4 t.nl (Tm.rows t.aC),aa t.aC.length,aa (i:Int),aa t.op,aa t.num,aA t.name,bM 4 t.nl (Tm.rows t.aC),aD false,aa 0,aa 0,eF s]=
    if(cJ vs nx a).2=0 then some (.inl [aM vs,.mp M,aD nx,bM 4 t.nl (Tm.rows t.aC),aa t.aC.length,aa ((i+1:Nat):Int),aa t.op,aa t.num,aA t.name,bM 4 t.nl (Tm.rows t.aC),aD false,aa 0,aa 0,eF (s++[(cJ vs nx a).1])])
    else some (.inr (.inr (.az [dz.d,aa (cJ vs nx a).2]))):=by
   by_cases ak:(cJ vs nx a).2=0;.simp[tT,ag,Tm.e9 g,w,ak,bu i,eF,p];simp[Y.cells]
   .simp[tT,ag,Tm.e9 g,w,ak,z]
  rw[c];simp only[cT];by_cases ak:(cJ vs nx a).2=0
  .left;refine⟨s++[(cJ vs nx a).1],by simp[ak],?_,by simp[aj]⟩;by_cases ab:(cT vs nx (t.aC.drop (i+1))).2=0;.simp[ak,ab]
   simp[ak,ab]
  right;simp[ak]
def Sc(vs:List V)(nx:Bool)(m:vs.length<1000000000000):∀(n:Nat)(t:Tm),t.aO+200+vs.length<n->t.Ok->Valid t->jE n [aM vs,t.d,aD nx]=some (.az [(cJ vs nx t).1.d,aa (cJ vs nx t).2])
 |0,t,h,_,_=>absurd h (xaI _)
 |n+1,t,M,w,p=>by
  rw[j3];have c:D.agg [aD false,aa 0,aa 0]=dz.d:=rfl;have k:D.agg [aD true,aa 0,aa 0]=gi.d:=rfl;have J:=p.vD;have L:=p.op;by_cases z:t.op<=4
  .rw[xac z];have bF:=Tm.kW t;have c1:=Tm.ns t;have c2:=Tm.nt t;have b3:=Tm.me t;have j:=Tm.jf t;unfold hB;have b:=JA n vs t.name oZ m;have K:t.op=1\/t.op=2\/t.op=3\/t.op=4:=oZ
   generalize t.op=op at*;rcases K with rfl|rfl|rfl|rfl
   .simp[jE,oO,j,bF,c1,c,k,zJ]
   .simp[jE,oO,j,bF,c1,c,k]
   .cases ag:cX vs t.name with
    |none=>rw[ag]at b;simp[jE,oO,j,bF,c1,c2,b3,c,k,b]
    |some i=>
     rw[ag]at b;obtain⟨v,o,v2,v3⟩:=qF ag;have e:¬((i:Int)<0):=oZ
     simp[jE,oO,j,bF,c1,c2,b3,c,k,b,e,o,eH o,v.o9,zJ];cases v.bool<;>simp
   cases ag:cX vs t.name with
   |none=>rw[ag]at b;simp[jE,oO,j,bF,c1,c2,b3,c,k,b]
   |some i=>
    rw[ag]at b;obtain⟨v,o,v2,v3⟩:=qF ag;have e:¬((i:Int)<0):=oZ
    simp[jE,oO,j,bF,c1,c2,b3,c,k,b,e,o,eH o,v.o9,zJ];cases v.bool<;>cases nx<;>simp
  rw[xab z];have ah:=cd (f:=ur (jE n) n) t.aC (λi (s:List Y)=>[aM vs,aD nx,aa (i:Int),aa t.op,aa t.num,aA t.name,bM 4 t.nl (Tm.rows t.aC),aD false,aa 0,aa 0,eF s]) (λr s=>if(cT vs nx r).2=0 then(Sum.inl [aa t.op,aa t.num,aA t.name,bM 4 t.nl (Tm.rows t.aC),aD false,aa 0,aa 0,eF (s++(cT vs nx r).1)]:lZ⊕D)else .inr (.az [dz.d,aa (cT vs nx r).2])) (λi s=>s.length=i) ?_ ?_ n 0 [] rfl oZ (xah _)
  .have G:(aa ((0:Nat):Int))=aa 0:=rfl;have H:eF []= .aw 3 []:=rfl;rw[G,H]at ah;have B:(t.op==1)=false:=uZ
   have C:(t.op==2)=false:=uZ
   have E:(t.op==3)=false:=uZ
   have F:(t.op==4)=false:=uZ
   simp only[jE,oO,Tm.jf,Tm.kW,Tm.ns,Tm.nt,Tm.me,ln,tA,B,C,E,F,h9,xaq,xaF,cG,lp,lq,ma,ah,xak,xaM,cj,aK,av,aJ,aR,fb,fq,u8,gP,hy,fg,bh,cc,aL,dc,bP,bQ,an,bC];by_cases ak:(cT vs nx t.aC).2=0;.obtain⟨g1,g2⟩:=vC vs nx t.aC ak;have I:∀l:List Y,D.aw 3 (aF (eF l))=eF l:=λ_=>rfl;have x:=af1 n t _ p g1 oZ g2 oZ;simp[ak,I,x]
   simp[ak]
  .intro s aj;simp[ur,cT,eF]
  intro i a s q ag aj;have u:=xad q;have N:=Tm.gC u;have A:=Sc vs nx m n a oZ (w.dx u) (p.dx u);have y:bZ (s.length+1) 24=true:=Sa oZ;have g:ur (jE n) n [aM vs,aD nx,aa (i:Int),aa t.op,aa t.num,aA t.name,bM 4 t.nl (Tm.rows t.aC),aD false,aa 0,aa 0,eF s]=
    if(cJ vs nx a).2=0 then some (.inl [aM vs,aD nx,aa ((i+1:Nat):Int),aa t.op,aa t.num,aA t.name,bM 4 t.nl (Tm.rows t.aC),aD false,aa 0,aa 0,eF (s++[(cJ vs nx a).1])])
    else some (.inr (.inr (.az [dz.d,aa (cJ vs nx a).2]))):=by
   by_cases ak:(cJ vs nx a).2=0;.simp[ur,ag,Tm.e9 q,A,ak,bu i,eF,y];simp[Y.cells]
   .simp[ur,ag,Tm.e9 q,A,ak,c]
  rw[g];simp only[cT];by_cases ak:(cJ vs nx a).2=0
  .left;refine⟨s++[(cJ vs nx a).1],by simp[ak],?_,by simp[aj]⟩;by_cases ab:(cT vs nx (t.aC.drop (i+1))).2=0;.simp[ak,ab]
   simp[ak,ab]
  right;simp[ak]
def eZ(vs:List V)(nx:Bool)(t:Tm):Y×Int:=if(ck t 1 0).1≠0 then(dz,(ck t 1 0).1)else cJ vs nx t
def Sd(n:Nat)(vs:List V)(t:Tm)(nx:Bool)(g:t.aO+200+vs.length<n)(a:t.Ok)(b:vs.length<1000000000000):r2 n [aM vs,t.d,aD nx]=some (.az [(eZ vs nx t).1.d,aa (eZ vs nx t).2]):=by
 have c:=D4 n t oZ a;obtain⟨M,m1,m2⟩:=R9 n vs oZ b;have e:D.agg [aD false,aa 0,aa 0]=dz.d:=rfl;unfold eZ;by_cases ak:(ck t 1 0).1=0
 .have f:=Sb vs M nx m2 n t oZ a ⟨1,0,ak⟩;simp[r2,IC,c,ak,m1,f]
 simp[r2,IC,c,ak,e]
def Se(n:Nat)(vs:List V)(t:Tm)(nx:Bool)(g:t.aO+200+vs.length<n)(a:t.Ok)(b:vs.length<1000000000000):uu n [aM vs,t.d,aD nx]=some (.az [(eZ vs nx t).1.d,aa (eZ vs nx t).2]):=by
 have c:=Jc n t oZ a;have e:D.agg [aD false,aa 0,aa 0]=dz.d:=rfl;unfold eZ;by_cases ak:(ck t 1 0).1=0
 .have f:=Sc vs nx b n t oZ a ⟨1,0,ak⟩;simp[uu,Ic,c,ak,f]
 simp[uu,Ic,c,ak,e]
end Go.Am
