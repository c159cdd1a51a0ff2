/- The laws, on data. No condition. -/
import Derived.Test.YtnaahibhhibijaaGreatDoorEngD
import Derived.Test.YtnaahibhhibijaaGreatDoorCode
import Derived.Test.YtnaahibhhibijaaGreatDoorEngS
set_option linter.all false
set_option linter.unnecessarySimpa false
namespace Go.Am
def fQ(op:Int):Int×Int:=if op=1\/op=2\/op=3\/op=4 then(0,0)else if op=5 then(1,1)else if op=6\/op=7 then(1,64)else if op=18 then(3,3)else if op<1\/op>18 then(-1,-1)else(2,2)
def Du(op:Int):Bool:=op==3||op==4
def h0(t:Tm):Int:=if(fQ t.op).1<0 then 11
 else if(t.num<(if t.op=1 then-255 else 0))\/t.num>(if t.op=1 then 255 else if t.op=2 then 1 else 0)then 2
 else if(if Du t.op then t.name=⟨#[]⟩\/t.name.size>24 else t.name≠⟨#[]⟩)then 12
 else if(t.aW.length:Int)<(fQ t.op).1\/(t.aW.length:Int)>(fQ t.op).2 then 3 else 0
def ato(n:Nat)(op:Int):Gm n [J op]=some (.aO [J (fQ op).1,J (fQ op).2]):=by
 rcases Lv op with rfl|rfl|rfl|rfl|rfl|rfl|rfl|rfl|rfl|rfl|rfl|rfl|rfl|rfl|rfl|rfl|rfl|rfl|h
 case inr.inr.inr.inr.inr.inr.inr.inr.inr.inr.inr.inr.inr.inr.inr.inr.inr.inr=>
  have e:∀k:Int,1<=k->k<=18->(op==k)=false:=λk ab ad=>by simp;omega
  have aV:fQ op=(-1,-1):=by unfold fQ;repeat(first|rw[xab (by omega)]|rw[xaa (by omega)])
  simp[Gm,ZG,e,aV]
 all_goals rfl
def atp(n:Nat)(op:Int):CO n [J op]=some (.aO [J (fQ op).1,J (fQ op).2]):=by
 rcases Lv op with rfl|rfl|rfl|rfl|rfl|rfl|rfl|rfl|rfl|rfl|rfl|rfl|rfl|rfl|rfl|rfl|rfl|rfl|h
 case inr.inr.inr.inr.inr.inr.inr.inr.inr.inr.inr.inr.inr.inr.inr.inr.inr.inr=>
  have e:∀k:Int,1<=k->k<=18->(op==k)=false:=λk ab ad=>by simp;omega
  have aV:fQ op=(-1,-1):=by unfold fQ;repeat(first|rw[xab (by omega)]|rw[xaa (by omega)])
  rcases h with h|h;.simp[CO,Sg,e,aV,h]
  have:¬op<1:=by omega
  simp[CO,Sg,e,aV,h,this]
 all_goals rfl
def atq(s:ByteArray):decide (s=⟨#[]⟩)=decide ((s.size:Int)<1):=by
 have:s=⟨#[]⟩↔(s.size:Int)<1:=by
  constructor;.rintro rfl;decide
  intro h;have:s.size=0:=by omega
  cases s with|mk a=>congr;exact xbk this
 simp[this]
def atr(n:Nat)(t:Tm):Gn n [t.d]=some (J (h0 t)):=by
 cases t with|mk op num s b ks=>
 have ah:=ato n op;have iI:aX 4 (Tm.d (.mk op num s b ks))=true:=Tm.m6 _;have bO:aa (Tm.d (.mk op num s b ks)) 0=J op:=rfl;have aN:aa (Tm.d (.mk op num s b ks)) 1=J num:=rfl;have aV:aa (Tm.d (.mk op num s b ks)) 2=aQ s:=rfl;have bS:aa (Tm.d (.mk op num s b ks)) 3=cF 4 b (Tm.rows ks):=rfl;generalize Tm.d (.mk op num s b ks)=x at*;simp only[h0,Tm.op,Tm.num,Tm.name,Tm.aW];simp only[Gn,ZH,iI,bO,aN,aV,bS,qi,ah,dx,Rj,xbB,xch,FM,lF];by_cases aq:(fQ op).1<0
 .simp[aq]
 simp only[aq,decide_false,xaq,xaA,Ca,dx,lF];simp[Du];grind
def acd(n:Nat)(t:Tm)(deep:Int):zT n [t.d,J deep]=some (J (if deep>64 then 17 else h0 t)):=by
 cases t with|mk op num s b ks=>
 have ah:=atp n op;have iI:aX 4 (Tm.d (.mk op num s b ks))=true:=Tm.m6 _;have bO:aa (Tm.d (.mk op num s b ks)) 0=J op:=rfl;have aN:aa (Tm.d (.mk op num s b ks)) 1=J num:=rfl;have aV:aa (Tm.d (.mk op num s b ks)) 2=aQ s:=rfl;have bS:aa (Tm.d (.mk op num s b ks)) 3=cF 4 b (Tm.rows ks):=rfl;have cT:D.agg [J op,J num,aQ s,cF 4 b (Tm.rows ks)]=(Tm.d (.mk op num s b ks)):=rfl;have av:=atq s;simp only[h0,Tm.op,Tm.num,Tm.name,Tm.aW];simp only[zT,aah,iI,bO,aN,aV,bS,cT,qi,ah,dx,Rj,xbB,xch,FM,oA,lF];by_cases az:deep>64
 .simp[az]
 by_cases aq:(fQ op).1<0;.simp[aq]
 simp only[aq,az,decide_false,xaq,xaA,Ca,dx,lF];simp[Du];simp at av;grind
mutual
def c4:Tm->Int->Int->Int×Int
 | .mk op n s b ks,deep,k=>if deep>64 then(17,k+1)else if h0 (.mk op n s b ks)≠0 then(h0 (.mk op n s b ks),k+1)else if k+1>4096 then(4,k+1)else eZ ks (deep+1) (k+1)
def eZ:List Tm->Int->Int->Int×Int
 |[],_,k=>(0,k)|t::r,deep,k=>if(c4 t deep k).1≠0 then c4 t deep k else eZ r deep (c4 t deep k).2
end
theorem vB(t:Tm)(deep k:Int):c4 t deep k=if deep>64 then(17,k+1)else if h0 t≠0 then(h0 t,k+1)else if k+1>4096 then(4,k+1)else eZ t.aW (deep+1) (k+1):=by cases t;rw[c4];rfl
def Dv(t:Tm):∀(deep k:Int),k+1<=(c4 t deep k).2/\((c4 t deep k).1=0->(c4 t deep k).2<=4096):=by
 refine Tm.ind (P:=λt=>∀(deep k:Int),k+1<=(c4 t deep k).2/\((c4 t deep k).1=0->(c4 t deep k).2<=4096)) ?_ t;intro t ih deep k;rw[vB];split;.simp
 split;.rename_i h;simp[h]
 split;.simp
 have key:∀(l:List Tm)(deep k:Int),(∀x∈l,∀(deep k:Int),k+1<=(c4 x deep k).2/\((c4 x deep k).1=0->(c4 x deep k).2<=4096))->k<=4096->k<=(eZ l deep k).2/\((eZ l deep k).1=0->(eZ l deep k).2<=4096):=by
  intro l
  induction l with
  |nil=>intro deep k _ h;simp[eZ,h]
  |cons a r lK=>
   intro deep k h ah;rw[eZ];have ab:=h a (by simp) deep k;split
   .rename_i ad;exact⟨by omega,λax=>absurd ax ad⟩
   rename_i ad;simp only[ne_eq,Decidable.not_not]at ad;have ax:=lK deep (c4 a deep k).2 (λx ae=>h x (by simp[ae])) (ab.2 ad);exact⟨by omega,ax.2⟩
 have:=key t.aW (deep+1) (k+1) ih (by omega);exact this
def ace:∀(n:Nat)(t:Tm)(deep k:Int),t.bD<n->t.cz->0<=deep->deep<=65->0<=k->k<=4096->tp n [t.d,J deep,J k]=some (.aO [J (c4 t deep k).1,J (c4 t deep k).2])
 |0,t,_,_,h,_,_,_,_,_=>absurd h (xaF _)
 |n+1,t,deep,k,aC,bq,ab,ad,ax,a8=>by
  have aU:=acd n t deep;rw[vB];simp[tp,Sh,lG (bt:=false) (i:=k) (by omega) (by omega),aU];by_cases az:64<deep;.simp[az]
  simp[az];by_cases hw:h0 t=0
  case neg=>simp[hw]
  simp[hw];by_cases ai:4096<k+1;.simp[ai]
  simp[ai];have an:=c8 (f:=Mt (tp n) n) t.aW (λi s=>[J deep,J s,J (i:Int),J t.op,J t.num,aQ t.name,cF 4 t.nl (Tm.rows t.aW)]) (λr (s:Int)=>if(eZ r (deep+1) s).1=0 then(Sum.inl [J (eZ r (deep+1) s).2]:List D⊕D)else .inr (.aO [J (eZ r (deep+1) s).1,J (eZ r (deep+1) s).2])) (λi s=>0<=s/\s<=4096) ?_ ?_ n 0 (k+1) ⟨by omega,by omega⟩ (by have:=t.kO;omega) (xai _)
  .have bO:(J ((0:Nat):Int))=J 0:=rfl;rw[bO]at an;rw[an];simp only[xap,dx];by_cases aq:(eZ t.aW (deep+1) (k+1)).1=0;.simp[aq]
   simp[aq]
  .intro s av;simp[Mt,eZ]
  intro i a s aH ag av;have hm:=xac aH;have bm:=Tm.iZ hm;have bH:=bq.len;have au:=ace n a (deep+1) s (by omega) (bq.eY hm) (by omega) (by omega) av.1 av.2;have hL:=Dv a (deep+1) s;simp[Mt,ag,Tm.gW aH,lG (bt:=false) (i:=deep) (by omega) (by omega),au,cc (bt:=false) (i:=i) (by omega),eZ];by_cases aq:(c4 a (deep+1) s).1=0
  .left;simp only[aq];exact⟨(c4 a (deep+1) s).2,by simp,by simp,by omega,hL.2 aq⟩
  right;simp[aq]
def Tu(n:Nat)(t:Tm)(aC:t.bD<n)(bq:t.cz):vj n [t.d]=some (J (c4 t 1 0).1):=by have:=ace n t 1 0 aC bq (by omega) (by omega) (by omega) (by omega);simp[vj,aai,this]
def ats(n:Nat)(t:Tm)(deep k w:Int)(ab:0<=k)(ad:k<=4096):∃e,e=(if deep>64 then 17 else if h0 t≠0 then h0 t else if k+1>4096 then 4 else 0)/\Gp n [t.d,J deep,J k,J w]=some [ay (decide (e=0)),J (k+1),J e]:=by refine⟨_,rfl,?_⟩;have aU:=atr n t;simp[Gp,lG (bt:=false) (i:=k) (by omega) (by omega),aU];by_cases bh:64<deep<;>by_cases bo:h0 t=0<;>by_cases bC:4096<k+1<;>simp[bh,bo,bC]
def acf:∀(n:Nat)(t:Tm)(deep k w:Int),t.bD<n->t.cz->0<=deep->deep<=65->0<=k->k<=4096->uW n [t.d,J deep,J k,J w]=some [ay (decide ((c4 t deep k).1=0)),J (c4 t deep k).2,J (c4 t deep k).1]
 |0,t,_,_,_,h,_,_,_,_,_=>absurd h (xaF _)
 |n+1,t,deep,k,w,aC,bq,ab,ad,ax,a8=>by
  obtain⟨e,he,aU⟩:=ats n t deep k w ax a8;rw[vB];simp[uW,RL,aU];by_cases AM:e=0
  case neg=>simp[AM];grind
  have ai:¬deep>64/\h0 t=0/\¬k+1>4096:=by grind
  simp[AM,ai];have an:=c8 (f:=LK (uW n) n) t.aW (λi (s:Int×Int)=>[J deep,cF 4 t.nl (Tm.rows t.aW),J t.aW.length,J (i:Int),J s.1,J s.2]) (λr (s:Int×Int)=>if(eZ r (deep+1) s.1).1=0 then(Sum.inl [J (eZ r (deep+1) s.1).2,J 0]:List D⊕List D)else .inr [ay false,J (eZ r (deep+1) s.1).2,J (eZ r (deep+1) s.1).1]) (λi s=>0<=s.1/\s.1<=4096/\s.2=0) ?_ ?_ n 0 (k+1,0) ⟨by simp;omega,by simp;omega,rfl⟩ (by have:=t.kO;omega) (xai _)
  .have bO:(J ((0:Nat):Int))=J 0:=rfl;rw[bO]at an;rw[an];simp only[xap,dx];by_cases aq:(eZ t.aW (deep+1) (k+1)).1=0;.simp[aq]
   simp[aq]
  .intro s av;simp[LK,eZ,av.2.2]
  intro i a s aH ag av;have hm:=xac aH;have bm:=Tm.iZ hm;have bH:=bq.len;have au:=acf n a (deep+1) s.1 s.2 (by omega) (bq.eY hm) (by omega) (by omega) av.1 av.2.1;have hL:=Dv a (deep+1) s.1;simp[LK,ag,Tm.gW aH,lG (bt:=false) (i:=deep) (by omega) (by omega),au,cc (bt:=false) (i:=i) (by omega),eZ];by_cases aq:(c4 a (deep+1) s.1).1=0
  .left;exact⟨(c4 a (deep+1) s.1).2,0,by simp[aq],by simp[aq],by omega,hL.2 aq,rfl⟩
  right;simp[aq]
def Nl(n:Nat)(t:Tm)(aC:t.bD<n)(bq:t.cz):te n [t.d]=some (J (c4 t 1 0).1):=by have:=acf n t 1 0 0 aC bq (by omega) (by omega) (by omega) (by omega);simp[te,ZJ,this]
def att{α:Type}(A B:List α)(z s:α):(((A++B++[z]).take (A.length+1)++(((A++B++[z]).drop A.length).take (B.length+1)).take (min ((((A++B++[z]).drop A.length).take (B.length+1)).length) B.length)++(A++B++[z]).drop (A.length+1+min ((((A++B++[z]).drop A.length).take (B.length+1)).length) B.length)).set A.length s)=A++s::B:=by
 have aN:(A++B++[z]).drop A.length=B++[z]:=by rw[xaP,List.drop_left]
 have aV:(B++[z]).take (B.length+1)=B++[z]:=xbw (by simp);rw[aN,aV];have bS:min (B++[z]).length B.length=B.length:=by simp
 rw[bS];have cT:(B++[z]).take B.length=B:=List.take_left;have dJ:(A++B++[z]).drop (A.length+1+B.length)=[]:=xck (by simp;omega);rw[cT,dJ,xax];obtain⟨w,hw⟩:∃w,(A++B++[z]).take (A.length+1)=A++[w]:=by rw[xaP,List.take_append];cases B with|nil=>exact⟨z,by rw[xbw (by omega)];simp⟩|cons b B=>exact⟨b,by rw[xbw (by omega)];simp⟩
 rw[hw,xaP];simp
def acg{n i:Nat}(h:i<=n):pf n (some (J (i:Int))) none=some (i,n-i):=by simp[pf,qe,J,h]
theorem atu(l:List ByteArray):aB (dk l)=l.map λs=>[aQ s]:=rfl
def ach(n:Nat)(s:ByteArray)(l:List ByteArray)(av:jG l)(aC:l.length+2<n)(an:l.length<1000000000):w8 n [aQ s,dk l]=some [dk (hq s l)]:=by
 obtain⟨a,b,rfl,ad,ax,a8,b3,cI⟩:=RB s av;have es:=atu (a++b);have key:bI (Gq n) n [aQ s,J ((a++b).length:Int),dk (a++b)]=some (.inl [aQ s,J (a.length:Int),dk (a++b)]):=by
  refine l7 (λj=>[aQ s,J (((a++b).length-j:Nat):Int),dk (a++b)]) b.length (by simp) ?_ ?_ (by simp at aC;omega)
  .intro j aG;have bH:(a++b).length=a.length+b.length:=by simp
   obtain⟨m,hm⟩:∃m:Nat,(a++b).length-j=m+1:=⟨(a++b).length-j-1,by omega⟩;have atv:(a++b).length-(j+1)=m:=by omega
   have ln:(a++b)[m]?=b[m-a.length]?:=xaD (by omega);have bZ:m-a.length<b.length:=by omega
   have atw:=xad bZ;rw[atw]at ln;have ak:=ax _ (xbd bZ);generalize b[m-a.length]=x at*;have kS:aj false .sub (J ((m+1:Nat):Int)) (J 1)=some (J (m:Int)):=by rw[mH (by omega) (by omega)];congr 2;omega
   have tG:cV (aB (dk (a++b))).length (J (m:Int))=some m:=by rw[kn,xaa (by rw[es];simp at bH⊢;omega)]
   have eN:(aB (dk (a++b)))[m]?=some [aQ x]:=by rw[es,xag,ln];rfl
   have hL:((m+1:Nat):Int)>0:=by omega
   simp only[hm,atv];simp only[Gq,ps,rn,oA,xal hL,dx,uO,xaz,kS,tG,eN,iA,xbB,Lx,ak,uP,lF];rfl
  have bH:(a++b).length-b.length=a.length:=by simp
  simp only[bH];by_cases aq:a.length=0
  .have:¬((a.length:Int)>0):=by omega
   simp only[Gq,ps,rn,oA,xan this,dx,uO,xaq,xaA,uP,lF,Ri];rfl
  obtain⟨m,hm⟩:∃m:Nat,a.length=m+1:=⟨a.length-1,by omega⟩;have bZ:m<a.length:=by omega
  have ln:(a++b)[m]?=a[m]?:=xaC bZ;rw[xad bZ]at ln;have aH:=ad _ (xbd bZ);generalize a[m]=x at*;have kS:aj false .sub (J ((m+1:Nat):Int)) (J 1)=some (J (m:Int)):=by rw[mH (by omega) (by simp at an;omega)];congr 2;omega
  have tG:cV (aB (dk (a++b))).length (J (m:Int))=some m:=by rw[kn,xaa (by rw[es];simp;omega)]
  have eN:(aB (dk (a++b)))[m]?=some [aQ x]:=by rw[es,xag,ln];rfl
  have hL:((m+1:Nat):Int)>0:=by omega
  simp only[hm];simp only[Gq,ps,rn,oA,xal hL,dx,uO,xaz,kS,tG,eN,iA,xbB,Lx,aH,uP,lF,xaq,xaA,Ri];rfl
 have o6:D.aA 1 (aB (dk (a++b)))=dk (a++b):=rfl;have aci:(aB (dk (a++b))).length=(a++b).length:=by rw[es];simp
 by_cases e4:s∈a++b
 .obtain⟨cx,rfl⟩:=a8 e4;rw[RA av e4];have Li:(cx++[s]).length=cx.length+1:=by simp
  have kS:aj false .sub (J ((cx.length+1:Nat):Int)) (J 1)=some (J (cx.length:Int)):=by rw[mH (by omega) (by simp at an;omega)];congr 2;omega
  have tG:cV ((cx++[s]++b).length) (J (cx.length:Int))=some cx.length:=by rw[kn,xaa (by simp)]
  have eN:(aB (dk (cx++[s]++b)))[cx.length]?=some [aQ s]:=by rw[es];simp
  have hL:((cx.length+1:Nat):Int)>0:=by omega
  rw[Li]at key;simp only[w8,ps,rn,aci,o6,key,dx,qj,oA,xal hL,uO,xaz,kS,tG,eN,iA,xbB,Rn,decide_true,uP,lF]
 rw[cI e4];have FR:=b3 e4;have atx:R (bN (ay (decide ((a.length:Int)>0))) true (R (aj false .sub (J (a.length:Int)) (J 1)) λcX=>R (cV (a++b).length cX) λGr=>R ((aB (dk (a++b)))[Gr]?) λGs=>R (a7 false 1 0 Gs) λv28=>R (aj false .eql v28 (aQ s)) λv30=>some v30)) (λv30=>R (b1 (ay (decide ((a.length:Int)>0))) v30 (ay false)) λv31=>some v31)=some (ay false):=by
  by_cases aq:a.length=0
  .have:¬((a.length:Int)>0):=by omega
   simp only[xan this,uO,xaq,xaA,dx,uP]
  obtain⟨m,hm⟩:∃m:Nat,a.length=m+1:=⟨a.length-1,by omega⟩;have bZ:m<a.length:=by omega
  have ln:(a++b)[m]?=a[m]?:=xaC bZ;rw[xad bZ]at ln;have cf:a[m]≠s:=λe=>FR (by rw[<-e];exact xbd bZ);generalize a[m]=x at*;have kS:aj false .sub (J ((m+1:Nat):Int)) (J 1)=some (J (m:Int)):=by rw[mH (by omega) (by simp at an;omega)];congr 2;omega
  have tG:cV (a++b).length (J (m:Int))=some m:=by rw[kn,xaa (by simp;omega)]
  have eN:(aB (dk (a++b)))[m]?=some [aQ x]:=by rw[es,xag,ln];rfl
  have hL:((m+1:Nat):Int)>0:=by omega
  rw[hm];simp only[xal hL,uO,xaz,kS,dx,tG,eN,iA,xbB,Rn,xan cf,uP]
 obtain⟨v30,bG,bw⟩:=ef atx;obtain⟨v31,cl,dA⟩:=ef bw;cases dA;have dw:cJ ((a++b).length+1) 16=true:=eW (by omega) (by omega);have e6:=cc (bt:=false) (i:=a.length) (by simp at an;omega);have eC:aB (dk (a++b))++[[aQ ⟨#[]⟩]]=(a.map λs=>[aQ s])++(b.map λs=>[aQ s])++[[aQ ⟨#[]⟩]]:=by rw[es];simp
 have aty:((a.map λs=>[aQ s])++(b.map λs=>[aQ s])++[[aQ ⟨#[]⟩]]:List (List D)).length=a.length+b.length+1:=by simp;omega
 have bh:pf (a.length+b.length+1) (some (J ((a.length+1:Nat):Int))) none=some (a.length+1,b.length):=by rw[acg (by omega)];congr 2;omega
 have bo:pf (a.length+b.length+1) (some (J (a.length:Int))) none=some (a.length,b.length+1):=by rw[acg (by omega)];congr 2;omega
 have sY:=att (a.map λs=>[aQ s]) (b.map λs=>[aQ s]) [aQ ⟨#[]⟩] [aQ s];simp only[xaV]at sY;have EF:∀(X:List (List D)) (w:List D),X[a.length]?=some w->lV w 0 [aQ s]=[aQ s]->(X.set a.length (lV w 0 [aQ s]))=X.set a.length [aQ s]:=λX w _ h=>by rw[h]
 generalize kq:(((a.map λs=>[aQ s])++(b.map λs=>[aQ s])++[[aQ ⟨#[]⟩]]:List (List D)).take (a.length+1)++((((a.map λs=>[aQ s])++(b.map λs=>[aQ s])++[[aQ ⟨#[]⟩]]:List (List D)).drop a.length).take (b.length+1)).take (min (((((a.map λs=>[aQ s])++(b.map λs=>[aQ s])++[[aQ ⟨#[]⟩]]:List (List D)).drop a.length).take (b.length+1)).length) b.length)++((a.map λs=>[aQ s])++(b.map λs=>[aQ s])++[[aQ ⟨#[]⟩]]:List (List D)).drop (a.length+1+min (((((a.map λs=>[aQ s])++(b.map λs=>[aQ s])++[[aQ ⟨#[]⟩]]:List (List D)).drop a.length).take (b.length+1)).length) b.length))=X at*;have aA9:X.length=a.length+b.length+1:=by have:=xbY List.length sY;simp at this;omega
 have tG:cV X.length (J (a.length:Int))=some a.length:=by rw[kn,xaa (by omega)]
 have hw:∃x,X[a.length]?=some [x]:=by
  have hm:∀w∈X,∃x,w=[x]:=by
   rw[<-kq];intro w hw;have e4:w∈((a.map λs=>[aQ s])++(b.map λs=>[aQ s])++[[aQ ⟨#[]⟩]]:List (List D)):=by
    rcases xaL.1 hw with hw|hw
    .rcases xaL.1 hw with hw|hw;.exact xaZ hw
     exact xbl (xaZ (xaZ hw))
    exact xbl hw
   rcases xaL.1 e4 with e4|e4
   .rcases xaL.1 e4 with e4|e4;.obtain⟨x,_,rfl⟩:=xaR.1 e4;exact⟨_,rfl⟩
    obtain⟨x,_,rfl⟩:=xaR.1 e4;exact⟨_,rfl⟩
   simp at e4;exact⟨_,e4⟩
  have bZ:a.length<X.length:=by omega
  obtain⟨x,ae⟩:=hm _ (xbd bZ);exact⟨x,by rw[xad bZ,ae]⟩
 obtain⟨x,ae⟩:=hw;have Na:lV [x] 0 [aQ s]=[aQ s]:=rfl;have d1:decide (a.length+(b.length+1)<=a.length+b.length+1)=true:=xal (by omega);have d2:decide (a.length+1+b.length<=a.length+b.length+1)=true:=xal (by omega);have qS:bT (aQ s)=true:=rfl;have mZ:([[aQ ⟨#[]⟩]]:List (List D)).length=1:=rfl;simp only[w8,ps,rn,aci,o6,key,dx,qj,oA];rw[bG];simp only[dx,cl,lF,xaq,xaA,mZ,dw,qi,e6,eC,aty,bh,bo,d1,d2,kq,tG,qS,ae,Na,sY];simp[dk]
def j5(nl:Bool)(l:List ByteArray):D:=cF 1 nl (l.map λs=>[aQ s])
def acj{nl:Bool}{l:List ByteArray}(h:l≠[]):j5 nl l=dk l:=by cases l with|nil=>exact absurd rfl h|cons a r=>simp[j5,dk,cF]
def nG(nl:Bool)(l:List ByteArray):bF (j5 nl l)=some (J l.length):=by simp[j5]
def AN{nl:Bool}{l:List ByteArray}{i:Nat}{s:ByteArray}(h:l[i]?=some s):bk 1 (j5 nl l) (J (i:Int))=some [aQ s]:=by unfold j5;rw[Rw];simp[h]
def atz(s:ByteArray)(l:List ByteArray):hq s l≠[]:=by cases l with|nil=>simp[hq]|cons a r=>rw[hq];split<;>(try split)<;>simp
def atA(n:Nat)(nl:Bool)(l:List ByteArray)(s:ByteArray)(aC:l.length<n)(an:l.length<1000000000):Hu n [j5 nl l,aQ s]=some (ay (l.any λx=>decide (x=s))):=by
 have ag:=c8 (f:=Ht n) l (λi (_:Unit)=>[j5 nl l,aQ s,J (i:Int)]) (λr _=>if r.any (λx=>decide (x=s))=true then(.inr (ay true):List D⊕D)else .inl []) (λ_ _=>True) (λ_ _=>by simp[Ht,nG]) ?_ n 0 () trivial (by omega) (xai _)
 .have bO:(J ((0:Nat):Int))=J 0:=rfl;rw[bO]at ag;simp only[xap]at ag;simp only[Hu,aad,ag,dx];by_cases h:l.any (λx=>decide (x=s))=true;.rw[xaa h,h];rfl
  rw[xab h];cases bP:l.any (λx=>decide (x=s))with|false=>rfl|true=>exact absurd bP h
 intro i x _ ae ag _;by_cases h:x=s;.right;simp[Ht,nG,ag,AN ae,h]
 left;exact⟨(),by simp[Ht,nG,ag,AN ae,h,cc (bt:=false) (i:=i) (by omega)],by simp only[List.any_cons,xan h,xbx],trivial⟩
def wf(s:ByteArray):List ByteArray->Bool->List ByteArray->Bool×List ByteArray
 |[],d,o=>(d,o)|x::r,d,o=>if(!d&&blt s x)=true then wf s r true (o++[s,x])else wf s r d (o++[x])
def ack(s:ByteArray):∀(l o:List ByteArray),wf s l true o=(true,o++l)
 |[],o=>by simp[wf]|x::r,o=>by rw[wf];simp[ack s r]
def acm(s:ByteArray):∀(a b o:List ByteArray),(∀x∈a,blt s x=false)->wf s (a++b) false o=wf s b false (o++a)
 |[],b,o,_=>by simp|x::a,b,o,h=>by rw[xbv,wf];have:=h x (by simp);simp[this,acm s a b _ (λy aP=>h y (by simp[aP]))]
def atB(s:ByteArray):∀(b o:List ByteArray),(∀x∈b,blt s x=true)->wf s b false o=(match b with|[]=>(false,o)|_=>(true,o++s::b))
 |[],o,_=>rfl|x::r,o,h=>by rw[wf];have:=h x (by simp);simp[this,ack]
@[simp] theorem aBa (p:List ByteArray) (x:ByteArray):D.aA 1 (aB (dk p)++[[aQ x]])=dk (p++[x]):=by simp[dk]
@[simp] theorem aBb (p:List ByteArray):(aB (dk p)).length=p.length:=by simp[dk]
@[simp] theorem aBc (p:List ByteArray):D.aA 1 (aB (dk p))=dk p:=rfl
def atC(n:Nat)(nl:Bool)(l:List ByteArray)(s:ByteArray)(av:jG l)(aC:l.length+2<n)(an:l.length<1000000000):zQ n [j5 nl l,aQ s]=some (dk (hq s l)):=by
 have e4:=atA n nl l s (by omega) an;by_cases hm:s∈l;.have:l.any (λx=>decide (x=s))=true:=xbu.2 ⟨s,hm,by simp⟩;rw[this]at e4;rw[RA av hm];simp only[zQ,Mq,e4,dx,lF,xaz];rw[acj (List.ne_nil_of_mem hm)]
 have FR:l.any (λx=>decide (x=s))=false:=by cases h:l.any (λx=>decide (x=s))with|false=>rfl|true=>obtain⟨x,ab,ad⟩:=xbu.1 h;simp at ad;subst ad;exact absurd ab hm
 rw[FR]at e4;obtain⟨a,b,jK,ad,ax,a8,b3,cI⟩:=RB s av;have hw:wf s l false []=wf s b false a:=by rw[jK,acm s a b _ ad];simp
 have iC:=c8 (f:=CN n) l (λi (p:Bool×List ByteArray)=>[j5 nl l,aQ s,ay p.1,J (i:Int),dk p.2]) (λr p=>(.inl [aQ s,ay (wf s r p.1 p.2).1,dk (wf s r p.1 p.2).2]:List D⊕D)) (λi p=>p.2.length<=i+(if p.1=true then 1 else 0)) (λp _=>by simp[CN,nG,wf]) ?_ n 0 (false,[]) (by simp) (by omega) (xai _)
 .have bO:(J ((0:Nat):Int))=J 0:=rfl;have aN:dk []= .aA 1 []:=rfl;rw[bO,aN]at iC;simp only[xap,hw]at iC;rw[cI hm];have J7:a.length<=l.length:=by rw[jK];simp
  cases b with|nil=>simp only[wf]at iC;have dw:cJ (a.length+1) 16=true:=eW (by omega) (by omega);simp[zQ,Mq,e4,iC,dw]|cons c r=>have ak:=atB s (c::r) a ax;simp only at ak;rw[ak]at iC;simp[zQ,Mq,e4,iC]
 intro i x p ae ag aU;left;have aH:=cc (bt:=false) (i:=i) (by omega);have uH:p.2.length<=i+1:=by split at aU<;>omega
 have eL:cJ (p.2.length+1) 16=true:=eW (by omega) (by omega);have eM:cJ (p.2.length+1+1) 16=true:=eW (by omega) (by omega);obtain⟨d,o⟩:=p;simp only at aU eL eM;cases d with
 |true=>
  refine⟨(true,o++[x]),?_,by rw[wf];simp,?_⟩;.simp[CN,nG,ag,AN ae,eL,aH]
  simp at aU⊢;omega
 |false=>
  cases ak:blt s x
  .refine⟨(false,o++[x]),?_,by rw[wf];simp[ak],?_⟩;.simp[CN,nG,ag,AN ae,eL,aH,Lx,ak,-Ro]
   simp at aU⊢;omega
  refine⟨(true,o++[s]++[x]),?_,by rw[wf];simp[ak],?_⟩;.simp[CN,nG,ag,AN ae,eL,eM,aH,Lx,ak,-Ro]
  simp at aU⊢;omega
mutual
def fE(o:Int):Tm->List ByteArray->List ByteArray
 | .mk op _ s _ ks,l=>mN o ks (if op=o then hq s l else l)
def mN(o:Int):List Tm->List ByteArray->List ByteArray
 |[],l=>l|t::r,l=>mN o r (fE o t l)
end
theorem Nn(o:Int)(t:Tm)(l:List ByteArray):fE o t l=mN o t.aW (if t.op=o then hq t.name l else l):=by cases t;rw[fE];rfl
mutual
def IK(o:Int):∀(t:Tm)(l:List ByteArray),jG l->jG (fE o t l)/\(fE o t l).length<=l.length+t.bD
 | .mk op n s b ks,l,h=>by
  rw[fE];have ab:jG (if op=o then hq s l else l):=by split;exact F0 h;exact h
  have ad:(if op=o then hq s l else l).length<=l.length+1:=by split;exact F1 l;omega
  have:=acn o ks _ ab;exact⟨this.1,by simp only[Tm.bD];omega⟩
def acn(o:Int):∀(ks:List Tm)(l:List ByteArray),jG l->jG (mN o ks l)/\(mN o ks l).length<=l.length+Tm.dL ks
 |[],l,h=>⟨h,by simp[mN,Tm.dL]⟩|t::r,l,h=>by rw[mN];have ab:=IK o t l h;have ad:=acn o r _ ab.1;exact⟨ad.1,by simp only[Tm.dL];omega⟩
end
theorem aco{l:List Tm}{i:Nat}{a:Tm}(h:l[i]?=some a):Tm.dL (l.drop i)=1+a.bD+Tm.dL (l.drop (i+1)):=by obtain⟨ab,ad⟩:=xae.1 h;rw[xaU ab,ad];rfl
def atD(nl:Bool)(s:ByteArray)(l:List ByteArray):j5 nl (hq s l)=dk (hq s l):=acj (atz s l)
def Tv(o:Int):∀(n:Nat)(t:Tm)(nl:Bool)(l:List ByteArray),t.bD+l.length+10<n->t.cz->jG l->l.length+t.bD<1000000000->rM n [t.d,J o,j5 nl l]=some (j5 nl (fE o t l))
 |0,t,_,_,h,_,_,_=>absurd h (xaF _)
 |n+1,t,nl,l,aC,bq,av,ak=>by
  have bH:=bq.len;have Tw:=t.kO;show Hv (rM n) n t.d (J o) (j5 nl l)=_;rw[Nn];generalize jo:(if t.op=o then hq t.name l else l)=oM;have ab:jG oM:=by rw[<-jo];split;exact F0 av;exact av
  have ad:oM.length<=l.length+1:=by rw[<-jo];split;exact F1 l;omega
  have atE:Tm.dL t.aW+2=t.bD:=by cases t;simp[Tm.bD,Tm.aW];omega
  have an:=c8 (f:=Mr (rM n) n) t.aW (λi (p:List ByteArray)=>[J o,j5 nl p,J (i:Int),J t.op,J t.num,aQ t.name,cF 4 t.nl (Tm.rows t.aW)]) (λr p=>(.inl [j5 nl (mN o r p)]:List D⊕D)) (λi p=>jG p/\p.length+Tm.dL (t.aW.drop i)<=oM.length+Tm.dL t.aW) (λp _=>by simp[Mr,mN]) ?_ n 0 oM ⟨ab,by simp⟩ (by omega) (xai _)
  .have bO:(J ((0:Nat):Int))=J 0:=rfl;rw[bO]at an;simp only[xap]at an;by_cases aR:t.op=o;.rw[xaa aR]at jo;have hw:=atC n nl l t.name av (by omega) (by omega);rw[jo,<-jo,<-atD nl,jo]at hw;simp[Hv,aR,hw];rw[aR]at an;rw[an];rfl
   rw[xab aR]at jo;subst jo;simp[Hv,aR,an]
  intro i a p aH ag aU;have hm:=xac aH;have bm:=Tm.iZ hm;have az:=aco aH;have au:=Tv o n a nl p (by omega) (bq.eY hm) aU.1 (by omega);have O8:=IK o a p aU.1;left;refine⟨fE o a p,?_,by rw[mN],O8.1,by omega⟩;simp[Mr,ag,Tm.gW aH,au,cc (bt:=false) (i:=i) (by omega)]
def Tx(n:Nat)(t:Tm)(aC:t.bD+10<n)(bq:t.cz)(ak:t.bD<1000000000):vi n [t.d]=some (.aO [j5 true (fE 3 t []),j5 true (fE 4 t [])]):=by have ax:=Tv 3 n t true [] (by simp;omega) bq trivial (by simp;omega);have a8:=Tv 4 n t true [] (by simp;omega) bq trivial (by simp;omega);have e:j5 true []=cS:=rfl;rw[e]at ax a8;simp[vi,aae,ax,a8]
def atF(n:Nat)(t:Tm)(ho:D)(p q:List ByteArray)(aU:jG p)(bP:jG q)(aC:p.length+q.length+5<n)(ak:p.length+q.length<1000000000):za n [t.d,ho,dk p,dk q]=some [ay true,dk (if t.op=3 then hq t.name p else p),dk (if t.op=4 then hq t.name q else q)]:=by
 have lr:=ach n t.name p aU (by omega) (by omega);have jJ:=ach n t.name q bP (by omega) (by omega);by_cases ax:t.op=3
 .simp[za,ax,lr]
 by_cases a8:t.op=4;.simp[za,ax,a8,jJ]
 simp[za,ax,a8]
def acp:∀(n:Nat)(t:Tm)(deep:Int)(p q:List ByteArray),t.bD+p.length+q.length+t.bD+20<n->t.cz->jG p->jG q->0<=deep->deep+t.bD<1000000000->p.length+q.length+t.bD+t.bD<1000000000->uX n [t.d,J deep,dk p,dk q]=some [ay true,dk (fE 3 t p),dk (fE 4 t q)]
 |0,t,_,_,_,h,_,_,_,_,_,_=>absurd h (xaF _)
 |n+1,t,deep,p,q,aC,bq,aU,bP,aBd,FQ,ak=>by
  have bH:=bq.len;have Tw:=t.kO;have atE:Tm.dL t.aW+2=t.bD:=by cases t;simp[Tm.bD,Tm.aW];omega
  have ab:=atF n t (J deep) p q aU bP (by omega) (by omega);rw[Nn,Nn];generalize r4:(if t.op=3 then hq t.name p else p)=Dw at*;generalize acq:(if t.op=4 then hq t.name q else q)=oN at*;have eJ:jG Dw:=by rw[<-r4];split;exact F0 aU;exact aU
  have dV:Dw.length<=p.length+1:=by rw[<-r4];split;exact F1 p;omega
  have bG:jG oN:=by rw[<-acq];split;exact F0 bP;exact bP
  have bw:oN.length<=q.length+1:=by rw[<-acq];split;exact F1 q;omega
  have an:=c8 (f:=LL (uX n) n) t.aW (λi (z:List ByteArray×List ByteArray)=>[J deep,cF 4 t.nl (Tm.rows t.aW),J t.aW.length,J (i:Int),dk z.1,dk z.2]) (λr z=>(.inl [dk (mN 3 r z.1),dk (mN 4 r z.2)]:List D⊕List D)) (λi z=>jG z.1/\jG z.2/\z.1.length+Tm.dL (t.aW.drop i)<=Dw.length+Tm.dL t.aW/\z.2.length+Tm.dL (t.aW.drop i)<=oN.length+Tm.dL t.aW) (λz _=>by simp[LL,mN]) ?_ n 0 (Dw,oN) ⟨eJ,bG,by simp,by simp⟩ (by omega) (xai _);.have bO:(J ((0:Nat):Int))=J 0:=rfl;rw[bO]at an;simp only[xap]at an;simp[uX,RM,ab,an]
  intro i a z aH ag bm;obtain⟨jw,z2,z3,z4⟩:=bm;have hm:=xac aH;have aBe:=Tm.iZ hm;have az:=aco aH;have au:=acp n a (deep+1) z.1 z.2 (by omega) (bq.eY hm) jw z2 (by omega) (by omega) (by omega);have lq:=IK 3 a z.1 jw;have uq:=IK 4 a z.2 z2;left;refine⟨(fE 3 a z.1,fE 4 a z.2),?_,by simp[mN],lq.1,uq.1,by simp only;omega,by simp only;omega⟩;simp[LL,ag,Tm.gW aH,au,lG (bt:=false) (i:=deep) (by omega) (by omega),cc (bt:=false) (i:=i) (by omega)]
def No(n:Nat)(t:Tm)(aC:t.bD+t.bD+30<n)(bq:t.cz)(ak:t.bD<100000000):rC n [t.d]=some (.aO [dk (fE 3 t []),dk (fE 4 t [])]):=by have h:=acp n t 1 [] [] (by simp;omega) bq trivial trivial (by omega) (by omega) (by simp;omega);have e:dk []= .aA 1 []:=rfl;have fW:∀l,bT (dk l)=true:=λ_=>rfl;rw[e]at h;simp[rC,ZK,h,fW]
mutual
def Np:Tm->Tm->Bool
 | .mk o n s _ ks,u=>decide (o=u.op)&&decide (n=u.num)&&decide (s=u.name)&&decide (ks.length=u.aW.length)&&AO ks u.aW
def AO:List Tm->List Tm->Bool
 |a::r,b::q=>Np a b&&AO r q|[],_=>true|_::_,[]=>true
end
theorem acr(t u:Tm):Np t u=(decide (t.op=u.op)&&decide (t.num=u.num)&&decide (t.name=u.name)&&decide (t.aW.length=u.aW.length)&&AO t.aW u.aW):=by cases t;rw[Np];rfl
def tH:List bl->Nat->List (Value×D)->List (Value×D)
 |[],_,M=>M|v::r,i,M=>tH r (i+1) (if(gf M v.name).isSome then M else(ra .string M (aQ v.name) (J i)).getD [])
def Ty:∀(r:List bl)(i:Nat)(M:List (Value×D)),lH M->lH (tH r i M)/\∀x,gf (tH r i M) x=match gf M x with|some d=>some d|none=>(db r x).map λj=>J ((i+j:Nat):Int)
 |[],i,M,h=>⟨h,λx=>by simp only[tH,db,List.findIdx?_nil];cases gf M x<;>rfl⟩
 |v::r,i,M,h=>by
  rw[tH];have e:∀x,db (v::r) x=if v.name=x then some 0 else(db r x).map (·+1):=by intro x;simp[db,xbT]
  by_cases av:(gf M v.name).isSome
  .rw[xaa av];obtain⟨ab,ad⟩:=Ty r (i+1) M h;refine⟨ab,λx=>?_⟩;rw[ad x,e x];cases ae:gf M x with
   |some d=>rfl
   |none=>
    have cf:¬v.name=x:=by rintro rfl;simp[ae]at av
    simp only[cf,xaA,Option.map_map]
    congr 1
    funext j
    simp only[Function.comp]
    congr 2
    omega
  rw[xab av];obtain⟨ec,eJ,dV,hJ,_⟩:=Lw h v.name (J i);rw[eJ,xbm];obtain⟨ab,ad⟩:=Ty r (i+1) ec dV;refine⟨ab,λx=>?_⟩;rw[ad x,hJ x,e x];by_cases ae:x=v.name
  .subst ae;have aC:gf M v.name=none:=by simpa using av
   simp[aC]
  have cf:¬v.name=x:=λh=>ae h.symm;simp only[ae,cf,xaA];cases bB:gf M x with
  |some d=>rfl
  |none=>
   simp only[Option.map_map]
   congr 1
   funext j
   simp only[Function.comp]
   congr 2
   omega
def Nq(M:List (Value×D))(vs:List bl):Prop:=lH M/\∀x,gf M x=(db vs x).map λ(j:Nat)=>J (j:Int)
def Tz(n:Nat)(vs:List bl)(aC:vs.length<n)(an:vs.length<1000000000000):∃M,uZ n [aM vs]=some (.mp M)/\Nq M vs:=by
 have aq:lH []:=by intro e he;cases he
 obtain⟨ab,ad⟩:=Ty vs 0 [] aq;refine⟨tH vs 0 [],?_,ab,λx=>by rw[ad x];simp only[gf,xaE]⟩;have ag:=c8 (f:=Gv n) vs (λi (M:List (Value×D))=>[aM vs,J vs.length,J (i:Int),.mp M]) (λr M=>(Sum.inl [.mp (tH r (vs.length-r.length) M)]:List D⊕D)) (λi M=>lH M) (λM _=>by simp[Gv,tH]) ?_ n 0 [] aq (by omega) (xai _)
 .have bO:(J ((0:Nat):Int))=J 0:=rfl;rw[bO]at ag;simp[uZ,ZN,dT,ag]
 intro i a M aH ag cH;left;have e:vs.length-(a::vs.drop (i+1)).length=i:=by simp;omega
 have c1:vs.length-(vs.drop (i+1)).length=i+1:=by simp;omega
 have ax:=Cg cH (z:= .int .i64 0) (x:=a.name);cases bB:gf M a.name with|some d=>rw[bB]at ax;refine⟨M,by simp[Gv,ag,e2 aH,ax,cc (bt:=false) (i:=i) (by omega)],?_,cH⟩;rw[e,tH,bB,c1];rfl|none=>rw[bB]at ax;obtain⟨ec,eJ,dV,hJ,_⟩:=Lw cH a.name (J i);refine⟨ec,by simp[Gv,ag,e2 aH,ax,eJ,cc (bt:=false) (i:=i) (by omega)],?_,dV⟩;rw[e,tH,bB,c1];simp only[xcl,xaq,xaA,eJ,xbm]
def acs(n:Nat)(vs:List bl)(x:ByteArray)(aC:vs.length<n)(an:vs.length<1000000000000):xe n [aM vs,aQ x]=some (J (match db vs x with|some i=>(i:Int)|none=>-1)):=by
 have ag:=c8 (f:=Hy n) vs (λi (_:Unit)=>[aM vs,aQ x,J (i:Int)]) (λr _=>match db r x with|some j=>(Sum.inr (J ((vs.length-r.length+j:Nat):Int)):List D⊕D)|none=> .inl []) (λ_ _=>True) (λ_ _=>by simp[Hy,dT,db]) ?_ n 0 () trivial (by omega) (xai _);.have bO:(J ((0:Nat):Int))=J 0:=rfl;rw[bO]at ag;simp only[xe,aaj,ag,xap,dx];cases db vs x<;>simp
 intro i a _ aH ag _;have e:vs.length-(a::vs.drop (i+1)).length=i:=by simp;omega
 have c1:vs.length-(vs.drop (i+1)).length=i+1:=by simp;omega
 have nq:db (a::vs.drop (i+1)) x=if a.name=x then some 0 else(db (vs.drop (i+1)) x).map (·+1):=by simp[db,xbT]
 have a0:a.cells[0]?=some (aQ a.name):=rfl;by_cases ae:a.name=x;.right;rw[nq,xaa ae,e];simp[Hy,dT,ag,e2 aH,a0,ae]
 left;refine⟨(),by simp[Hy,dT,ag,e2 aH,a0,ae,cc (bt:=false) (i:=i) (by omega)],?_,trivial⟩;rw[nq,xab ae,e,c1];cases db (vs.drop (i+1)) x with|none=>rfl|some j=>simp;omega
def dt(l:List bl)(t:Tm):List Nat:=(fE 3 t []).filterMap (db l)
def nd{l:List bl}{t:Tm}:∀k∈dt l t,k<l.length:=by intro k ah;obtain⟨x,_,ae⟩:=List.mem_filterMap.1 ah;obtain⟨_,_,_,h⟩:=RE ae;exact h
def Dx(t:Tm):(fE 3 t []).length<=t.bD:=by have:=(IK 3 t [] trivial).2;simpa using this
def Nr(l:List bl)(t:Tm):(dt l t).length<=t.bD:=xbr (List.length_filterMap_le _ _) (Dx t)
structure hQ(B:Nat)(l:List bl):Prop where
 len:l.length<=B
 e:∀d∈l,d.e.cz/\d.e.bD<=B
 b:B<=1000000
def to(l:List bl)(i:Nat):List Nat:=match l[i]? with|some d=>dt l d.e|none=>[]
def lb{l:List bl}(i:Nat):∀k∈to l i,k<l.length:=by
 unfold to;split;.exact nd
 intro k ah;cases ah
def Dy{l:List bl}{i:Nat}{d:bl}(h:l[i]?=some d):to l i=dt l d.e:=by simp[to,h]
def IL{l:List ByteArray}{i:Nat}{s:ByteArray}(h:l[i]?=some s):bk 1 (dk l) (J (i:Int))=some [aQ s]:=by simp[dk,h]
def IM(l:List ByteArray):bF (dk l)=some (J l.length):=by simp[dk]
def atG(n:Nat)(l:List bl)(t:Tm){B:Nat}(an:l.length<=B)(bq:t.cz)(aF:t.bD<=B)(ep:B<=1000000)(aC:2*B+100<n):HB n [t.d,aM l]=some (c2 (dt l t)):=by
 have cd:=Tx n t (by omega) bq (by omega);have cf:=Dx t;have ag:=c8 (f:=Hz n) (fE 3 t []) (λi (s:List Nat)=>[aM l,j5 true (fE 3 t []),J (i:Int),c2 s]) (λr s=>(.inl [c2 (s++r.filterMap (db l))]:List D⊕D)) (λi s=>s.length<=i) (λs _=>by simp[Hz,nG,c2]) ?_ n 0 [] (by simp) (by omega) (xai _)
 .have bO:(J ((0:Nat):Int))=J 0:=rfl;have aN:c2 []=D.aA 1 []:=rfl;have fT:∀x,D.aA 1 (aB (c2 x))=c2 x:=λ_=>rfl;rw[bO,aN]at ag;simp only[xap,xaI]at ag;simp only[HB,aak,go_sem,cd,ag,fT];rfl
 intro i a s aH ag av;have ae:=AN (nl:=true) aH;have e8:=acs n l a (by omega) (by omega);have fT:∀x,D.aA 1 (aB (c2 x))=c2 x:=λ_=>rfl;left;cases az:db l a with
 |none=>rw[az]at e8;refine⟨s,?_,by simp[az],by omega⟩;simp only[Hz,go_sem,nG,yT ((i:Int)<((fE 3 t []).length:Int)),ae,iA,e8,yF ((-1:Int)>=0),fT,cc (bt:=false) (i:=i) (by omega)]
 |some k=>
  rw[az]at e8;have dw:cJ (s.length+1) 8=true:=eW (by omega) (by omega);have aV:D.aA 1 (aB (c2 s)++[[J (k:Int)]])=c2 (s++[k]):=by simp[c2]
  have bS:(aB (c2 s)).length=s.length:=by simp[c2]
  refine⟨s++[k],?_,by simp[az],by simp;omega⟩;simp only[Hz,go_sem,nG,yT ((i:Int)<((fE 3 t []).length:Int)),ae,iA,e8,yT ((k:Int)>=0),fT,aV,bS,xak,xar,xaE,dw,cc (bt:=false) (i:=i) (by omega)]
def acu(n:Nat)(l:List Nat)(k:Nat)(d:D)(az:d=c2 l\/(l=[]/\d=cS))(an:l.length<1000000000)(aC:l.length+5<n):xf n [d,J (k:Int)]=some (ay (decide (k∈l))):=by
 rcases az with rfl|⟨rfl,rfl⟩
 case inr=>obtain⟨m,rfl⟩:∃m,n=m+1:=⟨n-1,by omega⟩;simp[xf,Si,kK,CP]
 have ag:=c8 (f:=CP n) l (λi (_:Unit)=>[c2 l,J (k:Int),J (i:Int)]) (λr _=>if k∈r then(.inr (ay true):List D⊕D)else .inl []) (λi s=>True) (λs _=>by simp[CP,pz]) ?_ n 0 () trivial (by omega) (xai _);.have bO:(J ((0:Nat):Int))=J 0:=rfl;rw[bO]at ag;simp only[xap]at ag;by_cases h:k∈l<;>simp only[h,xaz,xaA]at ag<;>simp[xf,Si,ag,h]
 intro i a s aH ag _;have ae:=uT aH;by_cases acv:a=k
 .right;subst acv;simp[CP,pz,ag,ae]
 left;have atH:¬((a:Int)=(k:Int)):=by omega
 have atI:¬k=a:=λh=>acv h.symm;refine⟨(),by simp[CP,pz,ag,ae,atH,cc (bt:=false) (i:=i) (by omega)],by simp[atI],trivial⟩
def atJ(n:Nat)(l:List bl){B:Nat}(an:hQ B l)(aC:4*B+200<n):Gx n [aM l]=some (hC (l.map λd=>dt l d.e)):=by
 have bH:=an.len;have tI:=an.b;obtain⟨M,gd,jm,IN⟩:=Tz n l (by omega) (by omega);have fT:∀x,D.aA 1 (aB (c2 x))=c2 x:=λ_=>rfl;have Ns:∀x,D.aA 1 (aB (hC x))=hC x:=λ_=>rfl;have ag:=c8 (f:=LO n) l (λi (s:List (List Nat))=>[.mp M,aM l,J l.length,J (i:Int),hC s]) (λr s=>(.inl [hC (s++r.map λd=>dt l d.e)]:List D⊕D)) (λi s=>s.length=i) (λs _=>by simp[LO,hC]) ?_ n 0 [] rfl (by omega) (xai _)
 .have bO:(J ((0:Nat):Int))=J 0:=rfl;have aN:hC []=D.aA 1 []:=rfl;rw[bO,aN]at ag;simp only[xap,xaI]at ag;simp only[Gx,ZO,go_sem,gd,dT,ag,Ns]
 intro i a acc aH ag atK;have hm:=xac aH;have atL:=an.e a hm;have cd:=No n a.e (by omega) atL.1 (by omega);have cf:=Dx a.e;have aG:=c8 (f:=Gw n) (fE 3 a.e []) (λj (s:List Nat)=>[.mp M,aM l,J l.length,J (i:Int),dk (fE 3 a.e []),J (fE 3 a.e []).length,J (j:Int),hC acc,c2 s]) (λr s=>(.inl [.mp M,aM l,J l.length,J (i:Int),hC acc,c2 (s++r.filterMap (db l))]:List D⊕(List D⊕(List D⊕(List D⊕D))))) (λj s=>s.length<=j) (λs _=>by simp[Gw,c2,hC]) ?_ n 0 [] (by simp) (by omega) (xai _)
 .have bO:(J ((0:Nat):Int))=J 0:=rfl;have aN:c2 []=D.aA 1 []:=rfl;rw[bO,aN]at aG;simp only[xap,xaI]at aG;have dw:cJ (acc.length+1) 24=true:=eW (by omega) (by omega);have aV:D.aA 1 (aB (hC acc)++[[c2 (dt l a.e)]])=hC (acc++[dt l a.e]):=by simp[hC]
  have bS:(aB (hC acc)).length=acc.length:=by simp[hC]
  have cT:(fE 3 a.e []).filterMap (db l)=dt l a.e:=rfl;have fW:∀x,bT (c2 x)=true:=λ_=>rfl;rw[cT]at aG;left;refine⟨acc++[dt l a.e],?_,by simp,by simp[atK]⟩;simp only[LO,go_sem,yT ((i:Int)<(l.length:Int)),e2 aH,bl.aml,bl.agg,bl.bh,bl.bo,bl.bC,bl.b5,Tm.FY,cd,IM,Ns,aG,fT,fW,aV,bS,xak,xar,xaE,dw,cc (bt:=false) (i:=i) (by omega)]
 intro j b s ak aG av;have ae:=IL ak;have gm:=Cg jm (z:= .int .i64 0) (x:=b);have acw:=IN b;left;cases az:db l b with
 |none=>rw[acw,az]at gm;simp only[xbs]at gm;refine⟨s,?_,by simp[az],by omega⟩;simp only[Gw,go_sem,yT ((j:Int)<((fE 3 a.e []).length:Int)),ae,iA,mB,gm,fT,Ns,cc (bt:=false) (i:=j) (by omega)]
 |some k=>
  rw[acw,az]at gm;simp only[xaK]at gm;have dw:cJ (s.length+1) 8=true:=eW (by omega) (by omega);have aV:D.aA 1 (aB (c2 s)++[[J (k:Int)]])=c2 (s++[k]):=by simp[c2]
  have bS:(aB (c2 s)).length=s.length:=by simp[c2]
  refine⟨s++[k],?_,by simp[az],by simp;omega⟩;simp only[Gw,go_sem,yT ((j:Int)<((fE 3 a.e []).length:Int)),ae,iA,mB,gm,fT,Ns,aV,bS,xak,xar,xaE,dw,cc (bt:=false) (i:=j) (by omega)]
def hr(to:Nat->List Nat):Nat->List Nat->List Nat->List Nat
 |0,_,S=>S|n+1,ks,S=>ks.foldl (λS k=>if k∈S then S else hr to n (to k) (S++[k])) S
inductive j6(to:Nat->List Nat):Nat->Nat->Prop where
 |refl (i:Nat):j6 to i i
 |step (i j k:Nat) (h:j∈to i) (bs:j6 to j k):j6 to i k
def j6.trans{to:Nat->List Nat}{i j k:Nat}(h:j6 to i j)(bs:j6 to j k):j6 to i k:=by induction h with|refl=>exact bs|step a b c jK _ ih=>exact .step a b _ jK (ih bs)
def iD(N:Nat)(S:List Nat):Prop:=S.Nodup/\∀x∈S,x<N
def acx:∀(N:Nat)(S:List Nat),S.Nodup->(∀x∈S,x<N)->S.length<=N
 |0,S,_,h=>by cases S with|nil=>simp|cons a r=>exact absurd (h a (by simp)) (xaF _)
 |N+1,S,aC,h=>by
  have ab:=acx N (S.erase N) (aC.erase N) (λx ae=>by
   have ad:=h x (List.mem_of_mem_erase ae);have ax:x≠N:=by rintro rfl;exact aC.not_mem_erase ae
   omega)
  have a8:=List.length_erase (a:=N) (l:=S);split at a8<;>omega
def iD.len{N:Nat}{S:List Nat}(h:iD N S):S.length<=N:=acx N S h.1 h.2
def iD.lt{N k:Nat}{S:List Nat}(h:iD N S)(ah:k<N)(aC:k∉S):S.length<N:=by have ad:iD N (S++[k]):=⟨by rw[List.nodup_append];exact⟨h.1,by simp,by intro a aH b ak;simp at ak;subst ak;rintro rfl;exact aC aH⟩,by intro x ae;rcases xaL.1 ae with ae|ae;exact h.2 x ae;simp at ae;omega⟩;have:=ad.len;simp at this;omega
def iD.snoc{N k:Nat}{S:List Nat}(h:iD N S)(ah:k<N)(aC:k∉S):iD N (S++[k]):=⟨by rw[List.nodup_append];exact⟨h.1,by simp,by intro a aH b ak;simp at ak;subst ak;rintro rfl;exact aC aH⟩,by intro x ae;rcases xaL.1 ae with ae|ae;exact h.2 x ae;simp at ae;omega⟩
structure acy(to:Nat->List Nat)(N:Nat)(ks S eE:List Nat):Prop where
 inv:iD N eE
 pre:∃T,eE=S++T
 mem:∀k∈ks,k∈eE
 vC:∀x∈eE,x∉S->∀y∈to x,y∈eE
 r5:∀x∈eE,x∈S\/∃k∈ks,j6 to k x
def Dz{to:Nat->List Nat}{N:Nat}(kH:∀i,∀k∈to i,k<N):∀(n:Nat)(ks S:List Nat),iD N S->(∀k∈ks,k<N)->N-S.length<n->acy to N ks S (hr to n ks S)
 |0,_,_,_,_,h=>absurd h (xaF _)
 |n+1,ks,S,cb,ea,aC=>by
  rw[hr]
  induction ks generalizing S with
  |nil=>exact⟨cb,⟨[],by simp⟩,by simp,λx ae aC=>absurd ae aC,λx ae=> .inl ae⟩
  |cons k r ih=>
   rw[xbW];by_cases ah:k∈S
   .rw[xaa ah];have h:=ih S cb (λx ae=>ea x (by simp[ae])) aC;obtain⟨T,bb⟩:=h.pre;refine⟨h.inv,h.pre,?_,h.vC,λx ae=>?_⟩
    .intro x ae;rcases xas.1 ae with rfl|ae
     .rw[bb];simp[ah]
     exact h.mem x ae
    rcases h.r5 x ae with ab|⟨j,ab,ad⟩;.exact .inl ab
    exact .inr ⟨j,by simp[ab],ad⟩
   rw[xab ah];have oO:=ea k (by simp);have bZ:=cb.lt oO ah;have aq:=Dz kH n (to k) (S++[k]) (cb.snoc oO ah) (kH k) (by simp;omega);obtain⟨e9,DA⟩:=aq.pre;have h:=ih (hr to n (to k) (S++[k])) aq.inv (λx ae=>ea x (by simp[ae])) (by rw[DA];simp;omega);obtain⟨T,bb⟩:=h.pre;have atM:k∈hr to n (to k) (S++[k]):=by rw[DA];simp
   refine⟨h.inv,⟨[k]++e9++T,by rw[bb,DA];simp⟩,?_,?_,?_⟩
   .intro x ae;rcases xas.1 ae with rfl|ae
    .rw[bb];exact xbU _ atM
    exact h.mem x ae
   .intro x ae TA y aP;by_cases acz:x∈hr to n (to k) (S++[k])
    .by_cases Nt:x∈S++[k]
     .have atN:x=k:=by
       rcases xaL.1 Nt with h|h;.exact absurd h TA
       simpa using h
      subst atN;rw[bb];exact xbU _ (aq.mem y aP)
     rw[bb];exact xbU _ (aq.vC x acz Nt y aP)
    exact h.vC x ae acz y aP
   intro x ae;rcases h.r5 x ae with ab|⟨j,ab,ad⟩
   .rcases aq.r5 x ab with ax|⟨j,ax,a8⟩
    .rcases xaL.1 ax with ax|ax;.exact .inl ax
     simp at ax;subst ax;exact .inr ⟨x,by simp,.refl x⟩
    exact .inr ⟨k,by simp,.step k j x ax a8⟩
   exact .inr ⟨j,by simp[ab],ad⟩
def TB{to:Nat->List Nat}{N:Nat}(kH:∀i,∀k∈to i,k<N):∀(n m:Nat)(ks S:List Nat),iD N S->(∀k∈ks,k<N)->N-S.length<n->N-S.length<m->hr to n ks S=hr to m ks S
 |0,_,_,_,_,_,h,_=>absurd h (xaF _)|_+1,0,_,_,_,_,_,h=>absurd h (xaF _)
 |n+1,m+1,ks,S,cb,ea,aC,hm=>by
  rw[hr,hr]
  induction ks generalizing S with
  |nil=>rfl
  |cons k r ih=>
   rw[xbW,xbW];by_cases ah:k∈S;.rw[xaa ah,xaa ah];exact ih S cb (λx ae=>ea x (by simp[ae])) aC hm
   rw[xab ah,xab ah];have oO:=ea k (by simp);have bZ:=cb.lt oO ah;have e:=TB kH n m (to k) (S++[k]) (cb.snoc oO ah) (kH k) (by simp;omega) (by simp;omega);have aq:=Dz kH n (to k) (S++[k]) (cb.snoc oO ah) (kH k) (by simp;omega);obtain⟨e9,DA⟩:=aq.pre;rw[<-e];exact ih _ aq.inv (λx ae=>ea x (by simp[ae])) (by rw[DA];simp;omega) (by rw[DA];simp;omega)
def kT(l:List bl)(ks:List Nat):List Nat:=hr (to l) (l.length+1) ks []
def xC(l:List bl)(ks:List Nat)(ah:∀k∈ks,k<l.length):acy (to l) l.length ks [] (kT l ks):=Dz (λi k ah=>lb i k ah) _ ks [] ⟨by simp,by simp⟩ ah (by simp)
def vD(l:List bl)(ks:List Nat)(ah:∀k∈ks,k<l.length)(x:Nat):x∈kT l ks↔∃k∈ks,j6 (to l) k x:=by
 have h:=xC l ks ah;constructor
 .intro ae;rcases h.r5 x ae with ab|ab
  .cases ab
  exact ab
 rintro⟨k,e1,au⟩;have gA:∀a b,j6 (to l) a b->a∈kT l ks->b∈kT l ks:=by
  intro a b jK
  induction jK with|refl=>exact λh=>h|step i j k kG _ ih=>exact λag=>ih (h.vC i ag (by simp) j kG)
 exact gA k x au (h.mem k e1)
def jb(l:List bl)(i:Nat):Bool:=decide (i∈kT l (to l i))
def TC(l:List bl)(i:Nat):jb l i=true↔∃k∈to l i,j6 (to l) k i:=by unfold jb;rw[xaG,vD l _ (lb i)]
def acA{to:Nat->List Nat}:∀(n:Nat)(ks S:List Nat),∃T,hr to n ks S=S++T
 |0,ks,S=>⟨[],by simp[hr]⟩
 |n+1,ks,S=>by
  rw[hr]
  induction ks generalizing S with
  |nil=>exact⟨[],by simp⟩
  |cons k r ih=>
   rw[xbW];split;.exact ih S
   obtain⟨e9,aq⟩:=acA n (to k) (S++[k]);obtain⟨T,bb⟩:=ih (hr to n (to k) (S++[k]));exact⟨[k]++e9++T,by rw[bb,aq];simp⟩
def kU(S:List Nat)(d:D)(s:List Nat):D:=if s.length=S.length then d else c2 s
def TD(l:List bl){B:Nat}(an:hQ B l):∀(n:Nat)(t:Tm)(S:List Nat)(d:D),d=c2 S\/(S=[]/\d=cS)->t.cz->t.bD<=B->iD l.length S->l.length-S.length+4*B+300<n->qs n [t.d,aM l,d]=some (kU S d (hr (to l) n (dt l t) S))
 |0,_,_,_,_,_,_,_,h=>absurd h (xaF _)
 |n+1,t,S,d,az,bq,aF,cb,aC=>by
  have bH:=an.len;have tI:=an.b;have Nu:=Nr l t;have atO:=atG n l t bH bq aF tI (by omega);have atP:∀T,kU S d (S++T)=c2 (S++T)\/(S++T=[]/\kU S d (S++T)=cS):=by
   intro T;unfold kU;split
   .rename_i h;have:T=[]:=by simpa using h
    subst this;rcases az with rfl|⟨rfl,rfl⟩
    .left;simp
    right;simp
   exact .inl rfl
  have bO:(J ((0:Nat):Int))=J 0:=rfl;have DB:kU S d S=d:=by simp[kU]
  rw[hr];have en:=c8 (f:=HC (qs n) n) (dt l t) (λi (s:List Nat)=>[aM l,kU S d s,c2 (dt l t),J (i:Int)]) (λr s=>(.inl [kU S d (r.foldl (λS k=>if k∈S then S else hr (to l) n (to l k) (S++[k])) s)]:List D⊕D)) (λi s=>iD l.length s/\∃T,s=S++T) (λs _=>by simp[HC,pz]) ?_ n 0 S ⟨cb,[],by simp⟩ (by omega) (xai _)
  .rw[bO,DB]at en;simp only[xap]at en;show Mu (qs n) n t.d (aM l) d=_;simp only[Mu,go_sem,atO,en]
  rintro i k s ah ag ⟨ab,T,bb⟩;have ny:=xac ah;have oO:=nd k ny;obtain⟨Nv,Br⟩:∃Nv,l[k]?=some Nv:=⟨l[k],xad oO⟩;have hs:=an.e Nv (xac Br);have hF:=ab.len;have ax:=atP T;rw[<-bb]at ax;have aBf:S.length<=s.length:=by rw[bb];simp
  have Nw:=acu n s k (kU S d s) ax (by omega) (by omega);left;by_cases ea:k∈s
  .refine⟨s,?_,?_,ab,T,bb⟩;.simp only[HC,go_sem,pz,yT ((i:Int)<((dt l t).length:Int)),uT ah,iA,Nw,xal ea,cc (bt:=false) (i:=i) (by omega)]
   simp only[xbW,xaa ea]
  have bZ:=ab.lt oO ea;have IP:=ab.snoc oO ea;have g1:=TD l an n Nv.e (s++[k]) (c2 (s++[k])) (.inl rfl) hs.1 hs.2 IP (by simp;omega);have fb:=Dz (λi k ah=>lb i k ah) n (to l k) (s++[k]) IP (λx ae=>lb k x ae) (by simp;omega);rw[<-Dy Br]at g1;obtain⟨TE,IQ⟩:=acA (to:=to l) n (to l k) (s++[k]);have g2:kU (s++[k]) (c2 (s++[k])) (hr (to l) n (to l k) (s++[k]))=c2 (hr (to l) n (to l k) (s++[k])):=by
   unfold kU;split
   .rename_i h;rw[IQ]at h⊢;have:TE=[]:=by simpa using h
    subst this;simp
   rfl
  have g3:kU S d (hr (to l) n (to l k) (s++[k]))=c2 (hr (to l) n (to l k) (s++[k])):=by unfold kU;rw[xab];rw[IQ,bb];simp<;>omega
  rw[g2]at g1;obtain⟨q,bG,bw⟩:∃q,l3 (kU S d s)=some (q,s.map λ(i:Nat)=>[J (i:Int)])/\(decide (q=1\/(s.map λ(i:Nat)=>[J (i:Int)])=[])&&decide (0<1))=true:=by
   rcases ax with ax|⟨ax,a8⟩;.rw[ax];exact⟨1,rfl,by simp⟩
   rw[a8,ax];exact⟨0,rfl,by simp⟩
  have atQ:cJ (s.map λ(i:Nat)=>[J (i:Int)]).length 8=true:=eW (by simp;omega) (by simp;omega);have atS:cJ ((s.map λ(i:Nat)=>[J (i:Int)]).length+1) 8=true:=eW (by simp;omega) (by simp;omega);have aV:D.aA 1 ((s.map λ(i:Nat)=>[J (i:Int)])++[[J (k:Int)]])=c2 (s++[k]):=by simp[c2]
  refine⟨hr (to l) n (to l k) (s++[k]),?_,?_,fb.inv,T++[k]++TE,?_⟩;.rw[g3];simp only[HC,go_sem,pz,yT ((i:Int)<((dt l t).length:Int)),uT ah,iA,Nw,xan ea,e2 Br,bl.hB,bG,bw,xar,atQ,xaI,xak,xaE,atS,aV,g1,cc (bt:=false) (i:=i) (by omega)]
  .simp only[xbW,xab ea]
  rw[IQ,bb];simp
def atT(l:List bl){B:Nat}(an:hQ B l)(n:Nat)(i:Nat)(ag:i<l.length)(aC:6*B+400<n):HE n [aM l,J (i:Int)]=some (ay (jb l i)):=by
 have bH:=an.len;have tI:=an.b;obtain⟨d,az⟩:∃d,l[i]?=some d:=⟨l[i],xad ag⟩;have hs:=an.e d (xac az);have ak:=TD l an n d.e [] cS (.inr ⟨rfl,rfl⟩) hs.1 hs.2 ⟨by simp,by simp⟩ (by simp;omega);have ba:=TB (λi k ah=>lb (l:=l) i k ah) n (l.length+1) (dt l d.e) [] ⟨by simp,by simp⟩ nd (by simp;omega) (by simp);have fb:=xC l (dt l d.e) nd;have gA:=fb.inv.len;rw[ba]at ak;have ai:hr (to l) (l.length+1) (dt l d.e) []=kT l (dt l d.e):=rfl;rw[ai]at ak;have Nw:=acu n (kT l (dt l d.e)) i (kU [] cS (kT l (dt l d.e))) (by
  unfold kU;split;.rename_i h;exact .inr ⟨xaM h,rfl⟩
  exact .inl rfl) (by omega) (by omega)
 simp only[HE,aal,go_sem,e2 az,bl.hB,ak,Nw,jb,Dy az]
def TF(l:List bl){B:Nat}(an:hQ B l):∀(n:Nat)(i:Nat)(S:List Nat)(M:List (Value×D)),i<l.length->bY M S->iD l.length S->l.length-S.length+2*B+100<n-> ∃ec,rE n [J (i:Int),hC (l.map λd=>dt l d.e),.mp M]=some [D.aO [],hC (l.map λd=>dt l d.e),.mp ec]/\bY ec (hr (to l) n (to l i) S)
 |0,_,_,_,_,_,_,h=>absurd h (xaF _)
 |n+1,i,S,M,ag,cH,cb,aC=>by
  have bH:=an.len;have tI:=an.b;obtain⟨d,az⟩:∃d,l[i]?=some d:=⟨l[i],xad ag⟩;have hs:=an.e d (xac az);have Nu:=Nr l d.e;have ae:bk 1 (hC (l.map λd=>dt l d.e)) (J (i:Int))=some [c2 (dt l d.e)]:=amm (by simp[az]);have bO:(J ((0:Nat):Int))=J 0:=rfl;rw[Dy az,hr];have key:∀(m j:Nat)(s:List Nat)(M:List (Value×D)),bY M s->iD l.length s->S.length<=s.length->(dt l d.e).length-j<m->j<=(dt l d.e).length-> ∃ec,bI (Gy (rE n) n) m [c2 (dt l d.e),J (dt l d.e).length,J (j:Int),hC (l.map λd=>dt l d.e),.mp M]=some (.inl [hC (l.map λd=>dt l d.e),.mp ec])/\bY ec (((dt l d.e).drop j).foldl (λS k=>if k∈S then S else hr (to l) n (to l k) (S++[k])) s):=by
   intro m
   induction m with
   |zero=>intro j s M _ _ _ h _;exact absurd h (xaF _)
   |succ m ih=>
    intro j s M cH av Na hm aG;rw[kK];by_cases cn:j<(dt l d.e).length
    .have ah:=xad cn;generalize (dt l d.e)[j]=k at ah;have ny:=xac ah;have oO:=nd k ny;have AP:(dt l d.e).drop j=k::(dt l d.e).drop (j+1):=by
      obtain⟨bG,bw⟩:=xae.1 ah;rw[xaU bG,bw]
     rw[AP,xbW];have tJ:=cH.look (i:=k) (z:= .bool false);by_cases ea:k∈s
     .rw[xaa ea];obtain⟨ec,g1,g2⟩:=ih (j+1) s M cH av Na (by omega) cn;refine⟨ec,?_,g2⟩;simp only[Gy,go_sem,yT ((j:Int)<((dt l d.e).length:Int)),uT ah,iA,tJ,xal ea,cc (bt:=false) (i:=j) (by omega),g1]
     rw[xab ea];obtain⟨vE,eJ,dV⟩:=cH.put k;rw[xab ea]at dV;have IP:=av.snoc oO ea;have bZ:=av.lt oO ea;obtain⟨M2,eL,eM⟩:=TF l an n k (s++[k]) vE oO dV IP (by simp;omega);have fb:=Dz (λi k ah=>lb i k ah) n (to l k) (s++[k]) IP (λx ae=>lb k x ae) (by simp;omega);obtain⟨TE,IQ⟩:=fb.pre;obtain⟨ec,g1,g2⟩:=ih (j+1) _ M2 eM fb.inv (by rw[IQ];simp;omega) (by omega) cn;refine⟨ec,?_,g2⟩;simp only[Gy,go_sem,yT ((j:Int)<((dt l d.e).length:Int)),uT ah,iA,tJ,xan ea,eJ,eL,cc (bt:=false) (i:=j) (by omega),g1]
    have:j=(dt l d.e).length:=by omega
    subst this;refine⟨M,?_,by simpa using cH⟩;simp only[Gy,go_sem,yF (((dt l d.e).length:Int)<(dt l d.e).length)]
  obtain⟨ec,g1,g2⟩:=key n 0 S M cH cb (xaQ _) (by omega) (xai _);rw[bO]at g1;refine⟨ec,?_,by simpa using g2⟩;show LP (rE n) n _=_;simp only[LP,go_sem,ae,iA,pz,g1]
inductive xD(o:Int)(x:ByteArray):Tm->Prop where
 |here (t:Tm) (h:t.op=o) (bs:t.name=x):xD o x t
 |eY (t k:Tm) (h:k∈t.aW) (bs:xD o x k):xD o x t
def Nx{s x:ByteArray}:∀{l:List ByteArray},x∈hq s l↔x=s\/x∈l
 |[]=>by simp[hq]
 |a::r=>by
  rw[hq];split;.rename_i h;subst h;simp
  split;.simp
  rw[xas,Nx,xas];constructor
  .rintro(h|h|h);.exact .inr (.inl h)
   .exact .inl h
   exact .inr (.inr h)
  rintro(h|h|h);.exact .inr (.inl h)
  .exact .inl h
  exact .inr (.inr h)
def acB(o:Int)(x:ByteArray)(t:Tm):∀l,x∈fE o t l↔x∈l\/xD o x t:=by
 refine Tm.ind (P:=λt=>∀l,x∈fE o t l↔x∈l\/xD o x t) ?_ t;intro t ih l;have key:∀(ks:List Tm),(∀k∈ks,∀l,x∈fE o k l↔x∈l\/xD o x k)->∀l,x∈mN o ks l↔x∈l\/∃k∈ks,xD o x k:=by
  intro ks
  induction ks with
  |nil=>intro _ l;simp[mN]
  |cons a r lK=>intro h l;rw[mN,lK (λk ah=>h k (by simp[ah])),h a (by simp)];simp only[xas,exists_eq_or_imp,or_assoc]
 rw[Nn,key t.aW ih];constructor
 .rintro(h|⟨k,ah,h⟩)
  .split at h
   .rename_i aR;rcases Nx.1 h with rfl|h
    .exact .inr (.here t aR rfl)
    exact .inl h
   exact .inl h
  exact .inr (.eY t k ah h)
 rintro(h|h)
 .left;split;.exact Nx.2 (.inr h)
  exact h
 cases h with|here _ ab ad=>left;rw[xaa ab];exact Nx.2 (.inl ad.symm)|eY _ k ah h=>exact .inr ⟨k,ah,h⟩
def Ny{l:List bl}{t:Tm}{i:Nat}:i∈dt l t↔∃x,xD 3 x t/\db l x=some i:=by
 unfold dt;rw[List.mem_filterMap];constructor;.rintro⟨x,ab,ad⟩;exact⟨x,((acB 3 x t []).1 ab).resolve_left (by simp),ad⟩
 rintro⟨x,ab,ad⟩;exact⟨x,(acB 3 x t []).2 (.inr ab),ad⟩
def TG{l:List bl}{t k:Tm}(ah:k∈t.aW):∀i∈dt l k,i∈dt l t:=by intro i ag;obtain⟨x,ab,ad⟩:=Ny.1 ag;exact Ny.2 ⟨x,.eY t k ah ab,ad⟩
def xE(l:List bl)(t:Tm):Bool:=t.op==3&&(db l t.name).isSome
def j7(l:List bl):Nat->Tm->Tm->Prop
 |0,_,_=>False|h+1,t,X=>(t.op=3/\∃i d,db l t.name=some i/\l[i]?=some d/\j7 l h d.e X)\/(xE l t=false/\∃ks,X= .mk t.op t.num t.name t.nl ks/\ks.length=t.aW.length/\∀(j:Nat)(a b:Tm),t.aW[j]?=some a->ks[j]?=some b->j7 l h a b)
def j7.mono{l:List bl}:∀{h bs:Nat}{t X:Tm},h<=bs->j7 l h t X->j7 l bs t X
 |0,_,_,_,_,H=>H.elim|h+1,0,_,_,hle,_=>absurd hle (by omega)
 |h+1,bs+1,t,X,hle,H=>by
  rcases H with⟨ab,i,d,ad,ax,a8⟩|⟨ab,ks,ad,ax,a8⟩;.exact .inl ⟨ab,i,d,ad,ax,a8.mono (by omega)⟩
  exact .inr ⟨ab,ks,ad,ax,λj a b aH ak=>(a8 j a b aH ak).mono (by omega)⟩
def acC:∀{A B:List Nat},A.Nodup->(∀x∈A,x∈B)->A.length<=B.length
 |[],B,_,_=>by simp
 |a::A,B,aC,h=>by
  have aH:=h a (by simp);have ab:=acC (A:=A) (B:=B.erase a) (List.nodup_cons.1 aC).2 (λx ae=>by
   have cf:x≠a:=by rintro rfl;exact(List.nodup_cons.1 aC).1 ae
   exact(List.mem_erase_of_ne cf).2 (h x (by simp[ae])))
  have ad:=List.length_erase_of_mem aH;have ax:0<B.length:=List.length_pos_of_mem aH;simp;omega
def AQ(l:List bl)(i:Nat):Nat:=(kT l (to l i)).length
def atU{l:List bl}{i j:Nat}(aG:j∈to l i)(au:jb l j=false):AQ l j<AQ l i:=by
 have ag:=xC l (to l i) (lb i);have atV:=xC l (to l j) (lb j);have atW:j∉kT l (to l j):=by
  intro h;have:jb l j=true:=by simp[jb,h]
  rw[au]at this;cases this
 have kS:∀x∈kT l (to l j)++[j],x∈kT l (to l i):=by
  intro x ae;rcases xaL.1 ae with ae|ae
  .obtain⟨k,ab,ad⟩:=(vD l _ (lb j) x).1 ae;exact(vD l _ (lb i) x).2 ⟨j,aG,.step j k x ab ad⟩
  simp at ae;subst ae;exact ag.mem _ aG
 have:=acC (A:=kT l (to l j)++[j]) (B:=kT l (to l i)) (by rw[List.nodup_append];exact⟨atV.inv.1,by simp,by intro a aH b ak;simp at ak;subst ak;rintro rfl;exact atW aH⟩) kS;simp at this;unfold AQ;omega
def DC(l:List bl)(t:Tm):Prop:=∀x∈kT l (dt l t),jb l x=false
def TH{α:Type}{P:Nat->Tm->α->Prop}:∀(ks:List Tm),(∀(j:Nat)(a:Tm),ks[j]?=some a->∃b,P j a b)->∃r:List α,r.length=ks.length/\∀(j:Nat)(a:Tm)(b:α),ks[j]?=some a->r[j]?=some b->P j a b
 |[],_=>⟨[],rfl,by intro j a b h;simp at h⟩
 |k::r,h=>by obtain⟨b,ak⟩:=h 0 k rfl;obtain⟨gb,ab,ad⟩:=TH (P:=λj=>P (j+1)) r (λj a aH=>h (j+1) a (by simpa using aH));refine⟨b::gb,by simp[ab],?_⟩;intro j a c aH ai;cases j with|zero=>simp at aH ai;subst aH;subst ai;exact ak|succ j=>exact ad j a c (by simpa using aH) (by simpa using ai)
def atX{l:List bl}{B:Nat}(an:hQ B l):∀(r:Nat)(t:Tm),t.bD<=B->DC l t->(∀k∈dt l t,AQ l k<r)->∃X,j7 l (r*(B+1)+t.bD) t X:=by
 intro r
 induction r with
 |zero=>
  intro t;refine Tm.ind (P:=λt=>t.bD<=B->DC l t->(∀k∈dt l t,AQ l k<0)->∃X,j7 l (0*(B+1)+t.bD) t X) ?_ t;intro t ih aF DD ah;have hX:dt l t=[]:=by cases h:dt l t with|nil=>rfl|cons a q=>exact absurd (ah a (by rw[h];simp)) (xaF _)
  have kB:xE l t=false:=by cases h:xE l t with|false=>rfl|true=>simp only[xE,xao,xbK,Option.isSome_iff_exists]at h;obtain⟨ab,i,ad⟩:=h;have:i∈dt l t:=Ny.2 ⟨_,.here t ab rfl,ad⟩;rw[hX]at this;cases this
  obtain⟨ks,ab,ad⟩:=TH (P:=λj a b=>j7 l (t.bD-1) a b) t.aW (λj a aH=>by
   have hm:=xac aH;have bm:=Tm.iZ hm;have acD:dt l a=[]:=by cases h:dt l a with|nil=>rfl|cons b q=>have:=TG hm b (by rw[h];simp);rw[hX]at this;cases this
   obtain⟨X,kq⟩:=ih a hm (by omega) (λx ae=>by rw[acD]at ae;simp[kT,hr]at ae) (by rw[acD];simp);exact⟨X,kq.mono (by omega)⟩)
  have bm:=t.kO;refine⟨.mk t.op t.num t.name t.nl ks,?_⟩;have e:0*(B+1)+t.bD=(t.bD-1)+1:=by omega
  rw[e];exact .inr ⟨kB,ks,rfl,ab,ad⟩
 |succ r lK=>
  intro t;refine Tm.ind (P:=λt=>t.bD<=B->DC l t->(∀k∈dt l t,AQ l k<r+1)->∃X,j7 l ((r+1)*(B+1)+t.bD) t X) ?_ t;intro t ih aF DD ah;have bm:=t.kO;have e:(r+1)*(B+1)+t.bD=((r+1)*(B+1)+(t.bD-1))+1:=by omega
  cases aC:xE l t with
  |true=>
   simp only[xE,xao,xbK,Option.isSome_iff_exists]at aC;obtain⟨ab,i,ad⟩:=aC;obtain⟨d,ax,a8,b3⟩:=RE ad;have ag:i∈dt l t:=Ny.2 ⟨_,.here t ab rfl,ad⟩;have kH:=Dy ax;have atY:=an.e d (xac ax);have gA:=xC l (dt l t) nd;obtain⟨X,kq⟩:=lK d.e atY.2 (λx ae=>DD x (by
    obtain⟨k,bG,bw⟩:=(vD l _ nd x).1 ae;rw[<-kH]at bG;exact(vD l _ nd x).2 ⟨i,ag,.step i k x bG bw⟩)) (λk dd=>by
    rw[<-kH]at dd;have q4:k∈kT l (dt l t):=(vD l _ nd k).2 ⟨i,ag,.step i k k dd (.refl k)⟩;have:=atU dd (DD k q4);have:=ah i ag;omega)
   refine⟨X,?_⟩;rw[e];exact .inl ⟨ab,i,d,ad,ax,kq.mono (by have:(r+1)*(B+1)=r*(B+1)+(B+1):=Nat.succ_mul _ _;omega)⟩
  |false=>
   obtain⟨ks,ab,ad⟩:=TH (P:=λj a b=>j7 l ((r+1)*(B+1)+(t.bD-1)) a b) t.aW (λj a aH=>by
    have hm:=xac aH;have aBg:=Tm.iZ hm;obtain⟨X,kq⟩:=ih a hm (by omega) (λx ae=>DD x (by obtain⟨k,bG,bw⟩:=(vD l _ nd x).1 ae;exact(vD l _ nd x).2 ⟨k,TG hm k bG,bw⟩)) (λk dd=>ah k (TG hm k dd))
    exact⟨X,kq.mono (by omega)⟩)
   refine⟨.mk t.op t.num t.name t.nl ks,?_⟩;rw[e];exact .inr ⟨aC,ks,rfl,ab,ad⟩
def atZ(l:List bl)(i:Nat):AQ l i<=l.length:=(xC l (to l i) (lb i)).inv.len
def at0{l:List bl}{B:Nat}(an:hQ B l){t:Tm}(aF:t.bD<=B)(h:DC l t):∃X,j7 l ((l.length+1)*(B+1)+B) t X:=by obtain⟨X,kq⟩:=atX an (l.length+1) t aF h (λk _=>by have:=atZ l k;omega);exact⟨X,kq.mono (by omega)⟩
mutual
def et:Tm->Int->Int->Tm×Int
 | .mk o m s b ks,deep,n=>if ks.isEmpty then(.mk o m s b ks,n+1)else(.mk o m s false (fL ks deep (n+1)).1,(fL ks deep (n+1)).2)
def fL:List Tm->Int->Int->List Tm×Int
 |[],_,n=>([],n)|k::r,deep,n=>if deep<=64/\n<=4096 then((et k (deep+1) n).1::(fL r deep (et k (deep+1) n).2).1,(fL r deep (et k (deep+1) n).2).2)else(e9::(fL r deep n).1,(fL r deep n).2)
end
mutual
def ga:Tm->Tm
 | .mk o m s b ks=> .mk o m s false (nH ks)
def nH:List Tm->List Tm
 |[]=>[]|k::r=>ga k::nH r
end
def acE:∀l:List Tm,(nH l).length=l.length
 |[]=>rfl|k::r=>by simp[nH,acE r]
def Nz:∀(l:List Tm)(d n:Int),(fL l d n).1.length=l.length
 |[],_,_=>rfl|k::r,d,n=>by rw[fL];split<;>simp[Nz r]
def at1(o m:Int)(s:ByteArray)(n:Nat):Int:=if(fQ o).1<0 then 11
 else if(m<(if o=1 then-255 else 0))\/m>(if o=1 then 255 else if o=2 then 1 else 0)then 2
 else if(if Du o then s=⟨#[]⟩\/s.size>24 else s≠⟨#[]⟩)then 12
 else if(n:Int)<(fQ o).1\/(n:Int)>(fQ o).2 then 3 else 0
theorem acF(o m:Int)(s:ByteArray)(b:Bool)(ks:List Tm):h0 (.mk o m s b ks)=at1 o m s ks.length:=rfl
def acG{o m:Int}{s:ByteArray}{b b':Bool}{ks ks':List Tm}(h:ks.length=ks'.length):h0 (.mk o m s b ks)=h0 (.mk o m s b' ks'):=by rw[acF,acF,h]
mutual
def TI:∀(X:Tm)(deep n:Int),n<=4096->(c4 (et X deep n).1 deep n).1=(c4 X deep n).1/\((c4 X deep n).1=0->(c4 X deep n).2=(et X deep n).2/\(c4 (et X deep n).1 deep n).2=(et X deep n).2/\Np (et X deep n).1 (ga X)=true)
 | .mk o m s b ks,deep,n,aC=>by
  rw[et];cases ks with
  |nil=>
   simp only[List.isEmpty_nil,xaz,true_and];intro h;rw[c4]at h⊢;split at h;.cases h
   split at h;.rename_i ad;exact absurd h ad
   split at h;.cases h
   rename_i ab ad ax;rw[xab ab,xab ad,xab ax];simp[eZ,ga,nH,acr,Tm.op,Tm.num,Tm.name,Tm.aW,AO]
  |cons k r=>
   simp only[List.isEmpty_cons,xaq,xaA];rw[c4,c4,acG (b':=b) (ks':=k::r) (Nz (k::r) deep (n+1))];by_cases ab:deep>64;.rw[xaa ab,xaa ab];simp
   rw[xab ab,xab ab];by_cases ad:h0 (.mk o m s b (k::r))≠0;.rw[xaa ad,xaa ad];exact⟨rfl,λh=>absurd h ad⟩
   rw[xab ad,xab ad];by_cases ax:n+1>4096;.rw[xaa ax,xaa ax];simp
   rw[xab ax,xab ax];obtain⟨g1,g2⟩:=acH (k::r) deep (n+1) (by omega) (by omega);refine⟨g1,λh=>?_⟩;obtain⟨bG,bw,cl⟩:=g2 h;refine⟨bG,bw,?_⟩;rw[acr];simp only[ga,Tm.op,Tm.num,Tm.name,Tm.aW,cl,Nz,acE];simp
def acH:∀(ks:List Tm)(deep n:Int),deep<=64->n<=4096->(eZ (fL ks deep n).1 (deep+1) n).1=(eZ ks (deep+1) n).1/\((eZ ks (deep+1) n).1=0->(eZ ks (deep+1) n).2=(fL ks deep n).2/\(eZ (fL ks deep n).1 (deep+1) n).2=(fL ks deep n).2/\AO (fL ks deep n).1 (nH ks)=true)
 |[],deep,n,_,_=>by simp[fL,eZ,nH,AO]
 |k::r,deep,n,az,aC=>by
  rw[fL,xaa ⟨az,aC⟩,eZ,eZ];obtain⟨g1,g2⟩:=TI k (deep+1) n aC;have aU:=Dv k (deep+1) n;by_cases h:(c4 k (deep+1) n).1=0
  .obtain⟨bG,bw,cl⟩:=g2 h;have bs:=g1.trans h;simp only[h,bs,ne_eq,xbI,xaA,bG,bw];have hle:(et k (deep+1) n).2<=4096:=by rw[<-bG];exact aU.2 h
   obtain⟨eJ,dV⟩:=acH r deep (et k (deep+1) n).2 az hle;refine⟨eJ,λh=>?_⟩;obtain⟨s1,s2,jZ⟩:=dV h;exact⟨s1,s2,by rw[nH,AO,cl,jZ];rfl⟩
  have bs:(c4 (et k (deep+1) n).1 (deep+1) n).1≠0:=by rw[g1];exact h
  simp only[ne_eq,h,bs,xce,xaz];exact⟨g1,λbU=>bU.elim⟩
end
def Tm.acI(l:List Tm)(t:Tm):Tm.rows (l++[t])=Tm.rows l++[t.cells]:=by simp[Tm.k6]
def at2(o m:Int)(s:ByteArray)(b:Bool)(ks:List Tm):ga (.mk o m s b ks)= .mk o m s false (nH ks):=by rw[ga]
def NA{α β:Type}{a:List α}{b:List β}{i:Nat}{x:α×β}(h:(a.zip b)[i]?=some x):a[i]?=some x.1/\b[i]?=some x.2:=by rw[List.getElem?_zip_eq_some]at h;exact h
def TJ{α β:Type}{a:List α}{b:List β}(h:b.length=a.length):(a.zip b).map (·.2)=b:=List.map_snd_zip (by omega)
def TK{l:List bl}{B:Nat}(an:hQ B l):∀(h n:Nat)(t X:Tm)(deep k:Int),j7 l h t X->t.cz->t.bD<=B->1<=deep->deep<=65->0<=k->k<=4096->h+2*B+100<n->rO n [t.d,aM l,J deep,J k]=some (.aO [if(c4 X deep k).1=0 then(ga X).d else e9.d,J (c4 X deep k).2,J (c4 X deep k).1])
 |0,_,_,_,_,_,H,_,_,_,_,_,_,_=>H.elim|h+1,0,_,_,_,_,_,_,_,_,_,_,_,aC=>absurd aC (xaF _)
 |h+1,n+1,t,X,deep,k,H,bq,aF,ab,ad,ax,a8,aC=>by
  have bH:=an.len;have tI:=an.b;have e8:=acs n l t.name (by omega) (by omega);have aU:=acd n t deep;have hzero:D.agg [J 0,J 0,aQ ⟨#[]⟩,D.val (.slice none 0 0)]=e9.d:=LB.symm;rcases H with⟨aR,i,d,ag,az,kq⟩|⟨hX,ks,rfl,ea,AR⟩
  .have hs:=an.e d (xac az);have au:=TK an h n d.e X deep k kq hs.1 hs.2 ab ad ax a8 (by omega);simp only[ag]at e8;show rN (rO n) n t.d (aM l) (J deep) (J k)=_;have DE:((3:Int)==3)=true:=rfl;by_cases aq:(c4 X deep k).1=0
   .simp only[aq,xaz]at au⊢;simp only[rN,go_sem,aR,DE,e8,yT ((i:Int)>=0),e2 az,bl.hB,au]
   simp only[aq,xaA]at au⊢;simp only[rN,go_sem,aR,DE,e8,yT ((i:Int)>=0),e2 az,bl.hB,au]
  have hw:h0 (.mk t.op t.num t.name t.nl ks)=h0 t:=by have:=acG (o:=t.op) (m:=t.num) (s:=t.name) (b:=t.nl) (b':=t.nl) ea;rw[this];cases t;rfl
  have IS:(t.op==3)=false/\True\/(t.op==3)=true/\xe n [aM l,aQ t.name]=some (J (-1)):=by
   by_cases ax:t.op=3
   .right;have TL:db l t.name=none:=by simpa[xE,ax]using hX
    rw[TL]at e8;exact⟨by simp[ax],e8⟩
   left;simp[ax]
  have IT:decide ((-1:Int)>=0)=false:=by decide
  show rN (rO n) n t.d (aM l) (J deep) (J k)=_;rw[vB,hw];by_cases bh:64<deep
  .have r6:((17:Int) !=0)=true:=rfl;rcases IS with⟨av,oP⟩|⟨av,oP⟩<;>
   simp only[rN,go_sem,av,oP,IT,lG (bt:=false) (i:=k) (by omega) (by omega),aU,gt_iff_lt,bh,hzero,r6,show¬((17:Int)=0) by omega]
  by_cases bo:h0 t=0
  case neg=>
   have r6:(h0 t !=0)=true:=by simpa using bo
   rcases IS with⟨av,oP⟩|⟨av,oP⟩<;>
   simp only[rN,go_sem,av,oP,IT,lG (bt:=false) (i:=k) (by omega) (by omega),aU,gt_iff_lt,bh,hzero,r6,bo,ne_eq,xce]
  have pN:((0:Int) !=0)=false:=rfl;by_cases bC:4096<k+1
  .rcases IS with⟨av,oP⟩|⟨av,oP⟩<;>
   simp only[rN,go_sem,av,oP,IT,lG (bt:=false) (i:=k) (by omega) (by omega),aU,gt_iff_lt,bh,hzero,bo,pN,ne_eq,xbI,decide_true,bC,show¬((4:Int)=0) by omega]
  have en:=c8 (f:=HF (rO n) n) (t.aW.zip ks) (λi (s:Int×List Tm)=>[aM l,J deep,J s.1,J (i:Int),J t.op,J t.num,aQ t.name,cF 4 t.nl (Tm.rows t.aW),J 0,J 0,aQ ⟨#[]⟩,cS,.aA 4 (Tm.rows s.2)]) (λr (s:Int×List Tm)=>if(eZ (r.map (·.2)) (deep+1) s.1).1=0 then(Sum.inl [J (eZ (r.map (·.2)) (deep+1) s.1).2,J t.op,J t.num,aQ t.name,cF 4 t.nl (Tm.rows t.aW),J 0,J 0,aQ ⟨#[]⟩,cS,.aA 4 (Tm.rows (s.2++nH (r.map (·.2))))]:List D⊕D)else .inr (.aO [e9.d,J (eZ (r.map (·.2)) (deep+1) s.1).2,J (eZ (r.map (·.2)) (deep+1) s.1).1])) (λi s=>0<=s.1/\s.1<=4096/\s.2.length=i) ?_ ?_ n 0 (k+1,[]) ⟨by simp;omega,by simp;omega,rfl⟩ (by have:=t.kO;simp[ea];omega) (xai _)
  .have bO:(J ((0:Nat):Int))=J 0:=rfl;have p6:Tm.rows []=[]:=rfl;simp only[xap,TJ ea,bO,p6,xaI]at en;have p3:(Tm.mk t.op t.num t.name t.nl ks).aW=ks:=rfl;have jT:(ga (.mk t.op t.num t.name t.nl ks)).d=D.agg [J t.op,J t.num,aQ t.name,.aA 4 (Tm.rows (nH ks))]:=by rw[at2,Tm.jF];simp[cF,Tm.op,Tm.num,Tm.name,Tm.nl,Tm.aW]
   by_cases aq:(eZ ks (deep+1) (k+1)).1=0
   .simp only[aq,xaz]at en;rcases IS with⟨av,oP⟩|⟨av,oP⟩<;>
    simp only[rN,go_sem,av,oP,IT,lG (bt:=false) (i:=k) (by omega) (by omega),aU,gt_iff_lt,bh,hzero,bo,pN,ne_eq,xbI,decide_false,bC,en,p3,aq,jT]
   simp only[aq,xaA]at en;rcases IS with⟨av,oP⟩|⟨av,oP⟩<;>
   simp only[rN,go_sem,av,oP,IT,lG (bt:=false) (i:=k) (by omega) (by omega),aU,gt_iff_lt,bh,hzero,bo,pN,ne_eq,xbI,decide_false,bC,en,p3,aq]
  .intro s _;have e:((t.aW.zip ks).length:Int)=t.aW.length:=by simp[ea]
   simp only[HF,go_sem,e,yF ((t.aW.length:Int)<t.aW.length),xbf,eZ,nH,xax]
  rintro i ⟨a,b⟩ s jK ag ⟨bG,bw,cl⟩;obtain⟨aH,ak⟩:=NA jK;simp only at aH ak;have hm:=xac aH;have bm:=Tm.iZ hm;have bH:=bq.len;have bX:(i:Int)<t.aW.length:=by have:=(xae.1 aH).1;omega
  have au:=TK an h n a b (deep+1) s.1 (AR i a b aH ak) (bq.eY hm) (by omega) (by omega) (by omega) bG bw (by omega);have hL:=Dv b (deep+1) s.1;have dw:cJ (s.2.length+1) 56=true:=eW (by omega) (by omega);by_cases aq:(c4 b (deep+1) s.1).1=0
  .simp only[aq,xaz]at au;left;refine⟨((c4 b (deep+1) s.1).2,s.2++[ga b]),?_,?_,by simp;omega,by simpa using hL.2 aq,by simp[cl]⟩;.have bS:[J (ga b).op,J (ga b).num,aQ (ga b).name,cF 4 (ga b).nl (Tm.rows (ga b).aW)]=(ga b).cells:=((ga b).oC).symm;simp only[HF,go_sem,xal bX,Tm.gW aH,lG (bt:=false) (i:=deep) (by omega) (by omega),au,pN,bS,Tm.acI,xak,xar,xaE,dw,cc (bt:=false) (i:=i) (by omega)]
   simp only[xay,eZ,aq,ne_eq,xbI,xaA,nH,xaP,xbc]
  simp only[aq,xaA]at au;have r6:((c4 b (deep+1) s.1).1 !=0)=true:=by simpa using aq
  right;simp only[HF,go_sem,xal bX,Tm.gW aH,lG (bt:=false) (i:=deep) (by omega) (by omega),au,r6,hzero,xay,eZ,ne_eq,aq,xce]
theorem TM(t:Tm)(deep n:Int):et t deep n=if t.aW.isEmpty then(t,n+1)else(.mk t.op t.num t.name false (fL t.aW deep (n+1)).1,(fL t.aW deep (n+1)).2):=by cases t;rw[et];rfl
def acJ(t:Tm):∀(deep n:Int),n+1<=(et t deep n).2/\(n<=4096->(et t deep n).2<=4097):=by
 refine Tm.ind (P:=λt=>∀(deep n:Int),n+1<=(et t deep n).2/\(n<=4096->(et t deep n).2<=4097)) ?_ t;intro t ih deep n;have key:∀(ks:List Tm),(∀k∈ks,∀(deep n:Int),n+1<=(et k deep n).2/\(n<=4096->(et k deep n).2<=4097))->∀(n:Int),n<=(fL ks deep n).2/\(n<=4097->(fL ks deep n).2<=4097):=by
  intro ks
  induction ks with
  |nil=>intro _ n;simp[fL]
  |cons a r lK=>
   intro h n;have ab:=h a (by simp) (deep+1) n;rw[fL];split
   .have ad:=lK (λk ah=>h k (by simp[ah])) (et a (deep+1) n).2;simp only;constructor;.omega
    intro _;exact ad.2 (by omega)
   exact lK (λk ah=>h k (by simp[ah])) n
 rw[TM];split;.simp only[Int.le_refl,true_and];omega
 have:=key t.aW ih (n+1);simp only;constructor;.omega
 intro _;exact this.2 (by omega)
def acK{l:List bl}{B:Nat}(an:hQ B l){M:List (Value×D)}(cH:Nq M l)(r:List D->Option (List D))(fI:Nat)(deep vF:Int):∀(h n:Nat)(t X:Tm),j7 l h t X->t.cz->t.bD<=B->h<n-> ∃(t':Tm)(bs:Nat)(ks:List Tm),bs<h/\t'.cz/\t'.bD<=B/\X= .mk t'.op t'.num t'.name t'.nl ks/\ks.length=t'.aW.length/\(∀(j:Nat)(a b:Tm),t'.aW[j]?=some a->ks[j]?=some b->j7 l bs a b)/\bI (GC r fI) n [J deep,.mp M,aM l,J vF,J t.op,J t.num,aQ t.name,cF 4 t.nl (Tm.rows t.aW),J 0,J 0,aQ ⟨#[]⟩,cS]=some (.inl [J deep,J vF,J t'.op,J t'.num,aQ t'.name,cF 4 t'.nl (Tm.rows t'.aW),J 0,J 0,aQ ⟨#[]⟩,cS,.mp M,aM l])
 |0,_,_,_,H,_,_,_=>H.elim|h+1,0,_,_,_,_,_,aC=>absurd aC (xaF _)
 |h+1,n+1,t,X,H,bq,aF,aC=>by
  have gm:=Cg cH.1 (z:= .int .i64 0) (x:=t.name);rw[cH.2]at gm;rcases H with⟨aR,i,d,ag,az,kq⟩|⟨hX,ks,rfl,ea,AR⟩
  .have hs:=an.e d (xac az);have DE:((3:Int)==3)=true:=rfl;rw[ag]at gm;simp only[xaK]at gm;obtain⟨t',bs,ks,g1,g2,g3,g4,g5,g6,g7⟩:=acK an cH r fI deep vF h n d.e X kq hs.1 hs.2 (by omega);refine⟨t',bs,ks,by omega,g2,g3,g4,g5,g6,?_⟩;rw[kK,<-g7];simp only[GC,go_sem,aR,DE,mB,gm,e2 az,bl.hB]
  refine⟨t,h,ks,by omega,bq,aF,rfl,ea,AR,?_⟩;rw[kK];by_cases ax:t.op=3
  .have TL:db l t.name=none:=by simpa[xE,ax]using hX
   have DE:((3:Int)==3)=true:=rfl;rw[TL]at gm;simp only[xbs]at gm;simp only[GC,go_sem,ax,DE,mB,gm]
  have av:(t.op==3)=false:=by simp[ax]
  simp only[GC,go_sem,av]
def acL{s:List Tm}{x:Tm}{i k:Nat}(ag:s.length=i)(ah:i<k):(Tm.rows (s++List.replicate (k-i) e9)).set i x.cells=Tm.rows ((s++[x])++List.replicate (k-(i+1)) e9):=by
 obtain⟨m,rfl⟩:∃m,k=i+1+m:=⟨k-(i+1),by omega⟩;have aN:i+1+m-i=m+1:=by omega
 have aV:i+1+m-(i+1)=m:=by omega
 subst ag;rw[aN,aV];simp[Tm.k6,List.replicate_succ]
def at3{s:List Tm}{i k:Nat}(ag:s.length=i)(ah:i<k):(Tm.rows (s++List.replicate (k-i) e9))[i]?=some e9.cells:=by
 obtain⟨m,rfl⟩:∃m,k=i+1+m:=⟨k-(i+1),by omega⟩;have aN:i+1+m-i=m+1:=by omega
 subst ag;rw[aN];simp[Tm.k6,List.replicate_succ]
def at4{t:Nat}(h:t<=1000000):om 56 (J (t:Int)) (J (t:Int))=some t:=by simp only[om,J];rw[xaa ⟨by omega,by omega,by omega,by omega⟩];simp
def acM{l:List bl}{B:Nat}(an:hQ B l){M:List (Value×D)}(cH:Nq M l):∀(n h:Nat)(t X:Tm)(deep k:Int),j7 l h t X->t.cz->t.bD<=B->1<=deep->deep<=65->0<=k->k<=4096->h+2*B+100<n->tg n [t.d,J deep,.mp M,aM l,J k]=some [(et X deep k).1.d,.mp M,aM l,J (et X deep k).2]
 |0,_,_,_,_,_,_,_,_,_,_,_,_,aC=>absurd aC (xaF _)
 |n+1,h,t0,X,deep,k,H,at5,at6,ab,ad,ax,a8,aC=>by
  have bH:=an.len;have tI:=an.b;obtain⟨t,bs,ks,g1,bq,aF,rfl,ea,AR,g7⟩:=acK an cH (tg n) n deep k h n t0 X H at5 at6 (by omega);have p3:(Tm.mk t.op t.num t.name t.nl ks).aW=ks:=rfl;have acN:∀(b:Bool)(r:List Tm),(Tm.mk t.op t.num t.name b r).d=D.agg [J t.op,J t.num,aQ t.name,cF 4 b (Tm.rows r)]:=λb r=>by rw[Tm.jF];rfl
  have m4:=t.kO;have bO:(J ((0:Nat):Int))=J 0:=rfl;show GD (tg n) n _=_;rw[TM,p3];cases dd:t.aW with
  |nil=>
   have at7:ks=[]:=by rw[dd]at ea;exact xaM ea
   subst at7;rw[dd]at g7;have pN:((((Tm.rows []).length:Nat):Int)==0)=true:=rfl;simp only[GD,go_sem,g7,lG (bt:=false) (i:=k) (by omega) (by omega),List.isEmpty_nil,acN];simp
  |cons a0 hx=>
   have cf:¬ks.isEmpty=true:=by cases ks with|nil=>rw[dd]at ea;simp at ea|cons _ _=>simp
   have aua:((t.aW.length:Int)==0)=false:=by rw[dd];simp;omega
   rw[xab cf];show _=some [(Tm.mk t.op t.num t.name false (fL ks deep (k+1)).1).d,.mp M,aM l,J (fL ks deep (k+1)).2];clear dd;have en:=c8 (f:=Cv (tg n) n) (t.aW.zip ks) (λi (s:Int×List Tm)=>[J deep,cF 4 t.nl (Tm.rows t.aW),J t.aW.length,J (i:Int),J s.1,J t.op,J t.num,aQ t.name,cF 4 t.nl (Tm.rows t.aW),J 0,J 0,aQ ⟨#[]⟩,cS,.aA 4 (Tm.rows (s.2++List.replicate (t.aW.length-i) e9)),.mp M,aM l]) (λr (s:Int×List Tm)=>(Sum.inl [J t.op,J t.num,aQ t.name,cF 4 t.nl (Tm.rows t.aW),J 0,J 0,aQ ⟨#[]⟩,cS,.aA 4 (Tm.rows (s.2++(fL (r.map (·.2)) deep s.1).1)),.mp M,aM l,J (fL (r.map (·.2)) deep s.1).2]:List D⊕List D)) (λi s=>0<=s.1/\s.1<=4097/\s.2.length=i) ?_ ?_ n 0 (k+1,[]) ⟨by simp;omega,by simp;omega,rfl⟩ (by simp[ea];omega) (xai _)
   .have p6:Tm.rows (List.replicate t.aW.length e9)=List.replicate t.aW.length [J 0,J 0,aQ ⟨#[]⟩,D.val (.slice none 0 0)]:=by
     rw[Tm.k6,List.map_replicate];rfl
    simp only[xap,TJ ea,bO,xaI,Nat.sub_zero,p6]at en;have AS:=at4 (t:=t.aW.length) (by omega);simp only[GD,go_sem,g7,lG (bt:=false) (i:=k) (by omega) (by omega),aua,AS,en,acN,alZ]
   .intro s av;have e:(t.aW.zip ks).length=t.aW.length:=by simp[ea]
    simp only[e,Cv,go_sem,yF ((t.aW.length:Int)<t.aW.length),xbf,fL,Nat.sub_self,List.replicate_zero,xax]
   rintro i ⟨a,b⟩ s jK ag ⟨bG,bw,cl⟩;obtain⟨aH,ak⟩:=NA jK;simp only at aH ak;have hm:=xac aH;have bm:=Tm.iZ hm;have TN:=(xae.1 aH).1;have bX:(i:Int)<t.aW.length:=by omega
   left;by_cases ai:deep<=64/\s.1<=4096
   .have au:=acM an cH n bs a b (deep+1) s.1 (AR i a b aH ak) (bq.eY hm) (by omega) (by omega) (by omega) bG ai.2 (by omega);have hL:=acJ b (deep+1) s.1;have dN:cV (s.2++List.replicate (t.aW.length-i) e9).length (J (i:Int))=some i:=by
     rw[kn,xaa];simp;omega
    have gA:lV e9.cells 0 [J (et b (deep+1) s.1).1.op,J (et b (deep+1) s.1).1.num,aQ (et b (deep+1) s.1).1.name,cF 4 (et b (deep+1) s.1).1.nl (Tm.rows (et b (deep+1) s.1).1.aW)]=(et b (deep+1) s.1).1.cells:=by rw[Tm.oC (et b (deep+1) s.1).1];rfl
    refine⟨((et b (deep+1) s.1).2,s.2++[(et b (deep+1) s.1).1]),?_,?_,by simp;omega,by simpa using hL.2 ai.2,by simp[cl]⟩;.simp only[Cv,go_sem,xal bX,Tm.gW aH,xal ai.1,xal ai.2,lG (bt:=false) (i:=deep) (by omega) (by omega),au,dN,at3 cl TN,gA,acL cl TN,cc (bt:=false) (i:=i) (by omega)]
    simp only[xay,fL,xaa ai,xaP,xbc]
   refine⟨(s.1,s.2++[e9]),?_,?_,by simpa using bG,by simpa using bw,by simp[cl]⟩
   .have aBh:=acL (x:=e9) cl TN;have bb:Tm.rows (s.2++List.replicate (t.aW.length-i) e9)=Tm.rows (s.2++[e9]++List.replicate (t.aW.length-(i+1)) e9):=by
     obtain⟨m,hm⟩:∃m,t.aW.length=i+1+m:=⟨t.aW.length-(i+1),by omega⟩;have aN:i+1+m-i=m+1:=by omega
     have aV:i+1+m-(i+1)=m:=by omega
     rw[hm,aN,aV];simp[List.replicate_succ]
    by_cases yK:deep<=64;.have ob:¬s.1<=4096:=λh=>ai ⟨yK,h⟩;simp only[Cv,go_sem,xal bX,Tm.gW aH,xal yK,xan ob,bb,cc (bt:=false) (i:=i) (by omega)]
    simp only[Cv,go_sem,xal bX,Tm.gW aH,xan yK,bb,cc (bt:=false) (i:=i) (by omega),xbp]
   simp only[xay,fL,xab ai,xaP,xbc]
def AT(l:List bl)(S:List Nat):Prop:=∀x∈S,∀y∈to l x,y∈S
def AT.r5{l:List bl}{S:List Nat}(h:AT l S){a b:Nat}(au:j6 (to l) a b)(aH:a∈S):b∈S:=by induction au with|refl=>exact aH|step i j k kG _ ih=>exact ih (h i aH j kG)
def acO(l:List bl)(i n:Nat)(S:List Nat)(ab:iD l.length S)(ad:AT l S)(aC:l.length<n):iD l.length (hr (to l) n (to l i) S)/\AT l (hr (to l) n (to l i) S)/\∀x,x∈hr (to l) n (to l i) S↔x∈S\/∃k∈to l i,j6 (to l) k x:=by
 have h:=Dz (λi k ah=>lb i k ah) n (to l i) S ab (λx ae=>lb i x ae) (by omega);obtain⟨T,bb⟩:=h.pre;have ai:AT l (hr (to l) n (to l i) S):=by
  intro x ae y aP;by_cases av:x∈S;.rw[bb];simp[ad x av y aP]
  exact h.vC x ae av y aP
 refine⟨h.inv,ai,λx=>⟨h.r5 x,?_⟩⟩;rintro(ae|⟨k,ah,au⟩);.rw[bb];simp[ae]
 exact ai.r5 au (h.mem k ah)
def acP(l:List bl){B:Nat}(an:hQ B l)(n:Nat)(aC:3*B+200<n)(fr:List Nat)(kC:∀i∈fr,i<l.length)(jT:fr.length<1000000000):∀(m j:Nat)(S:List Nat)(M:List (Value×D)),bY M S->iD l.length S->AT l S->fr.length-j<m->j<=fr.length-> ∃ec lJ,bI (LQ n) m [c2 fr,J fr.length,J (j:Int),.mp M,hC (l.map λd=>dt l d.e)]=some (.inl [.mp ec])/\bY ec lJ/\iD l.length lJ/\∀x,x∈lJ↔x∈S\/∃i∈fr.drop j,∃k∈to l i,j6 (to l) k x
 |0,_,_,_,_,_,_,h,_=>absurd h (xaF _)
 |m+1,j,S,M,cH,cb,cg,hm,aG=>by
  have bH:=an.len;rw[kK];by_cases cn:j<fr.length
  .have ah:=xad cn;generalize fr[j]=i at ah;have ag:=kC i (xac ah);have AP:fr.drop j=i::fr.drop (j+1):=by
    obtain⟨bG,bw⟩:=xae.1 ah;rw[xaU bG,bw]
   have hF:=cb.len;obtain⟨vE,eL,eM⟩:=TF l an n i S M ag cH cb (by omega);obtain⟨bh,bo,bC⟩:=acO l i n S cb cg (by omega);obtain⟨ec,lJ,g1,g2,g3,g4⟩:=acP l an n aC fr kC jT m (j+1) _ vE eM bh bo (by omega) cn;refine⟨ec,lJ,?_,g2,g3,λx=>?_⟩;.simp only[LQ,go_sem,yT ((j:Int)<(fr.length:Int)),uT ah,iA,eL,cc (bt:=false) (i:=j) (by omega),g1]
   rw[g4,bC,AP];simp only[xas,exists_eq_or_imp,or_assoc]
  have:j=fr.length:=by omega
  subst this;refine⟨M,S,?_,cH,cb,λx=>by simp⟩;simp only[LQ,go_sem,yF ((fr.length:Int)<fr.length)]
def acQ(l:List bl){B:Nat}(an:hQ B l)(n:Nat)(aC:3*B+200<n)(fr:List Nat)(kC:∀i∈fr,i<l.length)(jT:fr.length<1000000000):∀(m j:Nat)(S:List Nat)(M:List (Value×D)),bY M S->iD l.length S->AT l S->fr.length-j<m->j<=fr.length-> ∃ec lJ,bI (LR n) m [c2 fr,J fr.length,J (j:Int),.mp M,hC (l.map λd=>dt l d.e)]=some (.inl [.mp ec])/\bY ec lJ/\iD l.length lJ/\∀x,x∈lJ↔x∈S\/∃i∈fr.drop j,∃k∈to l i,j6 (to l) k x
 |0,_,_,_,_,_,_,h,_=>absurd h (xaF _)
 |m+1,j,S,M,cH,cb,cg,hm,aG=>by
  have bH:=an.len;rw[kK];by_cases cn:j<fr.length
  .have ah:=xad cn;generalize fr[j]=i at ah;have ag:=kC i (xac ah);have AP:fr.drop j=i::fr.drop (j+1):=by
    obtain⟨bG,bw⟩:=xae.1 ah;rw[xaU bG,bw]
   have hF:=cb.len;obtain⟨vE,eL,eM⟩:=TF l an n i S M ag cH cb (by omega);obtain⟨bh,bo,bC⟩:=acO l i n S cb cg (by omega);obtain⟨ec,lJ,g1,g2,g3,g4⟩:=acQ l an n aC fr kC jT m (j+1) _ vE eM bh bo (by omega) cn;refine⟨ec,lJ,?_,g2,g3,λx=>?_⟩;.simp only[LR,go_sem,yT ((j:Int)<(fr.length:Int)),uT ah,iA,eL,cc (bt:=false) (i:=j) (by omega),g1]
   rw[g4,bC,AP];simp only[xas,exists_eq_or_imp,or_assoc]
  have:j=fr.length:=by omega
  subst this;refine⟨M,S,?_,cH,cb,λx=>by simp⟩;simp only[LR,go_sem,yF ((fr.length:Int)<fr.length)]
theorem TO(l:List bl):bT (aM l)=true:=rfl
theorem acR(l:List (List Nat)):bT (hC l)=true:=rfl
def bY.DF{M:List (Value×D)}{S:List Nat}(h:bY M S):True:=trivial
def aub(l:List bl){B:Nat}(an:hQ B l)(n:Nat)(aC:3*B+200<n)(fr:List Nat)(kC:∀i∈fr,i<l.length)(jT:fr.length<n)(TP:fr.length<1000000000): ∃M S,GB n [hC (l.map λd=>dt l d.e),c2 fr]=some [.mp M]/\bY M S/\∀x,x∈S↔∃i∈fr,∃k∈to l i,j6 (to l) k x:=by have bO:(J ((0:Nat):Int))=J 0:=rfl;obtain⟨M,S,g1,g2,g3,g4⟩:=acP l an n aC fr kC TP n 0 [] [] bY.nil ⟨by simp,by simp⟩ (by intro x ae;cases ae) (by omega) (xai _);refine⟨M,S,?_,g2,λx=>by rw[g4];simp⟩;rw[bO]at g1;simp only[GB,go_sem,acR,pz,g1]
def auc(l:List bl){B:Nat}(an:hQ B l)(n:Nat)(aC:3*B+200<n)(fr:List Nat)(kC:∀i∈fr,i<l.length)(jT:fr.length<n)(TP:fr.length<1000000000): ∃M S,Cu n [hC (l.map λd=>dt l d.e),c2 fr]=some (.mp M)/\bY M S/\∀x,x∈S↔∃i∈fr,∃k∈to l i,j6 (to l) k x:=by have bO:(J ((0:Nat):Int))=J 0:=rfl;obtain⟨M,S,g1,g2,g3,g4⟩:=acQ l an n aC fr kC TP n 0 [] [] bY.nil ⟨by simp,by simp⟩ (by intro x ae;cases ae) (by omega) (xai _);refine⟨M,S,?_,g2,λx=>by rw[g4];simp⟩;rw[bO]at g1;simp only[Cu,ZP,go_sem,acR,pz,g1]
def aud(l:List bl){B:Nat}(an:hQ B l)(n:Nat)(aC:3*B+200<n)(i:Nat)(ag:i<l.length): ∃M,Cu n [hC (l.map λd=>dt l d.e),D.aA 1 [[J (i:Int)]]]=some (.mp M)/\kl (.int .i64) (.bool false) false M (J (i:Int))=some (ay (jb l i)):=by
 obtain⟨M,S,g1,g2,g3⟩:=auc l an n aC [i] (by simpa using ag) (by simp;omega) (by simp);refine⟨M,g1,?_⟩;rw[g2.look (z:= .bool false)];have:(i∈S)↔jb l i=true:=by rw[g3,TC];simp
 congr 2
 by_cases h:i∈S;.rw[this.1 h];simp[h]
 have bs:jb l i=false:=by cases ad:jb l i with|false=>rfl|true=>exact absurd (this.2 ad) h
 rw[bs];simp[h]
def r7(l:List bl)(t:Tm):Bool:=(kT l (dt l t)).all λx=>!jb l x
def aue(l:List bl)(t:Tm):r7 l t=true↔DC l t:=by simp[r7,DC]
def auf(n:Nat)(l:List bl){M:List (Value×D)}(cH:Nq M l)(N t:D)(k5:List ByteArray)(a b c d e f g h:D)(ab:k5.length<n)(ad:k5.length<100000000):bI (Cx n) n [aM l,.mp M,N,dk k5,J k5.length,J 0,a,b,c,d,e,f,g,h,D.aA 1 []]=some (.inl [aM l,N,a,b,c,d,e,f,g,h,c2 (k5.filterMap (db l))]):=by
 have bO:(J ((0:Nat):Int))=J 0:=rfl;have aN:c2 []=D.aA 1 []:=rfl;have fT:∀x,D.aA 1 (aB (c2 x))=c2 x:=λ_=>rfl;have aG:=c8 (f:=Cx n) k5 (λj (s:List Nat)=>[aM l,.mp M,N,dk k5,J k5.length,J (j:Int),a,b,c,d,e,f,g,h,c2 s]) (λr s=>(.inl [aM l,N,a,b,c,d,e,f,g,h,c2 (s++r.filterMap (db l))]:List D⊕D)) (λj s=>s.length<=j) ?_ ?_ n 0 [] (by simp) (by omega) (xai _)
 .rw[bO,aN]at aG;simpa using aG
 .intro s _;simp only[Cx,go_sem,yF ((k5.length:Int)<k5.length),fT,List.filterMap_nil,xax]
 intro j b' s ak aG av;have ae:=IL ak;have gm:=Cg cH.1 (z:= .int .i64 0) (x:=b');rw[cH.2]at gm;left;cases az:db l b' with
 |none=>rw[az]at gm;simp only[xbs]at gm;refine⟨s,?_,by simp[az],by omega⟩;simp only[Cx,go_sem,yT ((j:Int)<(k5.length:Int)),ae,iA,mB,gm,fT,cc (bt:=false) (i:=j) (by omega)]
 |some k=>
  rw[az]at gm;simp only[xaK]at gm;have dw:cJ (s.length+1) 8=true:=eW (by omega) (by omega);have aV:D.aA 1 (aB (c2 s)++[[J (k:Int)]])=c2 (s++[k]):=by simp[c2]
  have bS:(aB (c2 s)).length=s.length:=by simp[c2]
  refine⟨s++[k],?_,by simp[az],by simp;omega⟩;simp only[Cx,go_sem,yT ((j:Int)<(k5.length:Int)),ae,iA,mB,gm,fT,aV,bS,xak,xar,xaE,dw,cc (bt:=false) (i:=j) (by omega)]
def acS(n:Nat)(fr:List Nat)(L N a b c d e f g h:D)(ad:fr.length<100000000):∀(m j:Nat)(S:List Nat)(M:List (Value×D)),bY M S->fr.length-j<m->j<=fr.length-> ∃ec lJ,bI (LU n) m [L,N,c2 fr,J fr.length,J (j:Int),a,b,c,d,e,f,g,h,.mp M]=some (.inl [L,N,a,b,c,d,e,f,g,h,.mp ec])/\bY ec lJ/\∀x,x∈lJ↔x∈S\/x∈fr.drop j
 |0,_,_,_,_,h,_=>absurd h (xaF _)
 |m+1,j,S,M,cH,hm,aG=>by
  rw[kK];by_cases cn:j<fr.length
  .have ah:=xad cn;generalize fr[j]=i at ah;have AP:fr.drop j=i::fr.drop (j+1):=by
    obtain⟨bG,bw⟩:=xae.1 ah;rw[xaU bG,bw]
   obtain⟨vE,eJ,dV⟩:=cH.put i;obtain⟨ec,lJ,g1,g2,g3⟩:=acS n fr L N a b c d e f g h ad m (j+1) _ vE dV (by omega) cn;refine⟨ec,lJ,?_,g2,λx=>?_⟩;.simp only[LU,go_sem,yT ((j:Int)<(fr.length:Int)),uT ah,iA,eJ,cc (bt:=false) (i:=j) (by omega),g1]
   rw[g3,AP,xas];by_cases ag:i∈S
   .rw[xaa ag];constructor
    .rintro(h|h);.exact .inl h
     exact .inr (.inr h)
    rintro(h|rfl|h);.exact .inl h
    .exact .inl ag
    exact .inr h
   rw[xab ag];simp only[xaL,List.mem_singleton,or_assoc]
  have:j=fr.length:=by omega
  subst this;refine⟨M,S,?_,cH,λx=>by simp⟩;simp only[LU,go_sem,yF ((fr.length:Int)<fr.length)]
def aug(n:Nat)(l:List bl){B:Nat}(an:hQ B l)(aC:3*B+200<n){M:List (Value×D)}{S:List Nat}(cH:bY M S)(a b c d e f g h:D):bI (zi n) n [aM l,hC (l.map λd=>dt l d.e),J l.length,J 0,a,b,c,d,e,f,g,h,.mp M]=some (if(List.range l.length).all (λi=>!(decide (i∈S)&&jb l i))then .inl [aM l,a,b,c,d,e,f,g,h]else .inr (.aO [e9.d,J 14])):=by
 have bH:=an.len;have tI:=an.b;have bO:(J ((0:Nat):Int))=J 0:=rfl;have hzero:D.agg [J 0,J 0,aQ ⟨#[]⟩,D.val (.slice none 0 0)]=e9.d:=LB.symm;have aG:=c8 (f:=zi n) (List.range l.length) (λj (s:Unit)=>[aM l,hC (l.map λd=>dt l d.e),J l.length,J (j:Int),a,b,c,d,e,f,g,h,.mp M]) (λr s=>(if r.all (λi=>!(decide (i∈S)&&jb l i))then .inl [aM l,a,b,c,d,e,f,g,h]else .inr (.aO [e9.d,J 14]):List D⊕D)) (λj s=>True) ?_ ?_ n 0 () trivial (by simp;omega) (xai _)
 .rw[bO]at aG;simpa using aG
 .intro s _;rw[xbH];simp only[zi,go_sem,yF ((l.length:Int)<l.length),List.all_nil]
 intro j b' s ak aG av;rw[xbH]at aG;have IU:b'=j:=by rw[xbX aG]at ak;exact(xaN ak).symm
 subst IU;have gm:=cH.look (i:=b') (z:= .bool false);obtain⟨M2,eL,eM⟩:=aud l an n aC b' aG;have fT:mB (D.mp M2)=some M2:=rfl;by_cases cb:b'∈S
 .by_cases au:jb l b'=true;.right;rw[au]at eM;simp only[zi,go_sem,yT ((b':Int)<(l.length:Int)),gm,xal cb,eL,fT,eM,hzero,xba,au,xbp]
  have mr:jb l b'=false:=by simpa using au
  left;rw[mr]at eM;refine⟨(),?_,by simp only[xba,mr,Bool.and_false,xbZ,xbj],trivial⟩;simp only[zi,go_sem,yT ((b':Int)<(l.length:Int)),gm,xal cb,eL,fT,eM,cc (bt:=false) (i:=b') (by omega)]
 left;refine⟨(),?_,by simp only[xba,xan cb,xbp,xbZ,xbj],trivial⟩;have aN:∀(x:Option D)(f:D->Option (List D⊕(List D⊕D))),R (bN (ay false) true x) (λv=>R (b1 (ay false) v (ay false)) f)=f (ay false):=λ_ _=>rfl;simp only[zi,go_sem,yT ((b':Int)<(l.length:Int)),gm,xan cb,aN,cc (bt:=false) (i:=b') (by omega)]
inductive r8(C:Nat):Tm->Prop where
 |mk (o m:Int) (s:ByteArray) (b:Bool) (ks:List Tm) (an:ks.length<=C) (ah:∀k∈ks,r8 C k):r8 C (.mk o m s b ks)
def j7.ok{l:List bl}{B:Nat}(an:hQ B l):∀{h:Nat}{t X:Tm},j7 l h t X->t.cz->t.bD<=B->X.cz/\r8 B X
 |0,_,_,H,_,_=>H.elim
 |h+1,t,X,H,bq,aF=>by
  rcases H with⟨aR,i,d,ag,az,kq⟩|⟨hX,ks,rfl,ea,AR⟩;.have hs:=an.e d (xac az);exact kq.ok an hs.1 hs.2
  have key:∀k∈ks,k.cz/\r8 B k:=by intro k ah;obtain⟨j,aG⟩:=xaJ.1 ah;have cn:=(xae.1 aG).1;have aH:t.aW[j]?=some (t.aW[j]'(by omega)):=xad (by omega);have hm:=xac aH;have bm:=Tm.iZ hm;exact(AR j _ k aH aG).ok an (bq.eY hm) (by omega)
  have m4:=t.kO;have bH:=bq.len;obtain⟨eJ,dV,hJ⟩:(-9223372036854775808<=t.op/\t.op<=9223372036854775807)/\(-9223372036854775808<=t.num/\t.num<=9223372036854775807)/\t.name.size<=140737488355328:=by cases bq with|mk o n s b ks aR aC av an ah=>exact⟨aR,aC,av⟩
  exact⟨.mk _ _ _ _ _ eJ dV hJ (by omega) λk ah=>(key k ah).1,.mk _ _ _ _ _ (by omega) λk ah=>(key k ah).2⟩
def r8.eY{C:Nat}{t k:Tm}(h:r8 C t)(ah:k∈t.aW):r8 C k:=by cases h with|mk o m s b ks an e1=>exact e1 k ah
def r8.len{C:Nat}{t:Tm}(h:r8 C t):t.aW.length<=C:=by cases h;assumption
theorem Tm.xF(t:Tm):t.bD=2+Tm.dL t.aW:=by cases t;rw[Tm.bD];rfl
def auh(C:Nat)(X:Tm):∀(deep n:Int),X.cz->r8 C X->(et X deep n).1.cz/\((et X deep n).1.bD:Int)<=(2+3*(C:Int))*((et X deep n).2-n):=by
 refine Tm.ind (P:=λX=>∀(deep n:Int),X.cz->r8 C X->(et X deep n).1.cz/\((et X deep n).1.bD:Int)<=(2+3*(C:Int))*((et X deep n).2-n)) ?_ X;intro t ih deep n bq hw;generalize gu:(2+3*(C:Int))=K at*;have key:∀(ks:List Tm),(∀k∈ks,∀(deep n:Int),(et k deep n).1.cz/\((et k deep n).1.bD:Int)<=K*((et k deep n).2-n))->∀(n:Int),(∀k∈(fL ks deep n).1,k.cz)/\(Tm.dL (fL ks deep n).1:Int)<=K*((fL ks deep n).2-n)+3*(ks.length:Int):=by
  intro ks
  induction ks with
  |nil=>intro _ n;simp[fL,Tm.dL]
  |cons a r lK=>
   intro h n;have ab:=h a (by simp) (deep+1) n;rw[fL];split
   .have ad:=lK (λk ah=>h k (by simp[ah])) (et a (deep+1) n).2;refine⟨?_,?_⟩
    .intro k ah;rcases xas.1 ah with rfl|ah
     .exact ab.1
     exact ad.1 k ah
    have e:K*((fL r deep (et a (deep+1) n).2).2-n)=K*((et a (deep+1) n).2-n)+K*((fL r deep (et a (deep+1) n).2).2-(et a (deep+1) n).2):=by rw[<-Int.mul_add];congr 1;omega
    simp only[Tm.dL,xak];rw[e];omega
   have ad:=lK (λk ah=>h k (by simp[ah])) n;refine⟨?_,?_⟩
   .intro k ah;rcases xas.1 ah with rfl|ah
    .exact RC
    exact ad.1 k ah
   have e:e9.bD=2:=rfl;simp only[Tm.dL,xak,e];omega
 rw[TM];split
 .rename_i he;have:t.aW=[]:=by simpa using he
  have aN:t.bD=2:=by rw[Tm.xF,this];rfl
  refine⟨bq,?_⟩;simp only[aN];have aV:K*(n+1-n)=K:=by rw[show n+1-n=(1:Int) by omega];exact Int.mul_one K
  rw[aV];omega
 obtain⟨cA,dv⟩:=key t.aW (λk ah deep n=>ih k ah deep n (bq.eY ah) (hw.eY ah)) (n+1);have bH:=bq.len;have AU:=hw.len;obtain⟨eJ,dV,hJ⟩:(-9223372036854775808<=t.op/\t.op<=9223372036854775807)/\(-9223372036854775808<=t.num/\t.num<=9223372036854775807)/\t.name.size<=140737488355328:=by cases bq with|mk o n s b ks aR aC av an ah=>exact⟨aR,aC,av⟩
 refine⟨.mk _ _ _ _ _ eJ dV hJ (by rw[Nz];omega) cA,?_⟩;rw[Tm.xF];have e:K*((fL t.aW deep (n+1)).2-n)=K+K*((fL t.aW deep (n+1)).2-(n+1)):=by
  have:(fL t.aW deep (n+1)).2-n=1+((fL t.aW deep (n+1)).2-(n+1)):=by omega
  rw[this,Int.mul_add,Int.mul_one]
 show((2+Tm.dL (fL t.aW deep (n+1)).1:Nat):Int)<=_;rw[e];omega
def acT{l:List bl}{B h:Nat}(an:hQ B l){t X:Tm}(H:j7 l h t X)(bq:t.cz)(aF:t.bD<=B):(et X 1 0).1.cz/\(et X 1 0).1.bD<=8194+12291*B:=by obtain⟨ab,ad⟩:=H.ok an bq aF;obtain⟨ax,a8⟩:=auh B X 1 0 ab ad;refine⟨ax,?_⟩;have aU:=acJ X 1 0;have uH:=aU.2 (by omega);have hm:(2+3*(B:Int))*((et X 1 0).2-0)<=(2+3*(B:Int))*4097:=Int.mul_le_mul_of_nonneg_left (by omega) (by omega);omega
def aui{l:List bl}{B:Nat}(an:hQ B l)(n h:Nat)(t X:Tm)(H:j7 l h t X)(bq:t.cz)(aF:t.bD<=B)(aC:h+2*B+200<n):GF n [t.d,aM l]=some (et X 1 0).1.d:=by have bH:=an.len;have tI:=an.b;obtain⟨M,gd,jm⟩:=Tz n l (by omega) (by omega);have au:=acM an jm n h t X 1 0 H bq aF (by omega) (by omega) (by omega) (by omega) (by omega);have fW:bT (D.mp M)=true:=rfl;simp only[GF,ZQ,go_sem,TO,gd,fW,au]
def TQ{l:List bl}{B:Nat}(an:hQ B l)(n:Nat)(t:Tm)(bq:t.cz)(aF:t.bD<=B)(aC:20000*B+20000<n):((c4 t 1 0).1≠0->ma n [t.d,aM l]=some (.aO [e9.d,J (c4 t 1 0).1]))/\((c4 t 1 0).1=0->r7 l t=false->ma n [t.d,aM l]=some (.aO [e9.d,J 14]))/\(∀h X,(c4 t 1 0).1=0->r7 l t=true->j7 l h t X->h+2*B+200<n->ma n [t.d,aM l]=some (.aO [if(c4 (et X 1 0).1 1 0).1=0 then(et X 1 0).1.d else e9.d,J (c4 (et X 1 0).1 1 0).1])):=by
 have bH:=an.len;have tI:=an.b;have hzero:D.agg [J 0,J 0,aQ ⟨#[]⟩,D.val (.slice none 0 0)]=e9.d:=LB.symm;have cg:=Nl n t (by omega) bq;obtain⟨M,gd,jm⟩:=Tz n l (by omega) (by omega);have bW:=atJ n l an (by omega);have cd:=No n t (by omega) bq (by omega);have cf:=Dx t;have gD:=auf n l jm (hC (l.map λd=>dt l d.e)) e9.d (fE 3 t []) (J t.op) (J t.num) (aQ t.name) (cF 4 t.nl (Tm.rows t.aW)) (J 0) (J 0) (aQ ⟨#[]⟩) cS (by omega) (by omega);have cT:(fE 3 t []).filterMap (db l)=dt l t:=rfl;rw[cT]at gD;have tJ:=Nr l t;obtain⟨vE,auj,eL,eM,lu⟩:=aub l an n (by omega) (dt l t) nd (by omega) (by omega);obtain⟨M2,acU,s1,s2,jZ⟩:=acS n (dt l t) (aM l) (hC (l.map λd=>dt l d.e)) (J t.op) (J t.num) (aQ t.name) (cF 4 t.nl (Tm.rows t.aW)) (J 0) (J 0) (aQ ⟨#[]⟩) cS (by omega) n 0 auj vE eM (by omega) (xai _);have acV:∀x,x∈acU↔x∈kT l (dt l t):=by
  intro x;rw[jZ,lu,vD l _ nd,xap];constructor
  .rintro(⟨i,ag,k,ah,au⟩|h);.exact⟨i,ag,.step i k x ah au⟩
   exact⟨x,h,.refl x⟩
  rintro⟨i,ag,au⟩;cases au with|refl=>exact .inr ag|step _ k _ ah au=>exact .inl ⟨i,ag,k,ah,au⟩
 have xG:=aug n l an (by omega) s2 (J t.op) (J t.num) (aQ t.name) (cF 4 t.nl (Tm.rows t.aW)) (J 0) (J 0) (aQ ⟨#[]⟩) cS;have fS:(List.range l.length).all (λi=>!(decide (i∈acU)&&jb l i))=r7 l t:=by
  rw[Bool.eq_iff_iff];simp only[r7,xau,xbN,Bool.not_eq_true',Bool.and_eq_false_imp,xaG];constructor;.intro h x ae;exact h x ((xC l _ nd).inv.2 x ae) ((acV x).2 ae)
  intro h x ae Nt;exact h x ((acV x).1 Nt)
 rw[fS]at xG;have bO:(J ((0:Nat):Int))=J 0:=rfl;rw[bO]at s1;have fT:∀x,D.aA 1 (aB (c2 x))=c2 x:=λ_=>rfl;have pN:((0:Int) !=0)=false:=rfl;have dJ:∀x,(aB (c2 x)).length=x.length:=λx=>by simp[c2]
 refine⟨λaq=>?_,λaq au=>?_,λh X aq au H J6=>?_⟩
 .have r6:((c4 t 1 0).1 !=0)=true:=by simpa using aq
  simp only[ma,GH,go_sem,cg,r6,hzero]
 .rw[au]at xG;simp only[xaq,xaA]at xG;simp only[ma,GH,go_sem,cg,aq,pN,gd,bW,cd,IM,gD,fT,dJ,eL,pz,s1,dT,xG]
 rw[au]at xG;simp only[xaz]at xG;have e8:=aui an n h t X H bq aF J6;obtain⟨f1,f2⟩:=acT an H bq aF;have TR:=Nl n (et X 1 0).1 (by omega) f1;by_cases ax:(c4 (et X 1 0).1 1 0).1=0
 .rw[ax]at TR;simp only[ma,GH,go_sem,cg,aq,pN,gd,bW,cd,IM,gD,fT,dJ,eL,pz,s1,dT,xG,e8,TR,ax]
 have r6:((c4 (et X 1 0).1 1 0).1 !=0)=true:=by simpa using ax
 simp only[ma,GH,go_sem,cg,aq,pN,gd,bW,cd,IM,gD,fT,dJ,eL,pz,s1,dT,xG,e8,TR,ax,r6,hzero]
def TS{l:List bl}{B:Nat}(an:hQ B l)(n:Nat)(t:Tm)(bq:t.cz)(aF:t.bD<=B)(aC:20000*B+20000<n):((c4 t 1 0).1≠0->me n [t.d,aM l]=some (.aO [e9.d,J (c4 t 1 0).1]))/\((c4 t 1 0).1=0->r7 l t=false->me n [t.d,aM l]=some (.aO [e9.d,J 14]))/\(∀h X,(c4 t 1 0).1=0->r7 l t=true->j7 l h t X->h+2*B+200<n->me n [t.d,aM l]=some (.aO [if(c4 X 1 0).1=0 then(ga X).d else e9.d,J (c4 X 1 0).1])):=by
 have bH:=an.len;have tI:=an.b;have hzero:D.agg [J 0,J 0,aQ ⟨#[]⟩,D.val (.slice none 0 0)]=e9.d:=LB.symm;have cg:=Tu n t (by omega) bq;have tJ:=Nr l t;have ak:=TD l an n t [] cS (.inr ⟨rfl,rfl⟩) bq aF ⟨by simp,by simp⟩ (by simp;omega);have auk:hr (to l) n (dt l t) []=kT l (dt l t):=TB (λi k ah=>lb i k ah) n _ (dt l t) [] ⟨by simp,by simp⟩ nd (by simp;omega) (by simp);rw[auk]at ak;have gT:=xC l (dt l t) nd;have gA:=gT.inv.len;have bO:(J ((0:Nat):Int))=J 0:=rfl;have pN:((0:Int) !=0)=false:=rfl;generalize Kd:kT l (dt l t)=C at*;have TT:bF (kU [] cS C)=some (J C.length):=by
  unfold kU;split;.rename_i h;rw[h];rfl
  exact pz C
 have acW:∀(i x:Nat),C[i]?=some x->bk 1 (kU [] cS C) (J (i:Int))=some [J (x:Int)]:=by
  intro i x ae;unfold kU;split;.rename_i h;have:C=[]:=xaM h;subst this;simp at ae
  exact uT ae
 have iC:=c8 (f:=HH n) C (λi (s:Unit)=>[aM l,kU [] cS C,J (i:Int),J t.op,J t.num,aQ t.name,cF 4 t.nl (Tm.rows t.aW),J 0,J 0,aQ ⟨#[]⟩,cS]) (λr s=>(if r.all (λx=>!jb l x)then .inl [aM l,J t.op,J t.num,aQ t.name,cF 4 t.nl (Tm.rows t.aW),J 0,J 0,aQ ⟨#[]⟩,cS]else .inr (.aO [e9.d,J 14]):List D⊕D)) (λi s=>True) ?_ ?_ n 0 () trivial (by omega) (xai _)
 .rw[bO,xap]at iC;have DD:C.all (λx=>!jb l x)=r7 l t:=by rw[r7,Kd]
  rw[DD]at iC;refine⟨λaq=>?_,λaq au=>?_,λh X aq au H J6=>?_⟩
  .have r6:((c4 t 1 0).1 !=0)=true:=by simpa using aq
   simp only[me,HI,go_sem,cg,r6,hzero]
  .rw[au]at iC;simp only[xaq,xaA]at iC;simp only[me,HI,go_sem,cg,aq,pN,ak,iC]
  rw[au]at iC;simp only[xaz]at iC;have aU:=TK an h n t X 1 0 H bq aF (by omega) (by omega) (by omega) (by omega) (by omega);by_cases ax:(c4 X 1 0).1=0
  .simp only[ax,xaz]at aU;simp only[me,HI,go_sem,cg,aq,pN,ak,iC,aU,ax]
  simp only[ax,xaA]at aU;simp only[me,HI,go_sem,cg,aq,pN,ak,iC,aU,ax]
 .intro s _;simp only[HH,go_sem,TT,yF ((C.length:Int)<C.length),List.all_nil]
 intro i x s ae ag av;have DG:=xac ae;have au:=atT l an n x (gT.inv.2 x DG) (by omega);cases xH:jb l x with
 |true=>right;rw[xH]at au;simp only[HH,go_sem,TT,yT ((i:Int)<(C.length:Int)),acW i x ae,iA,au,hzero,xba,xH,xbp]
 |false=>left;rw[xH]at au;refine⟨(),?_,by simp only[xba,xH,xbZ,xbj],trivial⟩;simp only[HH,go_sem,TT,yT ((i:Int)<(C.length:Int)),acW i x ae,iA,au,cc (bt:=false) (i:=i) (by omega)]
mutual
def kr:Tm->Tm
 | .mk o m s b ks=> .mk o m s (b&&ks.isEmpty) (xI ks)
def xI:List Tm->List Tm
 |[]=>[]|k::r=>kr k::xI r
end
def acX:∀l:List Tm,xI l=l.map kr
 |[]=>rfl|k::r=>by rw[xI,acX r];rfl
theorem IV(t:Tm):kr t= .mk t.op t.num t.name (t.nl&&t.aW.isEmpty) (t.aW.map kr):=by cases t;rw[kr,acX];rfl
mutual
def acY:∀(X:Tm)(deep n:Int),n<=4096->(c4 X deep n).1=0->(et X deep n).1=kr X
 | .mk o m s b ks,deep,n,aC=>by
  intro h;rw[et,kr];cases ks with
  |nil=>simp[xI]
  |cons k r=>
   simp only[List.isEmpty_cons,xaq,xaA,Bool.and_false];rw[c4]at h;by_cases ab:deep>64;.rw[xaa ab]at h;cases h
   rw[xab ab]at h;by_cases ad:h0 (.mk o m s b (k::r))≠0;.rw[xaa ad]at h;exact absurd h ad
   rw[xab ad]at h;by_cases ax:n+1>4096;.rw[xaa ax]at h;cases h
   rw[xab ax]at h;rw[acZ (k::r) deep (n+1) (by omega) (by omega) h]
def acZ:∀(ks:List Tm)(deep n:Int),deep<=64->n<=4096->(eZ ks (deep+1) n).1=0->(fL ks deep n).1=xI ks
 |[],deep,n,_,_=>by simp[fL,xI]
 |k::r,deep,n,az,aC=>by
  intro h;rw[fL,xaa ⟨az,aC⟩,xI];rw[eZ]at h;obtain⟨g1,g2⟩:=TI k (deep+1) n aC;by_cases aq:(c4 k (deep+1) n).1=0;.simp only[aq,ne_eq,xbI,xaA]at h;obtain⟨bG,bw,cl⟩:=g2 aq;have aU:=(Dv k (deep+1) n).2 aq;rw[bG]at h aU;rw[acY k (deep+1) n aC aq,acZ r deep _ az aU h]
  simp only[ne_eq,aq,xce,xaz]at h
end
def TU(t:Tm):(kr t).bD=t.bD:=by
 refine Tm.ind (P:=λt=>(kr t).bD=t.bD) ?_ t;intro t ih;have key:∀l:List Tm,(∀k∈l,(kr k).bD=k.bD)->Tm.dL (l.map kr)=Tm.dL l:=by
  intro l
  induction l with
  |nil=>intro _;rfl
  |cons a r lK=>intro h;simp only[xay,Tm.dL];rw[h a (by simp),lK λk ah=>h k (by simp[ah])]
 rw[Tm.xF,Tm.xF t,IV];show 2+Tm.dL (t.aW.map kr)=_;rw[key _ ih]
def ac0:∀(ks:List Tm),(∀k∈ks,∀(deep n:Int),(c4 k deep n).1=0->(k.bD:Int)+1<=3*((c4 k deep n).2-n))->∀(deep n:Int),(eZ ks deep n).1=0->(Tm.dL ks:Int)<=3*((eZ ks deep n).2-n)
 |[],_,deep,n,_=>by simp[eZ,Tm.dL]
 |k::r,ah,deep,n,h=>by
  rw[eZ]at h⊢;by_cases aq:(c4 k deep n).1=0;.simp only[aq,ne_eq,xbI,xaA]at h⊢;have ab:=ah k (by simp) deep n aq;have ad:=ac0 r (λk e1=>ah k (by simp[e1])) deep _ h;simp only[Tm.dL];omega
  simp only[ne_eq,aq,xce,xaz]at h
def aul(t:Tm):∀(deep n:Int),(c4 t deep n).1=0->(t.bD:Int)+1<=3*((c4 t deep n).2-n):=by
 refine Tm.ind (P:=λt=>∀(deep n:Int),(c4 t deep n).1=0->(t.bD:Int)+1<=3*((c4 t deep n).2-n)) ?_ t;intro t ih deep n h;rw[vB]at h⊢;by_cases ab:deep>64;.rw[xaa ab]at h;cases h
 rw[xab ab]at h⊢;by_cases ad:h0 t≠0;.rw[xaa ad]at h;exact absurd h ad
 rw[xab ad]at h⊢;by_cases ax:n+1>4096;.rw[xaa ax]at h;cases h
 rw[xab ax]at h⊢;have:=ac0 t.aW ih (deep+1) (n+1) h;rw[Tm.xF];omega
def mO(op:Int):Int:=if op=1 then 0 else if op=3\/op=4\/op=5\/op=9\/op=13 then 2 else if op=2\/op=6\/op=7\/op=8\/op=10\/op=11\/op=12 then 1 else-1
def aum(n:Nat)(op:Int):Gt n [J op]=some (J (mO op)):=by
 rcases Lv op with rfl|rfl|rfl|rfl|rfl|rfl|rfl|rfl|rfl|rfl|rfl|rfl|rfl|rfl|rfl|rfl|rfl|rfl|h
 case inr.inr.inr.inr.inr.inr.inr.inr.inr.inr.inr.inr.inr.inr.inr.inr.inr.inr=>
  have e:∀k:Int,1<=k->k<=18->(op==k)=false:=λk ab ad=>by simp;omega
  have aV:mO op=-1:=by unfold mO;repeat(first|rw[xab (by omega)]|rw[xaa (by omega)])
  simp[Gt,ZL,e,aV]
 all_goals rfl
def aun(n:Nat)(op:Int):CU n [J op]=some (J (mO op)):=by
 rcases Lv op with rfl|rfl|rfl|rfl|rfl|rfl|rfl|rfl|rfl|rfl|rfl|rfl|rfl|rfl|rfl|rfl|rfl|rfl|h
 case inr.inr.inr.inr.inr.inr.inr.inr.inr.inr.inr.inr.inr.inr.inr.inr.inr.inr=>
  have e:∀k:Int,1<=k->k<=18->(op==k)=false:=λk ab ad=>by simp;omega
  have aV:mO op=-1:=by unfold mO;repeat(first|rw[xab (by omega)]|rw[xaa (by omega)])
  simp[CU,aas,e,aV]
 all_goals rfl
def DH(t:Tm):Int:=if(c4 t 1 0).1≠0 then(c4 t 1 0).1 else if 0<(fE 4 t []).length then 24 else 0
def xJ(t:Tm):Bool:=t.op==0&&(t.num==0&&(decide (t.name=⟨#[]⟩)&&decide (t.aW.length=0)))
def mg(f:Fm):Int:=if mO f.op<0 then 11 else if f.op=1/\DH f.e≠0 then DH f.e
 else if(f.aW.length:Int)≠mO f.op\/(f.op≠1/\xJ f.e=false)then 3 else 0
def auo(n:Nat)(f:Fm)(aC:2*f.e.bD+40<n)(bq:f.cz)(ak:f.e.bD<100000000):zd n [f.d]=some (J (if f.op≠1 then 0 else DH f.e)):=by
 have ab:=Nl n f.e (by omega) bq.e;have ad:=No n f.e (by omega) bq.e ak;by_cases aR:f.op=1
 case neg=>simp[zd,LM,aR]
 unfold DH;by_cases ai:(c4 f.e 1 0).1=0
 .have cT:bF (dk (fE 4 f.e []))=some (J (fE 4 f.e []).length):=by simp[dk]
  by_cases a8:0<(fE 4 f.e []).length<;>simp[zd,LM,aR,ab,ai,ad,cT,a8]
 simp[zd,LM,aR,ab,ai]
def aup(n:Nat)(t:Tm):HS n [t.d]=some (ay (xJ t)):=by unfold xJ;simp[HS,aat];by_cases ab:t.op=0<;>by_cases ad:t.num=0<;>by_cases ax:t.name=⟨#[]⟩<;>by_cases a8:t.aW=[]<;>simp[ab,ad,ax,a8]
def auq(n:Nat)(f:Fm)(aC:2*f.e.bD+40<n)(bq:f.cz)(ak:f.e.bD<100000000):vn n [f.d]=some (J (mg f)):=by
 have ab:=Tu n f.e (by omega) bq.e;have ad:=Tx n f.e (by omega) bq.e (by omega);have ah:=aun n f.op;have bm:=aup n f.e;have cT:bF (j5 true (fE 4 f.e []))=some (J (fE 4 f.e []).length):=nG _ _;unfold mg;by_cases aq:mO f.op<0
 .simp[vn,CV,ah,aq]
 by_cases aR:f.op=1
 .unfold DH;have cA:mO 1=0:=rfl;rw[aR,cA]at ah;by_cases ai:(c4 f.e 1 0).1=0
  .by_cases a8:0<(fE 4 f.e []).length;.simp[vn,CV,ah,aR,ab,ai,ad,cT,a8,cA]
   simp[vn,CV,ah,aR,ab,ai,ad,cT,a8,cA];by_cases b3:f.aW=[]<;>simp[b3]
  simp[vn,CV,ah,aR,ab,ai,cA]
 simp[vn,CV,ah,aq,aR,bm];by_cases b3:(f.aW.length:Int)=mO f.op;.cases cI:xJ f.e<;>simp[b3,cI]
 simp[b3]
mutual
def h1:Fm->Int->Int->Int×Int
 | .mk o t b ks,deep,k=>if deep>64 then(17,k+1)else if mg (.mk o t b ks)≠0 then(mg (.mk o t b ks),k+1)else if k+1>4096 then(4,k+1)else kV ks (deep+1) (k+1)
def kV:List Fm->Int->Int->Int×Int
 |[],_,k=>(0,k)|t::r,deep,k=>if(h1 t deep k).1≠0 then h1 t deep k else kV r deep (h1 t deep k).2
end
theorem IW(t:Fm)(deep k:Int):h1 t deep k=if deep>64 then(17,k+1)else if mg t≠0 then(mg t,k+1)else if k+1>4096 then(4,k+1)else kV t.aW (deep+1) (k+1):=by cases t;rw[h1];rfl
mutual
def lL:Fm->Int->Int->Int×Int
 | .mk o t b ks,deep,k=>if deep>64 then(17,k)else if mg (.mk o t b ks)≠0 then(mg (.mk o t b ks),k)else if k+1>4096 then(4,k+1)else nI ks (deep+1) (k+1)
def nI:List Fm->Int->Int->Int×Int
 |[],_,k=>(0,k)|t::r,deep,k=>if(lL t deep k).1≠0 then lL t deep k else nI r deep (lL t deep k).2
end
theorem ac1(t:Fm)(deep k:Int):lL t deep k=if deep>64 then(17,k)else if mg t≠0 then(mg t,k)else if k+1>4096 then(4,k+1)else nI t.aW (deep+1) (k+1):=by cases t;rw[lL];rfl
def ac2(t:Fm):∀deep k,(lL t deep k).1=(h1 t deep k).1/\((lL t deep k).1=0->(lL t deep k).2=(h1 t deep k).2):=by
 refine Fm.ind (P:=λt=>∀deep k,(lL t deep k).1=(h1 t deep k).1/\((lL t deep k).1=0->(lL t deep k).2=(h1 t deep k).2)) ?_ t;intro t ih deep k;rw[ac1,IW];split;.simp
 split;.rename_i h;simp[h]
 split;.simp
 have key:∀(l:List Fm),(∀x∈l,∀deep k,(lL x deep k).1=(h1 x deep k).1/\((lL x deep k).1=0->(lL x deep k).2=(h1 x deep k).2))->∀deep k,(nI l deep k).1=(kV l deep k).1/\((nI l deep k).1=0->(nI l deep k).2=(kV l deep k).2):=by
  intro l
  induction l with
  |nil=>intro _ deep k;simp[nI,kV]
  |cons a r lK=>
   intro h deep k;rw[nI,kV];have ab:=h a (by simp) deep k;by_cases ad:(h1 a deep k).1=0
   .have ax:=ab.1.trans ad;have a8:=ab.2 ax;simp only[ad,ax,ne_eq,xbI,xaA,a8];exact lK (λx ae=>h x (by simp[ae])) deep _
   have ax:(lL a deep k).1≠0:=by rw[ab.1];exact ad
   simp only[ne_eq,ad,ax,xce,xaz];exact⟨ab.1,λh=>h.elim⟩
 exact key t.aW ih _ _
def ac3(t:Fm):∀(deep k:Int),k+1<=(h1 t deep k).2/\((h1 t deep k).1=0->(h1 t deep k).2<=4096):=by
 refine Fm.ind (P:=λt=>∀(deep k:Int),k+1<=(h1 t deep k).2/\((h1 t deep k).1=0->(h1 t deep k).2<=4096)) ?_ t;intro t ih deep k;rw[IW];split;.simp
 split;.rename_i h;simp[h]
 split;.simp
 have key:∀(l:List Fm)(deep k:Int),(∀x∈l,∀(deep k:Int),k+1<=(h1 x deep k).2/\((h1 x deep k).1=0->(h1 x deep k).2<=4096))->k<=4096->k<=(kV l deep k).2/\((kV l deep k).1=0->(kV l deep k).2<=4096):=by
  intro l
  induction l with
  |nil=>intro deep k _ h;simp[kV,h]
  |cons a r lK=>
   intro deep k h ah;rw[kV];have ab:=h a (by simp) deep k;split
   .rename_i ad;exact⟨by omega,λax=>absurd ax ad⟩
   rename_i ad;simp only[ne_eq,Decidable.not_not]at ad;have ax:=lK deep (h1 a deep k).2 (λx ae=>h x (by simp[ae])) (ab.2 ad);exact⟨by omega,ax.2⟩
 exact key t.aW (deep+1) (k+1) ih (by omega)
def ac4:∀(n:Nat)(t:Fm)(deep k:Int),2*t.bD+40<n->t.cz->t.bD<100000000->0<=deep->deep<=65->0<=k->k<=4096->tu n [t.d,J deep,J k]=some (.aO [J (lL t deep k).1,J (lL t deep k).2])
 |0,t,_,_,h,_,_,_,_,_,_=>absurd h (xaF _)
 |n+1,t,deep,k,aC,bq,ak,ab,ad,ax,a8=>by
  have TV:=t.Ci;have aU:=auq n t (by omega) bq (by omega);rw[ac1];simp[tu,Sz,lG (bt:=false) (i:=k) (by omega) (by omega),aU];by_cases az:64<deep
  .simp[az]
  simp[az];by_cases hw:mg t=0
  case neg=>simp[hw]
  simp[hw];by_cases ai:4096<k+1;.simp[ai]
  simp[ai];have an:=c8 (f:=Mz (tu n) n) t.aW (λi s=>[J deep,J s,J (i:Int),J t.op,J t.e.op,J t.e.num,aQ t.e.name,cF 4 t.e.nl (Tm.rows t.e.aW),cF 6 t.nl (Fm.rows t.aW)]) (λr (s:Int)=>if(nI r (deep+1) s).1=0 then(Sum.inl [J (nI r (deep+1) s).2]:List D⊕D)else .inr (.aO [J (nI r (deep+1) s).1,J (nI r (deep+1) s).2])) (λi s=>0<=s/\s<=4096) ?_ ?_ n 0 (k+1) ⟨by omega,by omega⟩ (by have:=t.kO;omega) (xai _)
  .have bO:(J ((0:Nat):Int))=J 0:=rfl;rw[bO]at an;rw[an];simp only[xap,dx];by_cases aq:(nI t.aW (deep+1) (k+1)).1=0;.simp[aq]
   simp[aq]
  .intro s av;simp[Mz,nI]
  intro i a s aH ag av;have hm:=xac aH;have bm:=Fm.iZ hm;have bH:=bq.len;have au:=ac4 n a (deep+1) s (by omega) (bq.eY hm) (by omega) (by omega) (by omega) av.1 av.2;have hL:=ac3 a (deep+1) s;have TW:=ac2 a (deep+1) s;simp[Mz,ag,Fm.gW aH,lG (bt:=false) (i:=deep) (by omega) (by omega),au,cc (bt:=false) (i:=i) (by omega),nI];by_cases aq:(lL a (deep+1) s).1=0
  .left;simp only[aq];have b3:=TW.2 aq;have cI:=TW.1▸aq;refine⟨(lL a (deep+1) s).2,by simp,by simp,by omega,by rw[b3];exact hL.2 (by rw[<-TW.1];exact aq)⟩
  right;simp[aq]
def ld(f:Fm):Int:=(h1 f 1 0).1
def TX(n:Nat)(f:Fm)(aC:2*f.bD+50<n)(bq:f.cz)(ak:f.bD<100000000):z8 n [f.d]=some (J (ld f)):=by have:=ac4 n f 1 0 (by omega) bq ak (by omega) (by omega) (by omega) (by omega);have e:=(ac2 f 1 0).1;simp[z8,aau,this,e,ld]
def aur(n:Nat)(f:Fm)(deep k w:Int)(aC:2*f.bD+40<n)(bq:f.cz)(ak:f.bD<100000000)(ab:0<=k)(ad:k<=4096):∃e,e=(if deep>64 then 17 else if mg f≠0 then mg f else if k+1>4096 then 4 else w)/\Gu n [f.d,J deep,J k,J w]=some [ay (decide (e=0)),J (k+1),J e]:=by
 refine⟨_,rfl,?_⟩;have TV:=f.Ci;have aU:=auo n f (by omega) bq (by omega);have ah:=aum n f.op;have bH:bF (cF 6 f.nl (Fm.rows f.aW))=some (J f.aW.length):=by simp
 have aus:(f.e.op==0&&(f.e.num==0&&(decide (f.e.name=⟨#[]⟩)&&decide (f.e.aW.length=0))))=xJ f.e:=rfl;have jo:((f.e.aW.length:Int)==0)=decide (f.e.aW.length=0):=by by_cases h:f.e.aW.length=0<;>simp[h]
 unfold mg;simp only[Gu,go_sem,Tm.kN,lG (bt:=false) (i:=k) (by omega) (by omega),aU,ah,jo,Bool.and_assoc,aus];have hw:(w==0)=decide (w=0):=by by_cases h:w=0<;>simp[h]
 generalize xJ f.e=nr;by_cases bh:64<deep;.simp[bh]
 by_cases bo:mO f.op<0;.simp[bh,bo]
 by_cases bC:f.op=1
 .have cA:mO 1=0:=rfl;by_cases b5:DH f.e=0;.by_cases ct:f.aW=[]<;>by_cases cu:4096<k+1<;>simp[bh,bo,bC,b5,ct,cu,cA,hw]
  simp[bh,bo,bC,b5,cA]
 by_cases ct:(f.aW.length:Int)=mO f.op<;>by_cases cu:4096<k+1<;>cases nr<;>simp[bh,bo,bC,ct,cu,hw]
def ac5:∀(n:Nat)(t:Fm)(deep k:Int),2*t.bD+45<n->t.cz->t.bD<100000000->0<=deep->deep<=65->0<=k->k<=4096->uY n [t.d,J deep,J k,J 0]=some [ay (decide ((h1 t deep k).1=0)),J (h1 t deep k).2,J (h1 t deep k).1]
 |0,t,_,_,h,_,_,_,_,_,_=>absurd h (xaF _)
 |n+1,t,deep,k,aC,bq,ak,ab,ad,ax,a8=>by
  obtain⟨e,he,aU⟩:=aur n t deep k 0 (by omega) bq ak ax a8;rw[IW];simp only[uY,RN,go_sem,aU];by_cases AM:e=0
  case neg=>simp[AM];grind
  have ai:¬deep>64/\mg t=0/\¬k+1>4096:=by grind
  simp[AM,ai];have an:=c8 (f:=LN (uY n) n) t.aW (λi (s:Int)=>[J deep,cF 6 t.nl (Fm.rows t.aW),J t.aW.length,J (i:Int),J s,J 0]) (λr (s:Int)=>if(kV r (deep+1) s).1=0 then(Sum.inl [J (kV r (deep+1) s).2,J 0]:List D⊕List D)else .inr [ay false,J (kV r (deep+1) s).2,J (kV r (deep+1) s).1]) (λi s=>0<=s/\s<=4096) ?_ ?_ n 0 (k+1) ⟨by omega,by omega⟩ (by have:=t.kO;omega) (xai _)
  .have bO:(J ((0:Nat):Int))=J 0:=rfl;rw[bO]at an;rw[an];simp only[xap,dx];by_cases aq:(kV t.aW (deep+1) (k+1)).1=0;.simp[aq]
   simp[aq]
  .intro s av;simp[LN,kV]
  intro i a s aH ag av;have hm:=xac aH;have bm:=Fm.iZ hm;have bH:=bq.len;have au:=ac5 n a (deep+1) s (by omega) (bq.eY hm) (by omega) (by omega) (by omega) av.1 av.2;have hL:=ac3 a (deep+1) s;simp[LN,ag,Fm.gW aH,lG (bt:=false) (i:=deep) (by omega) (by omega),au,cc (bt:=false) (i:=i) (by omega),kV];by_cases aq:(h1 a (deep+1) s).1=0
  .left;exact⟨(h1 a (deep+1) s).2,by simp[aq],by simp[aq],by omega,hL.2 aq⟩
  right;simp[aq]
def TY(n:Nat)(f:Fm)(aC:2*f.bD+50<n)(bq:f.cz)(ak:f.bD<100000000):zf n [f.d]=some (J (ld f)):=by have:=ac5 n f 1 0 (by omega) bq ak (by omega) (by omega) (by omega) (by omega);simp[zf,ZM,this,ld]
def qv(t:Fm):Prop:=∃deep k,(h1 t deep k).1=0
def qv.one{t:Fm}(h:qv t):mg t=0:=by
 obtain⟨d,k,h⟩:=h;rw[IW]at h;split at h;.cases h
 split at h;.rename_i ad;exact absurd h ad
 rename_i ad;simpa using ad
def aut{l:List Fm}{d k:Int}(h:(kV l d k).1=0):∀x∈l,qv x:=by
 induction l generalizing k with
 |nil=>intro x ae;cases ae
 |cons a r ih=>
  intro x ae;rw[kV]at h;by_cases ad:(h1 a d k).1=0
  .simp only[ad,ne_eq,xbI,xaA]at h;rcases xas.1 ae with rfl|ae
   .exact⟨d,k,ad⟩
   exact ih h x ae
  simp only[ne_eq,ad,xce,xaz]at h
def qv.eY{t k:Fm}(h:qv t)(ah:k∈t.aW):qv k:=by
 obtain⟨d,n,h⟩:=h;rw[IW]at h;split at h;.cases h
 split at h;.rename_i ad;exact absurd h ad
 split at h;.cases h
 exact aut h k ah
def qv.len{t:Fm}(h:qv t):(t.aW.length:Int)=mO t.op/\¬mO t.op<0:=by
 have ab:=h.one;unfold mg at ab;split at ab;.cases ab
 rename_i ad;refine⟨?_,ad⟩;split at ab;.rename_i ax;exact absurd ab ax.2
 split at ab;.cases ab
 rename_i a8;simp only[not_or,Decidable.not_not,ne_eq]at a8;exact a8.1
def T.qw(t:Tm):[J t.op,J t.num,aQ t.name,cF 4 t.nl (Tm.rows t.aW)]=t.cells:=(Tm.oC t).symm
def F.ac6(t:Fm):[J t.op,J t.e.op,J t.e.num,aQ t.e.name,cF 4 t.e.nl (Tm.rows t.e.aW),cF 6 t.nl (Fm.rows t.aW)]=t.cells:=(Fm.oC t).symm
def acI(s:List Fm)(p:Fm):Fm.rows (s++[p])=Fm.rows s++[p.cells]:=by simp[Fm.k6]
theorem T.mP(t:Tm):D.agg t.cells=t.d:=rfl
theorem F.mP(t:Fm):D.agg t.cells=t.d:=rfl
structure Y where
 b:Bool
 lo:Int
 ag:Int
deriving DecidableEq
def Y.cells(y:Y):List D:=[ay y.b,J y.lo,J y.ag]
def Y.d(y:Y):D:= .agg [ay y.b,J y.lo,J y.ag]
def e0:Y:=⟨false,0,0⟩
def iM:Y:=⟨true,0,0⟩
def Y.kW(y:Y):Prop:=(y.b=true->y.lo=0/\y.ag=0)/\-1048576<=y.lo/\y.lo<=y.ag/\y.ag<=1048576
@[simp] theorem Y.m6 (y:Y):aX 3 y.d=true:=rfl
@[simp] theorem Y.aL (y:Y):aa y.d 0=ay y.b:=rfl
@[simp] theorem Y.bh (y:Y):aa y.d 1=J y.lo:=rfl
@[simp] theorem Y.bo (y:Y):aa y.d 2=J y.ag:=rfl
@[simp] theorem Y.FY (y:Y):D.agg [ay y.b,J y.lo,J y.ag]=y.d:=rfl
@[simp high] theorem Y.a7 (y:Y):Go.Am.a7 true 3 0 y.cells=some y.d:=rfl
@[simp] theorem Y.gn (y:Y):y.cells[0]?=some (ay y.b):=rfl
@[simp] theorem Y.hB (y:Y):y.cells[1]?=some (J y.lo):=rfl
@[simp] theorem Y.al2 (y:Y):y.cells[2]?=some (J y.ag):=rfl
@[simp] theorem Y.flat (y:Y):y.d.flat=true:=rfl
@[simp] theorem aBi (y:Y) (e:Int):(D.aO [y.d,J e]).flat=true:=rfl
def gO(lo ag:Int):Y×Int:=if lo< -1048576\/ag>1048576\/lo>ag\/ag-lo>4096 then(e0,2)else(⟨false,lo,ag⟩,0)
def DI{lo ag:Int}(h:(gO lo ag).2=0):(gO lo ag).1.kW:=by
 unfold gO at*;split at h;.cases h
 rename_i ai;rw[xab ai];exact⟨by simp,by simp;omega,by simp;omega,by simp;omega⟩
theorem ac7(lo ag:Int):(D.aO [(gO lo ag).1.d,J (gO lo ag).2])=if lo< -1048576\/ag>1048576\/lo>ag\/ag-lo>4096 then D.aO [.agg [ay false,J 0,J 0],J 2]else D.aO [.agg [ay false,J lo,J ag],J 0]:=by unfold gO;split<;>rfl
def vG(n:Nat)(lo ag:Int):rG n [J lo,J ag]=some (.aO [(gO lo ag).1.d,J (gO lo ag).2]):=by rw[ac7];have a8:-1048576<=lo->ag<=1048576->lo<=ag->IntKind.i64.wrap (ag-lo)=ag-lo:=λ_ _ _=>wrap64 _ (by omega) (by omega);simp[rG,ZS,Rm,-Ry,-Rh];grind
def IX(n:Nat)(lo ag:Int):qt n [J lo,J ag]=some (.aO [(gO lo ag).1.d,J (gO lo ag).2]):=by
 have hw:IntKind.i64.wrap (-1048576)=-1048576:=by decide
 rw[ac7];have a8:-1048576<=lo->ag<=1048576->lo<=ag->IntKind.i64.wrap (ag-lo)=ag-lo:=λ_ _ _=>wrap64 _ (by omega) (by omega);simp[qt,aam,Rm,hw,-Ry,-Rh];grind
def gw(l:List Y):D:= .aA 3 (l.map Y.cells)
def IY{l:List Y}{i:Nat}{y:Y}(h:l[i]?=some y):bk 3 (gw l) (J (i:Int))=some y.cells:=by simp[gw,h]
def auu(n:Nat)(l:List Y)(aC:l.length<n)(an:l.length<1000000000):GK n [gw l]=some (.aO [(if l.all Y.b then iM else e0).d,J (if l.all Y.b then 0 else 13)]):=by
 have ag:=c8 (f:=GJ n) l (λi (s:Unit)=>[gw l,J l.length,J (i:Int),ay false,J 0,J 0]) (λr _=>if r.all Y.b then(Sum.inl [ay false,J 0,J 0]:List D⊕D)else .inr (.aO [e0.d,J 13])) (λ_ _=>True) (λ_ _=>by simp[GJ]) ?_ n 0 () trivial (by omega) (xai _)
 .have bO:(J ((0:Nat):Int))=J 0:=rfl;rw[bO]at ag;have bH:bF (gw l)=some (J l.length):=by simp[gw]
  simp only[GK,ZT,bH,dx,ag,xap];by_cases h:l.all Y.b=true;.simp only[h,xaz,qj];rfl
  simp only[h,xaq,xaA,FL]
 intro i a _ aH ag _;have:=IY aH;cases ak:a.b
 .right;simp[GJ,ag,this,cc (bt:=false) (i:=i) (by omega),ak];rfl
 left;exact⟨(),by simp[GJ,ag,this,cc (bt:=false) (i:=i) (by omega),ak],by simp[ak],trivial⟩
def auv(n:Nat)(l:List Y)(aC:l.length<n)(an:l.length<1000000000):HL n [gw l]=some (ay (l.all Y.b)):=by
 have bH:bF (gw l)=some (J l.length):=by simp[gw]
 have ag:=c8 (f:=HK n) l (λi (s:Unit)=>[gw l,J (i:Int)]) (λr _=>if r.all Y.b then(Sum.inl []:List D⊕D)else .inr (ay false)) (λ_ _=>True) (λ_ _=>by simp[HK,bH]) ?_ n 0 () trivial (by omega) (xai _)
 .have bO:(J ((0:Nat):Int))=J 0:=rfl;rw[bO]at ag;simp only[HL,aao,dx,ag,xap];by_cases h:l.all Y.b=true;.simp only[h,xaz,qj,dx]
  simp only[h,xaq,xaA,FL,dx]
 intro i a _ aH ag _;have:=IY aH;cases ak:a.b
 .right;simp[HK,bH,ag,this,cc (bt:=false) (i:=i) (by omega),ak]
 left;exact⟨(),by simp[HK,bH,ag,this,cc (bt:=false) (i:=i) (by omega),ak],by simp[ak],trivial⟩
def j8(a b:Int):Int:=if b<a then b else a
def fw(a b:Int):Int:=if b>a then b else a
def NB(a b:Int):iW true [J a,J b]=some (J (fw a b)):=FZ a b
def TZ(a b:Int):iW false [J a,J b]=some (J (j8 a b)):=Y5 a b
theorem auw(a b c d:Int):iW true [J a,J b,J c,J d]=some (J (fw (fw (fw a b) c) d)):=rfl
theorem auy(a b c d:Int):iW false [J a,J b,J c,J d]=some (J (j8 (j8 (j8 a b) c) d)):=rfl
def xK{x y:Int}(ae:-1048576<=x/\x<=1048576)(aP:-1048576<=y/\y<=1048576):-1099511627776<=x*y/\x*y<=1099511627776:=by
 have ab:x.natAbs<=1048576:=by omega
 have ad:y.natAbs<=1048576:=by omega
 have ax:(x*y).natAbs<=1048576*1048576:=by rw[Int.natAbs_mul];exact Nat.mul_le_mul ab ad
 omega
def DJ(a b:Y):Int:=j8 (j8 (j8 (a.lo*b.lo) (a.lo*b.ag)) (a.ag*b.lo)) (a.ag*b.ag)
def DK(a b:Y):Int:=fw (fw (fw (a.lo*b.lo) (a.lo*b.ag)) (a.ag*b.lo)) (a.ag*b.ag)
def oQ(op:Int)(a b:Y):Y×Int:=if op=15 then gO (a.lo-b.ag) (a.ag-b.lo)else if op=14 then gO (a.lo+b.lo) (a.ag+b.ag)else gO (DJ a b) (DK a b)
def auz(n:Nat)(op:Int)(a b:Y)(aH:a.kW)(ak:b.kW):zk n [J op,a.d,b.d]=some (.aO [(oQ op a b).1.d,J (oQ op a b).2]):=by
 obtain⟨_,ao,a2,a3⟩:=aH;obtain⟨_,e3,hW,kL⟩:=ak;have lq:IntKind.i64.wrap (-b.ag)=-b.ag:=wrap64 _ (by omega) (by omega);have uq:IntKind.i64.wrap (-b.lo)=-b.lo:=wrap64 _ (by omega) (by omega);by_cases ab:op=15
 .subst ab;have aN:a.lo+-b.ag=a.lo-b.ag:=by omega
  have aV:a.ag+-b.lo=a.ag-b.lo:=by omega
  simp(disch:=omega) [zk,LV,oQ,lq,uq,er,vG,aN,aV]
 by_cases ad:op=14;.subst ad;simp(disch:=omega) [zk,LV,oQ,er,vG]
 have gd:=xK (x:=a.lo) (y:=b.lo) (by omega) (by omega);have jm:=xK (x:=a.lo) (y:=b.ag) (by omega) (by omega);have IN:=xK (x:=a.ag) (y:=b.lo) (by omega) (by omega);have auA:=xK (x:=a.ag) (y:=b.ag) (by omega) (by omega);simp(disch:=omega) [zk,LV,oQ,ab,ad,uQ,vG,auw,auy,DJ,DK]
def auB(n:Nat)(a b:Y)(aC:6<=n)(aH:a.kW)(ak:b.kW):HM n [a.d,b.d]=some (.aO [J (DJ a b),J (DK a b)]):=by
 obtain⟨_,ao,a2,a3⟩:=aH;obtain⟨_,e3,hW,kL⟩:=ak;have gd:=xK (x:=a.lo) (y:=b.lo) (by omega) (by omega);have jm:=xK (x:=a.lo) (y:=b.ag) (by omega) (by omega);have IN:=xK (x:=a.ag) (y:=b.lo) (by omega) (by omega);have auA:=xK (x:=a.ag) (y:=b.ag) (by omega) (by omega);obtain⟨k,rfl⟩:∃k,n=k+4:=⟨n-4,by omega⟩;have Dw:cV 4 (J 0)=some 0:=rfl;have eJ:cV 4 (J 1)=some 1:=rfl;have dV:cV 4 (J 2)=some 2:=rfl;have hJ:cV 4 (J 3)=some 3:=rfl;unfold DJ DK;simp(disch:=omega) [HM,aap,uQ,Dw];generalize a.lo*b.lo=w at*;generalize a.lo*b.ag=x at*;generalize a.ag*b.lo=y at*;generalize a.ag*b.ag=z at*;have aBj:j8 w x=j8 w x:=rfl;have step:∀(p q:Int)(i j:Int)(r:Int),i+1=j->(cV 4 (J i)=some i.toNat)->i<4->0<=i->([[J w],[J x],[J y],[J z]]:List (List D))[i.toNat]?=some [J r]->Mv (k+4) [J p,J q,J i,.aA 1 [[J w],[J x],[J y],[J z]]]=some (.inl [J (j8 p r),J (fw q r),J j,.aA 1 [[J w],[J x],[J y],[J z]]]):=by intro p q i j r aq ab ad ax a8;subst aq;simp(disch:=omega) [Mv,ab,ad,a8,NB,TZ,er]
 rw[kK,step w w 1 2 x rfl rfl (by omega) (by omega) rfl];simp only[dx];rw[kK,step _ _ 2 3 y rfl rfl (by omega) (by omega) rfl];simp only[dx];rw[kK,step _ _ 3 4 z rfl rfl (by omega) (by omega) rfl];simp only[dx];rw[kK];simp[Mv]
def Valid(t:Tm):Prop:=∃deep k:Int,(c4 t deep k).1=0
def Valid.NC{t:Tm}(h:Valid t):h0 t=0:=by
 obtain⟨deep,k,h⟩:=h;rw[vB]at h;split at h;.cases h
 split at h;.assumption
 rename_i ai;simpa using ai
def ac8:∀(l:List Tm)(deep k:Int),(eZ l deep k).1=0->∀x∈l,Valid x
 |[],_,_,_,x,ae=>by cases ae
 |a::r,deep,k,h,x,ae=>by
  rw[eZ]at h;split at h;.rename_i ai;exact absurd h ai
  rename_i ai;rcases xas.1 ae with rfl|ae
  .exact⟨deep,k,by simpa using ai⟩
  exact ac8 r deep _ h x ae
def Valid.eY{t x:Tm}(h:Valid t)(ae:x∈t.aW):Valid x:=by
 have hw:=h.NC;obtain⟨deep,k,h⟩:=h;rw[vB]at h;split at h;.cases h
 split at h;.rename_i ai;exact absurd hw ai
 split at h;.cases h
 exact ac8 _ _ _ h x ae
def Valid.op{t:Tm}(h:Valid t):1<=t.op/\t.op<=18:=by
 have hw:=h.NC;unfold h0 at hw;split at hw;.cases hw
 rename_i ai;unfold fQ at ai;refine xbb λaC=>?_;simp only[show¬(t.op=1\/t.op=2\/t.op=3\/t.op=4) by omega,show¬t.op=5 by omega,show¬(t.op=6\/t.op=7) by omega,show¬t.op=18 by omega,show(t.op<1\/t.op>18) by omega,xaz,xaA]at ai;exact ai (by decide)
def ac9{t:Tm}(hw:h0 t=0):¬(fQ t.op).1<0/\¬((t.num<(if t.op=1 then-255 else 0))\/t.num>(if t.op=1 then 255 else if t.op=2 then 1 else 0))/\ ¬(if Du t.op then t.name=⟨#[]⟩\/t.name.size>24 else t.name≠⟨#[]⟩)/\¬((t.aW.length:Int)<(fQ t.op).1\/(t.aW.length:Int)>(fQ t.op).2):=by
 unfold h0 at hw;by_cases ab:(fQ t.op).1<0;.rw[xaa ab]at hw;cases hw
 rw[xab ab]at hw;by_cases ad:(t.num<(if t.op=1 then-255 else 0))\/t.num>(if t.op=1 then 255 else if t.op=2 then 1 else 0);.rw[xaa ad]at hw;cases hw
 rw[xab ad]at hw;by_cases ax:(if Du t.op then t.name=⟨#[]⟩\/t.name.size>24 else t.name≠⟨#[]⟩);.rw[xaa ax]at hw;cases hw
 rw[xab ax]at hw;by_cases a8:((t.aW.length:Int)<(fQ t.op).1\/(t.aW.length:Int)>(fQ t.op).2);.rw[xaa a8]at hw;cases hw
 exact⟨ab,ad,ax,a8⟩
def Valid.len{t:Tm}(h:Valid t):(fQ t.op).1<=t.aW.length/\(t.aW.length:Int)<=(fQ t.op).2:=by have:=(ac9 h.NC).2.2.2;omega
def Valid.num{t:Tm}(h:Valid t):-255<=t.num/\t.num<=255/\(t.op≠1->0<=t.num/\t.num<=1)/\(t.op≠1->t.op≠2->t.num=0):=by
 have ad:=(ac9 h.NC).2.1;by_cases bh:t.op=1;.simp only[bh,xaz]at ad;exact⟨by omega,by omega,by omega,by omega⟩
 by_cases bo:t.op=2;.simp only[bh,bo,xaz,xaA]at ad;exact⟨by omega,by omega,by omega,by omega⟩
 simp only[bh,bo,xaA]at ad;exact⟨by omega,by omega,by omega,by omega⟩
def gx(t:Tm)(l:List Y):Y×Int:=if 5<=t.op/\t.op<=9 then if l.all Y.b then(iM,0)else(e0,13)
 else match l with
  |[a,b,c]=>if(!a.b||(b.b !=c.b))then(e0,13)else if b.b then(iM,0)else gO (j8 b.lo c.lo) (fw b.ag c.ag)
  |[a,b]=>if t.op=10\/t.op=11 then if a.b !=b.b then(e0,13)else(iM,0)
   else if(a.b||b.b)then(e0,13)
   else if t.op=12\/t.op=13 then(iM,0)
   else if t.op=17 then(match t.aW[1]? with
    |some k=>if k.op≠1\/k.num<1 then(e0,2)else gO 0 (k.num-1)
    |none=>(e0,0))
   else oQ t.op a b
  |_=>(e0,0)
theorem vH{α:Type}{l:List α}(h:l.length=3):∃a b c,l=[a,b,c]:=by match l,h with|[a,b,c],_=>exact⟨a,b,c,rfl⟩
theorem qx{α:Type}{l:List α}(h:l.length=2):∃a b,l=[a,b]:=by match l,h with|[a,b],_=>exact⟨a,b,rfl⟩
theorem AV{op:Int}(h:op=18):fQ op=(3,3):=by subst h;rfl
def xL{op:Int}(h:8<=op/\op<=17):fQ op=(2,2):=by unfold fQ;rw[xab (by omega),xab (by omega),xab (by omega),xab (by omega),xab (by omega)]
def ada{l:List Tm}{b:Bool}{t:Tm}(h:l[1]?=some t):bk 4 (cF 4 b (Tm.rows l)) (J 1)=some t.cells:=Tm.gW (i:=1) h
def ND{l:List Y}{y:Y}(h:l[0]?=some y):bk 3 (gw l) (J 0)=some y.cells:=IY (i:=0) h
def NF{l:List Y}{y:Y}(h:l[1]?=some y):bk 3 (gw l) (J 1)=some y.cells:=IY (i:=1) h
def adb{l:List Y}{y:Y}(h:l[2]?=some y):bk 3 (gw l) (J 2)=some y.cells:=IY (i:=2) h
set_option maxHeartbeats 1000000 in
def auC(n:Nat)(t:Tm)(l:List Y)(aK:Valid t)(bZ:l.length=t.aW.length)(dI:5<=t.op)(bB:∀y∈l,y.kW)(aC:100<n):zZ n [t.d,gw l]=some (.aO [(gx t l).1.d,J (gx t l).2]):=by
 have r9:=aK.op;have bH:=aK.len;have aL:=Tm.px t;have bC:=Tm.rq t;have df:=Tm.m6 t;have iE:D.agg [ay false,J 0,J 0]=e0.d:=rfl;have kX:D.agg [ay true,J 0,J 0]=iM.d:=rfl;have ah:=xL (op:=t.op);have nc:=AV (op:=t.op);have auD:l.length<=64:=by
  have:(fQ t.op).2<=64:=by unfold fQ;repeat(first|split|decide)
  omega
 have aF:=auv n l (by omega) (by omega);by_cases ab:t.op<=9
 .have e:gx t l=if l.all Y.b then(iM,0)else(e0,13):=by unfold gx;rw[xaa ⟨dI,ab⟩]
  rw[e];have ai:t.op=5\/t.op=6\/t.op=7\/t.op=8\/t.op=9:=by omega
  generalize t.op=op at*;generalize l.all Y.b=q at*;rcases ai with rfl|rfl|rfl|rfl|rfl<;>simp[zZ,Mx,df,aL,aF,iE,kX]<;>cases q<;>simp
 by_cases ad:t.op=18;.rw[nc ad]at bH;obtain⟨a,b,c,rfl⟩:=vH (l:=l) (by simp at bH;omega);have g0:=ND (l:=[a,b,c]) rfl;have g1:=NF (l:=[a,b,c]) rfl;have g2:=adb (l:=[a,b,c]) rfl;unfold gx;generalize gw [a,b,c]=L at*;rw[xab (by omega)];simp[zZ,Mx,df,aL,ad,g0,g1,g2,iE,kX,IX,NB,TZ];cases a.b<;>cases b.b<;>cases c.b<;>(try simp)
 have ax:10<=t.op/\t.op<=17:=by omega
 rw[ah (by omega)]at bH;obtain⟨a,b,rfl⟩:=qx (l:=l) (by simp at bH;omega);have g0:=ND (l:=[a,b]) rfl;have g1:=NF (l:=[a,b]) rfl;have AW:=bB a (by simp);have qy:=bB b (by simp);have aU:=auB n a b (by omega) AW qy;obtain⟨_,ao,a2,a3⟩:=AW;obtain⟨_,e3,hW,kL⟩:=qy;unfold gx;generalize gw [a,b]=L at*;rw[xab (by omega)];obtain⟨BS,cA,ea⟩:=qx (l:=t.aW) (by simp at bH;omega);have T0:=ada (l:=t.aW) (b:=t.nl) (t:=cA) (by rw[ea];rfl);have auE:=(aK.eY (x:=cA) (by rw[ea];simp)).num;have s1:IntKind.i64.wrap (cA.num-1)=cA.num-1:=wrap64 _ (by omega) (by omega);have f5:aj false .sub (J cA.num) (J 1)=some (J (cA.num-1)):=mH (by omega) (by omega);have f1:aj false .add (J a.lo) (J b.lo)=some (J (a.lo+b.lo)):=er (by omega) (by omega);have f2:aj false .add (J a.ag) (J b.ag)=some (J (a.ag+b.ag)):=er (by omega) (by omega);have f3:aj false .sub (J a.lo) (J b.ag)=some (J (a.lo-b.ag)):=mH (by omega) (by omega);have f4:aj false .sub (J a.ag) (J b.lo)=some (J (a.ag-b.lo)):=mH (by omega) (by omega);have ai:t.op=10\/t.op=11\/t.op=12\/t.op=13\/t.op=14\/t.op=15\/t.op=16\/t.op=17:=by omega
 have bG:(t.aW[1]?)=some cA:=by rw[ea];rfl
 generalize t.op=op at*;have Ds:∀x y:Int,gO x y=gO x y:=λ_ _=>rfl;rcases ai with rfl|rfl|rfl|rfl|rfl|rfl|rfl|rfl<;>
  cases di:a.b<;>cases ep:b.b<;>simp[zZ,Mx,df,aL,bC,g0,g1,T0,bG,iE,kX,IX,oQ,f1,f2,f3,f4,f5,aU,di,ep]
 all_goals (by_cases jw:cA.op=1<;>by_cases z2:cA.num<1<;>simp[jw,z2])
set_option maxHeartbeats 2000000 in
def auF(n:Nat)(auG M:D)(t:Tm)(nx:Bool)(l:List Y)(aK:Valid t)(bZ:l.length=t.aW.length)(dI:5<=t.op)(bB:∀y∈l,y.kW)(aC:100<n):oH n [auG,M,t.d,ay nx,gw l]=some (.aO [(gx t l).1.d,J (gx t l).2]):=by
 have r9:=aK.op;have bH:=aK.len;have aL:=Tm.px t;have bC:=Tm.rq t;have df:=Tm.m6 t;have iE:D.agg [ay false,J 0,J 0]=e0.d:=rfl;have kX:D.agg [ay true,J 0,J 0]=iM.d:=rfl;have ah:=xL (op:=t.op);have nc:=AV (op:=t.op);have auD:l.length<=64:=by
  have:(fQ t.op).2<=64:=by unfold fQ;repeat(first|split|decide)
  omega
 have aF:=auu n l (by omega) (by omega);by_cases ab:t.op<=9
 .have e:gx t l=if l.all Y.b then(iM,0)else(e0,13):=by unfold gx;rw[xaa ⟨dI,ab⟩]
  rw[e];have ai:t.op=5\/t.op=6\/t.op=7\/t.op=8\/t.op=9:=by omega
  generalize t.op=op at*;generalize l.all Y.b=q at*;rcases ai with rfl|rfl|rfl|rfl|rfl<;>simp[oH,th,df,aL,aF,iE,kX]<;>cases q<;>simp
 by_cases ad:t.op=18;.rw[nc ad]at bH;obtain⟨a,b,c,rfl⟩:=vH (l:=l) (by simp at bH;omega);have g0:=ND (l:=[a,b,c]) rfl;have g1:=NF (l:=[a,b,c]) rfl;have g2:=adb (l:=[a,b,c]) rfl;have qy:=(bB b (by simp)).1;unfold gx;generalize gw [a,b,c]=L at*;rw[xab (by omega)];simp[oH,th,df,aL,ad,g0,g1,g2,iE,kX,vG,NB,TZ];obtain⟨nr,aBk,aBl⟩:=b;cases a.b<;>cases nr<;>cases c.b<;>simp at qy⊢;obtain⟨rfl,rfl⟩:=qy;rfl
 have ax:10<=t.op/\t.op<=17:=by omega
 rw[ah (by omega)]at bH;obtain⟨a,b,rfl⟩:=qx (l:=l) (by simp at bH;omega);have g0:=ND (l:=[a,b]) rfl;have g1:=NF (l:=[a,b]) rfl;have AW:=bB a (by simp);have qy:=bB b (by simp);have aU:=λop=>auz n op a b AW qy;obtain⟨_,ao,a2,a3⟩:=AW;obtain⟨_,e3,hW,kL⟩:=qy;unfold gx;generalize gw [a,b]=L at*;rw[xab (by omega)];obtain⟨BS,cA,ea⟩:=qx (l:=t.aW) (by simp at bH;omega);have T0:=ada (l:=t.aW) (b:=t.nl) (t:=cA) (by rw[ea];rfl);have auE:=(aK.eY (x:=cA) (by rw[ea];simp)).num;have s1:IntKind.i64.wrap (cA.num-1)=cA.num-1:=wrap64 _ (by omega) (by omega);have f5:aj false .sub (J cA.num) (J 1)=some (J (cA.num-1)):=mH (by omega) (by omega);have f1:aj false .add (J a.lo) (J b.lo)=some (J (a.lo+b.lo)):=er (by omega) (by omega);have f2:aj false .add (J a.ag) (J b.ag)=some (J (a.ag+b.ag)):=er (by omega) (by omega);have f3:aj false .sub (J a.lo) (J b.ag)=some (J (a.lo-b.ag)):=mH (by omega) (by omega);have f4:aj false .sub (J a.ag) (J b.lo)=some (J (a.ag-b.lo)):=mH (by omega) (by omega);have ai:t.op=10\/t.op=11\/t.op=12\/t.op=13\/t.op=14\/t.op=15\/t.op=16\/t.op=17:=by omega
 have bG:(t.aW[1]?)=some cA:=by rw[ea];rfl
 generalize t.op=op at*;have Ds:∀x y:Int,gO x y=gO x y:=λ_ _=>rfl;rcases ai with rfl|rfl|rfl|rfl|rfl|rfl|rfl|rfl<;>
  cases di:a.b<;>cases ep:b.b<;>simp[oH,th,df,aL,bC,g0,g1,T0,bG,iE,kX,vG,aU,f1,f2,f3,f4,f5,di,ep]
 all_goals (by_cases jw:cA.op=1<;>by_cases z2:cA.num<1<;>simp[jw,z2])
def dO(vs:List V)(x:ByteArray):Option Nat:=vs.findIdx? (λv=>decide (v.name=x))
def xM{vs:List V}{x:ByteArray}{i:Nat}(h:dO vs x=some i):∃v,vs[i]?=some v/\v.name=x/\i<vs.length:=by obtain⟨ab,ad,_⟩:=xbn.1 h;exact⟨_,xad ab,by simpa using ad,ab⟩
theorem V.vI(v:V):v.cells[0]?=some (aQ v.name)/\v.cells[1]?=some (ay v.bool)/\v.cells[2]?=some (J v.lo)/\v.cells[3]?=some (J v.ag):=⟨rfl,rfl,rfl,rfl⟩
def fM{l:List V}{i:Nat}{v:V}(h:l[i]?=some v):bk 4 (bd l) (J (i:Int))=some v.cells:=by simp[bd,h]
def eg(l:List V):bF (bd l)=some (J l.length):=by simp[bd]
theorem V.auH(v:V):a7 true 4 0 v.cells=some v.d/\aX 4 v.d=true/\aa v.d 0=aQ v.name:=⟨rfl,rfl,rfl⟩
def tK:List V->Nat->List (Value×D)->List (Value×D)
 |[],_,M=>M|v::r,i,M=>tK r (i+1) (if(gf M v.name).isSome then M else(ra .string M (aQ v.name) (J i)).getD [])
def T1:∀(r:List V)(i:Nat)(M:List (Value×D)),lH M->lH (tK r i M)/\∀x,gf (tK r i M) x=match gf M x with|some d=>some d|none=>(dO r x).map λj=>J ((i+j:Nat):Int)
 |[],i,M,h=>⟨h,λx=>by simp only[tK,dO,List.findIdx?_nil];cases gf M x<;>rfl⟩
 |v::r,i,M,h=>by
  rw[tK];have e:∀x,dO (v::r) x=if v.name=x then some 0 else(dO r x).map (·+1):=by intro x;simp[dO,xbT]
  by_cases av:(gf M v.name).isSome
  .rw[xaa av];obtain⟨ab,ad⟩:=T1 r (i+1) M h;refine⟨ab,λx=>?_⟩;rw[ad x,e x];cases ae:gf M x with
   |some d=>rfl
   |none=>
    have cf:¬v.name=x:=by rintro rfl;simp[ae]at av
    simp only[cf,xaA,Option.map_map]
    congr 1
    funext j
    simp only[Function.comp]
    congr 2
    omega
  rw[xab av];obtain⟨ec,eJ,dV,hJ,_⟩:=Lw h v.name (J i);rw[eJ,xbm];obtain⟨ab,ad⟩:=T1 r (i+1) ec dV;refine⟨ab,λx=>?_⟩;rw[ad x,hJ x,e x];by_cases ae:x=v.name
  .subst ae;have aC:gf M v.name=none:=by simpa using av
   simp[aC]
  have cf:¬v.name=x:=λh=>ae h.symm;simp only[ae,cf,xaA];cases bB:gf M x with
  |some d=>rfl
  |none=>
   simp only[Option.map_map]
   congr 1
   funext j
   simp only[Function.comp]
   congr 2
   omega
def NG(M:List (Value×D))(vs:List V):Prop:=lH M/\∀x,gf M x=(dO vs x).map λ(j:Nat)=>J (j:Int)
def ade(n:Nat)(vs:List V)(aC:vs.length<n)(an:vs.length<1000000000000):∃M,zj n [bd vs]=some (.mp M)/\NG M vs:=by
 have aq:lH []:=by intro e he;cases he
 obtain⟨ab,ad⟩:=T1 vs 0 [] aq;refine⟨tK vs 0 [],?_,ab,λx=>by rw[ad x];simp only[gf,xaE]⟩;have ag:=c8 (f:=GI n) vs (λi (M:List (Value×D))=>[bd vs,J vs.length,J (i:Int),.mp M]) (λr M=>(Sum.inl [.mp (tK r (vs.length-r.length) M)]:List D⊕D)) (λi M=>lH M) (λM _=>by simp[GI,tK]) ?_ n 0 [] aq (by omega) (xai _)
 .have bO:(J ((0:Nat):Int))=J 0:=rfl;rw[bO]at ag;simp[zj,ZR,eg,ag]
 intro i a M aH ag cH;left;have e:vs.length-(a::vs.drop (i+1)).length=i:=by simp;omega
 have c1:vs.length-(vs.drop (i+1)).length=i+1:=by simp;omega
 have ax:=Cg cH (z:= .int .i64 0) (x:=a.name);have ac:=a.auH;cases bB:gf M a.name with|some d=>rw[bB]at ax;refine⟨M,by simp[GI,ag,fM aH,ac,ax,cc (bt:=false) (i:=i) (by omega)],?_,cH⟩;rw[e,tK,bB,c1];rfl|none=>rw[bB]at ax;obtain⟨ec,eJ,dV,hJ,_⟩:=Lw cH a.name (J i);refine⟨ec,by simp[GI,ag,fM aH,ac,ax,eJ,cc (bt:=false) (i:=i) (by omega)],?_,dV⟩;rw[e,tK,bB,c1];simp only[xcl,xaq,xaA,eJ,xbm]
def T2(n:Nat)(vs:List V)(x:ByteArray)(aC:vs.length<n)(an:vs.length<1000000000000):vk n [bd vs,aQ x]=some (J (match dO vs x with|some i=>(i:Int)|none=>-1)):=by
 have ag:=c8 (f:=HJ n) vs (λi (_:Unit)=>[bd vs,aQ x,J (i:Int)]) (λr _=>match dO r x with|some j=>(Sum.inr (J ((vs.length-r.length+j:Nat):Int)):List D⊕D)|none=> .inl []) (λ_ _=>True) (λ_ _=>by simp[HJ,eg,dO]) ?_ n 0 () trivial (by omega) (xai _);.have bO:(J ((0:Nat):Int))=J 0:=rfl;rw[bO]at ag;simp only[vk,aan,ag,xap,dx];cases dO vs x<;>simp
 intro i a _ aH ag _;have e:vs.length-(a::vs.drop (i+1)).length=i:=by simp;omega
 have c1:vs.length-(vs.drop (i+1)).length=i+1:=by simp;omega
 have nq:dO (a::vs.drop (i+1)) x=if a.name=x then some 0 else(dO (vs.drop (i+1)) x).map (·+1):=by simp[dO,xbT]
 have ac:=a.vI;by_cases ae:a.name=x;.right;rw[nq,xaa ae,e];simp[HJ,eg,ag,fM aH,ac,ae]
 left;refine⟨(),by simp[HJ,eg,ag,fM aH,ac,ae,cc (bt:=false) (i:=i) (by omega)],?_,trivial⟩;rw[nq,xab ae,e,c1];cases dO (vs.drop (i+1)) x with|none=>rfl|some j=>simp;omega
def kt(vs:List V)(nx:Bool)(t:Tm):Y×Int:=if t.op=1 then gO t.num t.num else if t.op=2 then(iM,0)
 else match dO vs t.name with
  |none=>(e0,12)
  |some i=>if t.op=4/\nx=false then(e0,24)else match vs[i]? with
   |some v=>if v.bool then(iM,0)else gO v.lo v.ag
   |none=>(e0,12)
mutual
def dE(vs:List V)(nx:Bool):Tm->Y×Int
 | .mk o n s b ks=>if o<=4 then kt vs nx (.mk o n s b ks)else if(dK vs nx ks).2≠0 then(e0,(dK vs nx ks).2)else gx (.mk o n s b ks) (dK vs nx ks).1
def dK(vs:List V)(nx:Bool):List Tm->List Y×Int
 |[]=>([],0)|t::r=>if(dE vs nx t).2≠0 then([],(dE vs nx t).2)else if(dK vs nx r).2≠0 then([],(dK vs nx r).2)else((dE vs nx t).1::(dK vs nx r).1,0)
end
theorem nJ(vs:List V)(nx:Bool)(t:Tm):dE vs nx t=if t.op<=4 then kt vs nx t else if(dK vs nx t.aW).2≠0 then(e0,(dK vs nx t.aW).2)else gx t (dK vs nx t.aW).1:=by cases t;rw[dE];rfl
def T3:iM.kW:=⟨by simp[iM],by simp[iM],by simp[iM],by simp[iM]⟩
def auI{vs:List V}{nx:Bool}{t:Tm}(h:(kt vs nx t).2=0):(kt vs nx t).1.kW:=by
 unfold kt at*;by_cases ab:t.op=1;.rw[xaa ab]at*;exact DI h
 rw[xab ab]at*;by_cases ad:t.op=2;.rw[xaa ad];exact T3
 rw[xab ad]at*;cases ag:dO vs t.name with
 |none=>simp[ag]at h
 |some i=>
  simp only[ag]at h⊢;by_cases ax:t.op=4/\nx=false;.simp[ax]at h
  rw[xab ax]at*;cases aK:vs[i]? with
  |none=>simp[aK]at h
  |some v=>
   simp only[aK]at h⊢;by_cases ak:v.bool=true;.rw[xaa ak];exact T3
   rw[xab ak]at*;exact DI h
def auJ{op:Int}{a b:Y}(h:(oQ op a b).2=0):(oQ op a b).1.kW:=by
 unfold oQ at*;split at h;.rename_i ab;rw[xaa ab];exact DI h
 rename_i ab;split at h;.rename_i ad;rw[xab ab,xaa ad];exact DI h
 rename_i ad;rw[xab ab,xab ad];exact DI h
def tL{c:Prop}[Decidable c]{x y:Y×Int}(ae:x.2=0->x.1.kW\/x.1=e0)(aP:y.2=0->y.1.kW\/y.1=e0):(if c then x else y).2=0->(if c then x else y).1.kW\/(if c then x else y).1=e0:=by
 split;.exact ae
 exact aP
def auK{t:Tm}{l:List Y}:(gx t l).2=0->(gx t l).1.kW\/(gx t l).1=e0:=by
 have z:∀e:Int,((e0,e):Y×Int).2=0->((e0,e):Y×Int).1.kW\/((e0,e):Y×Int).1=e0:=λ_ _=> .inr rfl;have y:((iM,0):Y×Int).2=0->((iM,0):Y×Int).1.kW\/((iM,0):Y×Int).1=e0:=λ_=> .inl T3;have sp:∀a b:Int,(gO a b).2=0->(gO a b).1.kW\/(gO a b).1=e0:=λa b h=> .inl (DI h);unfold gx;refine tL (tL y (z _)) ?_;split
 .exact tL (z _) (tL y (sp _ _))
 .refine tL (tL (z _) y) (tL (z _) (tL y (tL ?_ (λh=> .inl (auJ h)))));split;.exact tL (z _) (sp _ _)
  exact z _
 exact z _
def auL:e0.kW:=⟨by simp[e0],by simp[e0],by simp[e0],by simp[e0]⟩
def auM(vs:List V)(nx:Bool)(t:Tm)(h:(dE vs nx t).2=0):(dE vs nx t).1.kW:=by
 rw[nJ]at*;split at h;.rename_i ai;rw[xaa ai];exact auI h
 rename_i ai;rw[xab ai];split at h;.rename_i bs;exact absurd h bs
 rename_i bs;rw[xab bs];rcases auK h with ab|ab
 .exact ab
 rw[ab];exact auL
def DL(vs:List V)(nx:Bool):∀(l:List Tm),(dK vs nx l).2=0->(dK vs nx l).1.length=l.length/\∀y∈(dK vs nx l).1,y.kW
 |[],_=>⟨rfl,by intro y aP;cases aP⟩
 |t::r,h=>by
  rw[dK]at*;by_cases ab:(dE vs nx t).2=0
  case neg=>rw[xaa ab]at h;exact absurd h ab
  rw[xab (by simpa using ab)]at*;by_cases ad:(dK vs nx r).2=0
  case neg=>rw[xaa ad]at h;exact absurd h ad
  rw[xab (by simpa using ad)];obtain⟨g1,g2⟩:=DL vs nx r ad;refine⟨by simp[g1],λy aP=>?_⟩;rcases xas.1 aP with rfl|aP
  .exact auM vs nx t ab
  exact g2 y aP
def auN(n:Nat)(vs:List V)(M:List (Value×D))(t:Tm)(nx:Bool)(L:D)(cH:NG M vs)(a8:t.op<=4)(ab:1<=t.op):oH n [bd vs,.mp M,t.d,ay nx,L]=some (.aO [(kt vs nx t).1.d,J (kt vs nx t).2]):=by
 have aL:=Tm.px t;have bh:=Tm.s6 t;have bo:=Tm.s7 t;have df:=Tm.m6 t;have iE:D.agg [ay false,J 0,J 0]=e0.d:=rfl;have kX:D.agg [ay true,J 0,J 0]=iM.d:=rfl;have an:=Cg cH.1 (z:= .int .i64 0) (x:=t.name);rw[cH.2]at an;unfold kt;have ai:t.op=1\/t.op=2\/t.op=3\/t.op=4:=by omega
 have sW:mB (.mp M)=some M:=rfl;generalize t.op=op at*;rcases ai with rfl|rfl|rfl|rfl
 .simp[oH,th,df,aL,bh,iE,kX,vG]
 .simp[oH,th,df,aL,bh,iE,kX,vG]
 .cases ag:dO vs t.name with|none=>rw[ag]at an;simp[oH,th,df,aL,bh,bo,iE,kX,sW,an]|some i=>rw[ag]at an;obtain⟨v,v1,v2,v3⟩:=xM ag;simp[oH,th,df,aL,bh,bo,iE,kX,sW,an,v1,fM v1,v.vI,vG];cases v.bool<;>simp
 cases ag:dO vs t.name with|none=>rw[ag]at an;simp[oH,th,df,aL,bh,bo,iE,kX,sW,an]|some i=>rw[ag]at an;obtain⟨v,v1,v2,v3⟩:=xM ag;simp[oH,th,df,aL,bh,bo,iE,kX,sW,an,v1,fM v1,v.vI,vG];cases v.bool<;>cases nx<;>simp
def Valid.leaf{t:Tm}(h:Valid t)(a8:t.op<=4):t.aW=[]:=by
 have ab:=h.op;have ad:=h.len;have:fQ t.op=(0,0):=by unfold fQ;rw[xaa (by omega)]
 rw[this]at ad;exact xaM (by have:=ad.2;simp only at this;omega)
def Valid.DM{t:Tm}(h:Valid t):t.aW.length<=64:=by
 have ad:=h.len;have:(fQ t.op).2<=64:=by unfold fQ;repeat(first|split|decide)
 omega
def adf{a b:Nat}(h:a+b<=1000):cJ (a+b) 24=true:=eW (by omega) (by omega)
def adg(vs:List V)(M:List (Value×D))(nx:Bool)(cH:NG M vs):∀(n:Nat)(t:Tm),t.bD+200<n->t.cz->Valid t->rI n [bd vs,.mp M,t.d,ay nx]=some (.aO [(dE vs nx t).1.d,J (dE vs nx t).2])
 |0,t,h,_,_=>absurd h (xaF _)
 |n+1,t,aC,bq,aK=>by
  rw[nJ];have iE:D.agg [ay false,J 0,J 0]=e0.d:=rfl;have IZ:=aK.DM;have an:=c8 (f:=CC (rI n) n) t.aW (λi (s:List Y)=>[bd vs,.mp M,ay nx,cF 4 t.nl (Tm.rows t.aW),J t.aW.length,J (i:Int),J t.op,J t.num,aQ t.name,cF 4 t.nl (Tm.rows t.aW),ay false,J 0,J 0,gw s]) (λr s=>if(dK vs nx r).2=0 then(Sum.inl [bd vs,.mp M,ay nx,J t.op,J t.num,aQ t.name,cF 4 t.nl (Tm.rows t.aW),ay false,J 0,J 0,gw (s++(dK vs nx r).1)]:List D⊕D)else .inr (.aO [e0.d,J (dK vs nx r).2])) (λi s=>s.length=i) ?_ ?_ n 0 [] rfl (by omega) (xai _)
  .have bO:(J ((0:Nat):Int))=J 0:=rfl;have aN:gw []= .aA 3 []:=rfl;rw[bO,aN]at an;simp only[rI,RZ,Tm.m6,Tm.px,Tm.s6,Tm.s7,Tm.rq,qi,Y4,Tm.kN,dx,an,xap,xaI];by_cases aq:(dK vs nx t.aW).2=0
   .obtain⟨g1,g2⟩:=DL vs nx t.aW aq;have aV:∀l:List Y,D.aA 3 (aB (gw l))=gw l:=λ_=>rfl;have auO:=λa8=>auN n vs M t nx (gw (dK vs nx t.aW).1) cH a8 aK.op.1;have T4:=λb3=>auF n (bd vs) (.mp M) t nx _ aK g1 b3 g2 (by omega);by_cases a8:t.op<=4
    .simp[aq,aV,auO a8,a8]
    simp[aq,aV,T4 (by omega),a8]
   have a8:¬t.op<=4:=λa8=>aq (by rw[aK.leaf a8];rfl);simp[aq,a8]
  .intro s av;simp[CC,dK,gw]
  intro i a s aH ag av;have hm:=xac aH;have bm:=Tm.iZ hm;have au:=adg vs M nx cH n a (by omega) (bq.eY hm) (aK.eY hm);have dw:cJ (s.length+1) 24=true:=adf (by omega);have q1:CC (rI n) n [bd vs,.mp M,ay nx,cF 4 t.nl (Tm.rows t.aW),J t.aW.length,J (i:Int),J t.op,J t.num,aQ t.name,cF 4 t.nl (Tm.rows t.aW),ay false,J 0,J 0,gw s]=
    if(dE vs nx a).2=0 then some (.inl [bd vs,.mp M,ay nx,cF 4 t.nl (Tm.rows t.aW),J t.aW.length,J ((i+1:Nat):Int),J t.op,J t.num,aQ t.name,cF 4 t.nl (Tm.rows t.aW),ay false,J 0,J 0,gw (s++[(dE vs nx a).1])])
    else some (.inr (.inr (.aO [e0.d,J (dE vs nx a).2]))):=by
   by_cases aq:(dE vs nx a).2=0;.simp[CC,ag,Tm.gW aH,au,aq,cc (bt:=false) (i:=i) (by omega),gw,dw];simp[Y.cells]
   .simp[CC,ag,Tm.gW aH,au,aq,iE]
  rw[q1];simp only[dK];by_cases aq:(dE vs nx a).2=0
  .left;refine⟨s++[(dE vs nx a).1],by simp[aq],?_,by simp[av]⟩;by_cases ab:(dK vs nx (t.aW.drop (i+1))).2=0;.simp[aq,ab]
   simp[aq,ab]
  right;simp[aq]
def adh(vs:List V)(nx:Bool)(mh:vs.length<1000000000000):∀(n:Nat)(t:Tm),t.bD+200+vs.length<n->t.cz->Valid t->mM n [bd vs,t.d,ay nx]=some (.aO [(dE vs nx t).1.d,J (dE vs nx t).2])
 |0,t,h,_,_=>absurd h (xaF _)
 |n+1,t,aC,bq,aK=>by
  rw[nJ];have iE:D.agg [ay false,J 0,J 0]=e0.d:=rfl;have kX:D.agg [ay true,J 0,J 0]=iM.d:=rfl;have IZ:=aK.DM;have dI:=aK.op;by_cases a8:t.op<=4
  .rw[xaa a8];have aL:=Tm.px t;have bh:=Tm.s6 t;have bo:=Tm.s7 t;have bC:=Tm.rq t;have df:=Tm.m6 t;unfold kt;have ae:=T2 n vs t.name (by omega) mh;have ai:t.op=1\/t.op=2\/t.op=3\/t.op=4:=by omega
   generalize t.op=op at*;rcases ai with rfl|rfl|rfl|rfl
   .simp[mM,vl,df,aL,bh,iE,kX,IX]
   .simp[mM,vl,df,aL,bh,iE,kX]
   .cases ag:dO vs t.name with
    |none=>rw[ag]at ae;simp[mM,vl,df,aL,bh,bo,bC,iE,kX,ae]
    |some i=>
     rw[ag]at ae;obtain⟨v,v1,v2,v3⟩:=xM ag;have kB:¬((i:Int)<0):=by omega
     simp[mM,vl,df,aL,bh,bo,bC,iE,kX,ae,kB,v1,fM v1,v.vI,IX];cases v.bool<;>simp
   cases ag:dO vs t.name with
   |none=>rw[ag]at ae;simp[mM,vl,df,aL,bh,bo,bC,iE,kX,ae]
   |some i=>
    rw[ag]at ae;obtain⟨v,v1,v2,v3⟩:=xM ag;have kB:¬((i:Int)<0):=by omega
    simp[mM,vl,df,aL,bh,bo,bC,iE,kX,ae,kB,v1,fM v1,v.vI,IX];cases v.bool<;>cases nx<;>simp
  rw[xab a8];have an:=c8 (f:=CR (mM n) n) t.aW (λi (s:List Y)=>[bd vs,ay nx,J (i:Int),J t.op,J t.num,aQ t.name,cF 4 t.nl (Tm.rows t.aW),ay false,J 0,J 0,gw s]) (λr s=>if(dK vs nx r).2=0 then(Sum.inl [J t.op,J t.num,aQ t.name,cF 4 t.nl (Tm.rows t.aW),ay false,J 0,J 0,gw (s++(dK vs nx r).1)]:List D⊕D)else .inr (.aO [e0.d,J (dK vs nx r).2])) (λi s=>s.length=i) ?_ ?_ n 0 [] rfl (by omega) (xai _)
  .have bO:(J ((0:Nat):Int))=J 0:=rfl;have aN:gw []= .aA 3 []:=rfl;rw[bO,aN]at an;have e3:(t.op==1)=false:=by simp;omega
   have hW:(t.op==2)=false:=by simp;omega
   have kL:(t.op==3)=false:=by simp;omega
   have qz:(t.op==4)=false:=by simp;omega
   simp only[mM,vl,Tm.m6,Tm.px,Tm.s6,Tm.s7,Tm.rq,qi,Ca,e3,hW,kL,qz,lF,xaq,xaA,dx,qj,ps,rn,an,xap,xaI];by_cases aq:(dK vs nx t.aW).2=0;.obtain⟨g1,g2⟩:=DL vs nx t.aW aq;have aV:∀l:List Y,D.aA 3 (aB (gw l))=gw l:=λ_=>rfl;have T4:=auC n t _ aK g1 (by omega) g2 (by omega);simp[aq,aV,T4]
   simp[aq]
  .intro s av;simp[CR,dK,gw]
  intro i a s aH ag av;have hm:=xac aH;have bm:=Tm.iZ hm;have au:=adh vs nx mh n a (by omega) (bq.eY hm) (aK.eY hm);have dw:cJ (s.length+1) 24=true:=adf (by omega);have q1:CR (mM n) n [bd vs,ay nx,J (i:Int),J t.op,J t.num,aQ t.name,cF 4 t.nl (Tm.rows t.aW),ay false,J 0,J 0,gw s]=
    if(dE vs nx a).2=0 then some (.inl [bd vs,ay nx,J ((i+1:Nat):Int),J t.op,J t.num,aQ t.name,cF 4 t.nl (Tm.rows t.aW),ay false,J 0,J 0,gw (s++[(dE vs nx a).1])])
    else some (.inr (.inr (.aO [e0.d,J (dE vs nx a).2]))):=by
   by_cases aq:(dE vs nx a).2=0;.simp[CR,ag,Tm.gW aH,au,aq,cc (bt:=false) (i:=i) (by omega),gw,dw];simp[Y.cells]
   .simp[CR,ag,Tm.gW aH,au,aq,iE]
  rw[q1];simp only[dK];by_cases aq:(dE vs nx a).2=0
  .left;refine⟨s++[(dE vs nx a).1],by simp[aq],?_,by simp[av]⟩;by_cases ab:(dK vs nx (t.aW.drop (i+1))).2=0;.simp[aq,ab]
   simp[aq,ab]
  right;simp[aq]
def jr(vs:List V)(nx:Bool)(t:Tm):Y×Int:=if(c4 t 1 0).1≠0 then(e0,(c4 t 1 0).1)else dE vs nx t
def adi(n:Nat)(vs:List V)(t:Tm)(nx:Bool)(aC:t.bD+200+vs.length<n)(bq:t.cz)(mh:vs.length<1000000000000):xa n [bd vs,t.d,ay nx]=some (.aO [(jr vs nx t).1.d,J (jr vs nx t).2]):=by
 have ai:=Nl n t (by omega) bq;obtain⟨M,gd,jm⟩:=ade n vs (by omega) mh;have iE:D.agg [ay false,J 0,J 0]=e0.d:=rfl;unfold jr;by_cases aq:(c4 t 1 0).1=0
 .have aF:=adg vs M nx jm n t (by omega) bq ⟨1,0,aq⟩;simp[xa,R0,ai,aq,gd,aF]
 simp[xa,R0,ai,aq,iE]
def adj(n:Nat)(vs:List V)(t:Tm)(nx:Bool)(aC:t.bD+200+vs.length<n)(bq:t.cz)(mh:vs.length<1000000000000):xk n [bd vs,t.d,ay nx]=some (.aO [(jr vs nx t).1.d,J (jr vs nx t).2]):=by
 have ai:=Tu n t (by omega) bq;have iE:D.agg [ay false,J 0,J 0]=e0.d:=rfl;unfold jr;by_cases aq:(c4 t 1 0).1=0
 .have aF:=adh vs nx mh n t (by omega) bq ⟨1,0,aq⟩;simp[xk,St,ai,aq,aF]
 simp[xk,St,ai,aq,iE]
end Go.Am
