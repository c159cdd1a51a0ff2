/- The laws, on data. No condition. -/
import Derived.Test.YtbninlabhgbhcaaGreatDoorEngD
import Derived.Test.YtbninlabhgbhcaaGreatDoorCode
import Derived.Test.YtbninlabhgbhcaaGreatDoorEngS
set_option linter.all false
set_option linter.unnecessarySimpa false
namespace Go.Am
def gu(op:Int):Int×Int:=if op=1\/op=2\/op=3\/op=4 then(0,0)else if op=5 then(1,1)else if op=6\/op=7 then(1,64)else if op=18 then(3,3)else if op<1\/op>18 then(-1,-1)else(2,2)
def DQ(op:Int):Bool:=op==3||op==4
def iD(t:Tm):Int:=if(gu t.op).1<0 then 11
 else if(t.num<(if t.op=1 then-255 else 0))\/t.num>(if t.op=1 then 255 else if t.op=2 then 1 else 0)then 2
 else if(if DQ t.op then t.name=⟨#[]⟩\/t.name.size>24 else t.name≠⟨#[]⟩)then 12
 else if(t.bc.length:Int)<(gu t.op).1\/(t.bc.length:Int)>(gu t.op).2 then 3 else 0
def at6(n:Nat)(op:Int):HG n [I op]=some (.a6 [I (gu op).1,I (gu op).2]):=by
 rcases L0 op with rfl|rfl|rfl|rfl|rfl|rfl|rfl|rfl|rfl|rfl|rfl|rfl|rfl|rfl|rfl|rfl|rfl|rfl|h
 case inr.inr.inr.inr.inr.inr.inr.inr.inr.inr.inr.inr.inr.inr.inr.inr.inr.inr=>
  have e:∀k:Int,1<=k->k<=18->(op==k)=false:=λk J aa=>by simp;omega
  have a7:gu op=(-1,-1):=by unfold gu;repeat(first|rw[xae (by omega)]|rw[xac (by omega)])
  simp[HG,abd,e,a7]
 all_goals rfl
def at7(n:Nat)(op:Int):CU n [I op]=some (.a6 [I (gu op).1,I (gu op).2]):=by
 rcases L0 op with rfl|rfl|rfl|rfl|rfl|rfl|rfl|rfl|rfl|rfl|rfl|rfl|rfl|rfl|rfl|rfl|rfl|rfl|h
 case inr.inr.inr.inr.inr.inr.inr.inr.inr.inr.inr.inr.inr.inr.inr.inr.inr.inr=>
  have e:∀k:Int,1<=k->k<=18->(op==k)=false:=λk J aa=>by simp;omega
  have a7:gu op=(-1,-1):=by unfold gu;repeat(first|rw[xae (by omega)]|rw[xac (by omega)])
  rcases h with h|h;.simp[CU,Ss,e,a7,h]
  have:¬op<1:=by omega
  simp[CU,Ss,e,a7,h,this]
 all_goals rfl
def aua(s:ByteArray):decide (s=⟨#[]⟩)=decide ((s.size:Int)<1):=by
 have:s=⟨#[]⟩↔(s.size:Int)<1:=by
  constructor;.rintro rfl;decide
  intro h;have:s.size=0:=by omega
  cases s with|mk a=>congr;exact xbm this
 simp[this]
def aub(n:Nat)(t:Tm):HH n [t.d]=some (I (iD t)):=by
 cases t with|mk op num s b ks=>
 have ah:=at6 n op;have hC:dV 4 (Tm.d (.mk op num s b ks))=true:=Tm.nV _;have b1:ae (Tm.d (.mk op num s b ks)) 0=I op:=rfl;have aL:ae (Tm.d (.mk op num s b ks)) 1=I num:=rfl;have a7:ae (Tm.d (.mk op num s b ks)) 2=a1 s:=rfl;have bV:ae (Tm.d (.mk op num s b ks)) 3=cB 4 b (Tm.rows ks):=rfl;generalize Tm.d (.mk op num s b ks)=x at*;simp only[iD,Tm.op,Tm.num,Tm.name,Tm.bc];simp only[HH,abe,hC,b1,aL,a7,bV,qK,ah,dT,RM,xbA,xcn,Gd,l2,dO,aw,aF,bs,bI,b3,dM,u8,oy];by_cases au:(gu op).1<0
 .simp[au]
 simp only[au,decide_false,xar,xaH,CC,dT,l2];simp[DQ];grind
def adg(n:Nat)(t:Tm)(deep:Int):zO n [t.d,I deep]=some (I (if deep>64 then 17 else iD t)):=by
 cases t with|mk op num s b ks=>
 have ah:=at7 n op;have hC:dV 4 (Tm.d (.mk op num s b ks))=true:=Tm.nV _;have b1:ae (Tm.d (.mk op num s b ks)) 0=I op:=rfl;have aL:ae (Tm.d (.mk op num s b ks)) 1=I num:=rfl;have a7:ae (Tm.d (.mk op num s b ks)) 2=a1 s:=rfl;have bV:ae (Tm.d (.mk op num s b ks)) 3=cB 4 b (Tm.rows ks):=rfl;have cG:D.agg [I op,I num,a1 s,cB 4 b (Tm.rows ks)]=(Tm.d (.mk op num s b ks)):=rfl;have aC:=aua s;simp only[iD,Tm.op,Tm.num,Tm.name,Tm.bc];simp only[zO,aaN,hC,b1,aL,a7,bV,cG,qK,ah,dT,RM,xbA,xcn,Gd,px,l2,dO,aw,aF,bs,bI,b3,dM,u8,zs];by_cases ay:deep>64
 .simp[ay]
 by_cases au:(gu op).1<0;.simp[au]
 simp only[au,ay,decide_false,xar,xaH,CC,dT,l2];simp[DQ];simp at aC;grind
mutual
def dk:Tm->Int->Int->Int×Int
 | .mk op n s b ks,deep,k=>if deep>64 then(17,k+1)else if iD (.mk op n s b ks)≠0 then(iD (.mk op n s b ks),k+1)else if k+1>4096 then(4,k+1)else fq ks (deep+1) (k+1)
def fq:List Tm->Int->Int->Int×Int
 |[],_,k=>(0,k)|t::r,deep,k=>if(dk t deep k).1≠0 then dk t deep k else fq r deep (dk t deep k).2
end
theorem vU(t:Tm)(deep k:Int):dk t deep k=if deep>64 then(17,k+1)else if iD t≠0 then(iD t,k+1)else if k+1>4096 then(4,k+1)else fq t.bc (deep+1) (k+1):=by cases t;rw[dk];rfl
def DR(t:Tm):∀(deep k:Int),k+1<=(dk t deep k).2/\((dk t deep k).1=0->(dk t deep k).2<=4096):=by
 refine Tm.ind (P:=λt=>∀(deep k:Int),k+1<=(dk t deep k).2/\((dk t deep k).1=0->(dk t deep k).2<=4096)) ?_ t;intro t ih deep k;rw[vU];split;.simp
 split;.rename_i h;simp[h]
 split;.simp
 have key:∀(l:List Tm)(deep k:Int),(∀x∈l,∀(deep k:Int),k+1<=(dk x deep k).2/\((dk x deep k).1=0->(dk x deep k).2<=4096))->k<=4096->k<=(fq l deep k).2/\((fq l deep k).1=0->(fq l deep k).2<=4096):=by
  intro l
  induction l with
  |nil=>intro deep k _ h;simp[fq,h]
  |cons a r mb=>
   intro deep k h ah;rw[fq];have J:=h a (by simp) deep k;split
   .rename_i aa;exact⟨by omega,λax=>absurd ax aa⟩
   rename_i aa;simp only[ne_eq,Decidable.not_not]at aa;have ax:=mb deep (dk a deep k).2 (λx ad=>h x (by simp[ad])) (J.2 aa);exact⟨by omega,ax.2⟩
 have:=key t.bc (deep+1) (k+1) ih (by omega);exact this
def adh:∀(n:Nat)(t:Tm)(deep k:Int),t.bA<n->t.Ok->0<=deep->deep<=65->0<=k->k<=4096->tL n [t.d,I deep,I k]=some (.a6 [I (dk t deep k).1,I (dk t deep k).2])
 |0,t,_,_,h,_,_,_,_,_=>absurd h (xaJ _)
 |n+1,t,deep,k,aN,bD,J,aa,ax,bh=>by
  have aU:=adg n t deep;rw[vU];simp[tL,St,l6 (bt:=false) (i:=k) (by omega) (by omega),aU];by_cases ay:64<deep;.simp[ay]
  simp[ay];by_cases hw:iD t=0
  case neg=>simp[hw]
  simp[hw];by_cases ai:4096<k+1;.simp[ai]
  simp[ai];have al:=dC (f:=Mf (tL n) n) t.bc (λi s=>[I deep,I s,I (i:Int),I t.op,I t.num,a1 t.name,cB 4 t.nl (Tm.rows t.bc)]) (λr (s:Int)=>if(fq r (deep+1) s).1=0 then(Sum.inl [I (fq r (deep+1) s).2]:List D⊕D)else .inr (.a6 [I (fq r (deep+1) s).1,I (fq r (deep+1) s).2])) (λi s=>0<=s/\s<=4096) ?_ ?_ n 0 (k+1) ⟨by omega,by omega⟩ (by have:=t.l5;omega) (xaj _)
  .have b1:(I ((0:Nat):Int))=I 0:=rfl;rw[b1]at al;rw[al];simp only[xam,dT];by_cases au:(fq t.bc (deep+1) (k+1)).1=0;.simp[au]
   simp[au]
  .intro s aC;simp[Mf,fq]
  intro i a s aH af aC;have hm:=xad aH;have bG:=Tm.j2 hm;have bJ:=bD.len;have av:=adh n a (deep+1) s (by omega) (bD.fD hm) (by omega) (by omega) aC.1 aC.2;have ij:=DR a (deep+1) s;simp[Mf,af,Tm.h0 aH,l6 (bt:=false) (i:=deep) (by omega) (by omega),av,cm (bt:=false) (i:=i) (by omega),fq];by_cases au:(dk a (deep+1) s).1=0
  .left;simp only[au];exact⟨(dk a (deep+1) s).2,by simp,by simp,by omega,ij.2 au⟩
  right;simp[au]
def Um(n:Nat)(t:Tm)(aN:t.bA<n)(bD:t.Ok):vr n [t.d]=some (I (dk t 1 0).1):=by have:=adh n t 1 0 aN bD (by omega) (by omega) (by omega) (by omega);simp[vr,aaO,this]
def auc(n:Nat)(t:Tm)(deep k w:Int)(J:0<=k)(aa:k<=4096):∃e,e=(if deep>64 then 17 else if iD t≠0 then iD t else if k+1>4096 then 4 else 0)/\HI n [t.d,I deep,I k,I w]=some [aI (decide (e=0)),I (k+1),I e]:=by refine⟨_,rfl,?_⟩;have aU:=aub n t;simp[HI,l6 (bt:=false) (i:=k) (by omega) (by omega),aU];by_cases c1:64<deep<;>by_cases c2:iD t=0<;>by_cases b4:4096<k+1<;>simp[c1,c2,b4]
def adi:∀(n:Nat)(t:Tm)(deep k w:Int),t.bA<n->t.Ok->0<=deep->deep<=65->0<=k->k<=4096->vD n [t.d,I deep,I k,I w]=some [aI (decide ((dk t deep k).1=0)),I (dk t deep k).2,I (dk t deep k).1]
 |0,t,_,_,_,h,_,_,_,_,_=>absurd h (xaJ _)
 |n+1,t,deep,k,w,aN,bD,J,aa,ax,bh=>by
  obtain⟨e,he,aU⟩:=auc n t deep k w ax bh;rw[vU];simp[vD,S4,aU];by_cases I8:e=0
  case neg=>simp[I8];grind
  have ai:¬deep>64/\iD t=0/\¬k+1>4096:=by grind
  simp[I8,ai];have al:=dC (f:=Mq (vD n) n) t.bc (λi (s:Int×Int)=>[I deep,cB 4 t.nl (Tm.rows t.bc),I t.bc.length,I (i:Int),I s.1,I s.2]) (λr (s:Int×Int)=>if(fq r (deep+1) s.1).1=0 then(Sum.inl [I (fq r (deep+1) s.1).2,I 0]:List D⊕List D)else .inr [aI false,I (fq r (deep+1) s.1).2,I (fq r (deep+1) s.1).1]) (λi s=>0<=s.1/\s.1<=4096/\s.2=0) ?_ ?_ n 0 (k+1,0) ⟨by simp;omega,by simp;omega,rfl⟩ (by have:=t.l5;omega) (xaj _)
  .have b1:(I ((0:Nat):Int))=I 0:=rfl;rw[b1]at al;rw[al];simp only[xam,dT];by_cases au:(fq t.bc (deep+1) (k+1)).1=0;.simp[au]
   simp[au]
  .intro s aC;simp[Mq,fq,aC.2.2]
  intro i a s aH af aC;have hm:=xad aH;have bG:=Tm.j2 hm;have bJ:=bD.len;have av:=adi n a (deep+1) s.1 s.2 (by omega) (bD.fD hm) (by omega) (by omega) aC.1 aC.2.1;have ij:=DR a (deep+1) s.1;simp[Mq,af,Tm.h0 aH,l6 (bt:=false) (i:=deep) (by omega) (by omega),av,cm (bt:=false) (i:=i) (by omega),fq];by_cases au:(dk a (deep+1) s.1).1=0
  .left;exact⟨(dk a (deep+1) s.1).2,0,by simp[au],by simp[au],by omega,ij.2 au,rfl⟩
  right;simp[au]
def NA(n:Nat)(t:Tm)(aN:t.bA<n)(bD:t.Ok):tT n [t.d]=some (I (dk t 1 0).1):=by have:=adi n t 1 0 0 aN bD (by omega) (by omega) (by omega) (by omega);simp[tT,abg,this]
def aud{α:Type}(A B:List α)(z s:α):(((A++B++[z]).take (A.length+1)++(((A++B++[z]).drop A.length).take (B.length+1)).take (min ((((A++B++[z]).drop A.length).take (B.length+1)).length) B.length)++(A++B++[z]).drop (A.length+1+min ((((A++B++[z]).drop A.length).take (B.length+1)).length) B.length)).set A.length s)=A++s::B:=by
 have aL:(A++B++[z]).drop A.length=B++[z]:=by rw[xaK,List.drop_left]
 have a7:(B++[z]).take (B.length+1)=B++[z]:=xbw (by simp);rw[aL,a7];have bV:min (B++[z]).length B.length=B.length:=by simp
 rw[bV];have cG:(B++[z]).take B.length=B:=List.take_left;have dI:(A++B++[z]).drop (A.length+1+B.length)=[]:=xcp (by simp;omega);rw[cG,dI,xav];obtain⟨w,hw⟩:∃w,(A++B++[z]).take (A.length+1)=A++[w]:=by rw[xaK,List.take_append];cases B with|nil=>exact⟨z,by rw[xbw (by omega)];simp⟩|cons b B=>exact⟨b,by rw[xbw (by omega)];simp⟩
 rw[hw,xaK];simp
def Un{n i:Nat}(h:i<=n):kN n (some (I (i:Int))) none=some (i,n-i):=by simp[kN,p3,I,h]
theorem aue(l:List ByteArray):ba (dG l)=l.map λs=>[a1 s]:=rfl
def adj(n:Nat)(s:ByteArray)(l:List ByteArray)(aC:j4 l)(aN:l.length+2<n)(al:l.length<1000000000):xK n [a1 s,dG l]=some [dG (h1 s l)]:=by
 obtain⟨a,b,rfl,aa,ax,bh,b9,cN⟩:=R5 s aC;have es:=aue (a++b);have key:bL (HJ n) n [a1 s,I ((a++b).length:Int),dG (a++b)]=some (.inl [a1 s,I (a.length:Int),dG (a++b)]):=by
  refine mH (λj=>[a1 s,I (((a++b).length-j:Nat):Int),dG (a++b)]) b.length (by simp) ?_ ?_ (by simp at aN;omega)
  .intro j aB;have bJ:(a++b).length=a.length+b.length:=by simp
   obtain⟨m,hm⟩:∃m:Nat,(a++b).length-j=m+1:=⟨(a++b).length-j-1,by omega⟩;have DS:(a++b).length-(j+1)=m:=by omega
   have ht:(a++b)[m]?=b[m-a.length]?:=xaC (by omega);have b5:m-a.length<b.length:=by omega
   have auf:=xab b5;rw[auf]at ht;have aj:=ax _ (xaZ b5);generalize b[m-a.length]=x at*;have nu:bB false .sub (I ((m+1:Nat):Int)) (I 1)=some (I (m:Int)):=by rw[nU (by omega) (by omega)];congr 2;omega
   have ud:cL (ba (dG (a++b))).length (I (m:Int))=some m:=by rw[jZ,xac (by rw[es];simp at bJ⊢;omega)]
   have ei:(ba (dG (a++b)))[m]?=some [a1 x]:=by rw[es,xah,ht];rfl
   have ij:((m+1:Nat):Int)>0:=by omega
   simp only[hm,DS];simp only[HJ,qb,rP,px,xaq ij,dT,vk,xaF,nu,ud,ei,iY,xbA,L2,aj,vl,l2,dO,aw,dB,aF,bI,bg,h2];rfl
  have bJ:(a++b).length-b.length=a.length:=by simp
  simp only[bJ];by_cases au:a.length=0
  .have:¬((a.length:Int)>0):=by omega
   simp only[HJ,qb,rP,px,xaD this,dT,vk,xar,xaH,vl,l2,RK,dO,aw,dB,aF,bI,bg,h2];rfl
  obtain⟨m,hm⟩:∃m:Nat,a.length=m+1:=⟨a.length-1,by omega⟩;have b5:m<a.length:=by omega
  have ht:(a++b)[m]?=a[m]?:=xap b5;rw[xab b5]at ht;have aH:=aa _ (xaZ b5);generalize a[m]=x at*;have nu:bB false .sub (I ((m+1:Nat):Int)) (I 1)=some (I (m:Int)):=by rw[nU (by omega) (by simp at al;omega)];congr 2;omega
  have ud:cL (ba (dG (a++b))).length (I (m:Int))=some m:=by rw[jZ,xac (by rw[es];simp;omega)]
  have ei:(ba (dG (a++b)))[m]?=some [a1 x]:=by rw[es,xah,ht];rfl
  have ij:((m+1:Nat):Int)>0:=by omega
  simp only[hm];simp only[HJ,qb,rP,px,xaq ij,dT,vk,xaF,nu,ud,ei,iY,xbA,L2,aH,vl,l2,xar,xaH,RK,dO,aw,dB,aF,bI,bg,h2];rfl
 have js:D.aV 1 (ba (dG (a++b)))=dG (a++b):=rfl;have adk:(ba (dG (a++b))).length=(a++b).length:=by rw[es];simp
 by_cases cX:s∈a++b
 .obtain⟨cI,rfl⟩:=bh cX;rw[R4 aC cX];have zq:(cI++[s]).length=cI.length+1:=by simp
  have nu:bB false .sub (I ((cI.length+1:Nat):Int)) (I 1)=some (I (cI.length:Int)):=by rw[nU (by omega) (by simp at al;omega)];congr 2;omega
  have ud:cL ((cI++[s]++b).length) (I (cI.length:Int))=some cI.length:=by rw[jZ,xac (by simp)]
  have ei:(ba (dG (cI++[s]++b)))[cI.length]?=some [a1 s]:=by rw[es];simp
  have ij:((cI.length+1:Nat):Int)>0:=by omega
  rw[zq]at key;simp only[xK,qb,rP,adk,js,key,dT,qL,px,xaq ij,vk,xaF,nu,ud,ei,iY,xbA,RQ,decide_true,vl,l2,dO,aw,dB,bI,bg,eh,h2]
 rw[cN cX];have Gk:=b9 cX;have I9:ab (dL (aI (decide ((a.length:Int)>0))) true (ab (bB false .sub (I (a.length:Int)) (I 1)) λv26=>ab (cL (a++b).length v26) λHK=>ab ((ba (dG (a++b)))[HK]?) λaug=>ab (bN false 1 0 aug) λv28=>ab (bB false .eql v28 (a1 s)) λv30=>some v30)) (λv30=>ab (gp (aI (decide ((a.length:Int)>0))) v30 (aI false)) λv31=>some v31)=some (aI false):=by
  by_cases au:a.length=0
  .have:¬((a.length:Int)>0):=by omega
   simp only[xaD this,vk,xar,xaH,dT,vl]
  obtain⟨m,hm⟩:∃m:Nat,a.length=m+1:=⟨a.length-1,by omega⟩;have b5:m<a.length:=by omega
  have ht:(a++b)[m]?=a[m]?:=xap b5;rw[xab b5]at ht;have cp:a[m]≠s:=λe=>Gk (by rw[<-e];exact xaZ b5);generalize a[m]=x at*;have nu:bB false .sub (I ((m+1:Nat):Int)) (I 1)=some (I (m:Int)):=by rw[nU (by omega) (by simp at al;omega)];congr 2;omega
  have ud:cL (a++b).length (I (m:Int))=some m:=by rw[jZ,xac (by simp;omega)]
  have ei:(ba (dG (a++b)))[m]?=some [a1 x]:=by rw[es,xah,ht];rfl
  have ij:((m+1:Nat):Int)>0:=by omega
  rw[hm];simp only[xaq ij,vk,xaF,nu,dT,ud,ei,iY,xbA,RQ,xaD cp,vl]
 obtain⟨v30,b0,bR⟩:=ek I9;obtain⟨v31,cw,dX⟩:=ek bR;cases dX;have eI:cZ ((a++b).length+1) 16=true:=fV (by omega) (by omega);have fT:=cm (bt:=false) (i:=a.length) (by simp at al;omega);have ey:ba (dG (a++b))++[[a1 ⟨#[]⟩]]=(a.map λs=>[a1 s])++(b.map λs=>[a1 s])++[[a1 ⟨#[]⟩]]:=by rw[es];simp
 have auh:((a.map λs=>[a1 s])++(b.map λs=>[a1 s])++[[a1 ⟨#[]⟩]]:List (List D)).length=a.length+b.length+1:=by simp;omega
 have c1:kN (a.length+b.length+1) (some (I ((a.length+1:Nat):Int))) none=some (a.length+1,b.length):=by rw[Un (by omega)];congr 2;omega
 have c2:kN (a.length+b.length+1) (some (I (a.length:Int))) none=some (a.length,b.length+1):=by rw[Un (by omega)];congr 2;omega
 have tz:=aud (a.map λs=>[a1 s]) (b.map λs=>[a1 s]) [a1 ⟨#[]⟩] [a1 s];simp only[xaY]at tz;have yL:∀(X:List (List D)) (w:List D),X[a.length]?=some w->iN w 0 [a1 s]=[a1 s]->(X.set a.length (iN w 0 [a1 s]))=X.set a.length [a1 s]:=λX w _ h=>by rw[h]
 generalize kU:(((a.map λs=>[a1 s])++(b.map λs=>[a1 s])++[[a1 ⟨#[]⟩]]:List (List D)).take (a.length+1)++((((a.map λs=>[a1 s])++(b.map λs=>[a1 s])++[[a1 ⟨#[]⟩]]:List (List D)).drop a.length).take (b.length+1)).take (min (((((a.map λs=>[a1 s])++(b.map λs=>[a1 s])++[[a1 ⟨#[]⟩]]:List (List D)).drop a.length).take (b.length+1)).length) b.length)++((a.map λs=>[a1 s])++(b.map λs=>[a1 s])++[[a1 ⟨#[]⟩]]:List (List D)).drop (a.length+1+min (((((a.map λs=>[a1 s])++(b.map λs=>[a1 s])++[[a1 ⟨#[]⟩]]:List (List D)).drop a.length).take (b.length+1)).length) b.length))=X at*;have aCo:X.length=a.length+b.length+1:=by have:=congrArg List.length tz;simp at this;omega
 have ud:cL X.length (I (a.length:Int))=some a.length:=by rw[jZ,xac (by omega)]
 have hw:∃x,X[a.length]?=some [x]:=by
  have hm:∀w∈X,∃x,w=[x]:=by
   rw[<-kU];intro w hw;have cX:w∈((a.map λs=>[a1 s])++(b.map λs=>[a1 s])++[[a1 ⟨#[]⟩]]:List (List D)):=by
    rcases xas.1 hw with hw|hw
    .rcases xas.1 hw with hw|hw;.exact xbo hw
     exact xbn (xbo (xbo hw))
    exact xbn hw
   rcases xas.1 cX with cX|cX
   .rcases xas.1 cX with cX|cX;.obtain⟨x,_,rfl⟩:=xaO.1 cX;exact⟨_,rfl⟩
    obtain⟨x,_,rfl⟩:=xaO.1 cX;exact⟨_,rfl⟩
   simp at cX;exact⟨_,cX⟩
  have b5:a.length<X.length:=by omega
  obtain⟨x,ad⟩:=hm _ (xaZ b5);exact⟨x,by rw[xab b5,ad]⟩
 obtain⟨x,ad⟩:=hw;have Uo:iN [x] 0 [a1 s]=[a1 s]:=rfl;have d1:decide (a.length+(b.length+1)<=a.length+b.length+1)=true:=xaq (by omega);have d2:decide (a.length+1+b.length<=a.length+b.length+1)=true:=xaq (by omega);have oh:bZ (a1 s)=true:=rfl;have mW:([[a1 ⟨#[]⟩]]:List (List D)).length=1:=rfl;simp only[xK,qb,rP,adk,js,key,dT,qL,px,dO,aw,dB,bI,bg,eh,h2];rw[b0];simp only[dT,cw,l2,xar,xaH,mW,eI,qK,fT,ey,auh,c1,c2,d1,d2,kU,ud,oh,ad,Uo,tz];simp[dG]
def kv(nl:Bool)(l:List ByteArray):D:=cB 1 nl (l.map λs=>[a1 s])
def adl{nl:Bool}{l:List ByteArray}(h:l≠[]):kv nl l=dG l:=by cases l with|nil=>exact absurd rfl h|cons a r=>simp[kv,dG,cB]
def oG(nl:Bool)(l:List ByteArray):fA (kv nl l)=some (I l.length):=by simp[kv]
def Be{nl:Bool}{l:List ByteArray}{i:Nat}{s:ByteArray}(h:l[i]?=some s):bX 1 (kv nl l) (I (i:Int))=some [a1 s]:=by unfold kv;rw[RZ];simp[h]
def aui(s:ByteArray)(l:List ByteArray):h1 s l≠[]:=by cases l with|nil=>simp[h1]|cons a r=>rw[h1];split<;>(try split)<;>simp
def auj(n:Nat)(nl:Bool)(l:List ByteArray)(s:ByteArray)(aN:l.length<n)(al:l.length<1000000000):GR n [kv nl l,a1 s]=some (aI (l.any λx=>decide (x=s))):=by
 have af:=dC (f:=GQ n) l (λi (_:Unit)=>[kv nl l,a1 s,I (i:Int)]) (λr _=>if r.any (λx=>decide (x=s))=true then(.inr (aI true):List D⊕D)else .inl []) (λ_ _=>True) (λ_ _=>by simp[GQ,oG]) ?_ n 0 () trivial (by omega) (xaj _)
 .have b1:(I ((0:Nat):Int))=I 0:=rfl;rw[b1]at af;simp only[xam]at af;simp only[GR,aaJ,af,dT,zs];by_cases h:l.any (λx=>decide (x=s))=true;.rw[xac h,h];rfl
  rw[xae h];cases bM:l.any (λx=>decide (x=s))with|false=>rfl|true=>exact absurd bM h
 intro i x _ ad af _;by_cases h:x=s;.right;simp[GQ,oG,af,Be ad,h]
 left;exact⟨(),by simp[GQ,oG,af,Be ad,h,cm (bt:=false) (i:=i) (by omega)],by simp only[List.any_cons,xaD h,xbE],trivial⟩
def wf(s:ByteArray):List ByteArray->Bool->List ByteArray->Bool×List ByteArray
 |[],d,o=>(d,o)|x::r,d,o=>if(!d&&blt s x)=true then wf s r true (o++[s,x])else wf s r d (o++[x])
def adm(s:ByteArray):∀(l o:List ByteArray),wf s l true o=(true,o++l)
 |[],o=>by simp[wf]|x::r,o=>by rw[wf];simp[adm s r]
def adn(s:ByteArray):∀(a b o:List ByteArray),(∀x∈a,blt s x=false)->wf s (a++b) false o=wf s b false (o++a)
 |[],b,o,_=>by simp|x::a,b,o,h=>by rw[xbt,wf];have:=h x (by simp);simp[this,adn s a b _ (λy aE=>h y (by simp[aE]))]
def auk(s:ByteArray):∀(b o:List ByteArray),(∀x∈b,blt s x=true)->wf s b false o=(match b with|[]=>(false,o)|_=>(true,o++s::b))
 |[],o,_=>rfl|x::r,o,h=>by rw[wf];have:=h x (by simp);simp[this,adm]
@[simp] theorem aCp (p:List ByteArray) (x:ByteArray):D.aV 1 (ba (dG p)++[[a1 x]])=dG (p++[x]):=by simp[dG]
@[simp] theorem aCq (p:List ByteArray):(ba (dG p)).length=p.length:=by simp[dG]
@[simp] theorem aCr (p:List ByteArray):D.aV 1 (ba (dG p))=dG p:=rfl
def aul(n:Nat)(nl:Bool)(l:List ByteArray)(s:ByteArray)(aC:j4 l)(aN:l.length+2<n)(al:l.length<1000000000):zL n [kv nl l,a1 s]=some (dG (h1 s l)):=by
 have cX:=auj n nl l s (by omega) al;by_cases hm:s∈l;.have:l.any (λx=>decide (x=s))=true:=xbC.2 ⟨s,hm,by simp⟩;rw[this]at cX;rw[R4 aC hm];simp only[zL,Mc,cX,dT,l2,xaF,aF,bg,dW,h2,zs];rw[adl (List.ne_nil_of_mem hm)]
 have Gk:l.any (λx=>decide (x=s))=false:=by cases h:l.any (λx=>decide (x=s))with|false=>rfl|true=>obtain⟨x,J,aa⟩:=xbC.1 h;simp at aa;subst aa;exact absurd J hm
 rw[Gk]at cX;obtain⟨a,b,hf,aa,ax,bh,b9,cN⟩:=R5 s aC;have hw:wf s l false []=wf s b false a:=by rw[hf,adn s a b _ aa];simp
 have ja:=dC (f:=CT n) l (λi (p:Bool×List ByteArray)=>[kv nl l,a1 s,aI p.1,I (i:Int),dG p.2]) (λr p=>(.inl [a1 s,aI (wf s r p.1 p.2).1,dG (wf s r p.1 p.2).2]:List D⊕D)) (λi p=>p.2.length<=i+(if p.1=true then 1 else 0)) (λp _=>by simp[CT,oG,wf]) ?_ n 0 (false,[]) (by simp) (by omega) (xaj _)
 .have b1:(I ((0:Nat):Int))=I 0:=rfl;have aL:dG []= .aV 1 []:=rfl;rw[b1,aL]at ja;simp only[xam,hw]at ja;rw[cN hm];have KA:a.length<=l.length:=by rw[hf];simp
  cases b with|nil=>simp only[wf]at ja;have eI:cZ (a.length+1) 16=true:=fV (by omega) (by omega);simp[zL,Mc,cX,ja,eI]|cons c r=>have aj:=auk s (c::r) a ax;simp only at aj;rw[aj]at ja;simp[zL,Mc,cX,ja]
 intro i x p ad af aU;left;have aH:=cm (bt:=false) (i:=i) (by omega);have xf:p.2.length<=i+1:=by split at aU<;>omega
 have eM:cZ (p.2.length+1) 16=true:=fV (by omega) (by omega);have eG:cZ (p.2.length+1+1) 16=true:=fV (by omega) (by omega);obtain⟨d,o⟩:=p;simp only at aU eM eG;cases d with
 |true=>
  refine⟨(true,o++[x]),?_,by rw[wf];simp,?_⟩;.simp[CT,oG,af,Be ad,eM,aH]
  simp at aU⊢;omega
 |false=>
  cases aj:blt s x
  .refine⟨(false,o++[x]),?_,by rw[wf];simp[aj],?_⟩;.simp[CT,oG,af,Be ad,eM,aH,L2,aj,-RR]
   simp at aU⊢;omega
  refine⟨(true,o++[s]++[x]),?_,by rw[wf];simp[aj],?_⟩;.simp[CT,oG,af,Be ad,eM,eG,aH,L2,aj,-RR]
  simp at aU⊢;omega
mutual
def gh(o:Int):Tm->List ByteArray->List ByteArray
 | .mk op _ s _ ks,l=>nv o ks (if op=o then h1 s l else l)
def nv(o:Int):List Tm->List ByteArray->List ByteArray
 |[],l=>l|t::r,l=>nv o r (gh o t l)
end
theorem NB(o:Int)(t:Tm)(l:List ByteArray):gh o t l=nv o t.bc (if t.op=o then h1 t.name l else l):=by cases t;rw[gh];rfl
mutual
def Ja(o:Int):∀(t:Tm)(l:List ByteArray),j4 l->j4 (gh o t l)/\(gh o t l).length<=l.length+t.bA
 | .mk op n s b ks,l,h=>by
  rw[gh];have J:j4 (if op=o then h1 s l else l):=by split;exact Gr h;exact h
  have aa:(if op=o then h1 s l else l).length<=l.length+1:=by split;exact Gs l;omega
  have:=ado o ks _ J;exact⟨this.1,by simp only[Tm.bA];omega⟩
def ado(o:Int):∀(ks:List Tm)(l:List ByteArray),j4 l->j4 (nv o ks l)/\(nv o ks l).length<=l.length+Tm.eZ ks
 |[],l,h=>⟨h,by simp[nv,Tm.eZ]⟩|t::r,l,h=>by rw[nv];have J:=Ja o t l h;have aa:=ado o r _ J.1;exact⟨aa.1,by simp only[Tm.eZ];omega⟩
end
theorem adp{l:List Tm}{i:Nat}{a:Tm}(h:l[i]?=some a):Tm.eZ (l.drop i)=1+a.bA+Tm.eZ (l.drop (i+1)):=by obtain⟨J,aa⟩:=xaa.1 h;rw[xaU J,aa];rfl
def aum(nl:Bool)(s:ByteArray)(l:List ByteArray):kv nl (h1 s l)=dG (h1 s l):=adl (aui s l)
def Up(o:Int):∀(n:Nat)(t:Tm)(nl:Bool)(l:List ByteArray),t.bA+l.length+10<n->t.Ok->j4 l->l.length+t.bA<1000000000->r1 n [t.d,I o,kv nl l]=some (kv nl (gh o t l))
 |0,t,_,_,h,_,_,_=>absurd h (xaJ _)
 |n+1,t,nl,l,aN,bD,aC,aj=>by
  have bJ:=bD.len;have aun:=t.l5;show GS (r1 n) n t.d (I o) (kv nl l)=_;rw[NB];generalize nR:(if t.op=o then h1 t.name l else l)=vV;have J:j4 vV:=by rw[<-nR];split;exact Gr aC;exact aC
  have aa:vV.length<=l.length+1:=by rw[<-nR];split;exact Gs l;omega
  have auo:Tm.eZ t.bc+2=t.bA:=by cases t;simp[Tm.bA,Tm.bc];omega
  have al:=dC (f:=Md (r1 n) n) t.bc (λi (p:List ByteArray)=>[I o,kv nl p,I (i:Int),I t.op,I t.num,a1 t.name,cB 4 t.nl (Tm.rows t.bc)]) (λr p=>(.inl [kv nl (nv o r p)]:List D⊕D)) (λi p=>j4 p/\p.length+Tm.eZ (t.bc.drop i)<=vV.length+Tm.eZ t.bc) (λp _=>by simp[Md,nv]) ?_ n 0 vV ⟨J,by simp⟩ (by omega) (xaj _)
  .have b1:(I ((0:Nat):Int))=I 0:=rfl;rw[b1]at al;simp only[xam]at al;by_cases aT:t.op=o;.rw[xac aT]at nR;have hw:=aul n nl l t.name aC (by omega) (by omega);rw[nR,<-nR,<-aum nl,nR]at hw;simp[GS,aT,hw];rw[aT]at al;rw[al];rfl
   rw[xae aT]at nR;subst nR;simp[GS,aT,al]
  intro i a p aH af aU;have hm:=xad aH;have bG:=Tm.j2 hm;have ay:=adp aH;have av:=Up o n a nl p (by omega) (bD.fD hm) aU.1 (by omega);have PO:=Ja o a p aU.1;left;refine⟨gh o a p,?_,by rw[nv],PO.1,by omega⟩;simp[Md,af,Tm.h0 aH,av,cm (bt:=false) (i:=i) (by omega)]
def Uq(n:Nat)(t:Tm)(aN:t.bA+10<n)(bD:t.Ok)(aj:t.bA<1000000000):vq n [t.d]=some (.a6 [kv true (gh 3 t []),kv true (gh 4 t [])]):=by have ax:=Up 3 n t true [] (by simp;omega) bD trivial (by simp;omega);have bh:=Up 4 n t true [] (by simp;omega) bD trivial (by simp;omega);have e:kv true []=da:=rfl;rw[e]at ax bh;simp[vq,aaK,ax,bh]
def aup(n:Nat)(t:Tm)(hZ:D)(p q:List ByteArray)(aU:j4 p)(bM:j4 q)(aN:p.length+q.length+5<n)(aj:p.length+q.length<1000000000):Ae n [t.d,hZ,dG p,dG q]=some [aI true,dG (if t.op=3 then h1 t.name p else p),dG (if t.op=4 then h1 t.name q else q)]:=by
 have hE:=adj n t.name p aU (by omega) (by omega);have gF:=adj n t.name q bM (by omega) (by omega);by_cases ax:t.op=3
 .simp[Ae,ax,hE]
 by_cases bh:t.op=4;.simp[Ae,ax,bh,gF]
 simp[Ae,ax,bh]
def adq:∀(n:Nat)(t:Tm)(deep:Int)(p q:List ByteArray),t.bA+p.length+q.length+t.bA+20<n->t.Ok->j4 p->j4 q->0<=deep->deep+t.bA<1000000000->p.length+q.length+t.bA+t.bA<1000000000->vE n [t.d,I deep,dG p,dG q]=some [aI true,dG (gh 3 t p),dG (gh 4 t q)]
 |0,t,_,_,_,h,_,_,_,_,_,_=>absurd h (xaJ _)
 |n+1,t,deep,p,q,aN,bD,aU,bM,aCs,Gi,aj=>by
  have bJ:=bD.len;have aun:=t.l5;have auo:Tm.eZ t.bc+2=t.bA:=by cases t;simp[Tm.bA,Tm.bc];omega
  have J:=aup n t (I deep) p q aU bM (by omega) (by omega);rw[NB,NB];generalize adr:(if t.op=3 then h1 t.name p else p)=pF at*;generalize ads:(if t.op=4 then h1 t.name q else q)=ue at*;have eQ:j4 pF:=by rw[<-adr];split;exact Gr aU;exact aU
  have eE:pF.length<=p.length+1:=by rw[<-adr];split;exact Gs p;omega
  have b0:j4 ue:=by rw[<-ads];split;exact Gr bM;exact bM
  have bR:ue.length<=q.length+1:=by rw[<-ads];split;exact Gs q;omega
  have al:=dC (f:=Mr (vE n) n) t.bc (λi (z:List ByteArray×List ByteArray)=>[I deep,cB 4 t.nl (Tm.rows t.bc),I t.bc.length,I (i:Int),dG z.1,dG z.2]) (λr z=>(.inl [dG (nv 3 r z.1),dG (nv 4 r z.2)]:List D⊕List D)) (λi z=>j4 z.1/\j4 z.2/\z.1.length+Tm.eZ (t.bc.drop i)<=pF.length+Tm.eZ t.bc/\z.2.length+Tm.eZ (t.bc.drop i)<=ue.length+Tm.eZ t.bc) (λz _=>by simp[Mr,nv]) ?_ n 0 (pF,ue) ⟨eQ,b0,by simp,by simp⟩ (by omega) (xaj _);.have b1:(I ((0:Nat):Int))=I 0:=rfl;rw[b1]at al;simp only[xam]at al;simp[vE,S5,J,al]
  intro i a z aH af bG;obtain⟨lx,z2,z3,z4⟩:=bG;have hm:=xad aH;have aCt:=Tm.j2 hm;have ay:=adp aH;have av:=adq n a (deep+1) z.1 z.2 (by omega) (bD.fD hm) lx z2 (by omega) (by omega) (by omega);have nN:=Ja 3 a z.1 lx;have wR:=Ja 4 a z.2 z2;left;refine⟨(gh 3 a z.1,gh 4 a z.2),?_,by simp[nv],nN.1,wR.1,by simp only;omega,by simp only;omega⟩;simp[Mr,af,Tm.h0 aH,av,l6 (bt:=false) (i:=deep) (by omega) (by omega),cm (bt:=false) (i:=i) (by omega)]
def NC(n:Nat)(t:Tm)(aN:t.bA+t.bA+30<n)(bD:t.Ok)(aj:t.bA<100000000):sd n [t.d]=some (.a6 [dG (gh 3 t []),dG (gh 4 t [])]):=by have h:=adq n t 1 [] [] (by simp;omega) bD trivial trivial (by omega) (by omega) (by simp;omega);have e:dG []= .aV 1 []:=rfl;have e4:∀l,bZ (dG l)=true:=λ_=>rfl;rw[e]at h;simp[sd,abh,h,e4]
mutual
def ND:Tm->Tm->Bool
 | .mk o n s _ ks,u=>decide (o=u.op)&&decide (n=u.num)&&decide (s=u.name)&&decide (ks.length=u.bc.length)&&Bf ks u.bc
def Bf:List Tm->List Tm->Bool
 |a::r,b::q=>ND a b&&Bf r q|[],_=>true|_::_,[]=>true
end
theorem adt(t u:Tm):ND t u=(decide (t.op=u.op)&&decide (t.num=u.num)&&decide (t.name=u.name)&&decide (t.bc.length=u.bc.length)&&Bf t.bc u.bc):=by cases t;rw[ND];rfl
def uf:List bw->Nat->List (Value×D)->List (Value×D)
 |[],_,M=>M|v::r,i,M=>uf r (i+1) (if(gM M v.name).isSome then M else(rG .string M (a1 v.name) (I i)).getD [])
def Ur:∀(r:List bw)(i:Nat)(M:List (Value×D)),l7 M->l7 (uf r i M)/\∀x,gM (uf r i M) x=match gM M x with|some d=>some d|none=>(dw r x).map λj=>I ((i+j:Nat):Int)
 |[],i,M,h=>⟨h,λx=>by simp only[uf,dw,List.findIdx?_nil];cases gM M x<;>rfl⟩
 |v::r,i,M,h=>by
  rw[uf];have e:∀x,dw (v::r) x=if v.name=x then some 0 else(dw r x).map (·+1):=by intro x;simp[dw,xbW]
  by_cases aC:(gM M v.name).isSome
  .rw[xac aC];obtain⟨J,aa⟩:=Ur r (i+1) M h;refine⟨J,λx=>?_⟩;rw[aa x,e x];cases ad:gM M x with
   |some d=>rfl
   |none=>
    have cp:¬v.name=x:=by rintro rfl;simp[ad]at aC
    simp only[cp,xaH,Option.map_map]
    congr 1
    funext j
    simp only[Function.comp]
    congr 2
    omega
  rw[xae aC];obtain⟨dP,eQ,eE,hR,_⟩:=L1 h v.name (I i);rw[eQ,xbp];obtain⟨J,aa⟩:=Ur r (i+1) dP eE;refine⟨J,λx=>?_⟩;rw[aa x,hR x,e x];by_cases ad:x=v.name
  .subst ad;have aN:gM M v.name=none:=by simpa using aC
   simp[aN]
  have cp:¬v.name=x:=λh=>ad h.symm;simp only[ad,cp,xaH];cases bQ:gM M x with
  |some d=>rfl
  |none=>
   simp only[Option.map_map]
   congr 1
   funext j
   simp only[Function.comp]
   congr 2
   omega
def NF(M:List (Value×D))(vs:List bw):Prop:=l7 M/\∀x,gM M x=(dw vs x).map λ(j:Nat)=>I (j:Int)
def Us(n:Nat)(vs:List bw)(aN:vs.length<n)(al:vs.length<1000000000000):∃M,vG n [aY vs]=some (.mp M)/\NF M vs:=by
 have au:l7 []:=by intro e he;cases he
 obtain⟨J,aa⟩:=Ur vs 0 [] au;refine⟨uf vs 0 [],?_,J,λx=>by rw[aa x];simp only[gM,xay]⟩;have af:=dC (f:=HN n) vs (λi (M:List (Value×D))=>[aY vs,I vs.length,I (i:Int),.mp M]) (λr M=>(Sum.inl [.mp (uf r (vs.length-r.length) M)]:List D⊕D)) (λi M=>l7 M) (λM _=>by simp[HN,uf]) ?_ n 0 [] au (by omega) (xaj _)
 .have b1:(I ((0:Nat):Int))=I 0:=rfl;rw[b1]at af;simp[vG,abk,eJ,af]
 intro i a M aH af cM;left;have e:vs.length-(a::vs.drop (i+1)).length=i:=by simp;omega
 have du:vs.length-(vs.drop (i+1)).length=i+1:=by simp;omega
 have ax:=CJ cM (z:= .int .i64 0) (x:=a.name);cases bQ:gM M a.name with|some d=>rw[bQ]at ax;refine⟨M,by simp[HN,af,fH aH,ax,cm (bt:=false) (i:=i) (by omega)],?_,cM⟩;rw[e,uf,bQ,du];rfl|none=>rw[bQ]at ax;obtain⟨dP,eQ,eE,hR,_⟩:=L1 cM a.name (I i);refine⟨dP,by simp[HN,af,fH aH,ax,eQ,cm (bt:=false) (i:=i) (by omega)],?_,eE⟩;rw[e,uf,bQ,du];simp only[xcq,xar,xaH,eQ,xbp]
def adu(n:Nat)(vs:List bw)(x:ByteArray)(aN:vs.length<n)(al:vs.length<1000000000000):xw n [aY vs,a1 x]=some (I (match dw vs x with|some i=>(i:Int)|none=>-1)):=by
 have af:=dC (f:=GW n) vs (λi (_:Unit)=>[aY vs,a1 x,I (i:Int)]) (λr _=>match dw r x with|some j=>(Sum.inr (I ((vs.length-r.length+j:Nat):Int)):List D⊕D)|none=> .inl []) (λ_ _=>True) (λ_ _=>by simp[GW,eJ,dw]) ?_ n 0 () trivial (by omega) (xaj _);.have b1:(I ((0:Nat):Int))=I 0:=rfl;rw[b1]at af;simp only[xw,aaP,af,xam,dT,zs];cases dw vs x<;>simp
 intro i a _ aH af _;have e:vs.length-(a::vs.drop (i+1)).length=i:=by simp;omega
 have du:vs.length-(vs.drop (i+1)).length=i+1:=by simp;omega
 have oe:dw (a::vs.drop (i+1)) x=if a.name=x then some 0 else(dw (vs.drop (i+1)) x).map (·+1):=by simp[dw,xbW]
 have a0:a.cells[0]?=some (a1 a.name):=rfl;by_cases ad:a.name=x;.right;rw[oe,xac ad,e];simp[GW,eJ,af,fH aH,a0,ad]
 left;refine⟨(),by simp[GW,eJ,af,fH aH,a0,ad,cm (bt:=false) (i:=i) (by omega)],?_,trivial⟩;rw[oe,xae ad,e,du];cases dw (vs.drop (i+1)) x with|none=>rfl|some j=>simp;omega
def dQ(l:List bw)(t:Tm):List Nat:=(gh 3 t []).filterMap (dw l)
def n4{l:List bw}{t:Tm}:∀k∈dQ l t,k<l.length:=by intro k ah;obtain⟨x,_,ad⟩:=List.mem_filterMap.1 ah;obtain⟨_,_,_,h⟩:=R9 ad;exact h
def DT(t:Tm):(gh 3 t []).length<=t.bA:=by have:=(Ja 3 t [] trivial).2;simpa using this
def NG(l:List bw)(t:Tm):(dQ l t).length<=t.bA:=xbF (List.length_filterMap_le _ _) (DT t)
structure ir(B:Nat)(l:List bw):Prop where
 len:l.length<=B
 e:∀d∈l,d.e.Ok/\d.e.bA<=B
 b:B<=1000000
def to(l:List bw)(i:Nat):List Nat:=match l[i]? with|some d=>dQ l d.e|none=>[]
def lM{l:List bw}(i:Nat):∀k∈to l i,k<l.length:=by
 unfold to;split;.exact n4
 intro k ah;cases ah
def DU{l:List bw}{i:Nat}{d:bw}(h:l[i]?=some d):to l i=dQ l d.e:=by simp[to,h]
def Jb{l:List ByteArray}{i:Nat}{s:ByteArray}(h:l[i]?=some s):bX 1 (dG l) (I (i:Int))=some [a1 s]:=by simp[dG,h]
def Jc(l:List ByteArray):fA (dG l)=some (I l.length):=by simp[dG]
def auq(n:Nat)(l:List bw)(t:Tm){B:Nat}(al:l.length<=B)(bD:t.Ok)(aP:t.bA<=B)(e3:B<=1000000)(aN:2*B+100<n):GY n [t.d,aY l]=some (dg (dQ l t)):=by
 have cf:=Uq n t (by omega) bD (by omega);have cp:=DT t;have af:=dC (f:=GX n) (gh 3 t []) (λi (s:List Nat)=>[aY l,kv true (gh 3 t []),I (i:Int),dg s]) (λr s=>(.inl [dg (s++r.filterMap (dw l))]:List D⊕D)) (λi s=>s.length<=i) (λs _=>by simp[GX,oG,dg]) ?_ n 0 [] (by simp) (by omega) (xaj _)
 .have b1:(I ((0:Nat):Int))=I 0:=rfl;have aL:dg []=D.aV 1 []:=rfl;have gz:∀x,D.aV 1 (ba (dg x))=dg x:=λ_=>rfl;rw[b1,aL]at af;simp only[xam,xaM]at af;simp only[GY,aaQ,go_sem,cf,af,gz];rfl
 intro i a s aH af aC;have ad:=Be (nl:=true) aH;have fK:=adu n l a (by omega) (by omega);have gz:∀x,D.aV 1 (ba (dg x))=dg x:=λ_=>rfl;left;cases ay:dw l a with
 |none=>rw[ay]at fK;refine⟨s,?_,by simp[ay],by omega⟩;simp only[GX,go_sem,oG,yT ((i:Int)<((gh 3 t []).length:Int)),ad,iY,fK,yF ((-1:Int)>=0),gz,cm (bt:=false) (i:=i) (by omega)]
 |some k=>
  rw[ay]at fK;have eI:cZ (s.length+1) 8=true:=fV (by omega) (by omega);have a7:D.aV 1 (ba (dg s)++[[I (k:Int)]])=dg (s++[k]):=by simp[dg]
  have bV:(ba (dg s)).length=s.length:=by simp[dg]
  refine⟨s++[k],?_,by simp[ay],by simp;omega⟩;simp only[GX,go_sem,oG,yT ((i:Int)<((gh 3 t []).length:Int)),ad,iY,fK,yT ((k:Int)>=0),gz,a7,bV,xan,xaA,xay,eI,cm (bt:=false) (i:=i) (by omega)]
def adv(n:Nat)(l:List Nat)(k:Nat)(d:D)(ay:d=dg l\/(l=[]/\d=da))(al:l.length<1000000000)(aN:l.length+5<n):xx n [d,I (k:Int)]=some (aI (decide (k∈l))):=by
 rcases ay with rfl|⟨rfl,rfl⟩
 case inr=>obtain⟨m,rfl⟩:∃m,n=m+1:=⟨n-1,by omega⟩;simp[xx,Su,la,CV]
 have af:=dC (f:=CV n) l (λi (_:Unit)=>[dg l,I (k:Int),I (i:Int)]) (λr _=>if k∈r then(.inr (aI true):List D⊕D)else .inl []) (λi s=>True) (λs _=>by simp[CV,qd]) ?_ n 0 () trivial (by omega) (xaj _);.have b1:(I ((0:Nat):Int))=I 0:=rfl;rw[b1]at af;simp only[xam]at af;by_cases h:k∈l<;>simp only[h,xaF,xaH]at af<;>simp[xx,Su,af,h]
 intro i a s aH af _;have ad:=vo aH;by_cases A9:a=k
 .right;subst A9;simp[CV,qd,af,ad]
 left;have aur:¬((a:Int)=(k:Int)):=by omega
 have aus:¬k=a:=λh=>A9 h.symm;refine⟨(),by simp[CV,qd,af,ad,aur,cm (bt:=false) (i:=i) (by omega)],by simp[aus],trivial⟩
def aut(n:Nat)(l:List bw){B:Nat}(al:ir B l)(aN:4*B+200<n):HP n [aY l]=some (h8 (l.map λd=>dQ l d.e)):=by
 have bJ:=al.len;have ug:=al.b;obtain⟨M,m1,m2,m3⟩:=Us n l (by omega) (by omega);have gz:∀x,D.aV 1 (ba (dg x))=dg x:=λ_=>rfl;have NH:∀x,D.aV 1 (ba (h8 x))=h8 x:=λ_=>rfl;have af:=dC (f:=Mu n) l (λi (s:List (List Nat))=>[.mp M,aY l,I l.length,I (i:Int),h8 s]) (λr s=>(.inl [h8 (s++r.map λd=>dQ l d.e)]:List D⊕D)) (λi s=>s.length=i) (λs _=>by simp[Mu,h8]) ?_ n 0 [] rfl (by omega) (xaj _)
 .have b1:(I ((0:Nat):Int))=I 0:=rfl;have aL:h8 []=D.aV 1 []:=rfl;rw[b1,aL]at af;simp only[xam,xaM]at af;simp only[HP,abl,go_sem,m1,eJ,af,NH]
 intro i a acc aH af auu;have hm:=xad aH;have NI:=al.e a hm;have cf:=NC n a.e (by omega) NI.1 (by omega);have cp:=DT a.e;have aB:=dC (f:=HO n) (gh 3 a.e []) (λj (s:List Nat)=>[.mp M,aY l,I l.length,I (i:Int),dG (gh 3 a.e []),I (gh 3 a.e []).length,I (j:Int),h8 acc,dg s]) (λr s=>(.inl [.mp M,aY l,I l.length,I (i:Int),h8 acc,dg (s++r.filterMap (dw l))]:List D⊕(List D⊕(List D⊕(List D⊕D))))) (λj s=>s.length<=j) (λs _=>by simp[HO,dg,h8]) ?_ n 0 [] (by simp) (by omega) (xaj _)
 .have b1:(I ((0:Nat):Int))=I 0:=rfl;have aL:dg []=D.aV 1 []:=rfl;rw[b1,aL]at aB;simp only[xam,xaM]at aB;have eI:cZ (acc.length+1) 24=true:=fV (by omega) (by omega);have a7:D.aV 1 (ba (h8 acc)++[[dg (dQ l a.e)]])=h8 (acc++[dQ l a.e]):=by simp[h8]
  have bV:(ba (h8 acc)).length=acc.length:=by simp[h8]
  have cG:(gh 3 a.e []).filterMap (dw l)=dQ l a.e:=rfl;have e4:∀x,bZ (dg x)=true:=λ_=>rfl;rw[cG]at aB;left;refine⟨acc++[dQ l a.e],?_,by simp,by simp[auu]⟩;simp only[Mu,go_sem,yT ((i:Int)<(l.length:Int)),fH aH,bw.anG,bw.agg,bw.c1,bw.c2,bw.b4,bw.cT,Tm.Gq,cf,Jc,NH,aB,gz,e4,a7,bV,xan,xaA,xay,eI,cm (bt:=false) (i:=i) (by omega)]
 intro j b s aj aB aC;have ad:=Jb aj;have gU:=CJ m2 (z:= .int .i64 0) (x:=b);have adw:=m3 b;left;cases ay:dw l b with
 |none=>rw[adw,ay]at gU;simp only[xby]at gU;refine⟨s,?_,by simp[ay],by omega⟩;simp only[HO,go_sem,yT ((j:Int)<((gh 3 a.e []).length:Int)),ad,iY,nh,gU,gz,NH,cm (bt:=false) (i:=j) (by omega)]
 |some k=>
  rw[adw,ay]at gU;simp only[xaI]at gU;have eI:cZ (s.length+1) 8=true:=fV (by omega) (by omega);have a7:D.aV 1 (ba (dg s)++[[I (k:Int)]])=dg (s++[k]):=by simp[dg]
  have bV:(ba (dg s)).length=s.length:=by simp[dg]
  refine⟨s++[k],?_,by simp[ay],by simp;omega⟩;simp only[HO,go_sem,yT ((j:Int)<((gh 3 a.e []).length:Int)),ad,iY,nh,gU,gz,NH,a7,bV,xan,xaA,xay,eI,cm (bt:=false) (i:=j) (by omega)]
def h3(to:Nat->List Nat):Nat->List Nat->List Nat->List Nat
 |0,_,S=>S|n+1,ks,S=>ks.foldl (λS k=>if k∈S then S else h3 to n (to k) (S++[k])) S
inductive kx(to:Nat->List Nat):Nat->Nat->Prop where
 |refl (i:Nat):kx to i i
 |step (i j k:Nat) (h:j∈to i) (bC:kx to j k):kx to i k
def kx.trans{to:Nat->List Nat}{i j k:Nat}(h:kx to i j)(bC:kx to j k):kx to i k:=by induction h with|refl=>exact bC|step a b c hf _ ih=>exact .step a b _ hf (ih bC)
def jb(N:Nat)(S:List Nat):Prop:=S.Nodup/\∀x∈S,x<N
def vW:∀(N:Nat)(S:List Nat),S.Nodup->(∀x∈S,x<N)->S.length<=N
 |0,S,_,h=>by cases S with|nil=>simp|cons a r=>exact absurd (h a (by simp)) (xaJ _)
 |N+1,S,aN,h=>by
  have J:=vW N (S.erase N) (aN.erase N) (λx ad=>by
   have aa:=h x (List.mem_of_mem_erase ad);have ax:x≠N:=by rintro rfl;exact aN.not_mem_erase ad
   omega)
  have bh:=List.length_erase (a:=N) (l:=S);split at bh<;>omega
def jb.len{N:Nat}{S:List Nat}(h:jb N S):S.length<=N:=vW N S h.1 h.2
def jb.lt{N k:Nat}{S:List Nat}(h:jb N S)(ah:k<N)(aN:k∉S):S.length<N:=by have aa:jb N (S++[k]):=⟨by rw[xbB];exact⟨h.1,by simp,by intro a aH b aj;simp at aj;subst aj;rintro rfl;exact aN aH⟩,by intro x ad;rcases xas.1 ad with ad|ad;exact h.2 x ad;simp at ad;omega⟩;have:=aa.len;simp at this;omega
def jb.snoc{N k:Nat}{S:List Nat}(h:jb N S)(ah:k<N)(aN:k∉S):jb N (S++[k]):=⟨by rw[xbB];exact⟨h.1,by simp,by intro a aH b aj;simp at aj;subst aj;rintro rfl;exact aN aH⟩,by intro x ad;rcases xas.1 ad with ad|ad;exact h.2 x ad;simp at ad;omega⟩
structure adx(to:Nat->List Nat)(N:Nat)(ks S R:List Nat):Prop where
 inv:jb N R
 pre:∃T,R=S++T
 mem:∀k∈ks,k∈R
 vX:∀x∈R,x∉S->∀y∈to x,y∈R
 ss:∀x∈R,x∈S\/∃k∈ks,kx to k x
def DV{to:Nat->List Nat}{N:Nat}(jj:∀i,∀k∈to i,k<N):∀(n:Nat)(ks S:List Nat),jb N S->(∀k∈ks,k<N)->N-S.length<n->adx to N ks S (h3 to n ks S)
 |0,_,_,_,_,h=>absurd h (xaJ _)
 |n+1,ks,S,cK,eS,aN=>by
  rw[h3]
  induction ks generalizing S with
  |nil=>exact⟨cK,⟨[],by simp⟩,by simp,λx ad aN=>absurd ad aN,λx ad=> .inl ad⟩
  |cons k r ih=>
   rw[xcj];by_cases ah:k∈S
   .rw[xac ah];have h:=ih S cK (λx ad=>eS x (by simp[ad])) aN;obtain⟨T,bl⟩:=h.pre;refine⟨h.inv,h.pre,?_,h.vX,λx ad=>?_⟩
    .intro x ad;rcases xal.1 ad with rfl|ad
     .rw[bl];simp[ah]
     exact h.mem x ad
    rcases h.ss x ad with J|⟨j,J,aa⟩;.exact .inl J
    exact .inr ⟨j,by simp[J],aa⟩
   rw[xae ah];have ma:=eS k (by simp);have b5:=cK.lt ma ah;have au:=DV jj n (to k) (S++[k]) (cK.snoc ma ah) (jj k) (by simp;omega);obtain⟨fG,DW⟩:=au.pre;have h:=ih (h3 to n (to k) (S++[k])) au.inv (λx ad=>eS x (by simp[ad])) (by rw[DW];simp;omega);obtain⟨T,bl⟩:=h.pre;have auv:k∈h3 to n (to k) (S++[k]):=by rw[DW];simp
   refine⟨h.inv,⟨[k]++fG++T,by rw[bl,DW];simp⟩,?_,?_,?_⟩
   .intro x ad;rcases xal.1 ad with rfl|ad
    .rw[bl];exact xaX _ auv
    exact h.mem x ad
   .intro x ad Ut y aE;by_cases Ns:x∈h3 to n (to k) (S++[k])
    .by_cases NJ:x∈S++[k]
     .have Jd:x=k:=by
       rcases xas.1 NJ with h|h;.exact absurd h Ut
       simpa using h
      subst Jd;rw[bl];exact xaX _ (au.mem y aE)
     rw[bl];exact xaX _ (au.vX x Ns NJ y aE)
    exact h.vX x ad Ns y aE
   intro x ad;rcases h.ss x ad with J|⟨j,J,aa⟩
   .rcases au.ss x J with ax|⟨j,ax,bh⟩
    .rcases xas.1 ax with ax|ax;.exact .inl ax
     simp at ax;subst ax;exact .inr ⟨x,by simp,.refl x⟩
    exact .inr ⟨k,by simp,.step k j x ax bh⟩
   exact .inr ⟨j,by simp[J],aa⟩
def Uu{to:Nat->List Nat}{N:Nat}(jj:∀i,∀k∈to i,k<N):∀(n m:Nat)(ks S:List Nat),jb N S->(∀k∈ks,k<N)->N-S.length<n->N-S.length<m->h3 to n ks S=h3 to m ks S
 |0,_,_,_,_,_,h,_=>absurd h (xaJ _)|_+1,0,_,_,_,_,_,h=>absurd h (xaJ _)
 |n+1,m+1,ks,S,cK,eS,aN,hm=>by
  rw[h3,h3]
  induction ks generalizing S with
  |nil=>rfl
  |cons k r ih=>
   rw[xcj,xcj];by_cases ah:k∈S;.rw[xac ah,xac ah];exact ih S cK (λx ad=>eS x (by simp[ad])) aN hm
   rw[xae ah,xae ah];have ma:=eS k (by simp);have b5:=cK.lt ma ah;have e:=Uu jj n m (to k) (S++[k]) (cK.snoc ma ah) (jj k) (by simp;omega) (by simp;omega);have au:=DV jj n (to k) (S++[k]) (cK.snoc ma ah) (jj k) (by simp;omega);obtain⟨fG,DW⟩:=au.pre;rw[<-e];exact ih _ au.inv (λx ad=>eS x (by simp[ad])) (by rw[DW];simp;omega) (by rw[DW];simp;omega)
def lg(l:List bw)(ks:List Nat):List Nat:=h3 (to l) (l.length+1) ks []
def xX(l:List bw)(ks:List Nat)(ah:∀k∈ks,k<l.length):adx (to l) l.length ks [] (lg l ks):=DV (λi k ah=>lM i k ah) _ ks [] ⟨by simp,by simp⟩ ah (by simp)
def vY(l:List bw)(ks:List Nat)(ah:∀k∈ks,k<l.length)(x:Nat):x∈lg l ks↔∃k∈ks,kx (to l) k x:=by
 have h:=xX l ks ah;constructor
 .intro ad;rcases h.ss x ad with J|J
  .cases J
  exact J
 rintro⟨k,fh,av⟩;have ha:∀a b,kx (to l) a b->a∈lg l ks->b∈lg l ks:=by
  intro a b hf
  induction hf with|refl=>exact λh=>h|step i j k kj _ ih=>exact λaf=>ih (h.vX i af (by simp) j kj)
 exact ha k x av (h.mem k fh)
def jF(l:List bw)(i:Nat):Bool:=decide (i∈lg l (to l i))
def Uv(l:List bw)(i:Nat):jF l i=true↔∃k∈to l i,kx (to l) k i:=by unfold jF;rw[xaz,vY l _ (lM i)]
def ady{to:Nat->List Nat}:∀(n:Nat)(ks S:List Nat),∃T,h3 to n ks S=S++T
 |0,ks,S=>⟨[],by simp[h3]⟩
 |n+1,ks,S=>by
  rw[h3]
  induction ks generalizing S with
  |nil=>exact⟨[],by simp⟩
  |cons k r ih=>
   rw[xcj];split;.exact ih S
   obtain⟨fG,au⟩:=ady n (to k) (S++[k]);obtain⟨T,bl⟩:=ih (h3 to n (to k) (S++[k]));exact⟨[k]++fG++T,by rw[bl,au];simp⟩
def lh(S:List Nat)(d:D)(s:List Nat):D:=if s.length=S.length then d else dg s
def Uw(l:List bw){B:Nat}(al:ir B l):∀(n:Nat)(t:Tm)(S:List Nat)(d:D),d=dg S\/(S=[]/\d=da)->t.Ok->t.bA<=B->jb l.length S->l.length-S.length+4*B+300<n->qR n [t.d,aY l,d]=some (lh S d (h3 (to l) n (dQ l t) S))
 |0,_,_,_,_,_,_,_,h=>absurd h (xaJ _)
 |n+1,t,S,d,ay,bD,aP,cK,aN=>by
  have bJ:=al.len;have ug:=al.b;have adz:=NG l t;have auw:=auq n l t bJ bD aP ug (by omega);have auy:∀T,lh S d (S++T)=dg (S++T)\/(S++T=[]/\lh S d (S++T)=da):=by
   intro T;unfold lh;split
   .rename_i h;have:T=[]:=by simpa using h
    subst this;rcases ay with rfl|⟨rfl,rfl⟩
    .left;simp
    right;simp
   exact .inl rfl
  have b1:(I ((0:Nat):Int))=I 0:=rfl;have auz:lh S d S=d:=by simp[lh]
  rw[h3];have ew:=dC (f:=GZ (qR n) n) (dQ l t) (λi (s:List Nat)=>[aY l,lh S d s,dg (dQ l t),I (i:Int)]) (λr s=>(.inl [lh S d (r.foldl (λS k=>if k∈S then S else h3 (to l) n (to l k) (S++[k])) s)]:List D⊕D)) (λi s=>jb l.length s/\∃T,s=S++T) (λs _=>by simp[GZ,qd]) ?_ n 0 S ⟨cK,[],by simp⟩ (by omega) (xaj _)
  .rw[b1,auz]at ew;simp only[xam]at ew;show Mg (qR n) n t.d (aY l) d=_;simp only[Mg,go_sem,auw,ew]
  rintro i k s ah af ⟨J,T,bl⟩;have l1:=xad ah;have ma:=n4 k l1;obtain⟨vT,yK⟩:∃vT,l[k]?=some vT:=⟨l[k],xab ma⟩;have h4:=al.e vT (xad yK);have mc:=J.len;have ax:=auy T;rw[<-bl]at ax;have aCu:S.length<=s.length:=by rw[bl];simp
  have NK:=adv n s k (lh S d s) ax (by omega) (by omega);left;by_cases eS:k∈s
  .refine⟨s,?_,?_,J,T,bl⟩;.simp only[GZ,go_sem,qd,yT ((i:Int)<((dQ l t).length:Int)),vo ah,iY,NK,xaq eS,cm (bt:=false) (i:=i) (by omega)]
   simp only[xcj,xac eS]
  have b5:=J.lt ma eS;have Je:=J.snoc ma eS;have g1:=Uw l al n vT.e (s++[k]) (dg (s++[k])) (.inl rfl) h4.1 h4.2 Je (by simp;omega);have gq:=DV (λi k ah=>lM i k ah) n (to l k) (s++[k]) Je (λx ad=>lM k x ad) (by simp;omega);rw[<-DU yK]at g1;obtain⟨Ux,Jf⟩:=ady (to:=to l) n (to l k) (s++[k]);have g2:lh (s++[k]) (dg (s++[k])) (h3 (to l) n (to l k) (s++[k]))=dg (h3 (to l) n (to l k) (s++[k])):=by
   unfold lh;split
   .rename_i h;rw[Jf]at h⊢;have:Ux=[]:=by simpa using h
    subst this;simp
   rfl
  have g3:lh S d (h3 (to l) n (to l k) (s++[k]))=dg (h3 (to l) n (to l k) (s++[k])):=by unfold lh;rw[xae];rw[Jf,bl];simp<;>omega
  rw[g2]at g1;obtain⟨q,b0,bR⟩:∃q,qG (lh S d s)=some (q,s.map λ(i:Nat)=>[I (i:Int)])/\(decide (q=1\/(s.map λ(i:Nat)=>[I (i:Int)])=[])&&decide (0<1))=true:=by
   rcases ax with ax|⟨ax,bh⟩;.rw[ax];exact⟨1,rfl,by simp⟩
   rw[bh,ax];exact⟨0,rfl,by simp⟩
  have auA:cZ (s.map λ(i:Nat)=>[I (i:Int)]).length 8=true:=fV (by simp;omega) (by simp;omega);have auB:cZ ((s.map λ(i:Nat)=>[I (i:Int)]).length+1) 8=true:=fV (by simp;omega) (by simp;omega);have a7:D.aV 1 ((s.map λ(i:Nat)=>[I (i:Int)])++[[I (k:Int)]])=dg (s++[k]):=by simp[dg]
  refine⟨h3 (to l) n (to l k) (s++[k]),?_,?_,gq.inv,T++[k]++Ux,?_⟩;.rw[g3];simp only[GZ,go_sem,qd,yT ((i:Int)<((dQ l t).length:Int)),vo ah,iY,NK,xaD eS,fH yK,bw.iQ,b0,bR,xaA,auA,xaM,xan,xay,auB,a7,g1,cm (bt:=false) (i:=i) (by omega)]
  .simp only[xcj,xae eS]
  rw[Jf,bl];simp
def auC(l:List bw){B:Nat}(al:ir B l)(n:Nat)(i:Nat)(af:i<l.length)(aN:6*B+400<n):G1 n [aY l,I (i:Int)]=some (aI (jF l i)):=by
 have bJ:=al.len;have ug:=al.b;obtain⟨d,ay⟩:∃d,l[i]?=some d:=⟨l[i],xab af⟩;have h4:=al.e d (xad ay);have aj:=Uw l al n d.e [] da (.inr ⟨rfl,rfl⟩) h4.1 h4.2 ⟨by simp,by simp⟩ (by simp;omega);have bk:=Uu (λi k ah=>lM (l:=l) i k ah) n (l.length+1) (dQ l d.e) [] ⟨by simp,by simp⟩ n4 (by simp;omega) (by simp);have gq:=xX l (dQ l d.e) n4;have ha:=gq.inv.len;rw[bk]at aj;have ai:h3 (to l) (l.length+1) (dQ l d.e) []=lg l (dQ l d.e):=rfl;rw[ai]at aj;have NK:=adv n (lg l (dQ l d.e)) i (lh [] da (lg l (dQ l d.e))) (by
  unfold lh;split;.rename_i h;exact .inr ⟨xaN h,rfl⟩
  exact .inl rfl) (by omega) (by omega)
 simp only[G1,aaR,go_sem,fH ay,bw.iQ,aj,NK,jF,DU ay]
def Uy(l:List bw){B:Nat}(al:ir B l):∀(n:Nat)(i:Nat)(S:List Nat)(M:List (Value×D)),i<l.length->b6 M S->jb l.length S->l.length-S.length+2*B+100<n-> ∃dP,se n [I (i:Int),h8 (l.map λd=>dQ l d.e),.mp M]=some [D.a6 [],h8 (l.map λd=>dQ l d.e),.mp dP]/\b6 dP (h3 (to l) n (to l i) S)
 |0,_,_,_,_,_,_,h=>absurd h (xaJ _)
 |n+1,i,S,M,af,cM,cK,aN=>by
  have bJ:=al.len;have ug:=al.b;obtain⟨d,ay⟩:∃d,l[i]?=some d:=⟨l[i],xab af⟩;have h4:=al.e d (xad ay);have adz:=NG l d.e;have ad:bX 1 (h8 (l.map λd=>dQ l d.e)) (I (i:Int))=some [dg (dQ l d.e)]:=anH (by simp[ay]);have b1:(I ((0:Nat):Int))=I 0:=rfl;rw[DU ay,h3];have key:∀(m j:Nat)(s:List Nat)(M:List (Value×D)),b6 M s->jb l.length s->S.length<=s.length->(dQ l d.e).length-j<m->j<=(dQ l d.e).length-> ∃dP,bL (HQ (se n) n) m [dg (dQ l d.e),I (dQ l d.e).length,I (j:Int),h8 (l.map λd=>dQ l d.e),.mp M]=some (.inl [h8 (l.map λd=>dQ l d.e),.mp dP])/\b6 dP (((dQ l d.e).drop j).foldl (λS k=>if k∈S then S else h3 (to l) n (to l k) (S++[k])) s):=by
   intro m
   induction m with
   |zero=>intro j s M _ _ _ h _;exact absurd h (xaJ _)
   |succ m ih=>
    intro j s M cM aC Uo hm aB;rw[la];by_cases ct:j<(dQ l d.e).length
    .have ah:=xab ct;generalize (dQ l d.e)[j]=k at ah;have l1:=xad ah;have ma:=n4 k l1;have pG:(dQ l d.e).drop j=k::(dQ l d.e).drop (j+1):=by
      obtain⟨b0,bR⟩:=xaa.1 ah;rw[xaU b0,bR]
     rw[pG,xcj];have uh:=cM.look (i:=k) (z:= .bool false);by_cases eS:k∈s
     .rw[xac eS];obtain⟨dP,g1,g2⟩:=ih (j+1) s M cM aC Uo (by omega) ct;refine⟨dP,?_,g2⟩;simp only[HQ,go_sem,yT ((j:Int)<((dQ l d.e).length:Int)),vo ah,iY,uh,xaq eS,cm (bt:=false) (i:=j) (by omega),g1]
     rw[xae eS];obtain⟨vZ,eQ,eE⟩:=cM.put k;rw[xae eS]at eE;have Je:=aC.snoc ma eS;have b5:=aC.lt ma eS;obtain⟨M2,eM,eG⟩:=Uy l al n k (s++[k]) vZ ma eE Je (by simp;omega);have gq:=DV (λi k ah=>lM i k ah) n (to l k) (s++[k]) Je (λx ad=>lM k x ad) (by simp;omega);obtain⟨Ux,Jf⟩:=gq.pre;obtain⟨dP,g1,g2⟩:=ih (j+1) _ M2 eG gq.inv (by rw[Jf];simp;omega) (by omega) ct;refine⟨dP,?_,g2⟩;simp only[HQ,go_sem,yT ((j:Int)<((dQ l d.e).length:Int)),vo ah,iY,uh,xaD eS,eQ,eM,cm (bt:=false) (i:=j) (by omega),g1]
    have:j=(dQ l d.e).length:=by omega
    subst this;refine⟨M,?_,by simpa using cM⟩;simp only[HQ,go_sem,yF (((dQ l d.e).length:Int)<(dQ l d.e).length)]
  obtain⟨dP,g1,g2⟩:=key n 0 S M cM cK (xaT _) (by omega) (xaj _);rw[b1]at g1;refine⟨dP,?_,by simpa using g2⟩;show Mv (se n) n _=_;simp only[Mv,go_sem,ad,iY,qd,g1]
inductive xY(o:Int)(x:ByteArray):Tm->Prop where
 |here (t:Tm) (h:t.op=o) (bC:t.name=x):xY o x t
 |fD (t k:Tm) (h:k∈t.bc) (bC:xY o x k):xY o x t
def NL{s x:ByteArray}:∀{l:List ByteArray},x∈h1 s l↔x=s\/x∈l
 |[]=>by simp[h1]
 |a::r=>by
  rw[h1];split;.rename_i h;subst h;simp
  split;.simp
  rw[xal,NL,xal];constructor
  .rintro(h|h|h);.exact .inr (.inl h)
   .exact .inl h
   exact .inr (.inr h)
  rintro(h|h|h);.exact .inr (.inl h)
  .exact .inl h
  exact .inr (.inr h)
def adA(o:Int)(x:ByteArray)(t:Tm):∀l,x∈gh o t l↔x∈l\/xY o x t:=by
 refine Tm.ind (P:=λt=>∀l,x∈gh o t l↔x∈l\/xY o x t) ?_ t;intro t ih l;have key:∀(ks:List Tm),(∀k∈ks,∀l,x∈gh o k l↔x∈l\/xY o x k)->∀l,x∈nv o ks l↔x∈l\/∃k∈ks,xY o x k:=by
  intro ks
  induction ks with
  |nil=>intro _ l;simp[nv]
  |cons a r mb=>intro h l;rw[nv,mb (λk ah=>h k (by simp[ah])),h a (by simp)];simp only[xal,exists_eq_or_imp,or_assoc]
 rw[NB,key t.bc ih];constructor
 .rintro(h|⟨k,ah,h⟩)
  .split at h
   .rename_i aT;rcases NL.1 h with rfl|h
    .exact .inr (.here t aT rfl)
    exact .inl h
   exact .inl h
  exact .inr (.fD t k ah h)
 rintro(h|h)
 .left;split;.exact NL.2 (.inr h)
  exact h
 cases h with|here _ J aa=>left;rw[xac J];exact NL.2 (.inl aa.symm)|fD _ k ah h=>exact .inr ⟨k,ah,h⟩
def NM{l:List bw}{t:Tm}{i:Nat}:i∈dQ l t↔∃x,xY 3 x t/\dw l x=some i:=by
 unfold dQ;rw[List.mem_filterMap];constructor;.rintro⟨x,J,aa⟩;exact⟨x,((adA 3 x t []).1 J).resolve_left (by simp),aa⟩
 rintro⟨x,J,aa⟩;exact⟨x,(adA 3 x t []).2 (.inr J),aa⟩
def Uz{l:List bw}{t k:Tm}(ah:k∈t.bc):∀i∈dQ l k,i∈dQ l t:=by intro i af;obtain⟨x,J,aa⟩:=NM.1 af;exact NM.2 ⟨x,.fD t k ah J,aa⟩
def xZ(l:List bw)(t:Tm):Bool:=t.op==3&&(dw l t.name).isSome
def ky(l:List bw):Nat->Tm->Tm->Prop
 |0,_,_=>False|h+1,t,X=>(t.op=3/\∃i d,dw l t.name=some i/\l[i]?=some d/\ky l h d.e X)\/(xZ l t=false/\∃ks,X= .mk t.op t.num t.name t.nl ks/\ks.length=t.bc.length/\∀(j:Nat)(a b:Tm),t.bc[j]?=some a->ks[j]?=some b->ky l h a b)
def ky.mono{l:List bw}:∀{h bC:Nat}{t X:Tm},h<=bC->ky l h t X->ky l bC t X
 |0,_,_,_,_,H=>H.elim|h+1,0,_,_,hle,_=>absurd hle (by omega)
 |h+1,bC+1,t,X,hle,H=>by
  rcases H with⟨J,i,d,aa,ax,bh⟩|⟨J,ks,aa,ax,bh⟩;.exact .inl ⟨J,i,d,aa,ax,bh.mono (by omega)⟩
  exact .inr ⟨J,ks,aa,ax,λj a b aH aj=>(bh j a b aH aj).mono (by omega)⟩
def adB:∀{A B:List Nat},A.Nodup->(∀x∈A,x∈B)->A.length<=B.length
 |[],B,_,_=>by simp
 |a::A,B,aN,h=>by
  have aH:=h a (by simp);have J:=adB (A:=A) (B:=B.erase a) (List.nodup_cons.1 aN).2 (λx ad=>by
   have cp:x≠a:=by rintro rfl;exact(List.nodup_cons.1 aN).1 ad
   exact(List.mem_erase_of_ne cp).2 (h x (by simp[ad])))
  have aa:=List.length_erase_of_mem aH;have ax:0<B.length:=List.length_pos_of_mem aH;simp;omega
def Bg(l:List bw)(i:Nat):Nat:=(lg l (to l i)).length
def auD{l:List bw}{i j:Nat}(aB:j∈to l i)(av:jF l j=false):Bg l j<Bg l i:=by
 have af:=xX l (to l i) (lM i);have auE:=xX l (to l j) (lM j);have auF:j∉lg l (to l j):=by
  intro h;have:jF l j=true:=by simp[jF,h]
  rw[av]at this;cases this
 have nu:∀x∈lg l (to l j)++[j],x∈lg l (to l i):=by
  intro x ad;rcases xas.1 ad with ad|ad
  .obtain⟨k,J,aa⟩:=(vY l _ (lM j) x).1 ad;exact(vY l _ (lM i) x).2 ⟨j,aB,.step j k x J aa⟩
  simp at ad;subst ad;exact af.mem _ aB
 have:=adB (A:=lg l (to l j)++[j]) (B:=lg l (to l i)) (by rw[xbB];exact⟨auE.inv.1,by simp,by intro a aH b aj;simp at aj;subst aj;rintro rfl;exact auF aH⟩) nu;simp at this;unfold Bg;omega
def DX(l:List bw)(t:Tm):Prop:=∀x∈lg l (dQ l t),jF l x=false
def UA{α:Type}{P:Nat->Tm->α->Prop}:∀(ks:List Tm),(∀(j:Nat)(a:Tm),ks[j]?=some a->∃b,P j a b)->∃r:List α,r.length=ks.length/\∀(j:Nat)(a:Tm)(b:α),ks[j]?=some a->r[j]?=some b->P j a b
 |[],_=>⟨[],rfl,by intro j a b h;simp at h⟩
 |k::r,h=>by obtain⟨b,aj⟩:=h 0 k rfl;obtain⟨jJ,J,aa⟩:=UA (P:=λj=>P (j+1)) r (λj a aH=>h (j+1) a (by simpa using aH));refine⟨b::jJ,by simp[J],?_⟩;intro j a c aH ai;cases j with|zero=>simp at aH ai;subst aH;subst ai;exact aj|succ j=>exact aa j a c (by simpa using aH) (by simpa using ai)
def auG{l:List bw}{B:Nat}(al:ir B l):∀(r:Nat)(t:Tm),t.bA<=B->DX l t->(∀k∈dQ l t,Bg l k<r)->∃X,ky l (r*(B+1)+t.bA) t X:=by
 intro r
 induction r with
 |zero=>
  intro t;refine Tm.ind (P:=λt=>t.bA<=B->DX l t->(∀k∈dQ l t,Bg l k<0)->∃X,ky l (0*(B+1)+t.bA) t X) ?_ t;intro t ih aP DY ah;have gP:dQ l t=[]:=by cases h:dQ l t with|nil=>rfl|cons a q=>exact absurd (ah a (by rw[h];simp)) (xaJ _)
  have jt:xZ l t=false:=by cases h:xZ l t with|false=>rfl|true=>simp only[xZ,xao,xbP,Option.isSome_iff_exists]at h;obtain⟨J,i,aa⟩:=h;have:i∈dQ l t:=NM.2 ⟨_,.here t J rfl,aa⟩;rw[gP]at this;cases this
  obtain⟨ks,J,aa⟩:=UA (P:=λj a b=>ky l (t.bA-1) a b) t.bc (λj a aH=>by
   have hm:=xad aH;have bG:=Tm.j2 hm;have adC:dQ l a=[]:=by cases h:dQ l a with|nil=>rfl|cons b q=>have:=Uz hm b (by rw[h];simp);rw[gP]at this;cases this
   obtain⟨X,kU⟩:=ih a hm (by omega) (λx ad=>by rw[adC]at ad;simp[lg,h3]at ad) (by rw[adC];simp);exact⟨X,kU.mono (by omega)⟩)
  have bG:=t.l5;refine⟨.mk t.op t.num t.name t.nl ks,?_⟩;have e:0*(B+1)+t.bA=(t.bA-1)+1:=by omega
  rw[e];exact .inr ⟨jt,ks,rfl,J,aa⟩
 |succ r mb=>
  intro t;refine Tm.ind (P:=λt=>t.bA<=B->DX l t->(∀k∈dQ l t,Bg l k<r+1)->∃X,ky l ((r+1)*(B+1)+t.bA) t X) ?_ t;intro t ih aP DY ah;have bG:=t.l5;have e:(r+1)*(B+1)+t.bA=((r+1)*(B+1)+(t.bA-1))+1:=by omega
  cases aN:xZ l t with
  |true=>
   simp only[xZ,xao,xbP,Option.isSome_iff_exists]at aN;obtain⟨J,i,aa⟩:=aN;obtain⟨d,ax,bh,b9⟩:=R9 aa;have af:i∈dQ l t:=NM.2 ⟨_,.here t J rfl,aa⟩;have jj:=DU ax;have auH:=al.e d (xad ax);have ha:=xX l (dQ l t) n4;obtain⟨X,kU⟩:=mb d.e auH.2 (λx ad=>DY x (by
    obtain⟨k,b0,bR⟩:=(vY l _ n4 x).1 ad;rw[<-jj]at b0;exact(vY l _ n4 x).2 ⟨i,af,.step i k x b0 bR⟩)) (λk dx=>by
    rw[<-jj]at dx;have rC:k∈lg l (dQ l t):=(vY l _ n4 k).2 ⟨i,af,.step i k k dx (.refl k)⟩;have:=auD dx (DY k rC);have:=ah i af;omega)
   refine⟨X,?_⟩;rw[e];exact .inl ⟨J,i,d,aa,ax,kU.mono (by have:(r+1)*(B+1)=r*(B+1)+(B+1):=Nat.succ_mul _ _;omega)⟩
  |false=>
   obtain⟨ks,J,aa⟩:=UA (P:=λj a b=>ky l ((r+1)*(B+1)+(t.bA-1)) a b) t.bc (λj a aH=>by
    have hm:=xad aH;have aCv:=Tm.j2 hm;obtain⟨X,kU⟩:=ih a hm (by omega) (λx ad=>DY x (by obtain⟨k,b0,bR⟩:=(vY l _ n4 x).1 ad;exact(vY l _ n4 x).2 ⟨k,Uz hm k b0,bR⟩)) (λk dx=>ah k (Uz hm k dx))
    exact⟨X,kU.mono (by omega)⟩)
   refine⟨.mk t.op t.num t.name t.nl ks,?_⟩;rw[e];exact .inr ⟨aN,ks,rfl,J,aa⟩
def auI(l:List bw)(i:Nat):Bg l i<=l.length:=(xX l (to l i) (lM i)).inv.len
def auJ{l:List bw}{B:Nat}(al:ir B l){t:Tm}(aP:t.bA<=B)(h:DX l t):∃X,ky l ((l.length+1)*(B+1)+B) t X:=by obtain⟨X,kU⟩:=auG al (l.length+1) t aP h (λk _=>by have:=auI l k;omega);exact⟨X,kU.mono (by omega)⟩
mutual
def eX:Tm->Int->Int->Tm×Int
 | .mk o m s b ks,deep,n=>if ks.isEmpty then(.mk o m s b ks,n+1)else(.mk o m s false (gl ks deep (n+1)).1,(gl ks deep (n+1)).2)
def gl:List Tm->Int->Int->List Tm×Int
 |[],_,n=>([],n)|k::r,deep,n=>if deep<=64/\n<=4096 then((eX k (deep+1) n).1::(gl r deep (eX k (deep+1) n).2).1,(gl r deep (eX k (deep+1) n).2).2)else(fG::(gl r deep n).1,(gl r deep n).2)
end
mutual
def gH:Tm->Tm
 | .mk o m s b ks=> .mk o m s false (oH ks)
def oH:List Tm->List Tm
 |[]=>[]|k::r=>gH k::oH r
end
def adD:∀l:List Tm,(oH l).length=l.length
 |[]=>rfl|k::r=>by simp[oH,adD r]
def NN:∀(l:List Tm)(d n:Int),(gl l d n).1.length=l.length
 |[],_,_=>rfl|k::r,d,n=>by rw[gl];split<;>simp[NN r]
def auK(o m:Int)(s:ByteArray)(n:Nat):Int:=if(gu o).1<0 then 11
 else if(m<(if o=1 then-255 else 0))\/m>(if o=1 then 255 else if o=2 then 1 else 0)then 2
 else if(if DQ o then s=⟨#[]⟩\/s.size>24 else s≠⟨#[]⟩)then 12
 else if(n:Int)<(gu o).1\/(n:Int)>(gu o).2 then 3 else 0
theorem adE(o m:Int)(s:ByteArray)(b:Bool)(ks:List Tm):iD (.mk o m s b ks)=auK o m s ks.length:=rfl
def adF{o m:Int}{s:ByteArray}{b b':Bool}{ks ks':List Tm}(h:ks.length=ks'.length):iD (.mk o m s b ks)=iD (.mk o m s b' ks'):=by rw[adE,adE,h]
mutual
def UB:∀(X:Tm)(deep n:Int),n<=4096->(dk (eX X deep n).1 deep n).1=(dk X deep n).1/\((dk X deep n).1=0->(dk X deep n).2=(eX X deep n).2/\(dk (eX X deep n).1 deep n).2=(eX X deep n).2/\ND (eX X deep n).1 (gH X)=true)
 | .mk o m s b ks,deep,n,aN=>by
  rw[eX];cases ks with
  |nil=>
   simp only[List.isEmpty_nil,xaF,true_and];intro h;rw[dk]at h⊢;split at h;.cases h
   split at h;.rename_i aa;exact absurd h aa
   split at h;.cases h
   rename_i J aa ax;rw[xae J,xae aa,xae ax];simp[fq,gH,oH,adt,Tm.op,Tm.num,Tm.name,Tm.bc,Bf]
  |cons k r=>
   simp only[List.isEmpty_cons,xar,xaH];rw[dk,dk,adF (b':=b) (ks':=k::r) (NN (k::r) deep (n+1))];by_cases J:deep>64;.rw[xac J,xac J];simp
   rw[xae J,xae J];by_cases aa:iD (.mk o m s b (k::r))≠0;.rw[xac aa,xac aa];exact⟨rfl,λh=>absurd h aa⟩
   rw[xae aa,xae aa];by_cases ax:n+1>4096;.rw[xac ax,xac ax];simp
   rw[xae ax,xae ax];obtain⟨g1,g2⟩:=adG (k::r) deep (n+1) (by omega) (by omega);refine⟨g1,λh=>?_⟩;obtain⟨b0,bR,cw⟩:=g2 h;refine⟨b0,bR,?_⟩;rw[adt];simp only[gH,Tm.op,Tm.num,Tm.name,Tm.bc,cw,NN,adD];simp
def adG:∀(ks:List Tm)(deep n:Int),deep<=64->n<=4096->(fq (gl ks deep n).1 (deep+1) n).1=(fq ks (deep+1) n).1/\((fq ks (deep+1) n).1=0->(fq ks (deep+1) n).2=(gl ks deep n).2/\(fq (gl ks deep n).1 (deep+1) n).2=(gl ks deep n).2/\Bf (gl ks deep n).1 (oH ks)=true)
 |[],deep,n,_,_=>by simp[gl,fq,oH,Bf]
 |k::r,deep,n,ay,aN=>by
  rw[gl,xac ⟨ay,aN⟩,fq,fq];obtain⟨g1,g2⟩:=UB k (deep+1) n aN;have aU:=DR k (deep+1) n;by_cases h:(dk k (deep+1) n).1=0
  .obtain⟨b0,bR,cw⟩:=g2 h;have bC:=g1.trans h;simp only[h,bC,ne_eq,xbL,xaH,b0,bR];have hle:(eX k (deep+1) n).2<=4096:=by rw[<-b0];exact aU.2 h
   obtain⟨eQ,eE⟩:=adG r deep (eX k (deep+1) n).2 ay hle;refine⟨eQ,λh=>?_⟩;obtain⟨s1,s2,iP⟩:=eE h;exact⟨s1,s2,by rw[oH,Bf,cw,iP];rfl⟩
  have bC:(dk (eX k (deep+1) n).1 (deep+1) n).1≠0:=by rw[g1];exact h
  simp only[ne_eq,h,bC,xcb,xaF];exact⟨g1,λbS=>bS.elim⟩
end
def Tm.adH(l:List Tm)(t:Tm):Tm.rows (l++[t])=Tm.rows l++[t.cells]:=by simp[Tm.j1]
def auL(o m:Int)(s:ByteArray)(b:Bool)(ks:List Tm):gH (.mk o m s b ks)= .mk o m s false (oH ks):=by rw[gH]
def NO{α β:Type}{a:List α}{b:List β}{i:Nat}{x:α×β}(h:(a.zip b)[i]?=some x):a[i]?=some x.1/\b[i]?=some x.2:=by rw[List.getElem?_zip_eq_some]at h;exact h
def UC{α β:Type}{a:List α}{b:List β}(h:b.length=a.length):(a.zip b).map (·.2)=b:=List.map_snd_zip (by omega)
def UD{l:List bw}{B:Nat}(al:ir B l):∀(h n:Nat)(t X:Tm)(deep k:Int),ky l h t X->t.Ok->t.bA<=B->1<=deep->deep<=65->0<=k->k<=4096->h+2*B+100<n->r4 n [t.d,aY l,I deep,I k]=some (.a6 [if(dk X deep k).1=0 then(gH X).d else fG.d,I (dk X deep k).2,I (dk X deep k).1])
 |0,_,_,_,_,_,H,_,_,_,_,_,_,_=>H.elim|h+1,0,_,_,_,_,_,_,_,_,_,_,_,aN=>absurd aN (xaJ _)
 |h+1,n+1,t,X,deep,k,H,bD,aP,J,aa,ax,bh,aN=>by
  have bJ:=al.len;have ug:=al.b;have fK:=adu n l t.name (by omega) (by omega);have aU:=adg n t deep;have hzero:D.agg [I 0,I 0,a1 ⟨#[]⟩,D.val (.slice none 0 0)]=fG.d:=L4.symm;rcases H with⟨aT,i,d,af,ay,kU⟩|⟨gP,ks,rfl,eS,Bh⟩
  .have h4:=al.e d (xad ay);have av:=UD al h n d.e X deep k kU h4.1 h4.2 J aa ax bh (by omega);simp only[af]at fK;show r3 (r4 n) n t.d (aY l) (I deep) (I k)=_;have DZ:((3:Int)==3)=true:=rfl;by_cases au:(dk X deep k).1=0
   .simp only[au,xaF]at av⊢;simp only[r3,go_sem,aT,DZ,fK,yT ((i:Int)>=0),fH ay,bw.iQ,av]
   simp only[au,xaH]at av⊢;simp only[r3,go_sem,aT,DZ,fK,yT ((i:Int)>=0),fH ay,bw.iQ,av]
  have hw:iD (.mk t.op t.num t.name t.nl ks)=iD t:=by have:=adF (o:=t.op) (m:=t.num) (s:=t.name) (b:=t.nl) (b':=t.nl) eS;rw[this];cases t;rfl
  have Jg:(t.op==3)=false/\True\/(t.op==3)=true/\xw n [aY l,a1 t.name]=some (I (-1)):=by
   by_cases ax:t.op=3
   .right;have UE:dw l t.name=none:=by simpa[xZ,ax]using gP
    rw[UE]at fK;exact⟨by simp[ax],fK⟩
   left;simp[ax]
  have Jh:decide ((-1:Int)>=0)=false:=by decide
  show r3 (r4 n) n t.d (aY l) (I deep) (I k)=_;rw[vU,hw];by_cases c1:64<deep
  .have su:((17:Int) !=0)=true:=rfl;rcases Jg with⟨aC,pH⟩|⟨aC,pH⟩<;>
   simp only[r3,go_sem,aC,pH,Jh,l6 (bt:=false) (i:=k) (by omega) (by omega),aU,gt_iff_lt,c1,hzero,su,show¬((17:Int)=0) by omega]
  by_cases c2:iD t=0
  case neg=>
   have su:(iD t !=0)=true:=by simpa using c2
   rcases Jg with⟨aC,pH⟩|⟨aC,pH⟩<;>
   simp only[r3,go_sem,aC,pH,Jh,l6 (bt:=false) (i:=k) (by omega) (by omega),aU,gt_iff_lt,c1,hzero,su,c2,ne_eq,xcb]
  have qj:((0:Int) !=0)=false:=rfl;by_cases b4:4096<k+1
  .rcases Jg with⟨aC,pH⟩|⟨aC,pH⟩<;>
   simp only[r3,go_sem,aC,pH,Jh,l6 (bt:=false) (i:=k) (by omega) (by omega),aU,gt_iff_lt,c1,hzero,c2,qj,ne_eq,xbL,decide_true,b4,show¬((4:Int)=0) by omega]
  have ew:=dC (f:=G2 (r4 n) n) (t.bc.zip ks) (λi (s:Int×List Tm)=>[aY l,I deep,I s.1,I (i:Int),I t.op,I t.num,a1 t.name,cB 4 t.nl (Tm.rows t.bc),I 0,I 0,a1 ⟨#[]⟩,da,.aV 4 (Tm.rows s.2)]) (λr (s:Int×List Tm)=>if(fq (r.map (·.2)) (deep+1) s.1).1=0 then(Sum.inl [I (fq (r.map (·.2)) (deep+1) s.1).2,I t.op,I t.num,a1 t.name,cB 4 t.nl (Tm.rows t.bc),I 0,I 0,a1 ⟨#[]⟩,da,.aV 4 (Tm.rows (s.2++oH (r.map (·.2))))]:List D⊕D)else .inr (.a6 [fG.d,I (fq (r.map (·.2)) (deep+1) s.1).2,I (fq (r.map (·.2)) (deep+1) s.1).1])) (λi s=>0<=s.1/\s.1<=4096/\s.2.length=i) ?_ ?_ n 0 (k+1,[]) ⟨by simp;omega,by simp;omega,rfl⟩ (by have:=t.l5;simp[eS];omega) (xaj _)
  .have b1:(I ((0:Nat):Int))=I 0:=rfl;have qy:Tm.rows []=[]:=rfl;simp only[xam,UC eS,b1,qy,xaM]at ew;have qu:(Tm.mk t.op t.num t.name t.nl ks).bc=ks:=rfl;have k4:(gH (.mk t.op t.num t.name t.nl ks)).d=D.agg [I t.op,I t.num,a1 t.name,.aV 4 (Tm.rows (oH ks))]:=by rw[auL,Tm.j3];simp[cB,Tm.op,Tm.num,Tm.name,Tm.nl,Tm.bc]
   by_cases au:(fq ks (deep+1) (k+1)).1=0
   .simp only[au,xaF]at ew;rcases Jg with⟨aC,pH⟩|⟨aC,pH⟩<;>
    simp only[r3,go_sem,aC,pH,Jh,l6 (bt:=false) (i:=k) (by omega) (by omega),aU,gt_iff_lt,c1,hzero,c2,qj,ne_eq,xbL,decide_false,b4,ew,qu,au,k4]
   simp only[au,xaH]at ew;rcases Jg with⟨aC,pH⟩|⟨aC,pH⟩<;>
   simp only[r3,go_sem,aC,pH,Jh,l6 (bt:=false) (i:=k) (by omega) (by omega),aU,gt_iff_lt,c1,hzero,c2,qj,ne_eq,xbL,decide_false,b4,ew,qu,au]
  .intro s _;have e:((t.bc.zip ks).length:Int)=t.bc.length:=by simp[eS]
   simp only[G2,go_sem,e,yF ((t.bc.length:Int)<t.bc.length),xbc,fq,oH,xav]
  rintro i ⟨a,b⟩ s hf af ⟨b0,bR,cw⟩;obtain⟨aH,aj⟩:=NO hf;simp only at aH aj;have hm:=xad aH;have bG:=Tm.j2 hm;have bJ:=bD.len;have bY:(i:Int)<t.bc.length:=by have:=(xaa.1 aH).1;omega
  have av:=UD al h n a b (deep+1) s.1 (Bh i a b aH aj) (bD.fD hm) (by omega) (by omega) (by omega) b0 bR (by omega);have ij:=DR b (deep+1) s.1;have eI:cZ (s.2.length+1) 56=true:=fV (by omega) (by omega);by_cases au:(dk b (deep+1) s.1).1=0
  .simp only[au,xaF]at av;left;refine⟨((dk b (deep+1) s.1).2,s.2++[gH b]),?_,?_,by simp;omega,by simpa using ij.2 au,by simp[cw]⟩;.have bV:[I (gH b).op,I (gH b).num,a1 (gH b).name,cB 4 (gH b).nl (Tm.rows (gH b).bc)]=(gH b).cells:=((gH b).lG).symm;simp only[G2,go_sem,xaq bY,Tm.h0 aH,l6 (bt:=false) (i:=deep) (by omega) (by omega),av,qj,bV,Tm.adH,xan,xaA,xay,eI,cm (bt:=false) (i:=i) (by omega)]
   simp only[xau,fq,au,ne_eq,xbL,xaH,oH,xaK,xbl]
  simp only[au,xaH]at av;have su:((dk b (deep+1) s.1).1 !=0)=true:=by simpa using au
  right;simp only[G2,go_sem,xaq bY,Tm.h0 aH,l6 (bt:=false) (i:=deep) (by omega) (by omega),av,su,hzero,xau,fq,ne_eq,au,xcb]
theorem UF(t:Tm)(deep n:Int):eX t deep n=if t.bc.isEmpty then(t,n+1)else(.mk t.op t.num t.name false (gl t.bc deep (n+1)).1,(gl t.bc deep (n+1)).2):=by cases t;rw[eX];rfl
def adI(t:Tm):∀(deep n:Int),n+1<=(eX t deep n).2/\(n<=4096->(eX t deep n).2<=4097):=by
 refine Tm.ind (P:=λt=>∀(deep n:Int),n+1<=(eX t deep n).2/\(n<=4096->(eX t deep n).2<=4097)) ?_ t;intro t ih deep n;have key:∀(ks:List Tm),(∀k∈ks,∀(deep n:Int),n+1<=(eX k deep n).2/\(n<=4096->(eX k deep n).2<=4097))->∀(n:Int),n<=(gl ks deep n).2/\(n<=4097->(gl ks deep n).2<=4097):=by
  intro ks
  induction ks with
  |nil=>intro _ n;simp[gl]
  |cons a r mb=>
   intro h n;have J:=h a (by simp) (deep+1) n;rw[gl];split
   .have aa:=mb (λk ah=>h k (by simp[ah])) (eX a (deep+1) n).2;simp only;constructor;.omega
    intro _;exact aa.2 (by omega)
   exact mb (λk ah=>h k (by simp[ah])) n
 rw[UF];split;.simp only[Int.le_refl,true_and];omega
 have:=key t.bc ih (n+1);simp only;constructor;.omega
 intro _;exact this.2 (by omega)
def adJ{l:List bw}{B:Nat}(al:ir B l){M:List (Value×D)}(cM:NF M l)(r:List D->Option (List D))(gj:Nat)(deep oI:Int):∀(h n:Nat)(t X:Tm),ky l h t X->t.Ok->t.bA<=B->h<n-> ∃(t':Tm)(bC:Nat)(ks:List Tm),bC<h/\t'.Ok/\t'.bA<=B/\X= .mk t'.op t'.num t'.name t'.nl ks/\ks.length=t'.bc.length/\(∀(j:Nat)(a b:Tm),t'.bc[j]?=some a->ks[j]?=some b->ky l bC a b)/\bL (HS r gj) n [I deep,.mp M,aY l,I oI,I t.op,I t.num,a1 t.name,cB 4 t.nl (Tm.rows t.bc),I 0,I 0,a1 ⟨#[]⟩,da]=some (.inl [I deep,I oI,I t'.op,I t'.num,a1 t'.name,cB 4 t'.nl (Tm.rows t'.bc),I 0,I 0,a1 ⟨#[]⟩,da,.mp M,aY l])
 |0,_,_,_,H,_,_,_=>H.elim|h+1,0,_,_,_,_,_,aN=>absurd aN (xaJ _)
 |h+1,n+1,t,X,H,bD,aP,aN=>by
  have gU:=CJ cM.1 (z:= .int .i64 0) (x:=t.name);rw[cM.2]at gU;rcases H with⟨aT,i,d,af,ay,kU⟩|⟨gP,ks,rfl,eS,Bh⟩
  .have h4:=al.e d (xad ay);have DZ:((3:Int)==3)=true:=rfl;rw[af]at gU;simp only[xaI]at gU;obtain⟨t',bC,ks,g1,g2,g3,g4,g5,g6,g7⟩:=adJ al cM r gj deep oI h n d.e X kU h4.1 h4.2 (by omega);refine⟨t',bC,ks,by omega,g2,g3,g4,g5,g6,?_⟩;rw[la,<-g7];simp only[HS,go_sem,aT,DZ,nh,gU,fH ay,bw.iQ]
  refine⟨t,h,ks,by omega,bD,aP,rfl,eS,Bh,?_⟩;rw[la];by_cases ax:t.op=3
  .have UE:dw l t.name=none:=by simpa[xZ,ax]using gP
   have DZ:((3:Int)==3)=true:=rfl;rw[UE]at gU;simp only[xby]at gU;simp only[HS,go_sem,ax,DZ,nh,gU]
  have aC:(t.op==3)=false:=by simp[ax]
  simp only[HS,go_sem,aC]
def adK{s:List Tm}{x:Tm}{i k:Nat}(af:s.length=i)(ah:i<k):(Tm.rows (s++List.replicate (k-i) fG)).set i x.cells=Tm.rows ((s++[x])++List.replicate (k-(i+1)) fG):=by
 obtain⟨m,rfl⟩:∃m,k=i+1+m:=⟨k-(i+1),by omega⟩;have aL:i+1+m-i=m+1:=by omega
 have a7:i+1+m-(i+1)=m:=by omega
 subst af;rw[aL,a7];simp[Tm.j1,List.replicate_succ]
def auM{s:List Tm}{i k:Nat}(af:s.length=i)(ah:i<k):(Tm.rows (s++List.replicate (k-i) fG))[i]?=some fG.cells:=by
 obtain⟨m,rfl⟩:∃m,k=i+1+m:=⟨k-(i+1),by omega⟩;have aL:i+1+m-i=m+1:=by omega
 subst af;rw[aL];simp[Tm.j1,List.replicate_succ]
def auN{t:Nat}(h:t<=1000000):mC 56 (I (t:Int)) (I (t:Int))=some t:=by simp only[mC,I];rw[xac ⟨by omega,by omega,by omega,by omega⟩];simp
def adL{l:List bw}{B:Nat}(al:ir B l){M:List (Value×D)}(cM:NF M l):∀(n h:Nat)(t X:Tm)(deep k:Int),ky l h t X->t.Ok->t.bA<=B->1<=deep->deep<=65->0<=k->k<=4096->h+2*B+100<n->tU n [t.d,I deep,.mp M,aY l,I k]=some [(eX X deep k).1.d,.mp M,aY l,I (eX X deep k).2]
 |0,_,_,_,_,_,_,_,_,_,_,_,_,aN=>absurd aN (xaJ _)
 |n+1,h,t0,X,deep,k,H,auO,auP,J,aa,ax,bh,aN=>by
  have bJ:=al.len;have ug:=al.b;obtain⟨t,bC,ks,g1,bD,aP,rfl,eS,Bh,g7⟩:=adJ al cM (tU n) n deep k h n t0 X H auO auP (by omega);have qu:(Tm.mk t.op t.num t.name t.nl ks).bc=ks:=rfl;have adM:∀(b:Bool)(r:List Tm),(Tm.mk t.op t.num t.name b r).d=D.agg [I t.op,I t.num,a1 t.name,cB 4 b (Tm.rows r)]:=λb r=>by rw[Tm.j3];rfl
  have nQ:=t.l5;have b1:(I ((0:Nat):Int))=I 0:=rfl;show HT (tU n) n _=_;rw[UF,qu];cases dx:t.bc with
  |nil=>
   have auQ:ks=[]:=by rw[dx]at eS;exact xaN eS
   subst auQ;rw[dx]at g7;have qj:((((Tm.rows []).length:Nat):Int)==0)=true:=rfl;simp only[HT,go_sem,g7,l6 (bt:=false) (i:=k) (by omega) (by omega),List.isEmpty_nil,adM];simp
  |cons a0 ju=>
   have cp:¬ks.isEmpty=true:=by cases ks with|nil=>rw[dx]at eS;simp at eS|cons _ _=>simp
   have auR:((t.bc.length:Int)==0)=false:=by rw[dx];simp;omega
   rw[xae cp];show _=some [(Tm.mk t.op t.num t.name false (gl ks deep (k+1)).1).d,.mp M,aY l,I (gl ks deep (k+1)).2];clear dx;have ew:=dC (f:=De (tU n) n) (t.bc.zip ks) (λi (s:Int×List Tm)=>[I deep,cB 4 t.nl (Tm.rows t.bc),I t.bc.length,I (i:Int),I s.1,I t.op,I t.num,a1 t.name,cB 4 t.nl (Tm.rows t.bc),I 0,I 0,a1 ⟨#[]⟩,da,.aV 4 (Tm.rows (s.2++List.replicate (t.bc.length-i) fG)),.mp M,aY l]) (λr (s:Int×List Tm)=>(Sum.inl [I t.op,I t.num,a1 t.name,cB 4 t.nl (Tm.rows t.bc),I 0,I 0,a1 ⟨#[]⟩,da,.aV 4 (Tm.rows (s.2++(gl (r.map (·.2)) deep s.1).1)),.mp M,aY l,I (gl (r.map (·.2)) deep s.1).2]:List D⊕List D)) (λi s=>0<=s.1/\s.1<=4097/\s.2.length=i) ?_ ?_ n 0 (k+1,[]) ⟨by simp;omega,by simp;omega,rfl⟩ (by simp[eS];omega) (xaj _)
   .have qy:Tm.rows (List.replicate t.bc.length fG)=List.replicate t.bc.length [I 0,I 0,a1 ⟨#[]⟩,D.val (.slice none 0 0)]:=by
     rw[Tm.j1,List.map_replicate];rfl
    simp only[xam,UC eS,b1,xaM,Nat.sub_zero,qy]at ew;have DO:=auN (t:=t.bc.length) (by omega);simp only[HT,go_sem,g7,l6 (bt:=false) (i:=k) (by omega) (by omega),auR,DO,ew,adM,ang]
   .intro s aC;have e:(t.bc.zip ks).length=t.bc.length:=by simp[eS]
    simp only[e,De,go_sem,yF ((t.bc.length:Int)<t.bc.length),xbc,gl,Nat.sub_self,List.replicate_zero,xav]
   rintro i ⟨a,b⟩ s hf af ⟨b0,bR,cw⟩;obtain⟨aH,aj⟩:=NO hf;simp only at aH aj;have hm:=xad aH;have bG:=Tm.j2 hm;have UG:=(xaa.1 aH).1;have bY:(i:Int)<t.bc.length:=by omega
   left;by_cases ai:deep<=64/\s.1<=4096
   .have av:=adL al cM n bC a b (deep+1) s.1 (Bh i a b aH aj) (bD.fD hm) (by omega) (by omega) (by omega) b0 ai.2 (by omega);have ij:=adI b (deep+1) s.1;have dR:cL (s.2++List.replicate (t.bc.length-i) fG).length (I (i:Int))=some i:=by
     rw[jZ,xac];simp;omega
    have ha:iN fG.cells 0 [I (eX b (deep+1) s.1).1.op,I (eX b (deep+1) s.1).1.num,a1 (eX b (deep+1) s.1).1.name,cB 4 (eX b (deep+1) s.1).1.nl (Tm.rows (eX b (deep+1) s.1).1.bc)]=(eX b (deep+1) s.1).1.cells:=by rw[Tm.lG (eX b (deep+1) s.1).1];rfl
    refine⟨((eX b (deep+1) s.1).2,s.2++[(eX b (deep+1) s.1).1]),?_,?_,by simp;omega,by simpa using ij.2 ai.2,by simp[cw]⟩;.simp only[De,go_sem,xaq bY,Tm.h0 aH,xaq ai.1,xaq ai.2,l6 (bt:=false) (i:=deep) (by omega) (by omega),av,dR,auM cw UG,ha,adK cw UG,cm (bt:=false) (i:=i) (by omega)]
    simp only[xau,gl,xac ai,xaK,xbl]
   refine⟨(s.1,s.2++[fG]),?_,?_,by simpa using b0,by simpa using bR,by simp[cw]⟩
   .have D0:=adK (x:=fG) cw UG;have bl:Tm.rows (s.2++List.replicate (t.bc.length-i) fG)=Tm.rows (s.2++[fG]++List.replicate (t.bc.length-(i+1)) fG):=by
     obtain⟨m,hm⟩:∃m,t.bc.length=i+1+m:=⟨t.bc.length-(i+1),by omega⟩;have aL:i+1+m-i=m+1:=by omega
     have a7:i+1+m-(i+1)=m:=by omega
     rw[hm,aL,a7];simp[List.replicate_succ]
    by_cases zi:deep<=64;.have ry:¬s.1<=4096:=λh=>ai ⟨zi,h⟩;simp only[De,go_sem,xaq bY,Tm.h0 aH,xaq zi,xaD ry,bl,cm (bt:=false) (i:=i) (by omega)]
    simp only[De,go_sem,xaq bY,Tm.h0 aH,xaD zi,bl,cm (bt:=false) (i:=i) (by omega),xbY]
   simp only[xau,gl,xae ai,xaK,xbl]
def Bi(l:List bw)(S:List Nat):Prop:=∀x∈S,∀y∈to l x,y∈S
def Bi.ss{l:List bw}{S:List Nat}(h:Bi l S){a b:Nat}(av:kx (to l) a b)(aH:a∈S):b∈S:=by induction av with|refl=>exact aH|step i j k kj _ ih=>exact ih (h i aH j kj)
def adN(l:List bw)(i n:Nat)(S:List Nat)(J:jb l.length S)(aa:Bi l S)(aN:l.length<n):jb l.length (h3 (to l) n (to l i) S)/\Bi l (h3 (to l) n (to l i) S)/\∀x,x∈h3 (to l) n (to l i) S↔x∈S\/∃k∈to l i,kx (to l) k x:=by
 have h:=DV (λi k ah=>lM i k ah) n (to l i) S J (λx ad=>lM i x ad) (by omega);obtain⟨T,bl⟩:=h.pre;have ai:Bi l (h3 (to l) n (to l i) S):=by
  intro x ad y aE;by_cases aC:x∈S;.rw[bl];simp[aa x aC y aE]
  exact h.vX x ad aC y aE
 refine⟨h.inv,ai,λx=>⟨h.ss x,?_⟩⟩;rintro(ad|⟨k,ah,av⟩);.rw[bl];simp[ad]
 exact ai.ss av (h.mem k ah)
def adO(l:List bw){B:Nat}(al:ir B l)(n:Nat)(aN:3*B+200<n)(fr:List Nat)(qz:∀i∈fr,i<l.length)(k4:fr.length<1000000000):∀(m j:Nat)(S:List Nat)(M:List (Value×D)),b6 M S->jb l.length S->Bi l S->fr.length-j<m->j<=fr.length-> ∃dP l9,bL (Mw n) m [dg fr,I fr.length,I (j:Int),.mp M,h8 (l.map λd=>dQ l d.e)]=some (.inl [.mp dP])/\b6 dP l9/\jb l.length l9/\∀x,x∈l9↔x∈S\/∃i∈fr.drop j,∃k∈to l i,kx (to l) k x
 |0,_,_,_,_,_,_,h,_=>absurd h (xaJ _)
 |m+1,j,S,M,cM,cK,cn,hm,aB=>by
  have bJ:=al.len;rw[la];by_cases ct:j<fr.length
  .have ah:=xab ct;generalize fr[j]=i at ah;have af:=qz i (xad ah);have pG:fr.drop j=i::fr.drop (j+1):=by
    obtain⟨b0,bR⟩:=xaa.1 ah;rw[xaU b0,bR]
   have mc:=cK.len;obtain⟨vZ,eM,eG⟩:=Uy l al n i S M af cM cK (by omega);obtain⟨c1,c2,b4⟩:=adN l i n S cK cn (by omega);obtain⟨dP,l9,g1,g2,g3,g4⟩:=adO l al n aN fr qz k4 m (j+1) _ vZ eG c1 c2 (by omega) ct;refine⟨dP,l9,?_,g2,g3,λx=>?_⟩;.simp only[Mw,go_sem,yT ((j:Int)<(fr.length:Int)),vo ah,iY,eM,cm (bt:=false) (i:=j) (by omega),g1]
   rw[g4,b4,pG];simp only[xal,exists_eq_or_imp,or_assoc]
  have:j=fr.length:=by omega
  subst this;refine⟨M,S,?_,cM,cK,λx=>by simp⟩;simp only[Mw,go_sem,yF ((fr.length:Int)<fr.length)]
def adP(l:List bw){B:Nat}(al:ir B l)(n:Nat)(aN:3*B+200<n)(fr:List Nat)(qz:∀i∈fr,i<l.length)(k4:fr.length<1000000000):∀(m j:Nat)(S:List Nat)(M:List (Value×D)),b6 M S->jb l.length S->Bi l S->fr.length-j<m->j<=fr.length-> ∃dP l9,bL (Mx n) m [dg fr,I fr.length,I (j:Int),.mp M,h8 (l.map λd=>dQ l d.e)]=some (.inl [.mp dP])/\b6 dP l9/\jb l.length l9/\∀x,x∈l9↔x∈S\/∃i∈fr.drop j,∃k∈to l i,kx (to l) k x
 |0,_,_,_,_,_,_,h,_=>absurd h (xaJ _)
 |m+1,j,S,M,cM,cK,cn,hm,aB=>by
  have bJ:=al.len;rw[la];by_cases ct:j<fr.length
  .have ah:=xab ct;generalize fr[j]=i at ah;have af:=qz i (xad ah);have pG:fr.drop j=i::fr.drop (j+1):=by
    obtain⟨b0,bR⟩:=xaa.1 ah;rw[xaU b0,bR]
   have mc:=cK.len;obtain⟨vZ,eM,eG⟩:=Uy l al n i S M af cM cK (by omega);obtain⟨c1,c2,b4⟩:=adN l i n S cK cn (by omega);obtain⟨dP,l9,g1,g2,g3,g4⟩:=adP l al n aN fr qz k4 m (j+1) _ vZ eG c1 c2 (by omega) ct;refine⟨dP,l9,?_,g2,g3,λx=>?_⟩;.simp only[Mx,go_sem,yT ((j:Int)<(fr.length:Int)),vo ah,iY,eM,cm (bt:=false) (i:=j) (by omega),g1]
   rw[g4,b4,pG];simp only[xal,exists_eq_or_imp,or_assoc]
  have:j=fr.length:=by omega
  subst this;refine⟨M,S,?_,cM,cK,λx=>by simp⟩;simp only[Mx,go_sem,yF ((fr.length:Int)<fr.length)]
theorem UH(l:List bw):bZ (aY l)=true:=rfl
theorem adQ(l:List (List Nat)):bZ (h8 l)=true:=rfl
def b6.D1{M:List (Value×D)}{S:List Nat}(h:b6 M S):True:=trivial
def auS(l:List bw){B:Nat}(al:ir B l)(n:Nat)(aN:3*B+200<n)(fr:List Nat)(qz:∀i∈fr,i<l.length)(k4:fr.length<n)(UI:fr.length<1000000000): ∃M S,HR n [h8 (l.map λd=>dQ l d.e),dg fr]=some [.mp M]/\b6 M S/\∀x,x∈S↔∃i∈fr,∃k∈to l i,kx (to l) k x:=by have b1:(I ((0:Nat):Int))=I 0:=rfl;obtain⟨M,S,g1,g2,g3,g4⟩:=adO l al n aN fr qz UI n 0 [] [] b6.nil ⟨by simp,by simp⟩ (by intro x ad;cases ad) (by omega) (xaj _);refine⟨M,S,?_,g2,λx=>by rw[g4];simp⟩;rw[b1]at g1;simp only[HR,go_sem,adQ,qd,g1]
def auT(l:List bw){B:Nat}(al:ir B l)(n:Nat)(aN:3*B+200<n)(fr:List Nat)(qz:∀i∈fr,i<l.length)(k4:fr.length<n)(UI:fr.length<1000000000): ∃M S,Dd n [h8 (l.map λd=>dQ l d.e),dg fr]=some (.mp M)/\b6 M S/\∀x,x∈S↔∃i∈fr,∃k∈to l i,kx (to l) k x:=by have b1:(I ((0:Nat):Int))=I 0:=rfl;obtain⟨M,S,g1,g2,g3,g4⟩:=adP l al n aN fr qz UI n 0 [] [] b6.nil ⟨by simp,by simp⟩ (by intro x ad;cases ad) (by omega) (xaj _);refine⟨M,S,?_,g2,λx=>by rw[g4];simp⟩;rw[b1]at g1;simp only[Dd,abm,go_sem,adQ,qd,g1]
def auU(l:List bw){B:Nat}(al:ir B l)(n:Nat)(aN:3*B+200<n)(i:Nat)(af:i<l.length): ∃M,Dd n [h8 (l.map λd=>dQ l d.e),D.aV 1 [[I (i:Int)]]]=some (.mp M)/\kP (.int .i64) (.bool false) false M (I (i:Int))=some (aI (jF l i)):=by
 obtain⟨M,S,g1,g2,g3⟩:=auT l al n aN [i] (by simpa using af) (by simp;omega) (by simp);refine⟨M,g1,?_⟩;rw[g2.look (z:= .bool false)];have:(i∈S)↔jF l i=true:=by rw[g3,Uv];simp
 congr 2
 by_cases h:i∈S;.rw[this.1 h];simp[h]
 have bC:jF l i=false:=by cases aa:jF l i with|false=>rfl|true=>exact absurd (this.2 aa) h
 rw[bC];simp[h]
def sw(l:List bw)(t:Tm):Bool:=(lg l (dQ l t)).all λx=>!jF l x
def auV(l:List bw)(t:Tm):sw l t=true↔DX l t:=by simp[sw,DX]
def auW(n:Nat)(l:List bw){M:List (Value×D)}(cM:NF M l)(N t:D)(lF:List ByteArray)(a b c d e f g h:D)(J:lF.length<n)(aa:lF.length<100000000):bL (Df n) n [aY l,.mp M,N,dG lF,I lF.length,I 0,a,b,c,d,e,f,g,h,D.aV 1 []]=some (.inl [aY l,N,a,b,c,d,e,f,g,h,dg (lF.filterMap (dw l))]):=by
 have b1:(I ((0:Nat):Int))=I 0:=rfl;have aL:dg []=D.aV 1 []:=rfl;have gz:∀x,D.aV 1 (ba (dg x))=dg x:=λ_=>rfl;have aB:=dC (f:=Df n) lF (λj (s:List Nat)=>[aY l,.mp M,N,dG lF,I lF.length,I (j:Int),a,b,c,d,e,f,g,h,dg s]) (λr s=>(.inl [aY l,N,a,b,c,d,e,f,g,h,dg (s++r.filterMap (dw l))]:List D⊕D)) (λj s=>s.length<=j) ?_ ?_ n 0 [] (by simp) (by omega) (xaj _)
 .rw[b1,aL]at aB;simpa using aB
 .intro s _;simp only[Df,go_sem,yF ((lF.length:Int)<lF.length),gz,List.filterMap_nil,xav]
 intro j b' s aj aB aC;have ad:=Jb aj;have gU:=CJ cM.1 (z:= .int .i64 0) (x:=b');rw[cM.2]at gU;left;cases ay:dw l b' with
 |none=>rw[ay]at gU;simp only[xby]at gU;refine⟨s,?_,by simp[ay],by omega⟩;simp only[Df,go_sem,yT ((j:Int)<(lF.length:Int)),ad,iY,nh,gU,gz,cm (bt:=false) (i:=j) (by omega)]
 |some k=>
  rw[ay]at gU;simp only[xaI]at gU;have eI:cZ (s.length+1) 8=true:=fV (by omega) (by omega);have a7:D.aV 1 (ba (dg s)++[[I (k:Int)]])=dg (s++[k]):=by simp[dg]
  have bV:(ba (dg s)).length=s.length:=by simp[dg]
  refine⟨s++[k],?_,by simp[ay],by simp;omega⟩;simp only[Df,go_sem,yT ((j:Int)<(lF.length:Int)),ad,iY,nh,gU,gz,a7,bV,xan,xaA,xay,eI,cm (bt:=false) (i:=j) (by omega)]
def adR(n:Nat)(fr:List Nat)(L N a b c d e f g h:D)(aa:fr.length<100000000):∀(m j:Nat)(S:List Nat)(M:List (Value×D)),b6 M S->fr.length-j<m->j<=fr.length-> ∃dP l9,bL (Mz n) m [L,N,dg fr,I fr.length,I (j:Int),a,b,c,d,e,f,g,h,.mp M]=some (.inl [L,N,a,b,c,d,e,f,g,h,.mp dP])/\b6 dP l9/\∀x,x∈l9↔x∈S\/x∈fr.drop j
 |0,_,_,_,_,h,_=>absurd h (xaJ _)
 |m+1,j,S,M,cM,hm,aB=>by
  rw[la];by_cases ct:j<fr.length
  .have ah:=xab ct;generalize fr[j]=i at ah;have pG:fr.drop j=i::fr.drop (j+1):=by
    obtain⟨b0,bR⟩:=xaa.1 ah;rw[xaU b0,bR]
   obtain⟨vZ,eQ,eE⟩:=cM.put i;obtain⟨dP,l9,g1,g2,g3⟩:=adR n fr L N a b c d e f g h aa m (j+1) _ vZ eE (by omega) ct;refine⟨dP,l9,?_,g2,λx=>?_⟩;.simp only[Mz,go_sem,yT ((j:Int)<(fr.length:Int)),vo ah,iY,eQ,cm (bt:=false) (i:=j) (by omega),g1]
   rw[g3,pG,xal];by_cases af:i∈S
   .rw[xac af];constructor
    .rintro(h|h);.exact .inl h
     exact .inr (.inr h)
    rintro(h|rfl|h);.exact .inl h
    .exact .inl af
    exact .inr h
   rw[xae af];simp only[xas,xbO,or_assoc]
  have:j=fr.length:=by omega
  subst this;refine⟨M,S,?_,cM,λx=>by simp⟩;simp only[Mz,go_sem,yF ((fr.length:Int)<fr.length)]
def auX(n:Nat)(l:List bw){B:Nat}(al:ir B l)(aN:3*B+200<n){M:List (Value×D)}{S:List Nat}(cM:b6 M S)(a b c d e f g h:D):bL (Al n) n [aY l,h8 (l.map λd=>dQ l d.e),I l.length,I 0,a,b,c,d,e,f,g,h,.mp M]=some (if(List.range l.length).all (λi=>!(decide (i∈S)&&jF l i))then .inl [aY l,a,b,c,d,e,f,g,h]else .inr (.a6 [fG.d,I 14])):=by
 have bJ:=al.len;have ug:=al.b;have b1:(I ((0:Nat):Int))=I 0:=rfl;have hzero:D.agg [I 0,I 0,a1 ⟨#[]⟩,D.val (.slice none 0 0)]=fG.d:=L4.symm;have aB:=dC (f:=Al n) (List.range l.length) (λj (s:Unit)=>[aY l,h8 (l.map λd=>dQ l d.e),I l.length,I (j:Int),a,b,c,d,e,f,g,h,.mp M]) (λr s=>(if r.all (λi=>!(decide (i∈S)&&jF l i))then .inl [aY l,a,b,c,d,e,f,g,h]else .inr (.a6 [fG.d,I 14]):List D⊕D)) (λj s=>True) ?_ ?_ n 0 () trivial (by simp;omega) (xaj _)
 .rw[b1]at aB;simpa using aB
 .intro s _;rw[xbK];simp only[Al,go_sem,yF ((l.length:Int)<l.length),List.all_nil]
 intro j b' s aj aB aC;rw[xbK]at aB;have Ji:b'=j:=by rw[xcd aB]at aj;exact(xba aj).symm
 subst Ji;have gU:=cM.look (i:=b') (z:= .bool false);obtain⟨M2,eM,eG⟩:=auU l al n aN b' aB;have gz:nh (D.mp M2)=some M2:=rfl;by_cases cK:b'∈S
 .by_cases av:jF l b'=true;.right;rw[av]at eG;simp only[Al,go_sem,yT ((b':Int)<(l.length:Int)),gU,xaq cK,eM,gz,eG,hzero,xbj,av,xbY]
  have om:jF l b'=false:=by simpa using av
  left;rw[om]at eG;refine⟨(),?_,by simp only[xbj,om,Bool.and_false,xce,xbv],trivial⟩;simp only[Al,go_sem,yT ((b':Int)<(l.length:Int)),gU,xaq cK,eM,gz,eG,cm (bt:=false) (i:=b') (by omega)]
 left;refine⟨(),?_,by simp only[xbj,xaD cK,xbY,xce,xbv],trivial⟩;have aL:∀(x:Option D)(f:D->Option (List D⊕(List D⊕D))),ab (dL (aI false) true x) (λv=>ab (gp (aI false) v (aI false)) f)=f (aI false):=λ_ _=>rfl;simp only[Al,go_sem,yT ((b':Int)<(l.length:Int)),gU,xaD cK,aL,cm (bt:=false) (i:=b') (by omega)]
inductive sx(C:Nat):Tm->Prop where
 |mk (o m:Int) (s:ByteArray) (b:Bool) (ks:List Tm) (al:ks.length<=C) (ah:∀k∈ks,sx C k):sx C (.mk o m s b ks)
def ky.ok{l:List bw}{B:Nat}(al:ir B l):∀{h:Nat}{t X:Tm},ky l h t X->t.Ok->t.bA<=B->X.Ok/\sx B X
 |0,_,_,H,_,_=>H.elim
 |h+1,t,X,H,bD,aP=>by
  rcases H with⟨aT,i,d,af,ay,kU⟩|⟨gP,ks,rfl,eS,Bh⟩;.have h4:=al.e d (xad ay);exact kU.ok al h4.1 h4.2
  have key:∀k∈ks,k.Ok/\sx B k:=by intro k ah;obtain⟨j,aB⟩:=xaG.1 ah;have ct:=(xaa.1 aB).1;have aH:t.bc[j]?=some (t.bc[j]'(by omega)):=xab (by omega);have hm:=xad aH;have bG:=Tm.j2 hm;exact(Bh j _ k aH aB).ok al (bD.fD hm) (by omega)
  have nQ:=t.l5;have bJ:=bD.len;obtain⟨eQ,eE,hR⟩:(-9223372036854775808<=t.op/\t.op<=9223372036854775807)/\(-9223372036854775808<=t.num/\t.num<=9223372036854775807)/\t.name.size<=140737488355328:=by cases bD with|mk o n s b ks aT aN aC al ah=>exact⟨aT,aN,aC⟩
  exact⟨.mk _ _ _ _ _ eQ eE hR (by omega) λk ah=>(key k ah).1,.mk _ _ _ _ _ (by omega) λk ah=>(key k ah).2⟩
def sx.fD{C:Nat}{t k:Tm}(h:sx C t)(ah:k∈t.bc):sx C k:=by cases h with|mk o m s b ks al fh=>exact fh k ah
def sx.len{C:Nat}{t:Tm}(h:sx C t):t.bc.length<=C:=by cases h;assumption
theorem Tm.Bj(t:Tm):t.bA=2+Tm.eZ t.bc:=by cases t;rw[Tm.bA];rfl
def auY(C:Nat)(X:Tm):∀(deep n:Int),X.Ok->sx C X->(eX X deep n).1.Ok/\((eX X deep n).1.bA:Int)<=(2+3*(C:Int))*((eX X deep n).2-n):=by
 refine Tm.ind (P:=λX=>∀(deep n:Int),X.Ok->sx C X->(eX X deep n).1.Ok/\((eX X deep n).1.bA:Int)<=(2+3*(C:Int))*((eX X deep n).2-n)) ?_ X;intro t ih deep n bD hw;generalize hx:(2+3*(C:Int))=K at*;have key:∀(ks:List Tm),(∀k∈ks,∀(deep n:Int),(eX k deep n).1.Ok/\((eX k deep n).1.bA:Int)<=K*((eX k deep n).2-n))->∀(n:Int),(∀k∈(gl ks deep n).1,k.Ok)/\(Tm.eZ (gl ks deep n).1:Int)<=K*((gl ks deep n).2-n)+3*(ks.length:Int):=by
  intro ks
  induction ks with
  |nil=>intro _ n;simp[gl,Tm.eZ]
  |cons a r mb=>
   intro h n;have J:=h a (by simp) (deep+1) n;rw[gl];split
   .have aa:=mb (λk ah=>h k (by simp[ah])) (eX a (deep+1) n).2;refine⟨?_,?_⟩
    .intro k ah;rcases xal.1 ah with rfl|ah
     .exact J.1
     exact aa.1 k ah
    have e:K*((gl r deep (eX a (deep+1) n).2).2-n)=K*((eX a (deep+1) n).2-n)+K*((gl r deep (eX a (deep+1) n).2).2-(eX a (deep+1) n).2):=by rw[<-Int.mul_add];congr 1;omega
    simp only[Tm.eZ,xan];rw[e];omega
   have aa:=mb (λk ah=>h k (by simp[ah])) n;refine⟨?_,?_⟩
   .intro k ah;rcases xal.1 ah with rfl|ah
    .exact R7
    exact aa.1 k ah
   have e:fG.bA=2:=rfl;simp only[Tm.eZ,xan,e];omega
 rw[UF];split
 .rename_i he;have:t.bc=[]:=by simpa using he
  have aL:t.bA=2:=by rw[Tm.Bj,this];rfl
  refine⟨bD,?_⟩;simp only[aL];have a7:K*(n+1-n)=K:=by rw[show n+1-n=(1:Int) by omega];exact Int.mul_one K
  rw[a7];omega
 obtain⟨cS,e2⟩:=key t.bc (λk ah deep n=>ih k ah deep n (bD.fD ah) (hw.fD ah)) (n+1);have bJ:=bD.len;have adS:=hw.len;obtain⟨eQ,eE,hR⟩:(-9223372036854775808<=t.op/\t.op<=9223372036854775807)/\(-9223372036854775808<=t.num/\t.num<=9223372036854775807)/\t.name.size<=140737488355328:=by cases bD with|mk o n s b ks aT aN aC al ah=>exact⟨aT,aN,aC⟩
 refine⟨.mk _ _ _ _ _ eQ eE hR (by rw[NN];omega) cS,?_⟩;rw[Tm.Bj];have e:K*((gl t.bc deep (n+1)).2-n)=K+K*((gl t.bc deep (n+1)).2-(n+1)):=by
  have:(gl t.bc deep (n+1)).2-n=1+((gl t.bc deep (n+1)).2-(n+1)):=by omega
  rw[this,Int.mul_add,Int.mul_one]
 show((2+Tm.eZ (gl t.bc deep (n+1)).1:Nat):Int)<=_;rw[e];omega
def adT{l:List bw}{B h:Nat}(al:ir B l){t X:Tm}(H:ky l h t X)(bD:t.Ok)(aP:t.bA<=B):(eX X 1 0).1.Ok/\(eX X 1 0).1.bA<=8194+12291*B:=by obtain⟨J,aa⟩:=H.ok al bD aP;obtain⟨ax,bh⟩:=auY B X 1 0 J aa;refine⟨ax,?_⟩;have aU:=adI X 1 0;have xf:=aU.2 (by omega);have hm:(2+3*(B:Int))*((eX X 1 0).2-0)<=(2+3*(B:Int))*4097:=Int.mul_le_mul_of_nonneg_left (by omega) (by omega);omega
def auZ{l:List bw}{B:Nat}(al:ir B l)(n h:Nat)(t X:Tm)(H:ky l h t X)(bD:t.Ok)(aP:t.bA<=B)(aN:h+2*B+200<n):HU n [t.d,aY l]=some (eX X 1 0).1.d:=by have bJ:=al.len;have ug:=al.b;obtain⟨M,m1,m2⟩:=Us n l (by omega) (by omega);have av:=adL al m2 n h t X 1 0 H bD aP (by omega) (by omega) (by omega) (by omega) (by omega);have e4:bZ (D.mp M)=true:=rfl;simp only[HU,abn,go_sem,UH,m1,e4,av]
def UJ{l:List bw}{B:Nat}(al:ir B l)(n:Nat)(t:Tm)(bD:t.Ok)(aP:t.bA<=B)(aN:20000*B+20000<n):((dk t 1 0).1≠0->mM n [t.d,aY l]=some (.a6 [fG.d,I (dk t 1 0).1]))/\((dk t 1 0).1=0->sw l t=false->mM n [t.d,aY l]=some (.a6 [fG.d,I 14]))/\(∀h X,(dk t 1 0).1=0->sw l t=true->ky l h t X->h+2*B+200<n->mM n [t.d,aY l]=some (.a6 [if(dk (eX X 1 0).1 1 0).1=0 then(eX X 1 0).1.d else fG.d,I (dk (eX X 1 0).1 1 0).1])):=by
 have bJ:=al.len;have ug:=al.b;have hzero:D.agg [I 0,I 0,a1 ⟨#[]⟩,D.val (.slice none 0 0)]=fG.d:=L4.symm;have cn:=NA n t (by omega) bD;obtain⟨M,m1,m2⟩:=Us n l (by omega) (by omega);have ck:=aut n l al (by omega);have cf:=NC n t (by omega) bD (by omega);have cp:=DT t;have il:=auW n l m2 (h8 (l.map λd=>dQ l d.e)) fG.d (gh 3 t []) (I t.op) (I t.num) (a1 t.name) (cB 4 t.nl (Tm.rows t.bc)) (I 0) (I 0) (a1 ⟨#[]⟩) da (by omega) (by omega);have cG:(gh 3 t []).filterMap (dw l)=dQ l t:=rfl;rw[cG]at il;have uh:=NG l t;obtain⟨vZ,au0,eM,eG,hF⟩:=auS l al n (by omega) (dQ l t) n4 (by omega) (by omega);obtain⟨M2,adU,s1,s2,iP⟩:=adR n (dQ l t) (aY l) (h8 (l.map λd=>dQ l d.e)) (I t.op) (I t.num) (a1 t.name) (cB 4 t.nl (Tm.rows t.bc)) (I 0) (I 0) (a1 ⟨#[]⟩) da (by omega) n 0 au0 vZ eG (by omega) (xaj _);have adV:∀x,x∈adU↔x∈lg l (dQ l t):=by
  intro x;rw[iP,hF,vY l _ n4,xam];constructor
  .rintro(⟨i,af,k,ah,av⟩|h);.exact⟨i,af,.step i k x ah av⟩
   exact⟨x,h,.refl x⟩
  rintro⟨i,af,av⟩;cases av with|refl=>exact .inr af|step _ k _ ah av=>exact .inl ⟨i,af,k,ah,av⟩
 have x0:=auX n l al (by omega) s2 (I t.op) (I t.num) (a1 t.name) (cB 4 t.nl (Tm.rows t.bc)) (I 0) (I 0) (a1 ⟨#[]⟩) da;have ft:(List.range l.length).all (λi=>!(decide (i∈adU)&&jF l i))=sw l t:=by
  rw[Bool.eq_iff_iff];simp only[sw,xax,xbZ,Bool.not_eq_true',Bool.and_eq_false_imp,xaz];constructor;.intro h x ad;exact h x ((xX l _ n4).inv.2 x ad) ((adV x).2 ad)
  intro h x ad NJ;exact h x ((adV x).1 NJ)
 rw[ft]at x0;have b1:(I ((0:Nat):Int))=I 0:=rfl;rw[b1]at s1;have gz:∀x,D.aV 1 (ba (dg x))=dg x:=λ_=>rfl;have qj:((0:Int) !=0)=false:=rfl;have dI:∀x,(ba (dg x)).length=x.length:=λx=>by simp[dg]
 refine⟨λau=>?_,λau av=>?_,λh X au av H BU=>?_⟩
 .have su:((dk t 1 0).1 !=0)=true:=by simpa using au
  simp only[mM,HV,go_sem,cn,su,hzero]
 .rw[av]at x0;simp only[xar,xaH]at x0;simp only[mM,HV,go_sem,cn,au,qj,m1,ck,cf,Jc,il,gz,dI,eM,qd,s1,eJ,x0]
 rw[av]at x0;simp only[xaF]at x0;have fK:=auZ al n h t X H bD aP BU;obtain⟨f1,f2⟩:=adT al H bD aP;have UK:=NA n (eX X 1 0).1 (by omega) f1;by_cases ax:(dk (eX X 1 0).1 1 0).1=0
 .rw[ax]at UK;simp only[mM,HV,go_sem,cn,au,qj,m1,ck,cf,Jc,il,gz,dI,eM,qd,s1,eJ,x0,fK,UK,ax]
 have su:((dk (eX X 1 0).1 1 0).1 !=0)=true:=by simpa using ax
 simp only[mM,HV,go_sem,cn,au,qj,m1,ck,cf,Jc,il,gz,dI,eM,qd,s1,eJ,x0,fK,UK,ax,su,hzero]
def UL{l:List bw}{B:Nat}(al:ir B l)(n:Nat)(t:Tm)(bD:t.Ok)(aP:t.bA<=B)(aN:20000*B+20000<n):((dk t 1 0).1≠0->oC n [t.d,aY l]=some (.a6 [fG.d,I (dk t 1 0).1]))/\((dk t 1 0).1=0->sw l t=false->oC n [t.d,aY l]=some (.a6 [fG.d,I 14]))/\(∀h X,(dk t 1 0).1=0->sw l t=true->ky l h t X->h+2*B+200<n->oC n [t.d,aY l]=some (.a6 [if(dk X 1 0).1=0 then(gH X).d else fG.d,I (dk X 1 0).1])):=by
 have bJ:=al.len;have ug:=al.b;have hzero:D.agg [I 0,I 0,a1 ⟨#[]⟩,D.val (.slice none 0 0)]=fG.d:=L4.symm;have cn:=Um n t (by omega) bD;have uh:=NG l t;have aj:=Uw l al n t [] da (.inr ⟨rfl,rfl⟩) bD aP ⟨by simp,by simp⟩ (by simp;omega);have au1:h3 (to l) n (dQ l t) []=lg l (dQ l t):=Uu (λi k ah=>lM i k ah) n _ (dQ l t) [] ⟨by simp,by simp⟩ n4 (by simp;omega) (by simp);rw[au1]at aj;have hU:=xX l (dQ l t) n4;have ha:=hU.inv.len;have b1:(I ((0:Nat):Int))=I 0:=rfl;have qj:((0:Int) !=0)=false:=rfl;generalize KF:lg l (dQ l t)=C at*;have UM:fA (lh [] da C)=some (I C.length):=by
  unfold lh;split;.rename_i h;rw[h];rfl
  exact qd C
 have adW:∀(i x:Nat),C[i]?=some x->bX 1 (lh [] da C) (I (i:Int))=some [I (x:Int)]:=by
  intro i x ad;unfold lh;split;.rename_i h;have:C=[]:=xaN h;subst this;simp at ad
  exact vo ad
 have ja:=dC (f:=G3 n) C (λi (s:Unit)=>[aY l,lh [] da C,I (i:Int),I t.op,I t.num,a1 t.name,cB 4 t.nl (Tm.rows t.bc),I 0,I 0,a1 ⟨#[]⟩,da]) (λr s=>(if r.all (λx=>!jF l x)then .inl [aY l,I t.op,I t.num,a1 t.name,cB 4 t.nl (Tm.rows t.bc),I 0,I 0,a1 ⟨#[]⟩,da]else .inr (.a6 [fG.d,I 14]):List D⊕D)) (λi s=>True) ?_ ?_ n 0 () trivial (by omega) (xaj _)
 .rw[b1,xam]at ja;have DY:C.all (λx=>!jF l x)=sw l t:=by rw[sw,KF]
  rw[DY]at ja;refine⟨λau=>?_,λau av=>?_,λh X au av H BU=>?_⟩
  .have su:((dk t 1 0).1 !=0)=true:=by simpa using au
   simp only[oC,G4,go_sem,cn,su,hzero]
  .rw[av]at ja;simp only[xar,xaH]at ja;simp only[oC,G4,go_sem,cn,au,qj,aj,ja]
  rw[av]at ja;simp only[xaF]at ja;have aU:=UD al h n t X 1 0 H bD aP (by omega) (by omega) (by omega) (by omega) (by omega);by_cases ax:(dk X 1 0).1=0
  .simp only[ax,xaF]at aU;simp only[oC,G4,go_sem,cn,au,qj,aj,ja,aU,ax]
  simp only[ax,xaH]at aU;simp only[oC,G4,go_sem,cn,au,qj,aj,ja,aU,ax]
 .intro s _;simp only[G3,go_sem,UM,yF ((C.length:Int)<C.length),List.all_nil]
 intro i x s ad af aC;have x2:=xad ad;have av:=auC l al n x (hU.inv.2 x x2) (by omega);cases x3:jF l x with
 |true=>right;rw[x3]at av;simp only[G3,go_sem,UM,yT ((i:Int)<(C.length:Int)),adW i x ad,iY,av,hzero,xbj,x3,xbY]
 |false=>left;rw[x3]at av;refine⟨(),?_,by simp only[xbj,x3,xce,xbv],trivial⟩;simp only[G3,go_sem,UM,yT ((i:Int)<(C.length:Int)),adW i x ad,iY,av,cm (bt:=false) (i:=i) (by omega)]
mutual
def kV:Tm->Tm
 | .mk o m s b ks=> .mk o m s (b&&ks.isEmpty) (x4 ks)
def x4:List Tm->List Tm
 |[]=>[]|k::r=>kV k::x4 r
end
def adX:∀l:List Tm,x4 l=l.map kV
 |[]=>rfl|k::r=>by rw[x4,adX r];rfl
theorem Jj(t:Tm):kV t= .mk t.op t.num t.name (t.nl&&t.bc.isEmpty) (t.bc.map kV):=by cases t;rw[kV,adX];rfl
mutual
def adY:∀(X:Tm)(deep n:Int),n<=4096->(dk X deep n).1=0->(eX X deep n).1=kV X
 | .mk o m s b ks,deep,n,aN=>by
  intro h;rw[eX,kV];cases ks with
  |nil=>simp[x4]
  |cons k r=>
   simp only[List.isEmpty_cons,xar,xaH,Bool.and_false];rw[dk]at h;by_cases J:deep>64;.rw[xac J]at h;cases h
   rw[xae J]at h;by_cases aa:iD (.mk o m s b (k::r))≠0;.rw[xac aa]at h;exact absurd h aa
   rw[xae aa]at h;by_cases ax:n+1>4096;.rw[xac ax]at h;cases h
   rw[xae ax]at h;rw[adZ (k::r) deep (n+1) (by omega) (by omega) h]
def adZ:∀(ks:List Tm)(deep n:Int),deep<=64->n<=4096->(fq ks (deep+1) n).1=0->(gl ks deep n).1=x4 ks
 |[],deep,n,_,_=>by simp[gl,x4]
 |k::r,deep,n,ay,aN=>by
  intro h;rw[gl,xac ⟨ay,aN⟩,x4];rw[fq]at h;obtain⟨g1,g2⟩:=UB k (deep+1) n aN;by_cases au:(dk k (deep+1) n).1=0;.simp only[au,ne_eq,xbL,xaH]at h;obtain⟨b0,bR,cw⟩:=g2 au;have aU:=(DR k (deep+1) n).2 au;rw[b0]at h aU;rw[adY k (deep+1) n aN au,adZ r deep _ ay aU h]
  simp only[ne_eq,au,xcb,xaF]at h
end
def UN(t:Tm):(kV t).bA=t.bA:=by
 refine Tm.ind (P:=λt=>(kV t).bA=t.bA) ?_ t;intro t ih;have key:∀l:List Tm,(∀k∈l,(kV k).bA=k.bA)->Tm.eZ (l.map kV)=Tm.eZ l:=by
  intro l
  induction l with
  |nil=>intro _;rfl
  |cons a r mb=>intro h;simp only[xau,Tm.eZ];rw[h a (by simp),mb λk ah=>h k (by simp[ah])]
 rw[Tm.Bj,Tm.Bj t,Jj];show 2+Tm.eZ (t.bc.map kV)=_;rw[key _ ih]
def ad0:∀(ks:List Tm),(∀k∈ks,∀(deep n:Int),(dk k deep n).1=0->(k.bA:Int)+1<=3*((dk k deep n).2-n))->∀(deep n:Int),(fq ks deep n).1=0->(Tm.eZ ks:Int)<=3*((fq ks deep n).2-n)
 |[],_,deep,n,_=>by simp[fq,Tm.eZ]
 |k::r,ah,deep,n,h=>by
  rw[fq]at h⊢;by_cases au:(dk k deep n).1=0;.simp only[au,ne_eq,xbL,xaH]at h⊢;have J:=ah k (by simp) deep n au;have aa:=ad0 r (λk fh=>ah k (by simp[fh])) deep _ h;simp only[Tm.eZ];omega
  simp only[ne_eq,au,xcb,xaF]at h
def au2(t:Tm):∀(deep n:Int),(dk t deep n).1=0->(t.bA:Int)+1<=3*((dk t deep n).2-n):=by
 refine Tm.ind (P:=λt=>∀(deep n:Int),(dk t deep n).1=0->(t.bA:Int)+1<=3*((dk t deep n).2-n)) ?_ t;intro t ih deep n h;rw[vU]at h⊢;by_cases J:deep>64;.rw[xac J]at h;cases h
 rw[xae J]at h⊢;by_cases aa:iD t≠0;.rw[xac aa]at h;exact absurd h aa
 rw[xae aa]at h⊢;by_cases ax:n+1>4096;.rw[xac ax]at h;cases h
 rw[xae ax]at h⊢;have:=ad0 t.bc ih (deep+1) (n+1) h;rw[Tm.Bj];omega
def nw(op:Int):Int:=if op=1 then 0 else if op=3\/op=4\/op=5\/op=9\/op=13 then 2 else if op=2\/op=6\/op=7\/op=8\/op=10\/op=11\/op=12 then 1 else-1
def au3(n:Nat)(op:Int):HL n [I op]=some (I (nw op)):=by
 rcases L0 op with rfl|rfl|rfl|rfl|rfl|rfl|rfl|rfl|rfl|rfl|rfl|rfl|rfl|rfl|rfl|rfl|rfl|rfl|h
 case inr.inr.inr.inr.inr.inr.inr.inr.inr.inr.inr.inr.inr.inr.inr.inr.inr.inr=>
  have e:∀k:Int,1<=k->k<=18->(op==k)=false:=λk J aa=>by simp;omega
  have a7:nw op=-1:=by unfold nw;repeat(first|rw[xae (by omega)]|rw[xac (by omega)])
  simp[HL,abi,e,a7]
 all_goals rfl
def au4(n:Nat)(op:Int):C1 n [I op]=some (I (nw op)):=by
 rcases L0 op with rfl|rfl|rfl|rfl|rfl|rfl|rfl|rfl|rfl|rfl|rfl|rfl|rfl|rfl|rfl|rfl|rfl|rfl|h
 case inr.inr.inr.inr.inr.inr.inr.inr.inr.inr.inr.inr.inr.inr.inr.inr.inr.inr=>
  have e:∀k:Int,1<=k->k<=18->(op==k)=false:=λk J aa=>by simp;omega
  have a7:nw op=-1:=by unfold nw;repeat(first|rw[xae (by omega)]|rw[xac (by omega)])
  simp[C1,aaX,e,a7]
 all_goals rfl
def D2(t:Tm):Int:=if(dk t 1 0).1≠0 then(dk t 1 0).1 else if 0<(gh 4 t []).length then 24 else 0
def x5(t:Tm):Bool:=t.op==0&&(t.num==0&&(decide (t.name=⟨#[]⟩)&&decide (t.bc.length=0)))
def mQ(f:Fm):Int:=if nw f.op<0 then 11 else if f.op=1/\D2 f.e≠0 then D2 f.e
 else if(f.bc.length:Int)≠nw f.op\/(f.op≠1/\x5 f.e=false)then 3 else 0
def au5(n:Nat)(f:Fm)(aN:2*f.e.bA+40<n)(bD:f.Ok)(aj:f.e.bA<100000000):Ah n [f.d]=some (I (if f.op≠1 then 0 else D2 f.e)):=by
 have J:=NA n f.e (by omega) bD.e;have aa:=NC n f.e (by omega) bD.e aj;by_cases aT:f.op=1
 case neg=>simp[Ah,Ms,aT]
 unfold D2;by_cases ai:(dk f.e 1 0).1=0
 .have cG:fA (dG (gh 4 f.e []))=some (I (gh 4 f.e []).length):=by simp[dG]
  by_cases bh:0<(gh 4 f.e []).length<;>simp[Ah,Ms,aT,J,ai,aa,cG,bh]
 simp[Ah,Ms,aT,J,ai]
def au6(n:Nat)(t:Tm):Hi n [t.d]=some (aI (x5 t)):=by unfold x5;simp[Hi,aaY];by_cases J:t.op=0<;>by_cases aa:t.num=0<;>by_cases ax:t.name=⟨#[]⟩<;>by_cases bh:t.bc=[]<;>simp[J,aa,ax,bh]
def au7(n:Nat)(f:Fm)(aN:2*f.e.bA+40<n)(bD:f.Ok)(aj:f.e.bA<100000000):vy n [f.d]=some (I (mQ f)):=by
 have J:=Um n f.e (by omega) bD.e;have aa:=Uq n f.e (by omega) bD.e (by omega);have ah:=au4 n f.op;have bG:=au6 n f.e;have cG:fA (kv true (gh 4 f.e []))=some (I (gh 4 f.e []).length):=oG _ _;unfold mQ;by_cases au:nw f.op<0
 .simp[vy,C2,ah,au]
 by_cases aT:f.op=1
 .unfold D2;have cS:nw 1=0:=rfl;rw[aT,cS]at ah;by_cases ai:(dk f.e 1 0).1=0
  .by_cases bh:0<(gh 4 f.e []).length;.simp[vy,C2,ah,aT,J,ai,aa,cG,bh,cS]
   simp[vy,C2,ah,aT,J,ai,aa,cG,bh,cS];by_cases b9:f.bc=[]<;>simp[b9]
  simp[vy,C2,ah,aT,J,ai,cS]
 simp[vy,C2,ah,au,aT,bG];by_cases b9:(f.bc.length:Int)=nw f.op;.cases cN:x5 f.e<;>simp[b9,cN]
 simp[b9]
mutual
def iE:Fm->Int->Int->Int×Int
 | .mk o t b ks,deep,k=>if deep>64 then(17,k+1)else if mQ (.mk o t b ks)≠0 then(mQ (.mk o t b ks),k+1)else if k+1>4096 then(4,k+1)else lj ks (deep+1) (k+1)
def lj:List Fm->Int->Int->Int×Int
 |[],_,k=>(0,k)|t::r,deep,k=>if(iE t deep k).1≠0 then iE t deep k else lj r deep (iE t deep k).2
end
theorem Jk(t:Fm)(deep k:Int):iE t deep k=if deep>64 then(17,k+1)else if mQ t≠0 then(mQ t,k+1)else if k+1>4096 then(4,k+1)else lj t.bc (deep+1) (k+1):=by cases t;rw[iE];rfl
mutual
def me:Fm->Int->Int->Int×Int
 | .mk o t b ks,deep,k=>if deep>64 then(17,k)else if mQ (.mk o t b ks)≠0 then(mQ (.mk o t b ks),k)else if k+1>4096 then(4,k+1)else oJ ks (deep+1) (k+1)
def oJ:List Fm->Int->Int->Int×Int
 |[],_,k=>(0,k)|t::r,deep,k=>if(me t deep k).1≠0 then me t deep k else oJ r deep (me t deep k).2
end
theorem ad1(t:Fm)(deep k:Int):me t deep k=if deep>64 then(17,k)else if mQ t≠0 then(mQ t,k)else if k+1>4096 then(4,k+1)else oJ t.bc (deep+1) (k+1):=by cases t;rw[me];rfl
def ad2(t:Fm):∀deep k,(me t deep k).1=(iE t deep k).1/\((me t deep k).1=0->(me t deep k).2=(iE t deep k).2):=by
 refine Fm.ind (P:=λt=>∀deep k,(me t deep k).1=(iE t deep k).1/\((me t deep k).1=0->(me t deep k).2=(iE t deep k).2)) ?_ t;intro t ih deep k;rw[ad1,Jk];split;.simp
 split;.rename_i h;simp[h]
 split;.simp
 have key:∀(l:List Fm),(∀x∈l,∀deep k,(me x deep k).1=(iE x deep k).1/\((me x deep k).1=0->(me x deep k).2=(iE x deep k).2))->∀deep k,(oJ l deep k).1=(lj l deep k).1/\((oJ l deep k).1=0->(oJ l deep k).2=(lj l deep k).2):=by
  intro l
  induction l with
  |nil=>intro _ deep k;simp[oJ,lj]
  |cons a r mb=>
   intro h deep k;rw[oJ,lj];have J:=h a (by simp) deep k;by_cases aa:(iE a deep k).1=0
   .have ax:=J.1.trans aa;have bh:=J.2 ax;simp only[aa,ax,ne_eq,xbL,xaH,bh];exact mb (λx ad=>h x (by simp[ad])) deep _
   have ax:(me a deep k).1≠0:=by rw[J.1];exact aa
   simp only[ne_eq,aa,ax,xcb,xaF];exact⟨J.1,λh=>h.elim⟩
 exact key t.bc ih _ _
def ad3(t:Fm):∀(deep k:Int),k+1<=(iE t deep k).2/\((iE t deep k).1=0->(iE t deep k).2<=4096):=by
 refine Fm.ind (P:=λt=>∀(deep k:Int),k+1<=(iE t deep k).2/\((iE t deep k).1=0->(iE t deep k).2<=4096)) ?_ t;intro t ih deep k;rw[Jk];split;.simp
 split;.rename_i h;simp[h]
 split;.simp
 have key:∀(l:List Fm)(deep k:Int),(∀x∈l,∀(deep k:Int),k+1<=(iE x deep k).2/\((iE x deep k).1=0->(iE x deep k).2<=4096))->k<=4096->k<=(lj l deep k).2/\((lj l deep k).1=0->(lj l deep k).2<=4096):=by
  intro l
  induction l with
  |nil=>intro deep k _ h;simp[lj,h]
  |cons a r mb=>
   intro deep k h ah;rw[lj];have J:=h a (by simp) deep k;split
   .rename_i aa;exact⟨by omega,λax=>absurd ax aa⟩
   rename_i aa;simp only[ne_eq,Decidable.not_not]at aa;have ax:=mb deep (iE a deep k).2 (λx ad=>h x (by simp[ad])) (J.2 aa);exact⟨by omega,ax.2⟩
 exact key t.bc (deep+1) (k+1) ih (by omega)
def ad4:∀(n:Nat)(t:Fm)(deep k:Int),2*t.bA+40<n->t.Ok->t.bA<100000000->0<=deep->deep<=65->0<=k->k<=4096->tQ n [t.d,I deep,I k]=some (.a6 [I (me t deep k).1,I (me t deep k).2])
 |0,t,_,_,h,_,_,_,_,_,_=>absurd h (xaJ _)
 |n+1,t,deep,k,aN,bD,aj,J,aa,ax,bh=>by
  have UO:=t.Gu;have aU:=au7 n t (by omega) bD (by omega);rw[ad1];simp[tQ,SS,l6 (bt:=false) (i:=k) (by omega) (by omega),aU];by_cases ay:64<deep
  .simp[ay]
  simp[ay];by_cases hw:mQ t=0
  case neg=>simp[hw]
  simp[hw];by_cases ai:4096<k+1;.simp[ai]
  simp[ai];have al:=dC (f:=Ml (tQ n) n) t.bc (λi s=>[I deep,I s,I (i:Int),I t.op,I t.e.op,I t.e.num,a1 t.e.name,cB 4 t.e.nl (Tm.rows t.e.bc),cB 6 t.nl (Fm.rows t.bc)]) (λr (s:Int)=>if(oJ r (deep+1) s).1=0 then(Sum.inl [I (oJ r (deep+1) s).2]:List D⊕D)else .inr (.a6 [I (oJ r (deep+1) s).1,I (oJ r (deep+1) s).2])) (λi s=>0<=s/\s<=4096) ?_ ?_ n 0 (k+1) ⟨by omega,by omega⟩ (by have:=t.l5;omega) (xaj _)
  .have b1:(I ((0:Nat):Int))=I 0:=rfl;rw[b1]at al;rw[al];simp only[xam,dT];by_cases au:(oJ t.bc (deep+1) (k+1)).1=0;.simp[au]
   simp[au]
  .intro s aC;simp[Ml,oJ]
  intro i a s aH af aC;have hm:=xad aH;have bG:=Fm.j2 hm;have bJ:=bD.len;have av:=ad4 n a (deep+1) s (by omega) (bD.fD hm) (by omega) (by omega) (by omega) aC.1 aC.2;have ij:=ad3 a (deep+1) s;have UP:=ad2 a (deep+1) s;simp[Ml,af,Fm.h0 aH,l6 (bt:=false) (i:=deep) (by omega) (by omega),av,cm (bt:=false) (i:=i) (by omega),oJ];by_cases au:(me a (deep+1) s).1=0
  .left;simp only[au];have b9:=UP.2 au;have cN:=UP.1▸au;refine⟨(me a (deep+1) s).2,by simp,by simp,by omega,by rw[b9];exact ij.2 (by rw[<-UP.1];exact au)⟩
  right;simp[au]
def lN(f:Fm):Int:=(iE f 1 0).1
def UQ(n:Nat)(f:Fm)(aN:2*f.bA+50<n)(bD:f.Ok)(aj:f.bA<100000000):C3 n [f.d]=some (I (lN f)):=by have:=ad4 n f 1 0 (by omega) bD aj (by omega) (by omega) (by omega) (by omega);have e:=(ad2 f 1 0).1;simp[C3,aaZ,this,e,lN]
def au8(n:Nat)(f:Fm)(deep k w:Int)(aN:2*f.bA+40<n)(bD:f.Ok)(aj:f.bA<100000000)(J:0<=k)(aa:k<=4096):∃e,e=(if deep>64 then 17 else if mQ f≠0 then mQ f else if k+1>4096 then 4 else w)/\HM n [f.d,I deep,I k,I w]=some [aI (decide (e=0)),I (k+1),I e]:=by
 refine⟨_,rfl,?_⟩;have UO:=f.Gu;have aU:=au5 n f (by omega) bD (by omega);have ah:=au3 n f.op;have bJ:fA (cB 6 f.nl (Fm.rows f.bc))=some (I f.bc.length):=by simp
 have au9:(f.e.op==0&&(f.e.num==0&&(decide (f.e.name=⟨#[]⟩)&&decide (f.e.bc.length=0))))=x5 f.e:=rfl;have nR:((f.e.bc.length:Int)==0)=decide (f.e.bc.length=0):=by by_cases h:f.e.bc.length=0<;>simp[h]
 unfold mQ;simp only[HM,go_sem,Tm.CI,l6 (bt:=false) (i:=k) (by omega) (by omega),aU,ah,nR,Bool.and_assoc,au9];have hw:(w==0)=decide (w=0):=by by_cases h:w=0<;>simp[h]
 generalize x5 f.e=og;by_cases c1:64<deep;.simp[c1]
 by_cases c2:nw f.op<0;.simp[c1,c2]
 by_cases b4:f.op=1
 .have cS:nw 1=0:=rfl;by_cases cT:D2 f.e=0;.by_cases dp:f.bc=[]<;>by_cases dq:4096<k+1<;>simp[c1,c2,b4,cT,dp,dq,cS,hw]
  simp[c1,c2,b4,cT,cS]
 by_cases dp:(f.bc.length:Int)=nw f.op<;>by_cases dq:4096<k+1<;>cases og<;>simp[c1,c2,b4,dp,dq,hw]
def ad5:∀(n:Nat)(t:Fm)(deep k:Int),2*t.bA+45<n->t.Ok->t.bA<100000000->0<=deep->deep<=65->0<=k->k<=4096->vF n [t.d,I deep,I k,I 0]=some [aI (decide ((iE t deep k).1=0)),I (iE t deep k).2,I (iE t deep k).1]
 |0,t,_,_,h,_,_,_,_,_,_=>absurd h (xaJ _)
 |n+1,t,deep,k,aN,bD,aj,J,aa,ax,bh=>by
  obtain⟨e,he,aU⟩:=au8 n t deep k 0 (by omega) bD aj ax bh;rw[Jk];simp only[vF,S6,go_sem,aU];by_cases I8:e=0
  case neg=>simp[I8];grind
  have ai:¬deep>64/\mQ t=0/\¬k+1>4096:=by grind
  simp[I8,ai];have al:=dC (f:=Mt (vF n) n) t.bc (λi (s:Int)=>[I deep,cB 6 t.nl (Fm.rows t.bc),I t.bc.length,I (i:Int),I s,I 0]) (λr (s:Int)=>if(lj r (deep+1) s).1=0 then(Sum.inl [I (lj r (deep+1) s).2,I 0]:List D⊕List D)else .inr [aI false,I (lj r (deep+1) s).2,I (lj r (deep+1) s).1]) (λi s=>0<=s/\s<=4096) ?_ ?_ n 0 (k+1) ⟨by omega,by omega⟩ (by have:=t.l5;omega) (xaj _)
  .have b1:(I ((0:Nat):Int))=I 0:=rfl;rw[b1]at al;rw[al];simp only[xam,dT];by_cases au:(lj t.bc (deep+1) (k+1)).1=0;.simp[au]
   simp[au]
  .intro s aC;simp[Mt,lj]
  intro i a s aH af aC;have hm:=xad aH;have bG:=Fm.j2 hm;have bJ:=bD.len;have av:=ad5 n a (deep+1) s (by omega) (bD.fD hm) (by omega) (by omega) (by omega) aC.1 aC.2;have ij:=ad3 a (deep+1) s;simp[Mt,af,Fm.h0 aH,l6 (bt:=false) (i:=deep) (by omega) (by omega),av,cm (bt:=false) (i:=i) (by omega),lj];by_cases au:(iE a (deep+1) s).1=0
  .left;exact⟨(iE a (deep+1) s).2,by simp[au],by simp[au],by omega,ij.2 au⟩
  right;simp[au]
def UR(n:Nat)(f:Fm)(aN:2*f.bA+50<n)(bD:f.Ok)(aj:f.bA<100000000):Aj n [f.d]=some (I (lN f)):=by have:=ad5 n f 1 0 (by omega) bD aj (by omega) (by omega) (by omega) (by omega);simp[Aj,abj,this,lN]
def q0(t:Fm):Prop:=∃deep k,(iE t deep k).1=0
def q0.one{t:Fm}(h:q0 t):mQ t=0:=by
 obtain⟨d,k,h⟩:=h;rw[Jk]at h;split at h;.cases h
 split at h;.rename_i aa;exact absurd h aa
 rename_i aa;simpa using aa
def ava{l:List Fm}{d k:Int}(h:(lj l d k).1=0):∀x∈l,q0 x:=by
 induction l generalizing k with
 |nil=>intro x ad;cases ad
 |cons a r ih=>
  intro x ad;rw[lj]at h;by_cases aa:(iE a d k).1=0
  .simp only[aa,ne_eq,xbL,xaH]at h;rcases xal.1 ad with rfl|ad
   .exact⟨d,k,aa⟩
   exact ih h x ad
  simp only[ne_eq,aa,xcb,xaF]at h
def q0.fD{t k:Fm}(h:q0 t)(ah:k∈t.bc):q0 k:=by
 obtain⟨d,n,h⟩:=h;rw[Jk]at h;split at h;.cases h
 split at h;.rename_i aa;exact absurd h aa
 split at h;.cases h
 exact ava h k ah
def q0.len{t:Fm}(h:q0 t):(t.bc.length:Int)=nw t.op/\¬nw t.op<0:=by
 have J:=h.one;unfold mQ at J;split at J;.cases J
 rename_i aa;refine⟨?_,aa⟩;split at J;.rename_i ax;exact absurd J ax.2
 split at J;.cases J
 rename_i bh;simp only[not_or,Decidable.not_not,ne_eq]at bh;exact bh.1
def T.ui(t:Tm):[I t.op,I t.num,a1 t.name,cB 4 t.nl (Tm.rows t.bc)]=t.cells:=(Tm.lG t).symm
def F.ad6(t:Fm):[I t.op,I t.e.op,I t.e.num,a1 t.e.name,cB 4 t.e.nl (Tm.rows t.e.bc),cB 6 t.nl (Fm.rows t.bc)]=t.cells:=(Fm.lG t).symm
def adH(s:List Fm)(p:Fm):Fm.rows (s++[p])=Fm.rows s++[p.cells]:=by simp[Fm.j1]
theorem T.pI(t:Tm):D.agg t.cells=t.d:=rfl
theorem F.pI(t:Fm):D.agg t.cells=t.d:=rfl
structure Y where
 b:Bool
 lo:Int
 af:Int
deriving DecidableEq
def Y.cells(y:Y):List D:=[aI y.b,I y.lo,I y.af]
def Y.d(y:Y):D:= .agg [aI y.b,I y.lo,I y.af]
def fs:Y:=⟨false,0,0⟩
def jm:Y:=⟨true,0,0⟩
def Y.lk(y:Y):Prop:=(y.b=true->y.lo=0/\y.af=0)/\-1048576<=y.lo/\y.lo<=y.af/\y.af<=1048576
@[simp] theorem Y.nV (y:Y):dV 3 y.d=true:=rfl
@[simp] theorem Y.bf (y:Y):ae y.d 0=aI y.b:=rfl
@[simp] theorem Y.c1 (y:Y):ae y.d 1=I y.lo:=rfl
@[simp] theorem Y.c2 (y:Y):ae y.d 2=I y.af:=rfl
@[simp] theorem Y.Gq (y:Y):D.agg [aI y.b,I y.lo,I y.af]=y.d:=rfl
@[simp high] theorem Y.bN (y:Y):Go.Am.bN true 3 0 y.cells=some y.d:=rfl
@[simp] theorem Y.gX (y:Y):y.cells[0]?=some (aI y.b):=rfl
@[simp] theorem Y.iQ (y:Y):y.cells[1]?=some (I y.lo):=rfl
@[simp] theorem Y.anj (y:Y):y.cells[2]?=some (I y.af):=rfl
@[simp] theorem Y.flat (y:Y):y.d.flat=true:=rfl
@[simp] theorem aCw (y:Y) (e:Int):(D.a6 [y.d,I e]).flat=true:=rfl
def hz(lo af:Int):Y×Int:=if lo< -1048576\/af>1048576\/lo>af\/af-lo>4096 then(fs,2)else(⟨false,lo,af⟩,0)
def D3{lo af:Int}(h:(hz lo af).2=0):(hz lo af).1.lk:=by
 unfold hz at*;split at h;.cases h
 rename_i ai;rw[xae ai];exact⟨by simp,by simp;omega,by simp;omega,by simp;omega⟩
theorem ad7(lo af:Int):(D.a6 [(hz lo af).1.d,I (hz lo af).2])=if lo< -1048576\/af>1048576\/lo>af\/af-lo>4096 then D.a6 [.agg [aI false,I 0,I 0],I 2]else D.a6 [.agg [aI false,I lo,I af],I 0]:=by unfold hz;split<;>rfl
def v7(n:Nat)(lo af:Int):sg n [I lo,I af]=some (.a6 [(hz lo af).1.d,I (hz lo af).2]):=by rw[ad7];have bh:-1048576<=lo->af<=1048576->lo<=af->IntKind.i64.wrap (af-lo)=af-lo:=λ_ _ _=>wrap64 _ (by omega) (by omega);simp[sg,abp,RP,-R2,-RJ];grind
def Jl(n:Nat)(lo af:Int):qT n [I lo,I af]=some (.a6 [(hz lo af).1.d,I (hz lo af).2]):=by
 have hw:IntKind.i64.wrap (-1048576)=-1048576:=by decide
 rw[ad7];have bh:-1048576<=lo->af<=1048576->lo<=af->IntKind.i64.wrap (af-lo)=af-lo:=λ_ _ _=>wrap64 _ (by omega) (by omega);simp[qT,aaS,RP,hw,-R2,-RJ];grind
def hh(l:List Y):D:= .aV 3 (l.map Y.cells)
def Jm{l:List Y}{i:Nat}{y:Y}(h:l[i]?=some y):bX 3 (hh l) (I (i:Int))=some y.cells:=by simp[hh,h]
def avb(n:Nat)(l:List Y)(aN:l.length<n)(al:l.length<1000000000):HY n [hh l]=some (.a6 [(if l.all Y.b then jm else fs).d,I (if l.all Y.b then 0 else 13)]):=by
 have af:=dC (f:=HX n) l (λi (s:Unit)=>[hh l,I l.length,I (i:Int),aI false,I 0,I 0]) (λr _=>if r.all Y.b then(Sum.inl [aI false,I 0,I 0]:List D⊕D)else .inr (.a6 [fs.d,I 13])) (λ_ _=>True) (λ_ _=>by simp[HX]) ?_ n 0 () trivial (by omega) (xaj _)
 .have b1:(I ((0:Nat):Int))=I 0:=rfl;rw[b1]at af;have bJ:fA (hh l)=some (I l.length):=by simp[hh]
  simp only[HY,abq,bJ,dT,af,xam,b3,oy];by_cases h:l.all Y.b=true;.simp only[h,xaF,qL];rfl
  simp only[h,xar,xaH,Gc]
 intro i a _ aH af _;have:=Jm aH;cases aj:a.b
 .right;simp[HX,af,this,cm (bt:=false) (i:=i) (by omega),aj];rfl
 left;exact⟨(),by simp[HX,af,this,cm (bt:=false) (i:=i) (by omega),aj],by simp[aj],trivial⟩
def avc(n:Nat)(l:List Y)(aN:l.length<n)(al:l.length<1000000000):G7 n [hh l]=some (aI (l.all Y.b)):=by
 have bJ:fA (hh l)=some (I l.length):=by simp[hh]
 have af:=dC (f:=G6 n) l (λi (s:Unit)=>[hh l,I (i:Int)]) (λr _=>if r.all Y.b then(Sum.inl []:List D⊕D)else .inr (aI false)) (λ_ _=>True) (λ_ _=>by simp[G6,bJ]) ?_ n 0 () trivial (by omega) (xaj _)
 .have b1:(I ((0:Nat):Int))=I 0:=rfl;rw[b1]at af;simp only[G7,aaU,dT,af,xam,oy];by_cases h:l.all Y.b=true;.simp only[h,xaF,qL,dT]
  simp only[h,xar,xaH,Gc,dT]
 intro i a _ aH af _;have:=Jm aH;cases aj:a.b
 .right;simp[G6,bJ,af,this,cm (bt:=false) (i:=i) (by omega),aj]
 left;exact⟨(),by simp[G6,bJ,af,this,cm (bt:=false) (i:=i) (by omega),aj],by simp[aj],trivial⟩
def lO(a b:Int):Int:=if b<a then b else a
def fX(a b:Int):Int:=if b>a then b else a
def NP(a b:Int):kO true [I a,I b]=some (I (fX a b)):=R1 a b
def US(a b:Int):kO false [I a,I b]=some (I (lO a b)):=Z8 a b
theorem avd(a b c d:Int):kO true [I a,I b,I c,I d]=some (I (fX (fX (fX a b) c) d)):=rfl
theorem ave(a b c d:Int):kO false [I a,I b,I c,I d]=some (I (lO (lO (lO a b) c) d)):=rfl
def x6{x y:Int}(ad:-1048576<=x/\x<=1048576)(aE:-1048576<=y/\y<=1048576):-1099511627776<=x*y/\x*y<=1099511627776:=by
 have J:x.natAbs<=1048576:=by omega
 have aa:y.natAbs<=1048576:=by omega
 have ax:(x*y).natAbs<=1048576*1048576:=by rw[Int.natAbs_mul];exact Nat.mul_le_mul J aa
 omega
def D4(a b:Y):Int:=lO (lO (lO (a.lo*b.lo) (a.lo*b.af)) (a.af*b.lo)) (a.af*b.af)
def D5(a b:Y):Int:=fX (fX (fX (a.lo*b.lo) (a.lo*b.af)) (a.af*b.lo)) (a.af*b.af)
def pJ(op:Int)(a b:Y):Y×Int:=if op=15 then hz (a.lo-b.af) (a.af-b.lo)else if op=14 then hz (a.lo+b.lo) (a.af+b.af)else hz (D4 a b) (D5 a b)
def avf(n:Nat)(op:Int)(a b:Y)(aH:a.lk)(aj:b.lk):Ao n [I op,a.d,b.d]=some (.a6 [(pJ op a b).1.d,I (pJ op a b).2]):=by
 obtain⟨_,aK,a2,a3⟩:=aH;obtain⟨_,fJ,hV,ko⟩:=aj;have nN:IntKind.i64.wrap (-b.af)=-b.af:=wrap64 _ (by omega) (by omega);have wR:IntKind.i64.wrap (-b.lo)=-b.lo:=wrap64 _ (by omega) (by omega);by_cases J:op=15
 .subst J;have aL:a.lo+-b.af=a.lo-b.af:=by omega
  have a7:a.af+-b.lo=a.af-b.lo:=by omega
  simp(disch:=omega) [Ao,MA,pJ,nN,wR,e5,v7,aL,a7]
 by_cases aa:op=14;.subst aa;simp(disch:=omega) [Ao,MA,pJ,e5,v7]
 have m1:=x6 (x:=a.lo) (y:=b.lo) (by omega) (by omega);have m2:=x6 (x:=a.lo) (y:=b.af) (by omega) (by omega);have m3:=x6 (x:=a.af) (y:=b.lo) (by omega) (by omega);have m4:=x6 (x:=a.af) (y:=b.af) (by omega) (by omega);simp(disch:=omega) [Ao,MA,pJ,J,aa,xo,v7,avd,ave,D4,D5]
def avg(n:Nat)(a b:Y)(aN:6<=n)(aH:a.lk)(aj:b.lk):G8 n [a.d,b.d]=some (.a6 [I (D4 a b),I (D5 a b)]):=by
 obtain⟨_,aK,a2,a3⟩:=aH;obtain⟨_,fJ,hV,ko⟩:=aj;have m1:=x6 (x:=a.lo) (y:=b.lo) (by omega) (by omega);have m2:=x6 (x:=a.lo) (y:=b.af) (by omega) (by omega);have m3:=x6 (x:=a.af) (y:=b.lo) (by omega) (by omega);have m4:=x6 (x:=a.af) (y:=b.af) (by omega) (by omega);obtain⟨k,rfl⟩:∃k,n=k+4:=⟨n-4,by omega⟩;have pF:cL 4 (I 0)=some 0:=rfl;have eQ:cL 4 (I 1)=some 1:=rfl;have eE:cL 4 (I 2)=some 2:=rfl;have hR:cL 4 (I 3)=some 3:=rfl;unfold D4 D5;simp(disch:=omega) [G8,aaV,xo,pF];generalize a.lo*b.lo=w at*;generalize a.lo*b.af=x at*;generalize a.af*b.lo=y at*;generalize a.af*b.af=z at*;have aCx:lO w x=lO w x:=rfl;have step:∀(p q:Int)(i j:Int)(r:Int),i+1=j->(cL 4 (I i)=some i.toNat)->i<4->0<=i->([[I w],[I x],[I y],[I z]]:List (List D))[i.toNat]?=some [I r]->Mh (k+4) [I p,I q,I i,.aV 1 [[I w],[I x],[I y],[I z]]]=some (.inl [I (lO p r),I (fX q r),I j,.aV 1 [[I w],[I x],[I y],[I z]]]):=by intro p q i j r au J aa ax bh;subst au;simp(disch:=omega) [Mh,J,aa,bh,NP,US,e5]
 rw[la,step w w 1 2 x rfl rfl (by omega) (by omega) rfl];simp only[dT];rw[la,step _ _ 2 3 y rfl rfl (by omega) (by omega) rfl];simp only[dT];rw[la,step _ _ 3 4 z rfl rfl (by omega) (by omega) rfl];simp only[dT];rw[la];simp[Mh]
def Valid(t:Tm):Prop:=∃deep k:Int,(dk t deep k).1=0
def Valid.NQ{t:Tm}(h:Valid t):iD t=0:=by
 obtain⟨deep,k,h⟩:=h;rw[vU]at h;split at h;.cases h
 split at h;.assumption
 rename_i ai;simpa using ai
def ad8:∀(l:List Tm)(deep k:Int),(fq l deep k).1=0->∀x∈l,Valid x
 |[],_,_,_,x,ad=>by cases ad
 |a::r,deep,k,h,x,ad=>by
  rw[fq]at h;split at h;.rename_i ai;exact absurd h ai
  rename_i ai;rcases xal.1 ad with rfl|ad
  .exact⟨deep,k,by simpa using ai⟩
  exact ad8 r deep _ h x ad
def Valid.fD{t x:Tm}(h:Valid t)(ad:x∈t.bc):Valid x:=by
 have hw:=h.NQ;obtain⟨deep,k,h⟩:=h;rw[vU]at h;split at h;.cases h
 split at h;.rename_i ai;exact absurd hw ai
 split at h;.cases h
 exact ad8 _ _ _ h x ad
def Valid.op{t:Tm}(h:Valid t):1<=t.op/\t.op<=18:=by
 have hw:=h.NQ;unfold iD at hw;split at hw;.cases hw
 rename_i ai;unfold gu at ai;refine xbf λaN=>?_;simp only[show¬(t.op=1\/t.op=2\/t.op=3\/t.op=4) by omega,show¬t.op=5 by omega,show¬(t.op=6\/t.op=7) by omega,show¬t.op=18 by omega,show(t.op<1\/t.op>18) by omega,xaF,xaH]at ai;exact ai (by decide)
def ad9{t:Tm}(hw:iD t=0):¬(gu t.op).1<0/\¬((t.num<(if t.op=1 then-255 else 0))\/t.num>(if t.op=1 then 255 else if t.op=2 then 1 else 0))/\ ¬(if DQ t.op then t.name=⟨#[]⟩\/t.name.size>24 else t.name≠⟨#[]⟩)/\¬((t.bc.length:Int)<(gu t.op).1\/(t.bc.length:Int)>(gu t.op).2):=by
 unfold iD at hw;by_cases J:(gu t.op).1<0;.rw[xac J]at hw;cases hw
 rw[xae J]at hw;by_cases aa:(t.num<(if t.op=1 then-255 else 0))\/t.num>(if t.op=1 then 255 else if t.op=2 then 1 else 0);.rw[xac aa]at hw;cases hw
 rw[xae aa]at hw;by_cases ax:(if DQ t.op then t.name=⟨#[]⟩\/t.name.size>24 else t.name≠⟨#[]⟩);.rw[xac ax]at hw;cases hw
 rw[xae ax]at hw;by_cases bh:((t.bc.length:Int)<(gu t.op).1\/(t.bc.length:Int)>(gu t.op).2);.rw[xac bh]at hw;cases hw
 exact⟨J,aa,ax,bh⟩
def Valid.len{t:Tm}(h:Valid t):(gu t.op).1<=t.bc.length/\(t.bc.length:Int)<=(gu t.op).2:=by have:=(ad9 h.NQ).2.2.2;omega
def Valid.num{t:Tm}(h:Valid t):-255<=t.num/\t.num<=255/\(t.op≠1->0<=t.num/\t.num<=1)/\(t.op≠1->t.op≠2->t.num=0):=by
 have aa:=(ad9 h.NQ).2.1;by_cases c1:t.op=1;.simp only[c1,xaF]at aa;exact⟨by omega,by omega,by omega,by omega⟩
 by_cases c2:t.op=2;.simp only[c1,c2,xaF,xaH]at aa;exact⟨by omega,by omega,by omega,by omega⟩
 simp only[c1,c2,xaH]at aa;exact⟨by omega,by omega,by omega,by omega⟩
def hi(t:Tm)(l:List Y):Y×Int:=if 5<=t.op/\t.op<=9 then if l.all Y.b then(jm,0)else(fs,13)
 else match l with
  |[a,b,c]=>if(!a.b||(b.b !=c.b))then(fs,13)else if b.b then(jm,0)else hz (lO b.lo c.lo) (fX b.af c.af)
  |[a,b]=>if t.op=10\/t.op=11 then if a.b !=b.b then(fs,13)else(jm,0)
   else if(a.b||b.b)then(fs,13)
   else if t.op=12\/t.op=13 then(jm,0)
   else if t.op=17 then(match t.bc[1]? with
    |some k=>if k.op≠1\/k.num<1 then(fs,2)else hz 0 (k.num-1)
    |none=>(fs,0))
   else pJ t.op a b
  |_=>(fs,0)
theorem v8{α:Type}{l:List α}(h:l.length=3):∃a b c,l=[a,b,c]:=by match l,h with|[a,b,c],_=>exact⟨a,b,c,rfl⟩
theorem q1{α:Type}{l:List α}(h:l.length=2):∃a b,l=[a,b]:=by match l,h with|[a,b],_=>exact⟨a,b,rfl⟩
theorem Bk{op:Int}(h:op=18):gu op=(3,3):=by subst h;rfl
def x7{op:Int}(h:8<=op/\op<=17):gu op=(2,2):=by unfold gu;rw[xae (by omega),xae (by omega),xae (by omega),xae (by omega),xae (by omega)]
def aea{l:List Tm}{b:Bool}{t:Tm}(h:l[1]?=some t):bX 4 (cB 4 b (Tm.rows l)) (I 1)=some t.cells:=Tm.h0 (i:=1) h
def NR{l:List Y}{y:Y}(h:l[0]?=some y):bX 3 (hh l) (I 0)=some y.cells:=Jm (i:=0) h
def NS{l:List Y}{y:Y}(h:l[1]?=some y):bX 3 (hh l) (I 1)=some y.cells:=Jm (i:=1) h
def aeb{l:List Y}{y:Y}(h:l[2]?=some y):bX 3 (hh l) (I 2)=some y.cells:=Jm (i:=2) h
set_option maxHeartbeats 1000000 in
def avh(n:Nat)(t:Tm)(l:List Y)(aS:Valid t)(b5:l.length=t.bc.length)(ea:5<=t.op)(bQ:∀y∈l,y.lk)(aN:100<n):zT n [t.d,hh l]=some (.a6 [(hi t l).1.d,I (hi t l).2]):=by
 have q2:=aS.op;have bJ:=aS.len;have bf:=Tm.qc t;have b4:=Tm.rS t;have dF:=Tm.nV t;have jc:D.agg [aI false,I 0,I 0]=fs.d:=rfl;have ll:D.agg [aI true,I 0,I 0]=jm.d:=rfl;have ah:=x7 (op:=t.op);have wa:=Bk (op:=t.op);have avi:l.length<=64:=by
  have:(gu t.op).2<=64:=by unfold gu;repeat(first|split|decide)
  omega
 have aP:=avc n l (by omega) (by omega);by_cases J:t.op<=9
 .have e:hi t l=if l.all Y.b then(jm,0)else(fs,13):=by unfold hi;rw[xac ⟨ea,J⟩]
  rw[e];have ai:t.op=5\/t.op=6\/t.op=7\/t.op=8\/t.op=9:=by omega
  generalize t.op=op at*;generalize l.all Y.b=q at*;rcases ai with rfl|rfl|rfl|rfl|rfl<;>simp[zT,Mi,dF,bf,aP,jc,ll]<;>cases q<;>simp
 by_cases aa:t.op=18;.rw[wa aa]at bJ;obtain⟨a,b,c,rfl⟩:=v8 (l:=l) (by simp at bJ;omega);have g0:=NR (l:=[a,b,c]) rfl;have g1:=NS (l:=[a,b,c]) rfl;have g2:=aeb (l:=[a,b,c]) rfl;unfold hi;generalize hh [a,b,c]=L at*;rw[xae (by omega)];simp[zT,Mi,dF,bf,aa,g0,g1,g2,jc,ll,Jl,NP,US];cases a.b<;>cases b.b<;>cases c.b<;>(try simp)
 have ax:10<=t.op/\t.op<=17:=by omega
 rw[ah (by omega)]at bJ;obtain⟨a,b,rfl⟩:=q1 (l:=l) (by simp at bJ;omega);have g0:=NR (l:=[a,b]) rfl;have g1:=NS (l:=[a,b]) rfl;have Bl:=bQ a (by simp);have q3:=bQ b (by simp);have aU:=avg n a b (by omega) Bl q3;obtain⟨_,aK,a2,a3⟩:=Bl;obtain⟨_,fJ,hV,ko⟩:=q3;unfold hi;generalize hh [a,b]=L at*;rw[xae (by omega)];obtain⟨Ch,cS,eS⟩:=q1 (l:=t.bc) (by simp at bJ;omega);have UT:=aea (l:=t.bc) (b:=t.nl) (t:=cS) (by rw[eS];rfl);have avj:=(aS.fD (x:=cS) (by rw[eS];simp)).num;have s1:IntKind.i64.wrap (cS.num-1)=cS.num-1:=wrap64 _ (by omega) (by omega);have f5:bB false .sub (I cS.num) (I 1)=some (I (cS.num-1)):=nU (by omega) (by omega);have f1:bB false .add (I a.lo) (I b.lo)=some (I (a.lo+b.lo)):=e5 (by omega) (by omega);have f2:bB false .add (I a.af) (I b.af)=some (I (a.af+b.af)):=e5 (by omega) (by omega);have f3:bB false .sub (I a.lo) (I b.af)=some (I (a.lo-b.af)):=nU (by omega) (by omega);have f4:bB false .sub (I a.af) (I b.lo)=some (I (a.af-b.lo)):=nU (by omega) (by omega);have ai:t.op=10\/t.op=11\/t.op=12\/t.op=13\/t.op=14\/t.op=15\/t.op=16\/t.op=17:=by omega
 have b0:(t.bc[1]?)=some cS:=by rw[eS];rfl
 generalize t.op=op at*;have NT:∀x y:Int,hz x y=hz x y:=λ_ _=>rfl;rcases ai with rfl|rfl|rfl|rfl|rfl|rfl|rfl|rfl<;>
  cases dr:a.b<;>cases e3:b.b<;>simp[zT,Mi,dF,bf,b4,g0,g1,UT,b0,jc,ll,Jl,pJ,f1,f2,f3,f4,f5,aU,dr,e3]
 all_goals (by_cases lx:cS.op=1<;>by_cases z2:cS.num<1<;>simp[lx,z2])
set_option maxHeartbeats 2000000 in
def avk(n:Nat)(avl M:D)(t:Tm)(nx:Bool)(l:List Y)(aS:Valid t)(b5:l.length=t.bc.length)(ea:5<=t.op)(bQ:∀y∈l,y.lk)(aN:100<n):pE n [avl,M,t.d,aI nx,hh l]=some (.a6 [(hi t l).1.d,I (hi t l).2]):=by
 have q2:=aS.op;have bJ:=aS.len;have bf:=Tm.qc t;have b4:=Tm.rS t;have dF:=Tm.nV t;have jc:D.agg [aI false,I 0,I 0]=fs.d:=rfl;have ll:D.agg [aI true,I 0,I 0]=jm.d:=rfl;have ah:=x7 (op:=t.op);have wa:=Bk (op:=t.op);have avi:l.length<=64:=by
  have:(gu t.op).2<=64:=by unfold gu;repeat(first|split|decide)
  omega
 have aP:=avb n l (by omega) (by omega);by_cases J:t.op<=9
 .have e:hi t l=if l.all Y.b then(jm,0)else(fs,13):=by unfold hi;rw[xac ⟨ea,J⟩]
  rw[e];have ai:t.op=5\/t.op=6\/t.op=7\/t.op=8\/t.op=9:=by omega
  generalize t.op=op at*;generalize l.all Y.b=q at*;rcases ai with rfl|rfl|rfl|rfl|rfl<;>simp[pE,tV,dF,bf,aP,jc,ll]<;>cases q<;>simp
 by_cases aa:t.op=18;.rw[wa aa]at bJ;obtain⟨a,b,c,rfl⟩:=v8 (l:=l) (by simp at bJ;omega);have g0:=NR (l:=[a,b,c]) rfl;have g1:=NS (l:=[a,b,c]) rfl;have g2:=aeb (l:=[a,b,c]) rfl;have q3:=(bQ b (by simp)).1;unfold hi;generalize hh [a,b,c]=L at*;rw[xae (by omega)];simp[pE,tV,dF,bf,aa,g0,g1,g2,jc,ll,v7,NP,US];obtain⟨og,aCy,aCz⟩:=b;cases a.b<;>cases og<;>cases c.b<;>simp at q3⊢;obtain⟨rfl,rfl⟩:=q3;rfl
 have ax:10<=t.op/\t.op<=17:=by omega
 rw[ah (by omega)]at bJ;obtain⟨a,b,rfl⟩:=q1 (l:=l) (by simp at bJ;omega);have g0:=NR (l:=[a,b]) rfl;have g1:=NS (l:=[a,b]) rfl;have Bl:=bQ a (by simp);have q3:=bQ b (by simp);have aU:=λop=>avf n op a b Bl q3;obtain⟨_,aK,a2,a3⟩:=Bl;obtain⟨_,fJ,hV,ko⟩:=q3;unfold hi;generalize hh [a,b]=L at*;rw[xae (by omega)];obtain⟨Ch,cS,eS⟩:=q1 (l:=t.bc) (by simp at bJ;omega);have UT:=aea (l:=t.bc) (b:=t.nl) (t:=cS) (by rw[eS];rfl);have avj:=(aS.fD (x:=cS) (by rw[eS];simp)).num;have s1:IntKind.i64.wrap (cS.num-1)=cS.num-1:=wrap64 _ (by omega) (by omega);have f5:bB false .sub (I cS.num) (I 1)=some (I (cS.num-1)):=nU (by omega) (by omega);have f1:bB false .add (I a.lo) (I b.lo)=some (I (a.lo+b.lo)):=e5 (by omega) (by omega);have f2:bB false .add (I a.af) (I b.af)=some (I (a.af+b.af)):=e5 (by omega) (by omega);have f3:bB false .sub (I a.lo) (I b.af)=some (I (a.lo-b.af)):=nU (by omega) (by omega);have f4:bB false .sub (I a.af) (I b.lo)=some (I (a.af-b.lo)):=nU (by omega) (by omega);have ai:t.op=10\/t.op=11\/t.op=12\/t.op=13\/t.op=14\/t.op=15\/t.op=16\/t.op=17:=by omega
 have b0:(t.bc[1]?)=some cS:=by rw[eS];rfl
 generalize t.op=op at*;have NT:∀x y:Int,hz x y=hz x y:=λ_ _=>rfl;rcases ai with rfl|rfl|rfl|rfl|rfl|rfl|rfl|rfl<;>
  cases dr:a.b<;>cases e3:b.b<;>simp[pE,tV,dF,bf,b4,g0,g1,UT,b0,jc,ll,v7,aU,f1,f2,f3,f4,f5,dr,e3]
 all_goals (by_cases lx:cS.op=1<;>by_cases z2:cS.num<1<;>simp[lx,z2])
def eo(vs:List V)(x:ByteArray):Option Nat:=vs.findIdx? (λv=>decide (v.name=x))
def x8{vs:List V}{x:ByteArray}{i:Nat}(h:eo vs x=some i):∃v,vs[i]?=some v/\v.name=x/\i<vs.length:=by obtain⟨J,aa,_⟩:=xbs.1 h;exact⟨_,xab J,by simpa using aa,J⟩
theorem V.wb(v:V):v.cells[0]?=some (a1 v.name)/\v.cells[1]?=some (aI v.bool)/\v.cells[2]?=some (I v.lo)/\v.cells[3]?=some (I v.af):=⟨rfl,rfl,rfl,rfl⟩
def hj{l:List V}{i:Nat}{v:V}(h:l[i]?=some v):bX 4 (br l) (I (i:Int))=some v.cells:=by simp[br,h]
def eY(l:List V):fA (br l)=some (I l.length):=by simp[br]
theorem V.avm(v:V):bN true 4 0 v.cells=some v.d/\dV 4 v.d=true/\ae v.d 0=a1 v.name:=⟨rfl,rfl,rfl⟩
def uj:List V->Nat->List (Value×D)->List (Value×D)
 |[],_,M=>M|v::r,i,M=>uj r (i+1) (if(gM M v.name).isSome then M else(rG .string M (a1 v.name) (I i)).getD [])
def UU:∀(r:List V)(i:Nat)(M:List (Value×D)),l7 M->l7 (uj r i M)/\∀x,gM (uj r i M) x=match gM M x with|some d=>some d|none=>(eo r x).map λj=>I ((i+j:Nat):Int)
 |[],i,M,h=>⟨h,λx=>by simp only[uj,eo,List.findIdx?_nil];cases gM M x<;>rfl⟩
 |v::r,i,M,h=>by
  rw[uj];have e:∀x,eo (v::r) x=if v.name=x then some 0 else(eo r x).map (·+1):=by intro x;simp[eo,xbW]
  by_cases aC:(gM M v.name).isSome
  .rw[xac aC];obtain⟨J,aa⟩:=UU r (i+1) M h;refine⟨J,λx=>?_⟩;rw[aa x,e x];cases ad:gM M x with
   |some d=>rfl
   |none=>
    have cp:¬v.name=x:=by rintro rfl;simp[ad]at aC
    simp only[cp,xaH,Option.map_map]
    congr 1
    funext j
    simp only[Function.comp]
    congr 2
    omega
  rw[xae aC];obtain⟨dP,eQ,eE,hR,_⟩:=L1 h v.name (I i);rw[eQ,xbp];obtain⟨J,aa⟩:=UU r (i+1) dP eE;refine⟨J,λx=>?_⟩;rw[aa x,hR x,e x];by_cases ad:x=v.name
  .subst ad;have aN:gM M v.name=none:=by simpa using aC
   simp[aN]
  have cp:¬v.name=x:=λh=>ad h.symm;simp only[ad,cp,xaH];cases bQ:gM M x with
  |some d=>rfl
  |none=>
   simp only[Option.map_map]
   congr 1
   funext j
   simp only[Function.comp]
   congr 2
   omega
def NU(M:List (Value×D))(vs:List V):Prop:=l7 M/\∀x,gM M x=(eo vs x).map λ(j:Nat)=>I (j:Int)
def aec(n:Nat)(vs:List V)(aN:vs.length<n)(al:vs.length<1000000000000):∃M,An n [br vs]=some (.mp M)/\NU M vs:=by
 have au:l7 []:=by intro e he;cases he
 obtain⟨J,aa⟩:=UU vs 0 [] au;refine⟨uj vs 0 [],?_,J,λx=>by rw[aa x];simp only[gM,xay]⟩;have af:=dC (f:=HW n) vs (λi (M:List (Value×D))=>[br vs,I vs.length,I (i:Int),.mp M]) (λr M=>(Sum.inl [.mp (uj r (vs.length-r.length) M)]:List D⊕D)) (λi M=>l7 M) (λM _=>by simp[HW,uj]) ?_ n 0 [] au (by omega) (xaj _)
 .have b1:(I ((0:Nat):Int))=I 0:=rfl;rw[b1]at af;simp[An,abo,eY,af]
 intro i a M aH af cM;left;have e:vs.length-(a::vs.drop (i+1)).length=i:=by simp;omega
 have du:vs.length-(vs.drop (i+1)).length=i+1:=by simp;omega
 have ax:=CJ cM (z:= .int .i64 0) (x:=a.name);have ac:=a.avm;cases bQ:gM M a.name with|some d=>rw[bQ]at ax;refine⟨M,by simp[HW,af,hj aH,ac,ax,cm (bt:=false) (i:=i) (by omega)],?_,cM⟩;rw[e,uj,bQ,du];rfl|none=>rw[bQ]at ax;obtain⟨dP,eQ,eE,hR,_⟩:=L1 cM a.name (I i);refine⟨dP,by simp[HW,af,hj aH,ac,ax,eQ,cm (bt:=false) (i:=i) (by omega)],?_,eE⟩;rw[e,uj,bQ,du];simp only[xcq,xar,xaH,eQ,xbp]
def UW(n:Nat)(vs:List V)(x:ByteArray)(aN:vs.length<n)(al:vs.length<1000000000000):zS n [br vs,a1 x]=some (I (match eo vs x with|some i=>(i:Int)|none=>-1)):=by
 have af:=dC (f:=G5 n) vs (λi (_:Unit)=>[br vs,a1 x,I (i:Int)]) (λr _=>match eo r x with|some j=>(Sum.inr (I ((vs.length-r.length+j:Nat):Int)):List D⊕D)|none=> .inl []) (λ_ _=>True) (λ_ _=>by simp[G5,eY,eo]) ?_ n 0 () trivial (by omega) (xaj _);.have b1:(I ((0:Nat):Int))=I 0:=rfl;rw[b1]at af;simp only[zS,aaT,af,xam,dT,zs];cases eo vs x<;>simp
 intro i a _ aH af _;have e:vs.length-(a::vs.drop (i+1)).length=i:=by simp;omega
 have du:vs.length-(vs.drop (i+1)).length=i+1:=by simp;omega
 have oe:eo (a::vs.drop (i+1)) x=if a.name=x then some 0 else(eo (vs.drop (i+1)) x).map (·+1):=by simp[eo,xbW]
 have ac:=a.wb;by_cases ad:a.name=x;.right;rw[oe,xac ad,e];simp[G5,eY,af,hj aH,ac,ad]
 left;refine⟨(),by simp[G5,eY,af,hj aH,ac,ad,cm (bt:=false) (i:=i) (by omega)],?_,trivial⟩;rw[oe,xae ad,e,du];cases eo (vs.drop (i+1)) x with|none=>rfl|some j=>simp;omega
def kW(vs:List V)(nx:Bool)(t:Tm):Y×Int:=if t.op=1 then hz t.num t.num else if t.op=2 then(jm,0)
 else match eo vs t.name with
  |none=>(fs,12)
  |some i=>if t.op=4/\nx=false then(fs,24)else match vs[i]? with
   |some v=>if v.bool then(jm,0)else hz v.lo v.af
   |none=>(fs,12)
mutual
def eb(vs:List V)(nx:Bool):Tm->Y×Int
 | .mk o n s b ks=>if o<=4 then kW vs nx (.mk o n s b ks)else if(eg vs nx ks).2≠0 then(fs,(eg vs nx ks).2)else hi (.mk o n s b ks) (eg vs nx ks).1
def eg(vs:List V)(nx:Bool):List Tm->List Y×Int
 |[]=>([],0)|t::r=>if(eb vs nx t).2≠0 then([],(eb vs nx t).2)else if(eg vs nx r).2≠0 then([],(eg vs nx r).2)else((eb vs nx t).1::(eg vs nx r).1,0)
end
theorem oK(vs:List V)(nx:Bool)(t:Tm):eb vs nx t=if t.op<=4 then kW vs nx t else if(eg vs nx t.bc).2≠0 then(fs,(eg vs nx t.bc).2)else hi t (eg vs nx t.bc).1:=by cases t;rw[eb];rfl
def UX:jm.lk:=⟨by simp[jm],by simp[jm],by simp[jm],by simp[jm]⟩
def avn{vs:List V}{nx:Bool}{t:Tm}(h:(kW vs nx t).2=0):(kW vs nx t).1.lk:=by
 unfold kW at*;by_cases J:t.op=1;.rw[xac J]at*;exact D3 h
 rw[xae J]at*;by_cases aa:t.op=2;.rw[xac aa];exact UX
 rw[xae aa]at*;cases af:eo vs t.name with
 |none=>simp[af]at h
 |some i=>
  simp only[af]at h⊢;by_cases ax:t.op=4/\nx=false;.simp[ax]at h
  rw[xae ax]at*;cases aS:vs[i]? with
  |none=>simp[aS]at h
  |some v=>
   simp only[aS]at h⊢;by_cases aj:v.bool=true;.rw[xac aj];exact UX
   rw[xae aj]at*;exact D3 h
def avo{op:Int}{a b:Y}(h:(pJ op a b).2=0):(pJ op a b).1.lk:=by
 unfold pJ at*;split at h;.rename_i J;rw[xac J];exact D3 h
 rename_i J;split at h;.rename_i aa;rw[xae J,xac aa];exact D3 h
 rename_i aa;rw[xae J,xae aa];exact D3 h
def uk{c:Prop}[Decidable c]{x y:Y×Int}(ad:x.2=0->x.1.lk\/x.1=fs)(aE:y.2=0->y.1.lk\/y.1=fs):(if c then x else y).2=0->(if c then x else y).1.lk\/(if c then x else y).1=fs:=by
 split;.exact ad
 exact aE
def avp{t:Tm}{l:List Y}:(hi t l).2=0->(hi t l).1.lk\/(hi t l).1=fs:=by
 have z:∀e:Int,((fs,e):Y×Int).2=0->((fs,e):Y×Int).1.lk\/((fs,e):Y×Int).1=fs:=λ_ _=> .inr rfl;have y:((jm,0):Y×Int).2=0->((jm,0):Y×Int).1.lk\/((jm,0):Y×Int).1=fs:=λ_=> .inl UX;have sp:∀a b:Int,(hz a b).2=0->(hz a b).1.lk\/(hz a b).1=fs:=λa b h=> .inl (D3 h);unfold hi;refine uk (uk y (z _)) ?_;split
 .exact uk (z _) (uk y (sp _ _))
 .refine uk (uk (z _) y) (uk (z _) (uk y (uk ?_ (λh=> .inl (avo h)))));split;.exact uk (z _) (sp _ _)
  exact z _
 exact z _
def avq:fs.lk:=⟨by simp[fs],by simp[fs],by simp[fs],by simp[fs]⟩
def avr(vs:List V)(nx:Bool)(t:Tm)(h:(eb vs nx t).2=0):(eb vs nx t).1.lk:=by
 rw[oK]at*;split at h;.rename_i ai;rw[xac ai];exact avn h
 rename_i ai;rw[xae ai];split at h;.rename_i bC;exact absurd h bC
 rename_i bC;rw[xae bC];rcases avp h with J|J
 .exact J
 rw[J];exact avq
def D6(vs:List V)(nx:Bool):∀(l:List Tm),(eg vs nx l).2=0->(eg vs nx l).1.length=l.length/\∀y∈(eg vs nx l).1,y.lk
 |[],_=>⟨rfl,by intro y aE;cases aE⟩
 |t::r,h=>by
  rw[eg]at*;by_cases J:(eb vs nx t).2=0
  case neg=>rw[xac J]at h;exact absurd h J
  rw[xae (by simpa using J)]at*;by_cases aa:(eg vs nx r).2=0
  case neg=>rw[xac aa]at h;exact absurd h aa
  rw[xae (by simpa using aa)];obtain⟨g1,g2⟩:=D6 vs nx r aa;refine⟨by simp[g1],λy aE=>?_⟩;rcases xal.1 aE with rfl|aE
  .exact avr vs nx t J
  exact g2 y aE
def avs(n:Nat)(vs:List V)(M:List (Value×D))(t:Tm)(nx:Bool)(L:D)(cM:NU M vs)(bh:t.op<=4)(J:1<=t.op):pE n [br vs,.mp M,t.d,aI nx,L]=some (.a6 [(kW vs nx t).1.d,I (kW vs nx t).2]):=by
 have bf:=Tm.qc t;have c1:=Tm.tE t;have c2:=Tm.tF t;have dF:=Tm.nV t;have jc:D.agg [aI false,I 0,I 0]=fs.d:=rfl;have ll:D.agg [aI true,I 0,I 0]=jm.d:=rfl;have al:=CJ cM.1 (z:= .int .i64 0) (x:=t.name);rw[cM.2]at al;unfold kW;have ai:t.op=1\/t.op=2\/t.op=3\/t.op=4:=by omega
 have tq:nh (.mp M)=some M:=rfl;generalize t.op=op at*;rcases ai with rfl|rfl|rfl|rfl
 .simp[pE,tV,dF,bf,c1,jc,ll,v7]
 .simp[pE,tV,dF,bf,c1,jc,ll,v7]
 .cases af:eo vs t.name with|none=>rw[af]at al;simp[pE,tV,dF,bf,c1,c2,jc,ll,tq,al]|some i=>rw[af]at al;obtain⟨v,v1,v2,v3⟩:=x8 af;simp[pE,tV,dF,bf,c1,c2,jc,ll,tq,al,v1,hj v1,v.wb,v7];cases v.bool<;>simp
 cases af:eo vs t.name with|none=>rw[af]at al;simp[pE,tV,dF,bf,c1,c2,jc,ll,tq,al]|some i=>rw[af]at al;obtain⟨v,v1,v2,v3⟩:=x8 af;simp[pE,tV,dF,bf,c1,c2,jc,ll,tq,al,v1,hj v1,v.wb,v7];cases v.bool<;>cases nx<;>simp
def Valid.leaf{t:Tm}(h:Valid t)(bh:t.op<=4):t.bc=[]:=by
 have J:=h.op;have aa:=h.len;have:gu t.op=(0,0):=by unfold gu;rw[xac (by omega)]
 rw[this]at aa;exact xaN (by have:=aa.2;simp only at this;omega)
def Valid.D7{t:Tm}(h:Valid t):t.bc.length<=64:=by
 have aa:=h.len;have:(gu t.op).2<=64:=by unfold gu;repeat(first|split|decide)
 omega
def aed{a b:Nat}(h:a+b<=1000):cZ (a+b) 24=true:=fV (by omega) (by omega)
def aee(vs:List V)(M:List (Value×D))(nx:Bool)(cM:NU M vs):∀(n:Nat)(t:Tm),t.bA+200<n->t.Ok->Valid t->si n [br vs,.mp M,t.d,aI nx]=some (.a6 [(eb vs nx t).1.d,I (eb vs nx t).2])
 |0,t,h,_,_=>absurd h (xaJ _)
 |n+1,t,aN,bD,aS=>by
  rw[oK];have jc:D.agg [aI false,I 0,I 0]=fs.d:=rfl;have x9:=aS.D7;have al:=dC (f:=Dh (si n) n) t.bc (λi (s:List Y)=>[br vs,.mp M,aI nx,cB 4 t.nl (Tm.rows t.bc),I t.bc.length,I (i:Int),I t.op,I t.num,a1 t.name,cB 4 t.nl (Tm.rows t.bc),aI false,I 0,I 0,hh s]) (λr s=>if(eg vs nx r).2=0 then(Sum.inl [br vs,.mp M,aI nx,I t.op,I t.num,a1 t.name,cB 4 t.nl (Tm.rows t.bc),aI false,I 0,I 0,hh (s++(eg vs nx r).1)]:List D⊕D)else .inr (.a6 [fs.d,I (eg vs nx r).2])) (λi s=>s.length=i) ?_ ?_ n 0 [] rfl (by omega) (xaj _)
  .have b1:(I ((0:Nat):Int))=I 0:=rfl;have aL:hh []= .aV 3 []:=rfl;rw[b1,aL]at al;simp only[si,Tg,Tm.nV,Tm.qc,Tm.tE,Tm.tF,Tm.rS,qK,Z7,Tm.CI,dT,al,xam,xaM,bs,b3,lb];by_cases au:(eg vs nx t.bc).2=0
   .obtain⟨g1,g2⟩:=D6 vs nx t.bc au;have a7:∀l:List Y,D.aV 3 (ba (hh l))=hh l:=λ_=>rfl;have avt:=λbh=>avs n vs M t nx (hh (eg vs nx t.bc).1) cM bh aS.op.1;have UY:=λb9=>avk n (br vs) (.mp M) t nx _ aS g1 b9 g2 (by omega);by_cases bh:t.op<=4
    .simp[au,a7,avt bh,bh]
    simp[au,a7,UY (by omega),bh]
   have bh:¬t.op<=4:=λbh=>au (by rw[aS.leaf bh];rfl);simp[au,bh]
  .intro s aC;simp[Dh,eg,hh]
  intro i a s aH af aC;have hm:=xad aH;have bG:=Tm.j2 hm;have av:=aee vs M nx cM n a (by omega) (bD.fD hm) (aS.fD hm);have eI:cZ (s.length+1) 24=true:=aed (by omega);have wT:Dh (si n) n [br vs,.mp M,aI nx,cB 4 t.nl (Tm.rows t.bc),I t.bc.length,I (i:Int),I t.op,I t.num,a1 t.name,cB 4 t.nl (Tm.rows t.bc),aI false,I 0,I 0,hh s]=
    if(eb vs nx a).2=0 then some (.inl [br vs,.mp M,aI nx,cB 4 t.nl (Tm.rows t.bc),I t.bc.length,I ((i+1:Nat):Int),I t.op,I t.num,a1 t.name,cB 4 t.nl (Tm.rows t.bc),aI false,I 0,I 0,hh (s++[(eb vs nx a).1])])
    else some (.inr (.inr (.a6 [fs.d,I (eb vs nx a).2]))):=by
   by_cases au:(eb vs nx a).2=0;.simp[Dh,af,Tm.h0 aH,av,au,cm (bt:=false) (i:=i) (by omega),hh,eI];simp[Y.cells]
   .simp[Dh,af,Tm.h0 aH,av,au,jc]
  rw[wT];simp only[eg];by_cases au:(eb vs nx a).2=0
  .left;refine⟨s++[(eb vs nx a).1],by simp[au],?_,by simp[aC]⟩;by_cases J:(eg vs nx (t.bc.drop (i+1))).2=0;.simp[au,J]
   simp[au,J]
  right;simp[au]
def aef(vs:List V)(nx:Bool)(jl:vs.length<1000000000000):∀(n:Nat)(t:Tm),t.bA+200+vs.length<n->t.Ok->Valid t->ns n [br vs,t.d,aI nx]=some (.a6 [(eb vs nx t).1.d,I (eb vs nx t).2])
 |0,t,h,_,_=>absurd h (xaJ _)
 |n+1,t,aN,bD,aS=>by
  rw[oK];have jc:D.agg [aI false,I 0,I 0]=fs.d:=rfl;have ll:D.agg [aI true,I 0,I 0]=jm.d:=rfl;have x9:=aS.D7;have ea:=aS.op;by_cases bh:t.op<=4
  .rw[xac bh];have bf:=Tm.qc t;have c1:=Tm.tE t;have c2:=Tm.tF t;have b4:=Tm.rS t;have dF:=Tm.nV t;unfold kW;have ad:=UW n vs t.name (by omega) jl;have ai:t.op=1\/t.op=2\/t.op=3\/t.op=4:=by omega
   generalize t.op=op at*;rcases ai with rfl|rfl|rfl|rfl
   .simp[ns,vv,dF,bf,c1,jc,ll,Jl]
   .simp[ns,vv,dF,bf,c1,jc,ll]
   .cases af:eo vs t.name with
    |none=>rw[af]at ad;simp[ns,vv,dF,bf,c1,c2,b4,jc,ll,ad]
    |some i=>
     rw[af]at ad;obtain⟨v,v1,v2,v3⟩:=x8 af;have jt:¬((i:Int)<0):=by omega
     simp[ns,vv,dF,bf,c1,c2,b4,jc,ll,ad,jt,v1,hj v1,v.wb,Jl];cases v.bool<;>simp
   cases af:eo vs t.name with
   |none=>rw[af]at ad;simp[ns,vv,dF,bf,c1,c2,b4,jc,ll,ad]
   |some i=>
    rw[af]at ad;obtain⟨v,v1,v2,v3⟩:=x8 af;have jt:¬((i:Int)<0):=by omega
    simp[ns,vv,dF,bf,c1,c2,b4,jc,ll,ad,jt,v1,hj v1,v.wb,Jl];cases v.bool<;>cases nx<;>simp
  rw[xae bh];have al:=dC (f:=CY (ns n) n) t.bc (λi (s:List Y)=>[br vs,aI nx,I (i:Int),I t.op,I t.num,a1 t.name,cB 4 t.nl (Tm.rows t.bc),aI false,I 0,I 0,hh s]) (λr s=>if(eg vs nx r).2=0 then(Sum.inl [I t.op,I t.num,a1 t.name,cB 4 t.nl (Tm.rows t.bc),aI false,I 0,I 0,hh (s++(eg vs nx r).1)]:List D⊕D)else .inr (.a6 [fs.d,I (eg vs nx r).2])) (λi s=>s.length=i) ?_ ?_ n 0 [] rfl (by omega) (xaj _)
  .have b1:(I ((0:Nat):Int))=I 0:=rfl;have aL:hh []= .aV 3 []:=rfl;rw[b1,aL]at al;have fJ:(t.op==1)=false:=by simp;omega
   have hV:(t.op==2)=false:=by simp;omega
   have ko:(t.op==3)=false:=by simp;omega
   have q4:(t.op==4)=false:=by simp;omega
   simp only[ns,vv,Tm.nV,Tm.qc,Tm.tE,Tm.tF,Tm.rS,qK,CC,fJ,hV,ko,q4,l2,xar,xaH,dT,qL,qb,rP,al,xam,xaM,dO,aw,aF,bs,bI,iC,u8];by_cases au:(eg vs nx t.bc).2=0;.obtain⟨g1,g2⟩:=D6 vs nx t.bc au;have a7:∀l:List Y,D.aV 3 (ba (hh l))=hh l:=λ_=>rfl;have UY:=avh n t _ aS g1 (by omega) g2 (by omega);simp[au,a7,UY]
   simp[au]
  .intro s aC;simp[CY,eg,hh]
  intro i a s aH af aC;have hm:=xad aH;have bG:=Tm.j2 hm;have av:=aef vs nx jl n a (by omega) (bD.fD hm) (aS.fD hm);have eI:cZ (s.length+1) 24=true:=aed (by omega);have wT:CY (ns n) n [br vs,aI nx,I (i:Int),I t.op,I t.num,a1 t.name,cB 4 t.nl (Tm.rows t.bc),aI false,I 0,I 0,hh s]=
    if(eb vs nx a).2=0 then some (.inl [br vs,aI nx,I ((i+1:Nat):Int),I t.op,I t.num,a1 t.name,cB 4 t.nl (Tm.rows t.bc),aI false,I 0,I 0,hh (s++[(eb vs nx a).1])])
    else some (.inr (.inr (.a6 [fs.d,I (eb vs nx a).2]))):=by
   by_cases au:(eb vs nx a).2=0;.simp[CY,af,Tm.h0 aH,av,au,cm (bt:=false) (i:=i) (by omega),hh,eI];simp[Y.cells]
   .simp[CY,af,Tm.h0 aH,av,au,jc]
  rw[wT];simp only[eg];by_cases au:(eb vs nx a).2=0
  .left;refine⟨s++[(eb vs nx a).1],by simp[au],?_,by simp[aC]⟩;by_cases J:(eg vs nx (t.bc.drop (i+1))).2=0;.simp[au,J]
   simp[au,J]
  right;simp[au]
def jP(vs:List V)(nx:Bool)(t:Tm):Y×Int:=if(dk t 1 0).1≠0 then(fs,(dk t 1 0).1)else eb vs nx t
def aeg(n:Nat)(vs:List V)(t:Tm)(nx:Bool)(aN:t.bA+200+vs.length<n)(bD:t.Ok)(jl:vs.length<1000000000000):xL n [br vs,t.d,aI nx]=some (.a6 [(jP vs nx t).1.d,I (jP vs nx t).2]):=by
 have ai:=NA n t (by omega) bD;obtain⟨M,m1,m2⟩:=aec n vs (by omega) jl;have jc:D.agg [aI false,I 0,I 0]=fs.d:=rfl;unfold jP;by_cases au:(dk t 1 0).1=0
 .have aP:=aee vs M nx m2 n t (by omega) bD ⟨1,0,au⟩;simp[xL,Th,ai,au,m1,aP]
 simp[xL,Th,ai,au,jc]
def aeh(n:Nat)(vs:List V)(t:Tm)(nx:Bool)(aN:t.bA+200+vs.length<n)(bD:t.Ok)(jl:vs.length<1000000000000):zV n [br vs,t.d,aI nx]=some (.a6 [(jP vs nx t).1.d,I (jP vs nx t).2]):=by
 have ai:=Um n t (by omega) bD;have jc:D.agg [aI false,I 0,I 0]=fs.d:=rfl;unfold jP;by_cases au:(dk t 1 0).1=0
 .have aP:=aef vs nx jl n t (by omega) bD ⟨1,0,au⟩;simp[zV,SM,ai,au,aP]
 simp[zV,SM,ai,au,jc]
end Go.Am
