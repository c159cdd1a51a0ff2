/- The laws, on data. No condition. -/
import Derived.Test.YtbninlabhgbhcaaGreatDoorEngD
import Derived.Test.YtbninlabhgbhcaaGreatDoorCode
import Derived.Test.YtbninlabhgbhcaaGreatDoorEngS
set_option linter.all false
set_option linter.unnecessarySimpa false
namespace Go.Am
def gG(op:Int):Int×Int:=if op=1\/op=2\/op=3\/op=4 then(0,0)else if op=5 then(1,1)else if op=6\/op=7 then(1,64)else if op=18 then(3,3)else if op<1\/op>18 then(-1,-1)else(2,2)
def EK(op:Int):Bool:=op==3||op==4
def iJ(t:Tm):Int:=if(gG t.op).1<0 then 11
 else if(t.num<(if t.op=1 then-255 else 0))\/t.num>(if t.op=1 then 255 else if t.op=2 then 1 else 0)then 2
 else if(if EK t.op then t.name=⟨#[]⟩\/t.name.size>24 else t.name≠⟨#[]⟩)then 12
 else if(t.bf.length:Int)<(gG t.op).1\/(t.bf.length:Int)>(gG t.op).2 then 3 else 0
def avN(n:Nat)(op:Int):ID n [I op]=some (.aZ [I (gG op).1,I (gG op).2]):=by
 rcases M9 op with rfl|rfl|rfl|rfl|rfl|rfl|rfl|rfl|rfl|rfl|rfl|rfl|rfl|rfl|rfl|rfl|rfl|rfl|h
 case inr.inr.inr.inr.inr.inr.inr.inr.inr.inr.inr.inr.inr.inr.inr.inr.inr.inr=>
  have e:∀k:Int,1<=k->k<=18->(op==k)=false:=λk J aa=>by simp;omega
  have a8:gG op=(-1,-1):=by unfold gG;repeat(first|rw[xae (by omega)]|rw[xac (by omega)])
  simp[ID,ace,e,a8]
 all_goals rfl
def avO(n:Nat)(op:Int):DK n [I op]=some (.aZ [I (gG op).1,I (gG op).2]):=by
 rcases M9 op with rfl|rfl|rfl|rfl|rfl|rfl|rfl|rfl|rfl|rfl|rfl|rfl|rfl|rfl|rfl|rfl|rfl|rfl|h
 case inr.inr.inr.inr.inr.inr.inr.inr.inr.inr.inr.inr.inr.inr.inr.inr.inr.inr=>
  have e:∀k:Int,1<=k->k<=18->(op==k)=false:=λk J aa=>by simp;omega
  have a8:gG op=(-1,-1):=by unfold gG;repeat(first|rw[xae (by omega)]|rw[xac (by omega)])
  rcases h with h|h;.simp[DK,Tx,e,a8,h]
  have:¬op<1:=by omega
  simp[DK,Tx,e,a8,h,this]
 all_goals rfl
def avP(s:ByteArray):decide (s=⟨#[]⟩)=decide ((s.size:Int)<1):=by
 have:s=⟨#[]⟩↔(s.size:Int)<1:=by
  constructor;.rintro rfl;decide
  intro h;have:s.size=0:=by omega
  cases s with|mk a=>congr;exact xbn this
 simp[this]
def avQ(n:Nat)(t:Tm):IE n [t.d]=some (I (iJ t)):=by
 cases t with|mk op num s b ks=>
 have ai:=avN n op;have hx:dO 4 (Tm.d (.mk op num s b ks))=true:=Tm.oq _;have bT:ae (Tm.d (.mk op num s b ks)) 0=I op:=rfl;have aM:ae (Tm.d (.mk op num s b ks)) 1=I num:=rfl;have a8:ae (Tm.d (.mk op num s b ks)) 2=a6 s:=rfl;have b0:ae (Tm.d (.mk op num s b ks)) 3=cH 4 b (Tm.rows ks):=rfl;generalize Tm.d (.mk op num s b ks)=x at*;simp only[iJ,Tm.op,Tm.num,Tm.name,Tm.bf];simp only[IE,acf,hx,bT,aM,a8,b0,rm,ai,dQ,SS,xbC,xcr,G9,mo,dF,aw,aF,bw,bK,b7,ef,u8,oT];by_cases ar:(gG op).1<0
 .simp[ar]
 simp only[ar,decide_false,xar,xaI,Dt,dQ,mo];simp[EK];grind
def aeE(n:Nat)(t:Tm)(deep:Int):AB n [t.d,I deep]=some (I (if deep>64 then 17 else iJ t)):=by
 cases t with|mk op num s b ks=>
 have ai:=avO n op;have hx:dO 4 (Tm.d (.mk op num s b ks))=true:=Tm.oq _;have bT:ae (Tm.d (.mk op num s b ks)) 0=I op:=rfl;have aM:ae (Tm.d (.mk op num s b ks)) 1=I num:=rfl;have a8:ae (Tm.d (.mk op num s b ks)) 2=a6 s:=rfl;have b0:ae (Tm.d (.mk op num s b ks)) 3=cH 4 b (Tm.rows ks):=rfl;have cK:D.agg [I op,I num,a6 s,cH 4 b (Tm.rows ks)]=(Tm.d (.mk op num s b ks)):=rfl;have az:=avP s;simp only[iJ,Tm.op,Tm.num,Tm.name,Tm.bf];simp only[AB,abM,hx,bT,aM,a8,b0,cK,rm,ai,dQ,SS,xbC,xcr,G9,pU,mo,dF,aw,aF,bw,bK,b7,ef,u8,z8];by_cases ay:deep>64
 .simp[ay]
 by_cases ar:(gG op).1<0;.simp[ar]
 simp only[ar,ay,decide_false,xar,xaI,Dt,dQ,mo];simp[EK];simp at az;grind
mutual
def dn:Tm->Int->Int->Int×Int
 | .mk op n s b ks,deep,k=>if deep>64 then(17,k+1)else if iJ (.mk op n s b ks)≠0 then(iJ (.mk op n s b ks),k+1)else if k+1>4096 then(4,k+1)else fD ks (deep+1) (k+1)
def fD:List Tm->Int->Int->Int×Int
 |[],_,k=>(0,k)|t::r,deep,k=>if(dn t deep k).1≠0 then dn t deep k else fD r deep (dn t deep k).2
end
theorem wD(t:Tm)(deep k:Int):dn t deep k=if deep>64 then(17,k+1)else if iJ t≠0 then(iJ t,k+1)else if k+1>4096 then(4,k+1)else fD t.bf (deep+1) (k+1):=by cases t;rw[dn];rfl
def EL(t:Tm):∀(deep k:Int),k+1<=(dn t deep k).2/\((dn t deep k).1=0->(dn t deep k).2<=4096):=by
 refine Tm.ind (P:=λt=>∀(deep k:Int),k+1<=(dn t deep k).2/\((dn t deep k).1=0->(dn t deep k).2<=4096)) ?_ t;intro t ih deep k;rw[wD];split;.simp
 split;.rename_i h;simp[h]
 split;.simp
 have key:∀(l:List Tm)(deep k:Int),(∀x∈l,∀(deep k:Int),k+1<=(dn x deep k).2/\((dn x deep k).1=0->(dn x deep k).2<=4096))->k<=4096->k<=(fD l deep k).2/\((fD l deep k).1=0->(fD l deep k).2<=4096):=by
  intro l
  induction l with
  |nil=>intro deep k _ h;simp[fD,h]
  |cons a r mD=>
   intro deep k h ai;rw[fD];have J:=h a (by simp) deep k;split
   .rename_i aa;exact⟨by omega,λax=>absurd ax aa⟩
   rename_i aa;simp only[ne_eq,Decidable.not_not]at aa;have ax:=mD deep (dn a deep k).2 (λx ad=>h x (by simp[ad])) (J.2 aa);exact⟨by omega,ax.2⟩
 have:=key t.bf (deep+1) (k+1) ih (by omega);exact this
def aeF:∀(n:Nat)(t:Tm)(deep k:Int),t.bC<n->t.Ok->0<=deep->deep<=65->0<=k->k<=4096->uo n [t.d,I deep,I k]=some (.aZ [I (dn t deep k).1,I (dn t deep k).2])
 |0,t,_,_,h,_,_,_,_,_=>absurd h (xaH _)
 |n+1,t,deep,k,aN,bE,J,aa,ax,bj=>by
  have aU:=aeE n t deep;rw[wD];simp[uo,Ty,mw (bt:=false) (i:=k) (by omega) (by omega),aU];by_cases ay:64<deep;.simp[ay]
  simp[ay];by_cases hw:iJ t=0
  case neg=>simp[hw]
  simp[hw];by_cases ah:4096<k+1;.simp[ah]
  simp[ah];have al:=dy (f:=Nq (uo n) n) t.bf (λi s=>[I deep,I s,I (i:Int),I t.op,I t.num,a6 t.name,cH 4 t.nl (Tm.rows t.bf)]) (λr (s:Int)=>if(fD r (deep+1) s).1=0 then(Sum.inl [I (fD r (deep+1) s).2]:List D⊕D)else .inr (.aZ [I (fD r (deep+1) s).1,I (fD r (deep+1) s).2])) (λi s=>0<=s/\s<=4096) ?_ ?_ n 0 (k+1) ⟨by omega,by omega⟩ (by have:=t.mu;omega) (xai _)
  .have bT:(I ((0:Nat):Int))=I 0:=rfl;rw[bT]at al;rw[al];simp only[xal,dQ];by_cases ar:(fD t.bf (deep+1) (k+1)).1=0;.simp[ar]
   simp[ar]
  .intro s az;simp[Nq,fD]
  intro i a s aG ag az;have hm:=xad aG;have bF:=Tm.ki hm;have bI:=bE.len;have av:=aeF n a (deep+1) s (by omega) (bE.fO hm) (by omega) (by omega) az.1 az.2;have iq:=EL a (deep+1) s;simp[Nq,ag,Tm.h4 aG,mw (bt:=false) (i:=deep) (by omega) (by omega),av,cf (bt:=false) (i:=i) (by omega),fD];by_cases ar:(dn a (deep+1) s).1=0
  .left;simp only[ar];exact⟨(dn a (deep+1) s).2,by simp,by simp,by omega,iq.2 ar⟩
  right;simp[ar]
def Vp(n:Nat)(t:Tm)(aN:t.bC<n)(bE:t.Ok):vW n [t.d]=some (I (dn t 1 0).1):=by have:=aeF n t 1 0 aN bE (by omega) (by omega) (by omega) (by omega);simp[vW,abN,this]
def avR(n:Nat)(t:Tm)(deep k w:Int)(J:0<=k)(aa:k<=4096):∃e,e=(if deep>64 then 17 else if iJ t≠0 then iJ t else if k+1>4096 then 4 else 0)/\IF n [t.d,I deep,I k,I w]=some [aK (decide (e=0)),I (k+1),I e]:=by refine⟨_,rfl,?_⟩;have aU:=avQ n t;simp[IF,mw (bt:=false) (i:=k) (by omega) (by omega),aU];by_cases c1:64<deep<;>by_cases c2:iJ t=0<;>by_cases b8:4096<k+1<;>simp[c1,c2,b8]
def aeG:∀(n:Nat)(t:Tm)(deep k w:Int),t.bC<n->t.Ok->0<=deep->deep<=65->0<=k->k<=4096->wi n [t.d,I deep,I k,I w]=some [aK (decide ((dn t deep k).1=0)),I (dn t deep k).2,I (dn t deep k).1]
 |0,t,_,_,_,h,_,_,_,_,_=>absurd h (xaH _)
 |n+1,t,deep,k,w,aN,bE,J,aa,ax,bj=>by
  obtain⟨e,he,aU⟩:=avR n t deep k w ax bj;rw[wD];simp[wi,T6,aU];by_cases Ka:e=0
  case neg=>simp[Ka];grind
  have ah:¬deep>64/\iJ t=0/\¬k+1>4096:=by grind
  simp[Ka,ah];have al:=dy (f:=NA (wi n) n) t.bf (λi (s:Int×Int)=>[I deep,cH 4 t.nl (Tm.rows t.bf),I t.bf.length,I (i:Int),I s.1,I s.2]) (λr (s:Int×Int)=>if(fD r (deep+1) s.1).1=0 then(Sum.inl [I (fD r (deep+1) s.1).2,I 0]:List D⊕List D)else .inr [aK false,I (fD r (deep+1) s.1).2,I (fD r (deep+1) s.1).1]) (λi s=>0<=s.1/\s.1<=4096/\s.2=0) ?_ ?_ n 0 (k+1,0) ⟨by simp;omega,by simp;omega,rfl⟩ (by have:=t.mu;omega) (xai _)
  .have bT:(I ((0:Nat):Int))=I 0:=rfl;rw[bT]at al;rw[al];simp only[xal,dQ];by_cases ar:(fD t.bf (deep+1) (k+1)).1=0;.simp[ar]
   simp[ar]
  .intro s az;simp[NA,fD,az.2.2]
  intro i a s aG ag az;have hm:=xad aG;have bF:=Tm.ki hm;have bI:=bE.len;have av:=aeG n a (deep+1) s.1 s.2 (by omega) (bE.fO hm) (by omega) (by omega) az.1 az.2.1;have iq:=EL a (deep+1) s.1;simp[NA,ag,Tm.h4 aG,mw (bt:=false) (i:=deep) (by omega) (by omega),av,cf (bt:=false) (i:=i) (by omega),fD];by_cases ar:(dn a (deep+1) s.1).1=0
  .left;exact⟨(dn a (deep+1) s.1).2,0,by simp[ar],by simp[ar],by omega,iq.2 ar,rfl⟩
  right;simp[ar]
def OU(n:Nat)(t:Tm)(aN:t.bC<n)(bE:t.Ok):uy n [t.d]=some (I (dn t 1 0).1):=by have:=aeG n t 1 0 0 aN bE (by omega) (by omega) (by omega) (by omega);simp[uy,ach,this]
def avS{α:Type}(A B:List α)(z s:α):(((A++B++[z]).take (A.length+1)++(((A++B++[z]).drop A.length).take (B.length+1)).take (min ((((A++B++[z]).drop A.length).take (B.length+1)).length) B.length)++(A++B++[z]).drop (A.length+1+min ((((A++B++[z]).drop A.length).take (B.length+1)).length) B.length)).set A.length s)=A++s::B:=by
 have aM:(A++B++[z]).drop A.length=B++[z]:=by rw[xaK,List.drop_left]
 have a8:(B++[z]).take (B.length+1)=B++[z]:=xbx (by simp);rw[aM,a8];have b0:min (B++[z]).length B.length=B.length:=by simp
 rw[b0];have cK:(B++[z]).take B.length=B:=List.take_left;have dJ:(A++B++[z]).drop (A.length+1+B.length)=[]:=xcu (by simp;omega);rw[cK,dJ,xau];obtain⟨w,hw⟩:∃w,(A++B++[z]).take (A.length+1)=A++[w]:=by rw[xaK,List.take_append];cases B with|nil=>exact⟨z,by rw[xbx (by omega)];simp⟩|cons b B=>exact⟨b,by rw[xbx (by omega)];simp⟩
 rw[hw,xaK];simp
def Vq{n i:Nat}(h:i<=n):kE n (some (I (i:Int))) none=some (i,n-i):=by simp[kE,qs,I,h]
theorem avT(l:List ByteArray):bb (dH l)=l.map λs=>[a6 s]:=rfl
def aeH(n:Nat)(s:ByteArray)(l:List ByteArray)(az:kk l)(aN:l.length+2<n)(al:l.length<1000000000):yf n [a6 s,dH l]=some [dH (h5 s l)]:=by
 obtain⟨a,b,rfl,aa,ax,bj,ca,cR⟩:=Tc s az;have es:=avT (a++b);have key:bJ (IG n) n [a6 s,I ((a++b).length:Int),dH (a++b)]=some (.inl [a6 s,I (a.length:Int),dH (a++b)]):=by
  refine nd (λj=>[a6 s,I (((a++b).length-j:Nat):Int),dH (a++b)]) b.length (by simp) ?_ ?_ (by simp at aN;omega)
  .intro j aA;have bI:(a++b).length=a.length+b.length:=by simp
   obtain⟨m,hm⟩:∃m:Nat,(a++b).length-j=m+1:=⟨(a++b).length-j-1,by omega⟩;have yD:(a++b).length-(j+1)=m:=by omega
   have hv:(a++b)[m]?=b[m-a.length]?:=xaz (by omega);have b6:m-a.length<b.length:=by omega
   have avU:=xab b6;rw[avU]at hv;have aj:=ax _ (xbc b6);generalize b[m-a.length]=x at*;have nU:bD false .sub (I ((m+1:Nat):Int)) (I 1)=some (I (m:Int)):=by rw[oo (by omega) (by omega)];congr 2;omega
   have uK:cC (bb (dH (a++b))).length (I (m:Int))=some m:=by rw[j2,xac (by rw[es];simp at bI⊢;omega)]
   have ej:(bb (dH (a++b)))[m]?=some [a6 x]:=by rw[es,xah,hv];rfl
   have iq:((m+1:Nat):Int)>0:=by omega
   simp only[hm,yD];simp only[IG,qB,sr,pU,xao iq,dQ,vO,xaG,nU,uK,ej,jj,xbC,Nb,aj,vP,mo,dF,aw,dw,aF,bK,ba,hU];rfl
  have bI:(a++b).length-b.length=a.length:=by simp
  simp only[bI];by_cases ar:a.length=0
  .have:¬((a.length:Int)>0):=by omega
   simp only[IG,qB,sr,pU,xat this,dQ,vO,xar,xaI,vP,mo,SQ,dF,aw,dw,aF,bK,ba,hU];rfl
  obtain⟨m,hm⟩:∃m:Nat,a.length=m+1:=⟨a.length-1,by omega⟩;have b6:m<a.length:=by omega
  have hv:(a++b)[m]?=a[m]?:=xaq b6;rw[xab b6]at hv;have aG:=aa _ (xbc b6);generalize a[m]=x at*;have nU:bD false .sub (I ((m+1:Nat):Int)) (I 1)=some (I (m:Int)):=by rw[oo (by omega) (by simp at al;omega)];congr 2;omega
  have uK:cC (bb (dH (a++b))).length (I (m:Int))=some m:=by rw[j2,xac (by rw[es];simp;omega)]
  have ej:(bb (dH (a++b)))[m]?=some [a6 x]:=by rw[es,xah,hv];rfl
  have iq:((m+1:Nat):Int)>0:=by omega
  simp only[hm];simp only[IG,qB,sr,pU,xao iq,dQ,vO,xaG,nU,uK,ej,jj,xbC,Nb,aG,vP,mo,xar,xaI,SQ,dF,aw,dw,aF,bK,ba,hU];rfl
 have hG:D.aW 1 (bb (dH (a++b)))=dH (a++b):=rfl;have aeI:(bb (dH (a++b))).length=(a++b).length:=by rw[es];simp
 by_cases cS:s∈a++b
 .obtain⟨cM,rfl⟩:=bj cS;rw[Tb az cS];have z6:(cM++[s]).length=cM.length+1:=by simp
  have nU:bD false .sub (I ((cM.length+1:Nat):Int)) (I 1)=some (I (cM.length:Int)):=by rw[oo (by omega) (by simp at al;omega)];congr 2;omega
  have uK:cC ((cM++[s]++b).length) (I (cM.length:Int))=some cM.length:=by rw[j2,xac (by simp)]
  have ej:(bb (dH (cM++[s]++b)))[cM.length]?=some [a6 s]:=by rw[es];simp
  have iq:((cM.length+1:Nat):Int)>0:=by omega
  rw[z6]at key;simp only[yf,qB,sr,aeI,hG,key,dQ,rn,pU,xao iq,vO,xaG,nU,uK,ej,jj,xbC,SY,decide_true,vP,mo,dF,aw,dw,bK,ba,ek,hU]
 rw[cR cS];have Hg:=ca cS;have Kb:ab (ec (aK (decide ((a.length:Int)>0))) true (ab (bD false .sub (I (a.length:Int)) (I 1)) λv26=>ab (cC (a++b).length v26) λIH=>ab ((bb (dH (a++b)))[IH]?) λavV=>ab (bM false 1 0 avV) λv28=>ab (bD false .eql v28 (a6 s)) λv30=>some v30)) (λv30=>ab (gW (aK (decide ((a.length:Int)>0))) v30 (aK false)) λv31=>some v31)=some (aK false):=by
  by_cases ar:a.length=0
  .have:¬((a.length:Int)>0):=by omega
   simp only[xat this,vO,xar,xaI,dQ,vP]
  obtain⟨m,hm⟩:∃m:Nat,a.length=m+1:=⟨a.length-1,by omega⟩;have b6:m<a.length:=by omega
  have hv:(a++b)[m]?=a[m]?:=xaq b6;rw[xab b6]at hv;have cp:a[m]≠s:=λe=>Hg (by rw[<-e];exact xbc b6);generalize a[m]=x at*;have nU:bD false .sub (I ((m+1:Nat):Int)) (I 1)=some (I (m:Int)):=by rw[oo (by omega) (by simp at al;omega)];congr 2;omega
  have uK:cC (a++b).length (I (m:Int))=some m:=by rw[j2,xac (by simp;omega)]
  have ej:(bb (dH (a++b)))[m]?=some [a6 x]:=by rw[es,xah,hv];rfl
  have iq:((m+1:Nat):Int)>0:=by omega
  rw[hm];simp only[xao iq,vO,xaG,nU,dQ,uK,ej,jj,xbC,SY,xat cp,vP]
 obtain⟨v30,bN,bO⟩:=en Kb;obtain⟨v31,cx,dX⟩:=en bO;cases dX;have eL:cT ((a++b).length+1) 16=true:=fX (by omega) (by omega);have fZ:=cf (bt:=false) (i:=a.length) (by simp at al;omega);have eJ:bb (dH (a++b))++[[a6 ⟨#[]⟩]]=(a.map λs=>[a6 s])++(b.map λs=>[a6 s])++[[a6 ⟨#[]⟩]]:=by rw[es];simp
 have avW:((a.map λs=>[a6 s])++(b.map λs=>[a6 s])++[[a6 ⟨#[]⟩]]:List (List D)).length=a.length+b.length+1:=by simp;omega
 have c1:kE (a.length+b.length+1) (some (I ((a.length+1:Nat):Int))) none=some (a.length+1,b.length):=by rw[Vq (by omega)];congr 2;omega
 have c2:kE (a.length+b.length+1) (some (I (a.length:Int))) none=some (a.length,b.length+1):=by rw[Vq (by omega)];congr 2;omega
 have uc:=avS (a.map λs=>[a6 s]) (b.map λs=>[a6 s]) [a6 ⟨#[]⟩] [a6 s];simp only[xaW]at uc;have zo:∀(X:List (List D)) (w:List D),X[a.length]?=some w->h9 w 0 [a6 s]=[a6 s]->(X.set a.length (h9 w 0 [a6 s]))=X.set a.length [a6 s]:=λX w _ h=>by rw[h]
 generalize la:(((a.map λs=>[a6 s])++(b.map λs=>[a6 s])++[[a6 ⟨#[]⟩]]:List (List D)).take (a.length+1)++((((a.map λs=>[a6 s])++(b.map λs=>[a6 s])++[[a6 ⟨#[]⟩]]:List (List D)).drop a.length).take (b.length+1)).take (min (((((a.map λs=>[a6 s])++(b.map λs=>[a6 s])++[[a6 ⟨#[]⟩]]:List (List D)).drop a.length).take (b.length+1)).length) b.length)++((a.map λs=>[a6 s])++(b.map λs=>[a6 s])++[[a6 ⟨#[]⟩]]:List (List D)).drop (a.length+1+min (((((a.map λs=>[a6 s])++(b.map λs=>[a6 s])++[[a6 ⟨#[]⟩]]:List (List D)).drop a.length).take (b.length+1)).length) b.length))=X at*;have aEa:X.length=a.length+b.length+1:=by have:=congrArg List.length uc;simp at this;omega
 have uK:cC X.length (I (a.length:Int))=some a.length:=by rw[j2,xac (by omega)]
 have hw:∃x,X[a.length]?=some [x]:=by
  have hm:∀w∈X,∃x,w=[x]:=by
   rw[<-la];intro w hw;have cS:w∈((a.map λs=>[a6 s])++(b.map λs=>[a6 s])++[[a6 ⟨#[]⟩]]:List (List D)):=by
    rcases xas.1 hw with hw|hw
    .rcases xas.1 hw with hw|hw;.exact xbq hw
     exact xbp (xbq (xbq hw))
    exact xbp hw
   rcases xas.1 cS with cS|cS
   .rcases xas.1 cS with cS|cS;.obtain⟨x,_,rfl⟩:=xaN.1 cS;exact⟨_,rfl⟩
    obtain⟨x,_,rfl⟩:=xaN.1 cS;exact⟨_,rfl⟩
   simp at cS;exact⟨_,cS⟩
  have b6:a.length<X.length:=by omega
  obtain⟨x,ad⟩:=hm _ (xbc b6);exact⟨x,by rw[xab b6,ad]⟩
 obtain⟨x,ad⟩:=hw;have Vr:h9 [x] 0 [a6 s]=[a6 s]:=rfl;have d1:decide (a.length+(b.length+1)<=a.length+b.length+1)=true:=xao (by omega);have d2:decide (a.length+1+b.length<=a.length+b.length+1)=true:=xao (by omega);have oJ:bV (a6 s)=true:=rfl;have mb:([[a6 ⟨#[]⟩]]:List (List D)).length=1:=rfl;simp only[yf,qB,sr,aeI,hG,key,dQ,rn,pU,dF,aw,dw,bK,ba,ek,hU];rw[bN];simp only[dQ,cx,mo,xar,xaI,mb,eL,rm,fZ,eJ,avW,c1,c2,d1,d2,la,uK,oJ,ad,Vr,uc];simp[dH]
def kM(nl:Bool)(l:List ByteArray):D:=cH 1 nl (l.map λs=>[a6 s])
def aeJ{nl:Bool}{l:List ByteArray}(h:l≠[]):kM nl l=dH l:=by cases l with|nil=>exact absurd rfl h|cons a r=>simp[kM,dH,cH]
def o1(nl:Bool)(l:List ByteArray):fW (kM nl l)=some (I l.length):=by simp[kM]
def BZ{nl:Bool}{l:List ByteArray}{i:Nat}{s:ByteArray}(h:l[i]?=some s):b3 1 (kM nl l) (I (i:Int))=some [a6 s]:=by unfold kM;rw[S6];simp[h]
def avX(s:ByteArray)(l:List ByteArray):h5 s l≠[]:=by cases l with|nil=>simp[h5]|cons a r=>rw[h5];split<;>(try split)<;>simp
def avY(n:Nat)(nl:Bool)(l:List ByteArray)(s:ByteArray)(aN:l.length<n)(al:l.length<1000000000):HL n [kM nl l,a6 s]=some (aK (l.any λx=>decide (x=s))):=by
 have ag:=dy (f:=HK n) l (λi (_:Unit)=>[kM nl l,a6 s,I (i:Int)]) (λr _=>if r.any (λx=>decide (x=s))=true then(.inr (aK true):List D⊕D)else .inl []) (λ_ _=>True) (λ_ _=>by simp[HK,o1]) ?_ n 0 () trivial (by omega) (xai _)
 .have bT:(I ((0:Nat):Int))=I 0:=rfl;rw[bT]at ag;simp only[xal]at ag;simp only[HL,abI,ag,dQ,z8];by_cases h:l.any (λx=>decide (x=s))=true;.rw[xac h,h];rfl
  rw[xae h];cases bU:l.any (λx=>decide (x=s))with|false=>rfl|true=>exact absurd bU h
 intro i x _ ad ag _;by_cases h:x=s;.right;simp[HK,o1,ag,BZ ad,h]
 left;exact⟨(),by simp[HK,o1,ag,BZ ad,h,cf (bt:=false) (i:=i) (by omega)],by simp only[List.any_cons,xat h,xbG],trivial⟩
def wf(s:ByteArray):List ByteArray->Bool->List ByteArray->Bool×List ByteArray
 |[],d,o=>(d,o)|x::r,d,o=>if(!d&&blt s x)=true then wf s r true (o++[s,x])else wf s r d (o++[x])
def aeK(s:ByteArray):∀(l o:List ByteArray),wf s l true o=(true,o++l)
 |[],o=>by simp[wf]|x::r,o=>by rw[wf];simp[aeK s r]
def aeL(s:ByteArray):∀(a b o:List ByteArray),(∀x∈a,blt s x=false)->wf s (a++b) false o=wf s b false (o++a)
 |[],b,o,_=>by simp|x::a,b,o,h=>by rw[xbd,wf];have:=h x (by simp);simp[this,aeL s a b _ (λy aH=>h y (by simp[aH]))]
def avZ(s:ByteArray):∀(b o:List ByteArray),(∀x∈b,blt s x=true)->wf s b false o=(match b with|[]=>(false,o)|_=>(true,o++s::b))
 |[],o,_=>rfl|x::r,o,h=>by rw[wf];have:=h x (by simp);simp[this,aeK]
@[simp] theorem aEb (p:List ByteArray) (x:ByteArray):D.aW 1 (bb (dH p)++[[a6 x]])=dH (p++[x]):=by simp[dH]
@[simp] theorem aEc (p:List ByteArray):(bb (dH p)).length=p.length:=by simp[dH]
@[simp] theorem aEd (p:List ByteArray):D.aW 1 (bb (dH p))=dH p:=rfl
def av0(n:Nat)(nl:Bool)(l:List ByteArray)(s:ByteArray)(az:kk l)(aN:l.length+2<n)(al:l.length<1000000000):Ay n [kM nl l,a6 s]=some (dH (h5 s l)):=by
 have cS:=avY n nl l s (by omega) al;by_cases hm:s∈l;.have:l.any (λx=>decide (x=s))=true:=xbH.2 ⟨s,hm,by simp⟩;rw[this]at cS;rw[Tb az hm];simp only[Ay,Nl,cS,dQ,mo,xaG,aF,ba,dP,hU,z8];rw[aeJ (List.ne_nil_of_mem hm)]
 have Hg:l.any (λx=>decide (x=s))=false:=by cases h:l.any (λx=>decide (x=s))with|false=>rfl|true=>obtain⟨x,J,aa⟩:=xbH.1 h;simp at aa;subst aa;exact absurd J hm
 rw[Hg]at cS;obtain⟨a,b,gg,aa,ax,bj,ca,cR⟩:=Tc s az;have hw:wf s l false []=wf s b false a:=by rw[gg,aeL s a b _ aa];simp
 have jn:=dy (f:=DJ n) l (λi (p:Bool×List ByteArray)=>[kM nl l,a6 s,aK p.1,I (i:Int),dH p.2]) (λr p=>(.inl [a6 s,aK (wf s r p.1 p.2).1,dH (wf s r p.1 p.2).2]:List D⊕D)) (λi p=>p.2.length<=i+(if p.1=true then 1 else 0)) (λp _=>by simp[DJ,o1,wf]) ?_ n 0 (false,[]) (by simp) (by omega) (xai _)
 .have bT:(I ((0:Nat):Int))=I 0:=rfl;have aM:dH []= .aW 1 []:=rfl;rw[bT,aM]at jn;simp only[xal,hw]at jn;rw[cR hm];have LF:a.length<=l.length:=by rw[gg];simp
  cases b with|nil=>simp only[wf]at jn;have eL:cT (a.length+1) 16=true:=fX (by omega) (by omega);simp[Ay,Nl,cS,jn,eL]|cons c r=>have aj:=avZ s (c::r) a ax;simp only at aj;rw[aj]at jn;simp[Ay,Nl,cS,jn]
 intro i x p ad ag aU;left;have aG:=cf (bt:=false) (i:=i) (by omega);have xH:p.2.length<=i+1:=by split at aU<;>omega
 have ey:cT (p.2.length+1) 16=true:=fX (by omega) (by omega);have ez:cT (p.2.length+1+1) 16=true:=fX (by omega) (by omega);obtain⟨d,o⟩:=p;simp only at aU ey ez;cases d with
 |true=>
  refine⟨(true,o++[x]),?_,by rw[wf];simp,?_⟩;.simp[DJ,o1,ag,BZ ad,ey,aG]
  simp at aU⊢;omega
 |false=>
  cases aj:blt s x
  .refine⟨(false,o++[x]),?_,by rw[wf];simp[aj],?_⟩;.simp[DJ,o1,ag,BZ ad,ey,aG,Nb,aj,-SZ]
   simp at aU⊢;omega
  refine⟨(true,o++[s]++[x]),?_,by rw[wf];simp[aj],?_⟩;.simp[DJ,o1,ag,BZ ad,ey,ez,aG,Nb,aj,-SZ]
  simp at aU⊢;omega
mutual
def gw(o:Int):Tm->List ByteArray->List ByteArray
 | .mk op _ s _ ks,l=>nV o ks (if op=o then h5 s l else l)
def nV(o:Int):List Tm->List ByteArray->List ByteArray
 |[],l=>l|t::r,l=>nV o r (gw o t l)
end
theorem OV(o:Int)(t:Tm)(l:List ByteArray):gw o t l=nV o t.bf (if t.op=o then h5 t.name l else l):=by cases t;rw[gw];rfl
mutual
def Kc(o:Int):∀(t:Tm)(l:List ByteArray),kk l->kk (gw o t l)/\(gw o t l).length<=l.length+t.bC
 | .mk op n s b ks,l,h=>by
  rw[gw];have J:kk (if op=o then h5 s l else l):=by split;exact Hm h;exact h
  have aa:(if op=o then h5 s l else l).length<=l.length+1:=by split;exact Hn l;omega
  have:=aeM o ks _ J;exact⟨this.1,by simp only[Tm.bC];omega⟩
def aeM(o:Int):∀(ks:List Tm)(l:List ByteArray),kk l->kk (nV o ks l)/\(nV o ks l).length<=l.length+Tm.fa ks
 |[],l,h=>⟨h,by simp[nV,Tm.fa]⟩|t::r,l,h=>by rw[nV];have J:=Kc o t l h;have aa:=aeM o r _ J.1;exact⟨aa.1,by simp only[Tm.fa];omega⟩
end
theorem aeN{l:List Tm}{i:Nat}{a:Tm}(h:l[i]?=some a):Tm.fa (l.drop i)=1+a.bC+Tm.fa (l.drop (i+1)):=by obtain⟨J,aa⟩:=xaa.1 h;rw[xaO J,aa];rfl
def av1(nl:Bool)(s:ByteArray)(l:List ByteArray):kM nl (h5 s l)=dH (h5 s l):=aeJ (avX s l)
def Vs(o:Int):∀(n:Nat)(t:Tm)(nl:Bool)(l:List ByteArray),t.bC+l.length+10<n->t.Ok->kk l->l.length+t.bC<1000000000->sG n [t.d,I o,kM nl l]=some (kM nl (gw o t l))
 |0,t,_,_,h,_,_,_=>absurd h (xaH _)
 |n+1,t,nl,l,aN,bE,az,aj=>by
  have bI:=bE.len;have av2:=t.mu;show HM (sG n) n t.d (I o) (kM nl l)=_;rw[OV];generalize oi:(if t.op=o then h5 t.name l else l)=B0;have J:kk B0:=by rw[<-oi];split;exact Hm az;exact az
  have aa:B0.length<=l.length+1:=by rw[<-oi];split;exact Hn l;omega
  have av3:Tm.fa t.bf+2=t.bC:=by cases t;simp[Tm.bC,Tm.bf];omega
  have al:=dy (f:=Nn (sG n) n) t.bf (λi (p:List ByteArray)=>[I o,kM nl p,I (i:Int),I t.op,I t.num,a6 t.name,cH 4 t.nl (Tm.rows t.bf)]) (λr p=>(.inl [kM nl (nV o r p)]:List D⊕D)) (λi p=>kk p/\p.length+Tm.fa (t.bf.drop i)<=B0.length+Tm.fa t.bf) (λp _=>by simp[Nn,nV]) ?_ n 0 B0 ⟨J,by simp⟩ (by omega) (xai _)
  .have bT:(I ((0:Nat):Int))=I 0:=rfl;rw[bT]at al;simp only[xal]at al;by_cases aT:t.op=o;.rw[xac aT]at oi;have hw:=av0 n nl l t.name az (by omega) (by omega);rw[oi,<-oi,<-av1 nl,oi]at hw;simp[HM,aT,hw];rw[aT]at al;rw[al];rfl
   rw[xae aT]at oi;subst oi;simp[HM,aT,al]
  intro i a p aG ag aU;have hm:=xad aG;have bF:=Tm.ki hm;have ay:=aeN aG;have av:=Vs o n a nl p (by omega) (bE.fO hm) aU.1 (by omega);have QW:=Kc o a p aU.1;left;refine⟨gw o a p,?_,by rw[nV],QW.1,by omega⟩;simp[Nn,ag,Tm.h4 aG,av,cf (bt:=false) (i:=i) (by omega)]
def Vt(n:Nat)(t:Tm)(aN:t.bC+10<n)(bE:t.Ok)(aj:t.bC<1000000000):vV n [t.d]=some (.aZ [kM true (gw 3 t []),kM true (gw 4 t [])]):=by have ax:=Vs 3 n t true [] (by simp;omega) bE trivial (by simp;omega);have bj:=Vs 4 n t true [] (by simp;omega) bE trivial (by simp;omega);have e:kM true []=de:=rfl;rw[e]at ax bj;simp[vV,abJ,ax,bj]
def av4(n:Nat)(t:Tm)(h3:D)(p q:List ByteArray)(aU:kk p)(bU:kk q)(aN:p.length+q.length+5<n)(aj:p.length+q.length<1000000000):AW n [t.d,h3,dH p,dH q]=some [aK true,dH (if t.op=3 then h5 t.name p else p),dH (if t.op=4 then h5 t.name q else q)]:=by
 have fV:=aeH n t.name p aU (by omega) (by omega);have gv:=aeH n t.name q bU (by omega) (by omega);by_cases ax:t.op=3
 .simp[AW,ax,fV]
 by_cases bj:t.op=4;.simp[AW,ax,bj,gv]
 simp[AW,ax,bj]
def aeO:∀(n:Nat)(t:Tm)(deep:Int)(p q:List ByteArray),t.bC+p.length+q.length+t.bC+20<n->t.Ok->kk p->kk q->0<=deep->deep+t.bC<1000000000->p.length+q.length+t.bC+t.bC<1000000000->wj n [t.d,I deep,dH p,dH q]=some [aK true,dH (gw 3 t p),dH (gw 4 t q)]
 |0,t,_,_,_,h,_,_,_,_,_,_=>absurd h (xaH _)
 |n+1,t,deep,p,q,aN,bE,aU,bU,aEe,He,aj=>by
  have bI:=bE.len;have av2:=t.mu;have av3:Tm.fa t.bf+2=t.bC:=by cases t;simp[Tm.bC,Tm.bf];omega
  have J:=av4 n t (I deep) p q aU bU (by omega) (by omega);rw[OV,OV];generalize aeP:(if t.op=3 then h5 t.name p else p)=p1 at*;generalize aeQ:(if t.op=4 then h5 t.name q else q)=uL at*;have ei:kk p1:=by rw[<-aeP];split;exact Hm aU;exact aU
  have eu:p1.length<=p.length+1:=by rw[<-aeP];split;exact Hn p;omega
  have bN:kk uL:=by rw[<-aeQ];split;exact Hm bU;exact bU
  have bO:uL.length<=q.length+1:=by rw[<-aeQ];split;exact Hn q;omega
  have al:=dy (f:=NB (wj n) n) t.bf (λi (z:List ByteArray×List ByteArray)=>[I deep,cH 4 t.nl (Tm.rows t.bf),I t.bf.length,I (i:Int),dH z.1,dH z.2]) (λr z=>(.inl [dH (nV 3 r z.1),dH (nV 4 r z.2)]:List D⊕List D)) (λi z=>kk z.1/\kk z.2/\z.1.length+Tm.fa (t.bf.drop i)<=p1.length+Tm.fa t.bf/\z.2.length+Tm.fa (t.bf.drop i)<=uL.length+Tm.fa t.bf) (λz _=>by simp[NB,nV]) ?_ n 0 (p1,uL) ⟨ei,bN,by simp,by simp⟩ (by omega) (xai _);.have bT:(I ((0:Nat):Int))=I 0:=rfl;rw[bT]at al;simp only[xal]at al;simp[wj,T7,J,al]
  intro i a z aG ag bF;obtain⟨lM,z2,z3,z4⟩:=bF;have hm:=xad aG;have aEf:=Tm.ki hm;have ay:=aeN aG;have av:=aeO n a (deep+1) z.1 z.2 (by omega) (bE.fO hm) lM z2 (by omega) (by omega) (by omega);have oe:=Kc 3 a z.1 lM;have xi:=Kc 4 a z.2 z2;left;refine⟨(gw 3 a z.1,gw 4 a z.2),?_,by simp[nV],oe.1,xi.1,by simp only;omega,by simp only;omega⟩;simp[NB,ag,Tm.h4 aG,av,mw (bt:=false) (i:=deep) (by omega) (by omega),cf (bt:=false) (i:=i) (by omega)]
def OW(n:Nat)(t:Tm)(aN:t.bC+t.bC+30<n)(bE:t.Ok)(aj:t.bC<100000000):sN n [t.d]=some (.aZ [dH (gw 3 t []),dH (gw 4 t [])]):=by have h:=aeO n t 1 [] [] (by simp;omega) bE trivial trivial (by omega) (by omega) (by simp;omega);have e:dH []= .aW 1 []:=rfl;have eK:∀l,bV (dH l)=true:=λ_=>rfl;rw[e]at h;simp[sN,aci,h,eK]
mutual
def OX:Tm->Tm->Bool
 | .mk o n s _ ks,u=>decide (o=u.op)&&decide (n=u.num)&&decide (s=u.name)&&decide (ks.length=u.bf.length)&&B1 ks u.bf
def B1:List Tm->List Tm->Bool
 |a::r,b::q=>OX a b&&B1 r q|[],_=>true|_::_,[]=>true
end
theorem aeR(t u:Tm):OX t u=(decide (t.op=u.op)&&decide (t.num=u.num)&&decide (t.name=u.name)&&decide (t.bf.length=u.bf.length)&&B1 t.bf u.bf):=by cases t;rw[OX];rfl
def uM:List bA->Nat->List (Value×D)->List (Value×D)
 |[],_,M=>M|v::r,i,M=>uM r (i+1) (if(gP M v.name).isSome then M else(sg .string M (a6 v.name) (I i)).getD [])
def Vu:∀(r:List bA)(i:Nat)(M:List (Value×D)),mx M->mx (uM r i M)/\∀x,gP (uM r i M) x=match gP M x with|some d=>some d|none=>(dz r x).map λj=>I ((i+j:Nat):Int)
 |[],i,M,h=>⟨h,λx=>by simp only[uM,dz,List.findIdx?_nil];cases gP M x<;>rfl⟩
 |v::r,i,M,h=>by
  rw[uM];have e:∀x,dz (v::r) x=if v.name=x then some 0 else(dz r x).map (·+1):=by intro x;simp[dz,xbZ]
  by_cases az:(gP M v.name).isSome
  .rw[xac az];obtain⟨J,aa⟩:=Vu r (i+1) M h;refine⟨J,λx=>?_⟩;rw[aa x,e x];cases ad:gP M x with
   |some d=>rfl
   |none=>
    have cp:¬v.name=x:=by rintro rfl;simp[ad]at az
    simp only[cp,xaI,Option.map_map]
    congr 1
    funext j
    simp only[Function.comp]
    congr 2
    omega
  rw[xae az];obtain⟨eR,ei,eu,gS,_⟩:=Na h v.name (I i);rw[ei,xbr];obtain⟨J,aa⟩:=Vu r (i+1) eR eu;refine⟨J,λx=>?_⟩;rw[aa x,gS x,e x];by_cases ad:x=v.name
  .subst ad;have aN:gP M v.name=none:=by simpa using az
   simp[aN]
  have cp:¬v.name=x:=λh=>ad h.symm;simp only[ad,cp,xaI];cases bL:gP M x with
  |some d=>rfl
  |none=>
   simp only[Option.map_map]
   congr 1
   funext j
   simp only[Function.comp]
   congr 2
   omega
def OY(M:List (Value×D))(vs:List bA):Prop:=mx M/\∀x,gP M x=(dz vs x).map λ(j:Nat)=>I (j:Int)
def Vv(n:Nat)(vs:List bA)(aN:vs.length<n)(al:vs.length<1000000000000):∃M,wm n [aY vs]=some (.mp M)/\OY M vs:=by
 have ar:mx []:=by intro e he;cases he
 obtain⟨J,aa⟩:=Vu vs 0 [] ar;refine⟨uM vs 0 [],?_,J,λx=>by rw[aa x];simp only[gP,xax]⟩;have ag:=dy (f:=IK n) vs (λi (M:List (Value×D))=>[aY vs,I vs.length,I (i:Int),.mp M]) (λr M=>(Sum.inl [.mp (uM r (vs.length-r.length) M)]:List D⊕D)) (λi M=>mx M) (λM _=>by simp[IK,uM]) ?_ n 0 [] ar (by omega) (xai _)
 .have bT:(I ((0:Nat):Int))=I 0:=rfl;rw[bT]at ag;simp[wm,acm,eV,ag]
 intro i a M aG ag cQ;left;have e:vs.length-(a::vs.drop (i+1)).length=i:=by simp;omega
 have dx:vs.length-(vs.drop (i+1)).length=i+1:=by simp;omega
 have ax:=Dy cQ (z:= .int .i64 0) (x:=a.name);cases bL:gP M a.name with|some d=>rw[bL]at ax;refine⟨M,by simp[IK,ag,fR aG,ax,cf (bt:=false) (i:=i) (by omega)],?_,cQ⟩;rw[e,uM,bL,dx];rfl|none=>rw[bL]at ax;obtain⟨eR,ei,eu,gS,_⟩:=Na cQ a.name (I i);refine⟨eR,by simp[IK,ag,fR aG,ax,ei,cf (bt:=false) (i:=i) (by omega)],?_,eu⟩;rw[e,uM,bL,dx];simp only[xcv,xar,xaI,ei,xbr]
def aeS(n:Nat)(vs:List bA)(x:ByteArray)(aN:vs.length<n)(al:vs.length<1000000000000):xY n [aY vs,a6 x]=some (I (match dz vs x with|some i=>(i:Int)|none=>-1)):=by
 have ag:=dy (f:=HP n) vs (λi (_:Unit)=>[aY vs,a6 x,I (i:Int)]) (λr _=>match dz r x with|some j=>(Sum.inr (I ((vs.length-r.length+j:Nat):Int)):List D⊕D)|none=> .inl []) (λ_ _=>True) (λ_ _=>by simp[HP,eV,dz]) ?_ n 0 () trivial (by omega) (xai _);.have bT:(I ((0:Nat):Int))=I 0:=rfl;rw[bT]at ag;simp only[xY,abO,ag,xal,dQ,z8];cases dz vs x<;>simp
 intro i a _ aG ag _;have e:vs.length-(a::vs.drop (i+1)).length=i:=by simp;omega
 have dx:vs.length-(vs.drop (i+1)).length=i+1:=by simp;omega
 have oH:dz (a::vs.drop (i+1)) x=if a.name=x then some 0 else(dz (vs.drop (i+1)) x).map (·+1):=by simp[dz,xbZ]
 have a0:a.cells[0]?=some (a6 a.name):=rfl;by_cases ad:a.name=x;.right;rw[oH,xac ad,e];simp[HP,eV,ag,fR aG,a0,ad]
 left;refine⟨(),by simp[HP,eV,ag,fR aG,a0,ad,cf (bt:=false) (i:=i) (by omega)],?_,trivial⟩;rw[oH,xae ad,e,dx];cases dz (vs.drop (i+1)) x with|none=>rfl|some j=>simp;omega
def dR(l:List bA)(t:Tm):List Nat:=(gw 3 t []).filterMap (dz l)
def oy{l:List bA}{t:Tm}:∀k∈dR l t,k<l.length:=by intro k ai;obtain⟨x,_,ad⟩:=List.mem_filterMap.1 ai;obtain⟨_,_,_,h⟩:=Tg ad;exact h
def EM(t:Tm):(gw 3 t []).length<=t.bC:=by have:=(Kc 3 t [] trivial).2;simpa using this
def OZ(l:List bA)(t:Tm):(dR l t).length<=t.bC:=xbK (List.length_filterMap_le _ _) (EM t)
structure iw(B:Nat)(l:List bA):Prop where
 len:l.length<=B
 e:∀d∈l,d.e.Ok/\d.e.bC<=B
 b:B<=1000000
def to(l:List bA)(i:Nat):List Nat:=match l[i]? with|some d=>dR l d.e|none=>[]
def l2{l:List bA}(i:Nat):∀k∈to l i,k<l.length:=by
 unfold to;split;.exact oy
 intro k ai;cases ai
def EN{l:List bA}{i:Nat}{d:bA}(h:l[i]?=some d):to l i=dR l d.e:=by simp[to,h]
def Kd{l:List ByteArray}{i:Nat}{s:ByteArray}(h:l[i]?=some s):b3 1 (dH l) (I (i:Int))=some [a6 s]:=by simp[dH,h]
def Ke(l:List ByteArray):fW (dH l)=some (I l.length):=by simp[dH]
def av5(n:Nat)(l:List bA)(t:Tm){B:Nat}(al:l.length<=B)(bE:t.Ok)(aP:t.bC<=B)(eU:B<=1000000)(aN:2*B+100<n):HR n [t.d,aY l]=some (di (dR l t)):=by
 have cj:=Vt n t (by omega) bE (by omega);have cp:=EM t;have ag:=dy (f:=HQ n) (gw 3 t []) (λi (s:List Nat)=>[aY l,kM true (gw 3 t []),I (i:Int),di s]) (λr s=>(.inl [di (s++r.filterMap (dz l))]:List D⊕D)) (λi s=>s.length<=i) (λs _=>by simp[HQ,o1,di]) ?_ n 0 [] (by simp) (by omega) (xai _)
 .have bT:(I ((0:Nat):Int))=I 0:=rfl;have aM:di []=D.aW 1 []:=rfl;have gK:∀x,D.aW 1 (bb (di x))=di x:=λ_=>rfl;rw[bT,aM]at ag;simp only[xal,xaL]at ag;simp only[HR,abP,go_sem,cj,ag,gK];rfl
 intro i a s aG ag az;have ad:=BZ (nl:=true) aG;have fS:=aeS n l a (by omega) (by omega);have gK:∀x,D.aW 1 (bb (di x))=di x:=λ_=>rfl;left;cases ay:dz l a with
 |none=>rw[ay]at fS;refine⟨s,?_,by simp[ay],by omega⟩;simp only[HQ,go_sem,o1,yT ((i:Int)<((gw 3 t []).length:Int)),ad,jj,fS,yF ((-1:Int)>=0),gK,cf (bt:=false) (i:=i) (by omega)]
 |some k=>
  rw[ay]at fS;have eL:cT (s.length+1) 8=true:=fX (by omega) (by omega);have a8:D.aW 1 (bb (di s)++[[I (k:Int)]])=di (s++[k]):=by simp[di]
  have b0:(bb (di s)).length=s.length:=by simp[di]
  refine⟨s++[k],?_,by simp[ay],by simp;omega⟩;simp only[HQ,go_sem,o1,yT ((i:Int)<((gw 3 t []).length:Int)),ad,jj,fS,yT ((k:Int)>=0),gK,a8,b0,xan,xay,xax,eL,cf (bt:=false) (i:=i) (by omega)]
def aeT(n:Nat)(l:List Nat)(k:Nat)(d:D)(ay:d=di l\/(l=[]/\d=de))(al:l.length<1000000000)(aN:l.length+5<n):xZ n [d,I (k:Int)]=some (aK (decide (k∈l))):=by
 rcases ay with rfl|⟨rfl,rfl⟩
 case inr=>obtain⟨m,rfl⟩:∃m,n=m+1:=⟨n-1,by omega⟩;simp[xZ,Tz,lx,DL]
 have ag:=dy (f:=DL n) l (λi (_:Unit)=>[di l,I (k:Int),I (i:Int)]) (λr _=>if k∈r then(.inr (aK true):List D⊕D)else .inl []) (λi s=>True) (λs _=>by simp[DL,qD]) ?_ n 0 () trivial (by omega) (xai _);.have bT:(I ((0:Nat):Int))=I 0:=rfl;rw[bT]at ag;simp only[xal]at ag;by_cases h:k∈l<;>simp only[h,xaG,xaI]at ag<;>simp[xZ,Tz,ag,h]
 intro i a s aG ag _;have ad:=vS aG;by_cases BS:a=k
 .right;subst BS;simp[DL,qD,ag,ad]
 left;have av6:¬((a:Int)=(k:Int)):=by omega
 have av7:¬k=a:=λh=>BS h.symm;refine⟨(),by simp[DL,qD,ag,ad,av6,cf (bt:=false) (i:=i) (by omega)],by simp[av7],trivial⟩
def av8(n:Nat)(l:List bA){B:Nat}(al:iw B l)(aN:4*B+200<n):IM n [aY l]=some (ie (l.map λd=>dR l d.e)):=by
 have bI:=al.len;have uN:=al.b;obtain⟨M,m1,m2,m3⟩:=Vv n l (by omega) (by omega);have gK:∀x,D.aW 1 (bb (di x))=di x:=λ_=>rfl;have O0:∀x,D.aW 1 (bb (ie x))=ie x:=λ_=>rfl;have ag:=dy (f:=NF n) l (λi (s:List (List Nat))=>[.mp M,aY l,I l.length,I (i:Int),ie s]) (λr s=>(.inl [ie (s++r.map λd=>dR l d.e)]:List D⊕D)) (λi s=>s.length=i) (λs _=>by simp[NF,ie]) ?_ n 0 [] rfl (by omega) (xai _)
 .have bT:(I ((0:Nat):Int))=I 0:=rfl;have aM:ie []=D.aW 1 []:=rfl;rw[bT,aM]at ag;simp only[xal,xaL]at ag;simp only[IM,acn,go_sem,m1,eV,ag,O0]
 intro i a acc aG ag av9;have hm:=xad aG;have O1:=al.e a hm;have cj:=OW n a.e (by omega) O1.1 (by omega);have cp:=EM a.e;have aA:=dy (f:=IL n) (gw 3 a.e []) (λj (s:List Nat)=>[.mp M,aY l,I l.length,I (i:Int),dH (gw 3 a.e []),I (gw 3 a.e []).length,I (j:Int),ie acc,di s]) (λr s=>(.inl [.mp M,aY l,I l.length,I (i:Int),ie acc,di (s++r.filterMap (dz l))]:List D⊕(List D⊕(List D⊕(List D⊕D))))) (λj s=>s.length<=j) (λs _=>by simp[IL,di,ie]) ?_ n 0 [] (by simp) (by omega) (xai _)
 .have bT:(I ((0:Nat):Int))=I 0:=rfl;have aM:di []=D.aW 1 []:=rfl;rw[bT,aM]at aA;simp only[xal,xaL]at aA;have eL:cT (acc.length+1) 24=true:=fX (by omega) (by omega);have a8:D.aW 1 (bb (ie acc)++[[di (dR l a.e)]])=ie (acc++[dR l a.e]):=by simp[ie]
  have b0:(bb (ie acc)).length=acc.length:=by simp[ie]
  have cK:(gw 3 a.e []).filterMap (dz l)=dR l a.e:=rfl;have eK:∀x,bV (di x)=true:=λ_=>rfl;rw[cK]at aA;left;refine⟨acc++[dR l a.e],?_,by simp,by simp[av9]⟩;simp only[NF,go_sem,yT ((i:Int)<(l.length:Int)),fR aG,bA.ao7,bA.agg,bA.c1,bA.c2,bA.b8,bA.c3,Tm.Hl,cj,Ke,O0,aA,gK,eK,a8,b0,xan,xay,xax,eL,cf (bt:=false) (i:=i) (by omega)]
 intro j b s aj aA az;have ad:=Kd aj;have gZ:=Dy m2 (z:= .int .i64 0) (x:=b);have aeU:=m3 b;left;cases ay:dz l b with
 |none=>rw[aeU,ay]at gZ;simp only[xbz]at gZ;refine⟨s,?_,by simp[ay],by omega⟩;simp only[IL,go_sem,yT ((j:Int)<((gw 3 a.e []).length:Int)),ad,jj,nH,gZ,gK,O0,cf (bt:=false) (i:=j) (by omega)]
 |some k=>
  rw[aeU,ay]at gZ;simp only[xaJ]at gZ;have eL:cT (s.length+1) 8=true:=fX (by omega) (by omega);have a8:D.aW 1 (bb (di s)++[[I (k:Int)]])=di (s++[k]):=by simp[di]
  have b0:(bb (di s)).length=s.length:=by simp[di]
  refine⟨s++[k],?_,by simp[ay],by simp;omega⟩;simp only[IL,go_sem,yT ((j:Int)<((gw 3 a.e []).length:Int)),ad,jj,nH,gZ,gK,O0,a8,b0,xan,xay,xax,eL,cf (bt:=false) (i:=j) (by omega)]
def h6(to:Nat->List Nat):Nat->List Nat->List Nat->List Nat
 |0,_,S=>S|n+1,ks,S=>ks.foldl (λS k=>if k∈S then S else h6 to n (to k) (S++[k])) S
inductive kN(to:Nat->List Nat):Nat->Nat->Prop where
 |refl (i:Nat):kN to i i
 |step (i j k:Nat) (h:j∈to i) (bB:kN to j k):kN to i k
def kN.trans{to:Nat->List Nat}{i j k:Nat}(h:kN to i j)(bB:kN to j k):kN to i k:=by induction h with|refl=>exact bB|step a b c gg _ ih=>exact .step a b _ gg (ih bB)
def jo(N:Nat)(S:List Nat):Prop:=S.Nodup/\∀x∈S,x<N
def wE:∀(N:Nat)(S:List Nat),S.Nodup->(∀x∈S,x<N)->S.length<=N
 |0,S,_,h=>by cases S with|nil=>simp|cons a r=>exact absurd (h a (by simp)) (xaH _)
 |N+1,S,aN,h=>by
  have J:=wE N (S.erase N) (aN.erase N) (λx ad=>by
   have aa:=h x (List.mem_of_mem_erase ad);have ax:x≠N:=by rintro rfl;exact aN.not_mem_erase ad
   omega)
  have bj:=List.length_erase (a:=N) (l:=S);split at bj<;>omega
def jo.len{N:Nat}{S:List Nat}(h:jo N S):S.length<=N:=wE N S h.1 h.2
def jo.lt{N k:Nat}{S:List Nat}(h:jo N S)(ai:k<N)(aN:k∉S):S.length<N:=by have aa:jo N (S++[k]):=⟨by rw[xbE];exact⟨h.1,by simp,by intro a aG b aj;simp at aj;subst aj;rintro rfl;exact aN aG⟩,by intro x ad;rcases xas.1 ad with ad|ad;exact h.2 x ad;simp at ad;omega⟩;have:=aa.len;simp at this;omega
def jo.snoc{N k:Nat}{S:List Nat}(h:jo N S)(ai:k<N)(aN:k∉S):jo N (S++[k]):=⟨by rw[xbE];exact⟨h.1,by simp,by intro a aG b aj;simp at aj;subst aj;rintro rfl;exact aN aG⟩,by intro x ad;rcases xas.1 ad with ad|ad;exact h.2 x ad;simp at ad;omega⟩
structure aeV(to:Nat->List Nat)(N:Nat)(ks S R:List Nat):Prop where
 inv:jo N R
 pre:∃T,R=S++T
 mem:∀k∈ks,k∈R
 wF:∀x∈R,x∉S->∀y∈to x,y∈R
 s4:∀x∈R,x∈S\/∃k∈ks,kN to k x
def EO{to:Nat->List Nat}{N:Nat}(j1:∀i,∀k∈to i,k<N):∀(n:Nat)(ks S:List Nat),jo N S->(∀k∈ks,k<N)->N-S.length<n->aeV to N ks S (h6 to n ks S)
 |0,_,_,_,_,h=>absurd h (xaH _)
 |n+1,ks,S,cL,eP,aN=>by
  rw[h6]
  induction ks generalizing S with
  |nil=>exact⟨cL,⟨[],by simp⟩,by simp,λx ad aN=>absurd ad aN,λx ad=> .inl ad⟩
  |cons k r ih=>
   rw[xcl];by_cases ai:k∈S
   .rw[xac ai];have h:=ih S cL (λx ad=>eP x (by simp[ad])) aN;obtain⟨T,bp⟩:=h.pre;refine⟨h.inv,h.pre,?_,h.wF,λx ad=>?_⟩
    .intro x ad;rcases xam.1 ad with rfl|ad
     .rw[bp];simp[ai]
     exact h.mem x ad
    rcases h.s4 x ad with J|⟨j,J,aa⟩;.exact .inl J
    exact .inr ⟨j,by simp[J],aa⟩
   rw[xae ai];have lz:=eP k (by simp);have b6:=cL.lt lz ai;have ar:=EO j1 n (to k) (S++[k]) (cL.snoc lz ai) (j1 k) (by simp;omega);obtain⟨fQ,EP⟩:=ar.pre;have h:=ih (h6 to n (to k) (S++[k])) ar.inv (λx ad=>eP x (by simp[ad])) (by rw[EP];simp;omega);obtain⟨T,bp⟩:=h.pre;have awa:k∈h6 to n (to k) (S++[k]):=by rw[EP];simp
   refine⟨h.inv,⟨[k]++fQ++T,by rw[bp,EP];simp⟩,?_,?_,?_⟩
   .intro x ad;rcases xam.1 ad with rfl|ad
    .rw[bp];exact xaZ _ awa
    exact h.mem x ad
   .intro x ad Vw y aH;by_cases OK:x∈h6 to n (to k) (S++[k])
    .by_cases O2:x∈S++[k]
     .have awb:x=k:=by
       rcases xas.1 O2 with h|h;.exact absurd h Vw
       simpa using h
      subst awb;rw[bp];exact xaZ _ (ar.mem y aH)
     rw[bp];exact xaZ _ (ar.wF x OK O2 y aH)
    exact h.wF x ad OK y aH
   intro x ad;rcases h.s4 x ad with J|⟨j,J,aa⟩
   .rcases ar.s4 x J with ax|⟨j,ax,bj⟩
    .rcases xas.1 ax with ax|ax;.exact .inl ax
     simp at ax;subst ax;exact .inr ⟨x,by simp,.refl x⟩
    exact .inr ⟨k,by simp,.step k j x ax bj⟩
   exact .inr ⟨j,by simp[J],aa⟩
def Vx{to:Nat->List Nat}{N:Nat}(j1:∀i,∀k∈to i,k<N):∀(n m:Nat)(ks S:List Nat),jo N S->(∀k∈ks,k<N)->N-S.length<n->N-S.length<m->h6 to n ks S=h6 to m ks S
 |0,_,_,_,_,_,h,_=>absurd h (xaH _)|_+1,0,_,_,_,_,_,h=>absurd h (xaH _)
 |n+1,m+1,ks,S,cL,eP,aN,hm=>by
  rw[h6,h6]
  induction ks generalizing S with
  |nil=>rfl
  |cons k r ih=>
   rw[xcl,xcl];by_cases ai:k∈S;.rw[xac ai,xac ai];exact ih S cL (λx ad=>eP x (by simp[ad])) aN hm
   rw[xae ai,xae ai];have lz:=eP k (by simp);have b6:=cL.lt lz ai;have e:=Vx j1 n m (to k) (S++[k]) (cL.snoc lz ai) (j1 k) (by simp;omega) (by simp;omega);have ar:=EO j1 n (to k) (S++[k]) (cL.snoc lz ai) (j1 k) (by simp;omega);obtain⟨fQ,EP⟩:=ar.pre;rw[<-e];exact ih _ ar.inv (λx ad=>eP x (by simp[ad])) (by rw[EP];simp;omega) (by rw[EP];simp;omega)
def lA(l:List bA)(ks:List Nat):List Nat:=h6 (to l) (l.length+1) ks []
def yE(l:List bA)(ks:List Nat)(ai:∀k∈ks,k<l.length):aeV (to l) l.length ks [] (lA l ks):=EO (λi k ai=>l2 i k ai) _ ks [] ⟨by simp,by simp⟩ ai (by simp)
def wG(l:List bA)(ks:List Nat)(ai:∀k∈ks,k<l.length)(x:Nat):x∈lA l ks↔∃k∈ks,kN (to l) k x:=by
 have h:=yE l ks ai;constructor
 .intro ad;rcases h.s4 x ad with J|J
  .cases J
  exact J
 rintro⟨k,fs,av⟩;have ht:∀a b,kN (to l) a b->a∈lA l ks->b∈lA l ks:=by
  intro a b gg
  induction gg with|refl=>exact λh=>h|step i j k j0 _ ih=>exact λag=>ih (h.wF i ag (by simp) j j0)
 exact ht k x av (h.mem k fs)
def jT(l:List bA)(i:Nat):Bool:=decide (i∈lA l (to l i))
def Vy(l:List bA)(i:Nat):jT l i=true↔∃k∈to l i,kN (to l) k i:=by unfold jT;rw[xaC,wG l _ (l2 i)]
def aeW{to:Nat->List Nat}:∀(n:Nat)(ks S:List Nat),∃T,h6 to n ks S=S++T
 |0,ks,S=>⟨[],by simp[h6]⟩
 |n+1,ks,S=>by
  rw[h6]
  induction ks generalizing S with
  |nil=>exact⟨[],by simp⟩
  |cons k r ih=>
   rw[xcl];split;.exact ih S
   obtain⟨fQ,ar⟩:=aeW n (to k) (S++[k]);obtain⟨T,bp⟩:=ih (h6 to n (to k) (S++[k]));exact⟨[k]++fQ++T,by rw[bp,ar];simp⟩
def lB(S:List Nat)(d:D)(s:List Nat):D:=if s.length=S.length then d else di s
def Vz(l:List bA){B:Nat}(al:iw B l):∀(n:Nat)(t:Tm)(S:List Nat)(d:D),d=di S\/(S=[]/\d=de)->t.Ok->t.bC<=B->jo l.length S->l.length-S.length+4*B+300<n->ru n [t.d,aY l,d]=some (lB S d (h6 (to l) n (dR l t) S))
 |0,_,_,_,_,_,_,_,h=>absurd h (xaH _)
 |n+1,t,S,d,ay,bE,aP,cL,aN=>by
  have bI:=al.len;have uN:=al.b;have awc:=OZ l t;have awd:=av5 n l t bI bE aP uN (by omega);have awe:∀T,lB S d (S++T)=di (S++T)\/(S++T=[]/\lB S d (S++T)=de):=by
   intro T;unfold lB;split
   .rename_i h;have:T=[]:=by simpa using h
    subst this;rcases ay with rfl|⟨rfl,rfl⟩
    .left;simp
    right;simp
   exact .inl rfl
  have bT:(I ((0:Nat):Int))=I 0:=rfl;have awf:lB S d S=d:=by simp[lB]
  rw[h6];have eI:=dy (f:=HS (ru n) n) (dR l t) (λi (s:List Nat)=>[aY l,lB S d s,di (dR l t),I (i:Int)]) (λr s=>(.inl [lB S d (r.foldl (λS k=>if k∈S then S else h6 (to l) n (to l k) (S++[k])) s)]:List D⊕D)) (λi s=>jo l.length s/\∃T,s=S++T) (λs _=>by simp[HS,qD]) ?_ n 0 S ⟨cL,[],by simp⟩ (by omega) (xai _)
  .rw[bT,awf]at eI;simp only[xal]at eI;show Nr (ru n) n t.d (aY l) d=_;simp only[Nr,go_sem,awd,eI]
  rintro i k s ai ag ⟨J,T,bp⟩;have oP:=xad ai;have lz:=oy k oP;obtain⟨wC,zn⟩:∃wC,l[k]?=some wC:=⟨l[k],xab lz⟩;have h7:=al.e wC (xad zn);have kp:=J.len;have ax:=awe T;rw[<-bp]at ax;have aEg:S.length<=s.length:=by rw[bp];simp
  have O3:=aeT n s k (lB S d s) ax (by omega) (by omega);left;by_cases eP:k∈s
  .refine⟨s,?_,?_,J,T,bp⟩;.simp only[HS,go_sem,qD,yT ((i:Int)<((dR l t).length:Int)),vS ai,jj,O3,xao eP,cf (bt:=false) (i:=i) (by omega)]
   simp only[xcl,xac eP]
  have b6:=J.lt lz eP;have Kf:=J.snoc lz eP;have g1:=Vz l al n wC.e (s++[k]) (di (s++[k])) (.inl rfl) h7.1 h7.2 Kf (by simp;omega);have gF:=EO (λi k ai=>l2 i k ai) n (to l k) (s++[k]) Kf (λx ad=>l2 k x ad) (by simp;omega);rw[<-EN zn]at g1;obtain⟨VA,Kg⟩:=aeW (to:=to l) n (to l k) (s++[k]);have g2:lB (s++[k]) (di (s++[k])) (h6 (to l) n (to l k) (s++[k]))=di (h6 (to l) n (to l k) (s++[k])):=by
   unfold lB;split
   .rename_i h;rw[Kg]at h⊢;have:VA=[]:=by simpa using h
    subst this;simp
   rfl
  have g3:lB S d (h6 (to l) n (to l k) (s++[k]))=di (h6 (to l) n (to l k) (s++[k])):=by unfold lB;rw[xae];rw[Kg,bp];simp<;>omega
  rw[g2]at g1;obtain⟨q,bN,bO⟩:∃q,ri (lB S d s)=some (q,s.map λ(i:Nat)=>[I (i:Int)])/\(decide (q=1\/(s.map λ(i:Nat)=>[I (i:Int)])=[])&&decide (0<1))=true:=by
   rcases ax with ax|⟨ax,bj⟩;.rw[ax];exact⟨1,rfl,by simp⟩
   rw[bj,ax];exact⟨0,rfl,by simp⟩
  have awg:cT (s.map λ(i:Nat)=>[I (i:Int)]).length 8=true:=fX (by simp;omega) (by simp;omega);have awh:cT ((s.map λ(i:Nat)=>[I (i:Int)]).length+1) 8=true:=fX (by simp;omega) (by simp;omega);have a8:D.aW 1 ((s.map λ(i:Nat)=>[I (i:Int)])++[[I (k:Int)]])=di (s++[k]):=by simp[di]
  refine⟨h6 (to l) n (to l k) (s++[k]),?_,?_,gF.inv,T++[k]++VA,?_⟩;.rw[g3];simp only[HS,go_sem,qD,yT ((i:Int)<((dR l t).length:Int)),vS ai,jj,O3,xat eP,fR zn,bA.iZ,bN,bO,xay,awg,xaL,xan,xax,awh,a8,g1,cf (bt:=false) (i:=i) (by omega)]
  .simp only[xcl,xae eP]
  rw[Kg,bp];simp
def awi(l:List bA){B:Nat}(al:iw B l)(n:Nat)(i:Nat)(ag:i<l.length)(aN:6*B+400<n):HU n [aY l,I (i:Int)]=some (aK (jT l i)):=by
 have bI:=al.len;have uN:=al.b;obtain⟨d,ay⟩:∃d,l[i]?=some d:=⟨l[i],xab ag⟩;have h7:=al.e d (xad ay);have aj:=Vz l al n d.e [] de (.inr ⟨rfl,rfl⟩) h7.1 h7.2 ⟨by simp,by simp⟩ (by simp;omega);have bm:=Vx (λi k ai=>l2 (l:=l) i k ai) n (l.length+1) (dR l d.e) [] ⟨by simp,by simp⟩ oy (by simp;omega) (by simp);have gF:=yE l (dR l d.e) oy;have ht:=gF.inv.len;rw[bm]at aj;have ah:h6 (to l) (l.length+1) (dR l d.e) []=lA l (dR l d.e):=rfl;rw[ah]at aj;have O3:=aeT n (lA l (dR l d.e)) i (lB [] de (lA l (dR l d.e))) (by
  unfold lB;split;.rename_i h;exact .inr ⟨xaQ h,rfl⟩
  exact .inl rfl) (by omega) (by omega)
 simp only[HU,abQ,go_sem,fR ay,bA.iZ,aj,O3,jT,EN ay]
def VB(l:List bA){B:Nat}(al:iw B l):∀(n:Nat)(i:Nat)(S:List Nat)(M:List (Value×D)),i<l.length->b9 M S->jo l.length S->l.length-S.length+2*B+100<n-> ∃eR,sO n [I (i:Int),ie (l.map λd=>dR l d.e),.mp M]=some [D.aZ [],ie (l.map λd=>dR l d.e),.mp eR]/\b9 eR (h6 (to l) n (to l i) S)
 |0,_,_,_,_,_,_,h=>absurd h (xaH _)
 |n+1,i,S,M,ag,cQ,cL,aN=>by
  have bI:=al.len;have uN:=al.b;obtain⟨d,ay⟩:∃d,l[i]?=some d:=⟨l[i],xab ag⟩;have h7:=al.e d (xad ay);have awc:=OZ l d.e;have ad:b3 1 (ie (l.map λd=>dR l d.e)) (I (i:Int))=some [di (dR l d.e)]:=ao8 (by simp[ay]);have bT:(I ((0:Nat):Int))=I 0:=rfl;rw[EN ay,h6];have key:∀(m j:Nat)(s:List Nat)(M:List (Value×D)),b9 M s->jo l.length s->S.length<=s.length->(dR l d.e).length-j<m->j<=(dR l d.e).length-> ∃eR,bJ (IN (sO n) n) m [di (dR l d.e),I (dR l d.e).length,I (j:Int),ie (l.map λd=>dR l d.e),.mp M]=some (.inl [ie (l.map λd=>dR l d.e),.mp eR])/\b9 eR (((dR l d.e).drop j).foldl (λS k=>if k∈S then S else h6 (to l) n (to l k) (S++[k])) s):=by
   intro m
   induction m with
   |zero=>intro j s M _ _ _ h _;exact absurd h (xaH _)
   |succ m ih=>
    intro j s M cQ az Vr hm aA;rw[lx];by_cases cq:j<(dR l d.e).length
    .have ai:=xab cq;generalize (dR l d.e)[j]=k at ai;have oP:=xad ai;have lz:=oy k oP;have p2:(dR l d.e).drop j=k::(dR l d.e).drop (j+1):=by
      obtain⟨bN,bO⟩:=xaa.1 ai;rw[xaO bN,bO]
     rw[p2,xcl];have uO:=cQ.look (i:=k) (z:= .bool false);by_cases eP:k∈s
     .rw[xac eP];obtain⟨eR,g1,g2⟩:=ih (j+1) s M cQ az Vr (by omega) cq;refine⟨eR,?_,g2⟩;simp only[IN,go_sem,yT ((j:Int)<((dR l d.e).length:Int)),vS ai,jj,uO,xao eP,cf (bt:=false) (i:=j) (by omega),g1]
     rw[xae eP];obtain⟨wH,ei,eu⟩:=cQ.put k;rw[xae eP]at eu;have Kf:=az.snoc lz eP;have b6:=az.lt lz eP;obtain⟨M2,ey,ez⟩:=VB l al n k (s++[k]) wH lz eu Kf (by simp;omega);have gF:=EO (λi k ai=>l2 i k ai) n (to l k) (s++[k]) Kf (λx ad=>l2 k x ad) (by simp;omega);obtain⟨VA,Kg⟩:=gF.pre;obtain⟨eR,g1,g2⟩:=ih (j+1) _ M2 ez gF.inv (by rw[Kg];simp;omega) (by omega) cq;refine⟨eR,?_,g2⟩;simp only[IN,go_sem,yT ((j:Int)<((dR l d.e).length:Int)),vS ai,jj,uO,xat eP,ei,ey,cf (bt:=false) (i:=j) (by omega),g1]
    have:j=(dR l d.e).length:=by omega
    subst this;refine⟨M,?_,by simpa using cQ⟩;simp only[IN,go_sem,yF (((dR l d.e).length:Int)<(dR l d.e).length)]
  obtain⟨eR,g1,g2⟩:=key n 0 S M cQ cL (xaU _) (by omega) (xai _);rw[bT]at g1;refine⟨eR,?_,by simpa using g2⟩;show NG (sO n) n _=_;simp only[NG,go_sem,ad,jj,qD,g1]
inductive yG(o:Int)(x:ByteArray):Tm->Prop where
 |here (t:Tm) (h:t.op=o) (bB:t.name=x):yG o x t
 |fO (t k:Tm) (h:k∈t.bf) (bB:yG o x k):yG o x t
def O4{s x:ByteArray}:∀{l:List ByteArray},x∈h5 s l↔x=s\/x∈l
 |[]=>by simp[h5]
 |a::r=>by
  rw[h5];split;.rename_i h;subst h;simp
  split;.simp
  rw[xam,O4,xam];constructor
  .rintro(h|h|h);.exact .inr (.inl h)
   .exact .inl h
   exact .inr (.inr h)
  rintro(h|h|h);.exact .inr (.inl h)
  .exact .inl h
  exact .inr (.inr h)
def aeX(o:Int)(x:ByteArray)(t:Tm):∀l,x∈gw o t l↔x∈l\/yG o x t:=by
 refine Tm.ind (P:=λt=>∀l,x∈gw o t l↔x∈l\/yG o x t) ?_ t;intro t ih l;have key:∀(ks:List Tm),(∀k∈ks,∀l,x∈gw o k l↔x∈l\/yG o x k)->∀l,x∈nV o ks l↔x∈l\/∃k∈ks,yG o x k:=by
  intro ks
  induction ks with
  |nil=>intro _ l;simp[nV]
  |cons a r mD=>intro h l;rw[nV,mD (λk ai=>h k (by simp[ai])),h a (by simp)];simp only[xam,exists_eq_or_imp,or_assoc]
 rw[OV,key t.bf ih];constructor
 .rintro(h|⟨k,ai,h⟩)
  .split at h
   .rename_i aT;rcases O4.1 h with rfl|h
    .exact .inr (.here t aT rfl)
    exact .inl h
   exact .inl h
  exact .inr (.fO t k ai h)
 rintro(h|h)
 .left;split;.exact O4.2 (.inr h)
  exact h
 cases h with|here _ J aa=>left;rw[xac J];exact O4.2 (.inl aa.symm)|fO _ k ai h=>exact .inr ⟨k,ai,h⟩
def O5{l:List bA}{t:Tm}{i:Nat}:i∈dR l t↔∃x,yG 3 x t/\dz l x=some i:=by
 unfold dR;rw[List.mem_filterMap];constructor;.rintro⟨x,J,aa⟩;exact⟨x,((aeX 3 x t []).1 J).resolve_left (by simp),aa⟩
 rintro⟨x,J,aa⟩;exact⟨x,(aeX 3 x t []).2 (.inr J),aa⟩
def VC{l:List bA}{t k:Tm}(ai:k∈t.bf):∀i∈dR l k,i∈dR l t:=by intro i ag;obtain⟨x,J,aa⟩:=O5.1 ag;exact O5.2 ⟨x,.fO t k ai J,aa⟩
def yH(l:List bA)(t:Tm):Bool:=t.op==3&&(dz l t.name).isSome
def kO(l:List bA):Nat->Tm->Tm->Prop
 |0,_,_=>False|h+1,t,X=>(t.op=3/\∃i d,dz l t.name=some i/\l[i]?=some d/\kO l h d.e X)\/(yH l t=false/\∃ks,X= .mk t.op t.num t.name t.nl ks/\ks.length=t.bf.length/\∀(j:Nat)(a b:Tm),t.bf[j]?=some a->ks[j]?=some b->kO l h a b)
def kO.mono{l:List bA}:∀{h bB:Nat}{t X:Tm},h<=bB->kO l h t X->kO l bB t X
 |0,_,_,_,_,H=>H.elim|h+1,0,_,_,hle,_=>absurd hle (by omega)
 |h+1,bB+1,t,X,hle,H=>by
  rcases H with⟨J,i,d,aa,ax,bj⟩|⟨J,ks,aa,ax,bj⟩;.exact .inl ⟨J,i,d,aa,ax,bj.mono (by omega)⟩
  exact .inr ⟨J,ks,aa,ax,λj a b aG aj=>(bj j a b aG aj).mono (by omega)⟩
def aeY:∀{A B:List Nat},A.Nodup->(∀x∈A,x∈B)->A.length<=B.length
 |[],B,_,_=>by simp
 |a::A,B,aN,h=>by
  have aG:=h a (by simp);have J:=aeY (A:=A) (B:=B.erase a) (List.nodup_cons.1 aN).2 (λx ad=>by
   have cp:x≠a:=by rintro rfl;exact(List.nodup_cons.1 aN).1 ad
   exact(List.mem_erase_of_ne cp).2 (h x (by simp[ad])))
  have aa:=List.length_erase_of_mem aG;have ax:0<B.length:=List.length_pos_of_mem aG;simp;omega
def B2(l:List bA)(i:Nat):Nat:=(lA l (to l i)).length
def awj{l:List bA}{i j:Nat}(aA:j∈to l i)(av:jT l j=false):B2 l j<B2 l i:=by
 have ag:=yE l (to l i) (l2 i);have awk:=yE l (to l j) (l2 j);have VD:j∉lA l (to l j):=by
  intro h;have:jT l j=true:=by simp[jT,h]
  rw[av]at this;cases this
 have nU:∀x∈lA l (to l j)++[j],x∈lA l (to l i):=by
  intro x ad;rcases xas.1 ad with ad|ad
  .obtain⟨k,J,aa⟩:=(wG l _ (l2 j) x).1 ad;exact(wG l _ (l2 i) x).2 ⟨j,aA,.step j k x J aa⟩
  simp at ad;subst ad;exact ag.mem _ aA
 have:=aeY (A:=lA l (to l j)++[j]) (B:=lA l (to l i)) (by rw[xbE];exact⟨awk.inv.1,by simp,by intro a aG b aj;simp at aj;subst aj;rintro rfl;exact VD aG⟩) nU;simp at this;unfold B2;omega
def ER(l:List bA)(t:Tm):Prop:=∀x∈lA l (dR l t),jT l x=false
def VE{α:Type}{P:Nat->Tm->α->Prop}:∀(ks:List Tm),(∀(j:Nat)(a:Tm),ks[j]?=some a->∃b,P j a b)->∃r:List α,r.length=ks.length/\∀(j:Nat)(a:Tm)(b:α),ks[j]?=some a->r[j]?=some b->P j a b
 |[],_=>⟨[],rfl,by intro j a b h;simp at h⟩
 |k::r,h=>by obtain⟨b,aj⟩:=h 0 k rfl;obtain⟨jH,J,aa⟩:=VE (P:=λj=>P (j+1)) r (λj a aG=>h (j+1) a (by simpa using aG));refine⟨b::jH,by simp[J],?_⟩;intro j a c aG ah;cases j with|zero=>simp at aG ah;subst aG;subst ah;exact aj|succ j=>exact aa j a c (by simpa using aG) (by simpa using ah)
def awl{l:List bA}{B:Nat}(al:iw B l):∀(r:Nat)(t:Tm),t.bC<=B->ER l t->(∀k∈dR l t,B2 l k<r)->∃X,kO l (r*(B+1)+t.bC) t X:=by
 intro r
 induction r with
 |zero=>
  intro t;refine Tm.ind (P:=λt=>t.bC<=B->ER l t->(∀k∈dR l t,B2 l k<0)->∃X,kO l (0*(B+1)+t.bC) t X) ?_ t;intro t ih aP ES ai;have gU:dR l t=[]:=by cases h:dR l t with|nil=>rfl|cons a q=>exact absurd (ai a (by rw[h];simp)) (xaH _)
  have jF:yH l t=false:=by cases h:yH l t with|false=>rfl|true=>simp only[yH,xap,xbP,Option.isSome_iff_exists]at h;obtain⟨J,i,aa⟩:=h;have:i∈dR l t:=O5.2 ⟨_,.here t J rfl,aa⟩;rw[gU]at this;cases this
  obtain⟨ks,J,aa⟩:=VE (P:=λj a b=>kO l (t.bC-1) a b) t.bf (λj a aG=>by
   have hm:=xad aG;have bF:=Tm.ki hm;have aeZ:dR l a=[]:=by cases h:dR l a with|nil=>rfl|cons b q=>have:=VC hm b (by rw[h];simp);rw[gU]at this;cases this
   obtain⟨X,la⟩:=ih a hm (by omega) (λx ad=>by rw[aeZ]at ad;simp[lA,h6]at ad) (by rw[aeZ];simp);exact⟨X,la.mono (by omega)⟩)
  have bF:=t.mu;refine⟨.mk t.op t.num t.name t.nl ks,?_⟩;have e:0*(B+1)+t.bC=(t.bC-1)+1:=by omega
  rw[e];exact .inr ⟨jF,ks,rfl,J,aa⟩
 |succ r mD=>
  intro t;refine Tm.ind (P:=λt=>t.bC<=B->ER l t->(∀k∈dR l t,B2 l k<r+1)->∃X,kO l ((r+1)*(B+1)+t.bC) t X) ?_ t;intro t ih aP ES ai;have bF:=t.mu;have e:(r+1)*(B+1)+t.bC=((r+1)*(B+1)+(t.bC-1))+1:=by omega
  cases aN:yH l t with
  |true=>
   simp only[yH,xap,xbP,Option.isSome_iff_exists]at aN;obtain⟨J,i,aa⟩:=aN;obtain⟨d,ax,bj,ca⟩:=Tg aa;have ag:i∈dR l t:=O5.2 ⟨_,.here t J rfl,aa⟩;have j1:=EN ax;have awm:=al.e d (xad ax);have ht:=yE l (dR l t) oy;obtain⟨X,la⟩:=mD d.e awm.2 (λx ad=>ES x (by
    obtain⟨k,bN,bO⟩:=(wG l _ oy x).1 ad;rw[<-j1]at bN;exact(wG l _ oy x).2 ⟨i,ag,.step i k x bN bO⟩)) (λk dA=>by
    rw[<-j1]at dA;have sc:k∈lA l (dR l t):=(wG l _ oy k).2 ⟨i,ag,.step i k k dA (.refl k)⟩;have:=awj dA (ES k sc);have:=ai i ag;omega)
   refine⟨X,?_⟩;rw[e];exact .inl ⟨J,i,d,aa,ax,la.mono (by have:(r+1)*(B+1)=r*(B+1)+(B+1):=Nat.succ_mul _ _;omega)⟩
  |false=>
   obtain⟨ks,J,aa⟩:=VE (P:=λj a b=>kO l ((r+1)*(B+1)+(t.bC-1)) a b) t.bf (λj a aG=>by
    have hm:=xad aG;have aEh:=Tm.ki hm;obtain⟨X,la⟩:=ih a hm (by omega) (λx ad=>ES x (by obtain⟨k,bN,bO⟩:=(wG l _ oy x).1 ad;exact(wG l _ oy x).2 ⟨k,VC hm k bN,bO⟩)) (λk dA=>ai k (VC hm k dA))
    exact⟨X,la.mono (by omega)⟩)
   refine⟨.mk t.op t.num t.name t.nl ks,?_⟩;rw[e];exact .inr ⟨aN,ks,rfl,J,aa⟩
def awn(l:List bA)(i:Nat):B2 l i<=l.length:=(yE l (to l i) (l2 i)).inv.len
def awo{l:List bA}{B:Nat}(al:iw B l){t:Tm}(aP:t.bC<=B)(h:ER l t):∃X,kO l ((l.length+1)*(B+1)+B) t X:=by obtain⟨X,la⟩:=awl al (l.length+1) t aP h (λk _=>by have:=awn l k;omega);exact⟨X,la.mono (by omega)⟩
mutual
def e4:Tm->Int->Int->Tm×Int
 | .mk o m s b ks,deep,n=>if ks.isEmpty then(.mk o m s b ks,n+1)else(.mk o m s false (gC ks deep (n+1)).1,(gC ks deep (n+1)).2)
def gC:List Tm->Int->Int->List Tm×Int
 |[],_,n=>([],n)|k::r,deep,n=>if deep<=64/\n<=4096 then((e4 k (deep+1) n).1::(gC r deep (e4 k (deep+1) n).2).1,(gC r deep (e4 k (deep+1) n).2).2)else(fQ::(gC r deep n).1,(gC r deep n).2)
end
mutual
def gN:Tm->Tm
 | .mk o m s b ks=> .mk o m s false (o2 ks)
def o2:List Tm->List Tm
 |[]=>[]|k::r=>gN k::o2 r
end
def ae0:∀l:List Tm,(o2 l).length=l.length
 |[]=>rfl|k::r=>by simp[o2,ae0 r]
def O6:∀(l:List Tm)(d n:Int),(gC l d n).1.length=l.length
 |[],_,_=>rfl|k::r,d,n=>by rw[gC];split<;>simp[O6 r]
def awp(o m:Int)(s:ByteArray)(n:Nat):Int:=if(gG o).1<0 then 11
 else if(m<(if o=1 then-255 else 0))\/m>(if o=1 then 255 else if o=2 then 1 else 0)then 2
 else if(if EK o then s=⟨#[]⟩\/s.size>24 else s≠⟨#[]⟩)then 12
 else if(n:Int)<(gG o).1\/(n:Int)>(gG o).2 then 3 else 0
theorem ae1(o m:Int)(s:ByteArray)(b:Bool)(ks:List Tm):iJ (.mk o m s b ks)=awp o m s ks.length:=rfl
def ae2{o m:Int}{s:ByteArray}{b b':Bool}{ks ks':List Tm}(h:ks.length=ks'.length):iJ (.mk o m s b ks)=iJ (.mk o m s b' ks'):=by rw[ae1,ae1,h]
mutual
def VF:∀(X:Tm)(deep n:Int),n<=4096->(dn (e4 X deep n).1 deep n).1=(dn X deep n).1/\((dn X deep n).1=0->(dn X deep n).2=(e4 X deep n).2/\(dn (e4 X deep n).1 deep n).2=(e4 X deep n).2/\OX (e4 X deep n).1 (gN X)=true)
 | .mk o m s b ks,deep,n,aN=>by
  rw[e4];cases ks with
  |nil=>
   simp only[List.isEmpty_nil,xaG,true_and];intro h;rw[dn]at h⊢;split at h;.cases h
   split at h;.rename_i aa;exact absurd h aa
   split at h;.cases h
   rename_i J aa ax;rw[xae J,xae aa,xae ax];simp[fD,gN,o2,aeR,Tm.op,Tm.num,Tm.name,Tm.bf,B1]
  |cons k r=>
   simp only[List.isEmpty_cons,xar,xaI];rw[dn,dn,ae2 (b':=b) (ks':=k::r) (O6 (k::r) deep (n+1))];by_cases J:deep>64;.rw[xac J,xac J];simp
   rw[xae J,xae J];by_cases aa:iJ (.mk o m s b (k::r))≠0;.rw[xac aa,xac aa];exact⟨rfl,λh=>absurd h aa⟩
   rw[xae aa,xae aa];by_cases ax:n+1>4096;.rw[xac ax,xac ax];simp
   rw[xae ax,xae ax];obtain⟨g1,g2⟩:=ae3 (k::r) deep (n+1) (by omega) (by omega);refine⟨g1,λh=>?_⟩;obtain⟨bN,bO,cx⟩:=g2 h;refine⟨bN,bO,?_⟩;rw[aeR];simp only[gN,Tm.op,Tm.num,Tm.name,Tm.bf,cx,O6,ae0];simp
def ae3:∀(ks:List Tm)(deep n:Int),deep<=64->n<=4096->(fD (gC ks deep n).1 (deep+1) n).1=(fD ks (deep+1) n).1/\((fD ks (deep+1) n).1=0->(fD ks (deep+1) n).2=(gC ks deep n).2/\(fD (gC ks deep n).1 (deep+1) n).2=(gC ks deep n).2/\B1 (gC ks deep n).1 (o2 ks)=true)
 |[],deep,n,_,_=>by simp[gC,fD,o2,B1]
 |k::r,deep,n,ay,aN=>by
  rw[gC,xac ⟨ay,aN⟩,fD,fD];obtain⟨g1,g2⟩:=VF k (deep+1) n aN;have aU:=EL k (deep+1) n;by_cases h:(dn k (deep+1) n).1=0
  .obtain⟨bN,bO,cx⟩:=g2 h;have bB:=g1.trans h;simp only[h,bB,ne_eq,xbO,xaI,bN,bO];have hle:(e4 k (deep+1) n).2<=4096:=by rw[<-bN];exact aU.2 h
   obtain⟨ei,eu⟩:=ae3 r deep (e4 k (deep+1) n).2 ay hle;refine⟨ei,λh=>?_⟩;obtain⟨s1,s2,iX⟩:=eu h;exact⟨s1,s2,by rw[o2,B1,cx,iX];rfl⟩
  have bB:(dn (e4 k (deep+1) n).1 (deep+1) n).1≠0:=by rw[g1];exact h
  simp only[ne_eq,h,bB,xcq,xaG];exact⟨g1,λbQ=>bQ.elim⟩
end
def Tm.ae4(l:List Tm)(t:Tm):Tm.rows (l++[t])=Tm.rows l++[t.cells]:=by simp[Tm.kh]
def awq(o m:Int)(s:ByteArray)(b:Bool)(ks:List Tm):gN (.mk o m s b ks)= .mk o m s false (o2 ks):=by rw[gN]
def O7{α β:Type}{a:List α}{b:List β}{i:Nat}{x:α×β}(h:(a.zip b)[i]?=some x):a[i]?=some x.1/\b[i]?=some x.2:=by rw[List.getElem?_zip_eq_some]at h;exact h
def VG{α β:Type}{a:List α}{b:List β}(h:b.length=a.length):(a.zip b).map (·.2)=b:=List.map_snd_zip (by omega)
def VH{l:List bA}{B:Nat}(al:iw B l):∀(h n:Nat)(t X:Tm)(deep k:Int),kO l h t X->t.Ok->t.bC<=B->1<=deep->deep<=65->0<=k->k<=4096->h+2*B+100<n->sI n [t.d,aY l,I deep,I k]=some (.aZ [if(dn X deep k).1=0 then(gN X).d else fQ.d,I (dn X deep k).2,I (dn X deep k).1])
 |0,_,_,_,_,_,H,_,_,_,_,_,_,_=>H.elim|h+1,0,_,_,_,_,_,_,_,_,_,_,_,aN=>absurd aN (xaH _)
 |h+1,n+1,t,X,deep,k,H,bE,aP,J,aa,ax,bj,aN=>by
  have bI:=al.len;have uN:=al.b;have fS:=aeS n l t.name (by omega) (by omega);have aU:=aeE n t deep;have hzero:D.agg [I 0,I 0,a6 ⟨#[]⟩,D.val (.slice none 0 0)]=fQ.d:=Nd.symm;rcases H with⟨aT,i,d,ag,ay,la⟩|⟨gU,ks,rfl,eP,B3⟩
  .have h7:=al.e d (xad ay);have av:=VH al h n d.e X deep k la h7.1 h7.2 J aa ax bj (by omega);simp only[ag]at fS;show sH (sI n) n t.d (aY l) (I deep) (I k)=_;have ET:((3:Int)==3)=true:=rfl;by_cases ar:(dn X deep k).1=0
   .simp only[ar,xaG]at av⊢;simp only[sH,go_sem,aT,ET,fS,yT ((i:Int)>=0),fR ay,bA.iZ,av]
   simp only[ar,xaI]at av⊢;simp only[sH,go_sem,aT,ET,fS,yT ((i:Int)>=0),fR ay,bA.iZ,av]
  have hw:iJ (.mk t.op t.num t.name t.nl ks)=iJ t:=by have:=ae2 (o:=t.op) (m:=t.num) (s:=t.name) (b:=t.nl) (b':=t.nl) eP;rw[this];cases t;rfl
  have Kh:(t.op==3)=false/\True\/(t.op==3)=true/\xY n [aY l,a6 t.name]=some (I (-1)):=by
   by_cases ax:t.op=3
   .right;have VI:dz l t.name=none:=by simpa[yH,ax]using gU
    rw[VI]at fS;exact⟨by simp[ax],fS⟩
   left;simp[ax]
  have B4:decide ((-1:Int)>=0)=false:=by decide
  show sH (sI n) n t.d (aY l) (I deep) (I k)=_;rw[wD,hw];by_cases c1:64<deep
  .have s5:((17:Int) !=0)=true:=rfl;rcases Kh with⟨az,p3⟩|⟨az,p3⟩<;>
   simp only[sH,go_sem,az,p3,B4,mw (bt:=false) (i:=k) (by omega) (by omega),aU,gt_iff_lt,c1,hzero,s5,show¬((17:Int)=0) by omega]
  by_cases c2:iJ t=0
  case neg=>
   have s5:(iJ t !=0)=true:=by simpa using c2
   rcases Kh with⟨az,p3⟩|⟨az,p3⟩<;>
   simp only[sH,go_sem,az,p3,B4,mw (bt:=false) (i:=k) (by omega) (by omega),aU,gt_iff_lt,c1,hzero,s5,c2,ne_eq,xcq]
  have qP:((0:Int) !=0)=false:=rfl;by_cases b8:4096<k+1
  .rcases Kh with⟨az,p3⟩|⟨az,p3⟩<;>
   simp only[sH,go_sem,az,p3,B4,mw (bt:=false) (i:=k) (by omega) (by omega),aU,gt_iff_lt,c1,hzero,c2,qP,ne_eq,xbO,decide_true,b8,show¬((4:Int)=0) by omega]
  have eI:=dy (f:=HV (sI n) n) (t.bf.zip ks) (λi (s:Int×List Tm)=>[aY l,I deep,I s.1,I (i:Int),I t.op,I t.num,a6 t.name,cH 4 t.nl (Tm.rows t.bf),I 0,I 0,a6 ⟨#[]⟩,de,.aW 4 (Tm.rows s.2)]) (λr (s:Int×List Tm)=>if(fD (r.map (·.2)) (deep+1) s.1).1=0 then(Sum.inl [I (fD (r.map (·.2)) (deep+1) s.1).2,I t.op,I t.num,a6 t.name,cH 4 t.nl (Tm.rows t.bf),I 0,I 0,a6 ⟨#[]⟩,de,.aW 4 (Tm.rows (s.2++o2 (r.map (·.2))))]:List D⊕D)else .inr (.aZ [fQ.d,I (fD (r.map (·.2)) (deep+1) s.1).2,I (fD (r.map (·.2)) (deep+1) s.1).1])) (λi s=>0<=s.1/\s.1<=4096/\s.2.length=i) ?_ ?_ n 0 (k+1,[]) ⟨by simp;omega,by simp;omega,rfl⟩ (by have:=t.mu;simp[eP];omega) (xai _)
  .have bT:(I ((0:Nat):Int))=I 0:=rfl;have q8:Tm.rows []=[]:=rfl;simp only[xal,VG eP,bT,q8,xaL]at eI;have q4:(Tm.mk t.op t.num t.name t.nl ks).bf=ks:=rfl;have ll:(gN (.mk t.op t.num t.name t.nl ks)).d=D.agg [I t.op,I t.num,a6 t.name,.aW 4 (Tm.rows (o2 ks))]:=by rw[awq,Tm.kj];simp[cH,Tm.op,Tm.num,Tm.name,Tm.nl,Tm.bf]
   by_cases ar:(fD ks (deep+1) (k+1)).1=0
   .simp only[ar,xaG]at eI;rcases Kh with⟨az,p3⟩|⟨az,p3⟩<;>
    simp only[sH,go_sem,az,p3,B4,mw (bt:=false) (i:=k) (by omega) (by omega),aU,gt_iff_lt,c1,hzero,c2,qP,ne_eq,xbO,decide_false,b8,eI,q4,ar,ll]
   simp only[ar,xaI]at eI;rcases Kh with⟨az,p3⟩|⟨az,p3⟩<;>
   simp only[sH,go_sem,az,p3,B4,mw (bt:=false) (i:=k) (by omega) (by omega),aU,gt_iff_lt,c1,hzero,c2,qP,ne_eq,xbO,decide_false,b8,eI,q4,ar]
  .intro s _;have e:((t.bf.zip ks).length:Int)=t.bf.length:=by simp[eP]
   simp only[HV,go_sem,e,yF ((t.bf.length:Int)<t.bf.length),xbb,fD,o2,xau]
  rintro i ⟨a,b⟩ s gg ag ⟨bN,bO,cx⟩;obtain⟨aG,aj⟩:=O7 gg;simp only at aG aj;have hm:=xad aG;have bF:=Tm.ki hm;have bI:=bE.len;have bX:(i:Int)<t.bf.length:=by have:=(xaa.1 aG).1;omega
  have av:=VH al h n a b (deep+1) s.1 (B3 i a b aG aj) (bE.fO hm) (by omega) (by omega) (by omega) bN bO (by omega);have iq:=EL b (deep+1) s.1;have eL:cT (s.2.length+1) 56=true:=fX (by omega) (by omega);by_cases ar:(dn b (deep+1) s.1).1=0
  .simp only[ar,xaG]at av;left;refine⟨((dn b (deep+1) s.1).2,s.2++[gN b]),?_,?_,by simp;omega,by simpa using iq.2 ar,by simp[cx]⟩;.have b0:[I (gN b).op,I (gN b).num,a6 (gN b).name,cH 4 (gN b).nl (Tm.rows (gN b).bf)]=(gN b).cells:=((gN b).lV).symm;simp only[HV,go_sem,xao bX,Tm.h4 aG,mw (bt:=false) (i:=deep) (by omega) (by omega),av,qP,b0,Tm.ae4,xan,xay,xax,eL,cf (bt:=false) (i:=i) (by omega)]
   simp only[xaw,fD,ar,ne_eq,xbO,xaI,o2,xaK,xbm]
  simp only[ar,xaI]at av;have s5:((dn b (deep+1) s.1).1 !=0)=true:=by simpa using ar
  right;simp only[HV,go_sem,xao bX,Tm.h4 aG,mw (bt:=false) (i:=deep) (by omega) (by omega),av,s5,hzero,xaw,fD,ne_eq,ar,xcq]
theorem VJ(t:Tm)(deep n:Int):e4 t deep n=if t.bf.isEmpty then(t,n+1)else(.mk t.op t.num t.name false (gC t.bf deep (n+1)).1,(gC t.bf deep (n+1)).2):=by cases t;rw[e4];rfl
def ae5(t:Tm):∀(deep n:Int),n+1<=(e4 t deep n).2/\(n<=4096->(e4 t deep n).2<=4097):=by
 refine Tm.ind (P:=λt=>∀(deep n:Int),n+1<=(e4 t deep n).2/\(n<=4096->(e4 t deep n).2<=4097)) ?_ t;intro t ih deep n;have key:∀(ks:List Tm),(∀k∈ks,∀(deep n:Int),n+1<=(e4 k deep n).2/\(n<=4096->(e4 k deep n).2<=4097))->∀(n:Int),n<=(gC ks deep n).2/\(n<=4097->(gC ks deep n).2<=4097):=by
  intro ks
  induction ks with
  |nil=>intro _ n;simp[gC]
  |cons a r mD=>
   intro h n;have J:=h a (by simp) (deep+1) n;rw[gC];split
   .have aa:=mD (λk ai=>h k (by simp[ai])) (e4 a (deep+1) n).2;simp only;constructor;.omega
    intro _;exact aa.2 (by omega)
   exact mD (λk ai=>h k (by simp[ai])) n
 rw[VJ];split;.simp only[Int.le_refl,true_and];omega
 have:=key t.bf ih (n+1);simp only;constructor;.omega
 intro _;exact this.2 (by omega)
def ae6{l:List bA}{B:Nat}(al:iw B l){M:List (Value×D)}(cQ:OY M l)(r:List D->Option (List D))(gz:Nat)(deep oz:Int):∀(h n:Nat)(t X:Tm),kO l h t X->t.Ok->t.bC<=B->h<n-> ∃(t':Tm)(bB:Nat)(ks:List Tm),bB<h/\t'.Ok/\t'.bC<=B/\X= .mk t'.op t'.num t'.name t'.nl ks/\ks.length=t'.bf.length/\(∀(j:Nat)(a b:Tm),t'.bf[j]?=some a->ks[j]?=some b->kO l bB a b)/\bJ (IQ r gz) n [I deep,.mp M,aY l,I oz,I t.op,I t.num,a6 t.name,cH 4 t.nl (Tm.rows t.bf),I 0,I 0,a6 ⟨#[]⟩,de]=some (.inl [I deep,I oz,I t'.op,I t'.num,a6 t'.name,cH 4 t'.nl (Tm.rows t'.bf),I 0,I 0,a6 ⟨#[]⟩,de,.mp M,aY l])
 |0,_,_,_,H,_,_,_=>H.elim|h+1,0,_,_,_,_,_,aN=>absurd aN (xaH _)
 |h+1,n+1,t,X,H,bE,aP,aN=>by
  have gZ:=Dy cQ.1 (z:= .int .i64 0) (x:=t.name);rw[cQ.2]at gZ;rcases H with⟨aT,i,d,ag,ay,la⟩|⟨gU,ks,rfl,eP,B3⟩
  .have h7:=al.e d (xad ay);have ET:((3:Int)==3)=true:=rfl;rw[ag]at gZ;simp only[xaJ]at gZ;obtain⟨t',bB,ks,g1,g2,g3,g4,g5,g6,g7⟩:=ae6 al cQ r gz deep oz h n d.e X la h7.1 h7.2 (by omega);refine⟨t',bB,ks,by omega,g2,g3,g4,g5,g6,?_⟩;rw[lx,<-g7];simp only[IQ,go_sem,aT,ET,nH,gZ,fR ay,bA.iZ]
  refine⟨t,h,ks,by omega,bE,aP,rfl,eP,B3,?_⟩;rw[lx];by_cases ax:t.op=3
  .have VI:dz l t.name=none:=by simpa[yH,ax]using gU
   have ET:((3:Int)==3)=true:=rfl;rw[VI]at gZ;simp only[xbz]at gZ;simp only[IQ,go_sem,ax,ET,nH,gZ]
  have az:(t.op==3)=false:=by simp[ax]
  simp only[IQ,go_sem,az]
def ae7{s:List Tm}{x:Tm}{i k:Nat}(ag:s.length=i)(ai:i<k):(Tm.rows (s++List.replicate (k-i) fQ)).set i x.cells=Tm.rows ((s++[x])++List.replicate (k-(i+1)) fQ):=by
 obtain⟨m,rfl⟩:∃m,k=i+1+m:=⟨k-(i+1),by omega⟩;have aM:i+1+m-i=m+1:=by omega
 have a8:i+1+m-(i+1)=m:=by omega
 subst ag;rw[aM,a8];simp[Tm.kh,List.replicate_succ]
def awr{s:List Tm}{i k:Nat}(ag:s.length=i)(ai:i<k):(Tm.rows (s++List.replicate (k-i) fQ))[i]?=some fQ.cells:=by
 obtain⟨m,rfl⟩:∃m,k=i+1+m:=⟨k-(i+1),by omega⟩;have aM:i+1+m-i=m+1:=by omega
 subst ag;rw[aM];simp[Tm.kh,List.replicate_succ]
def aws{t:Nat}(h:t<=1000000):lr 56 (I (t:Int)) (I (t:Int))=some t:=by simp only[lr,I];rw[xac ⟨by omega,by omega,by omega,by omega⟩];simp
def ae8{l:List bA}{B:Nat}(al:iw B l){M:List (Value×D)}(cQ:OY M l):∀(n h:Nat)(t X:Tm)(deep k:Int),kO l h t X->t.Ok->t.bC<=B->1<=deep->deep<=65->0<=k->k<=4096->h+2*B+100<n->uz n [t.d,I deep,.mp M,aY l,I k]=some [(e4 X deep k).1.d,.mp M,aY l,I (e4 X deep k).2]
 |0,_,_,_,_,_,_,_,_,_,_,_,_,aN=>absurd aN (xaH _)
 |n+1,h,t0,X,deep,k,H,awt,awu,J,aa,ax,bj,aN=>by
  have bI:=al.len;have uN:=al.b;obtain⟨t,bB,ks,g1,bE,aP,rfl,eP,B3,g7⟩:=ae6 al cQ (uz n) n deep k h n t0 X H awt awu (by omega);have q4:(Tm.mk t.op t.num t.name t.nl ks).bf=ks:=rfl;have ae9:∀(b:Bool)(r:List Tm),(Tm.mk t.op t.num t.name b r).d=D.agg [I t.op,I t.num,a6 t.name,cH 4 b (Tm.rows r)]:=λb r=>by rw[Tm.kj];rfl
  have oh:=t.mu;have bT:(I ((0:Nat):Int))=I 0:=rfl;show IS (uz n) n _=_;rw[VJ,q4];cases dA:t.bf with
  |nil=>
   have awv:ks=[]:=by rw[dA]at eP;exact xaQ eP
   subst awv;rw[dA]at g7;have qP:((((Tm.rows []).length:Nat):Int)==0)=true:=rfl;simp only[IS,go_sem,g7,mw (bt:=false) (i:=k) (by omega) (by omega),List.isEmpty_nil,ae9];simp
  |cons a0 jG=>
   have cp:¬ks.isEmpty=true:=by cases ks with|nil=>rw[dA]at eP;simp at eP|cons _ _=>simp
   have aww:((t.bf.length:Int)==0)=false:=by rw[dA];simp;omega
   rw[xae cp];show _=some [(Tm.mk t.op t.num t.name false (gC ks deep (k+1)).1).d,.mp M,aY l,I (gC ks deep (k+1)).2];clear dA;have eI:=dy (f:=D5 (uz n) n) (t.bf.zip ks) (λi (s:Int×List Tm)=>[I deep,cH 4 t.nl (Tm.rows t.bf),I t.bf.length,I (i:Int),I s.1,I t.op,I t.num,a6 t.name,cH 4 t.nl (Tm.rows t.bf),I 0,I 0,a6 ⟨#[]⟩,de,.aW 4 (Tm.rows (s.2++List.replicate (t.bf.length-i) fQ)),.mp M,aY l]) (λr (s:Int×List Tm)=>(Sum.inl [I t.op,I t.num,a6 t.name,cH 4 t.nl (Tm.rows t.bf),I 0,I 0,a6 ⟨#[]⟩,de,.aW 4 (Tm.rows (s.2++(gC (r.map (·.2)) deep s.1).1)),.mp M,aY l,I (gC (r.map (·.2)) deep s.1).2]:List D⊕List D)) (λi s=>0<=s.1/\s.1<=4097/\s.2.length=i) ?_ ?_ n 0 (k+1,[]) ⟨by simp;omega,by simp;omega,rfl⟩ (by simp[eP];omega) (xai _)
   .have q8:Tm.rows (List.replicate t.bf.length fQ)=List.replicate t.bf.length [I 0,I 0,a6 ⟨#[]⟩,D.val (.slice none 0 0)]:=by
     rw[Tm.kh,List.map_replicate];rfl
    simp only[xal,VG eP,bT,xaL,Nat.sub_zero,q8]at eI;have BU:=aws (t:=t.bf.length) (by omega);simp only[IS,go_sem,g7,mw (bt:=false) (i:=k) (by omega) (by omega),aww,BU,eI,ae9,aoI]
   .intro s az;have e:(t.bf.zip ks).length=t.bf.length:=by simp[eP]
    simp only[e,D5,go_sem,yF ((t.bf.length:Int)<t.bf.length),xbb,gC,xca,List.replicate_zero,xau]
   rintro i ⟨a,b⟩ s gg ag ⟨bN,bO,cx⟩;obtain⟨aG,aj⟩:=O7 gg;simp only at aG aj;have hm:=xad aG;have bF:=Tm.ki hm;have VK:=(xaa.1 aG).1;have bX:(i:Int)<t.bf.length:=by omega
   left;by_cases ah:deep<=64/\s.1<=4096
   .have av:=ae8 al cQ n bB a b (deep+1) s.1 (B3 i a b aG aj) (bE.fO hm) (by omega) (by omega) (by omega) bN ah.2 (by omega);have iq:=ae5 b (deep+1) s.1;have dt:cC (s.2++List.replicate (t.bf.length-i) fQ).length (I (i:Int))=some i:=by
     rw[j2,xac];simp;omega
    have ht:h9 fQ.cells 0 [I (e4 b (deep+1) s.1).1.op,I (e4 b (deep+1) s.1).1.num,a6 (e4 b (deep+1) s.1).1.name,cH 4 (e4 b (deep+1) s.1).1.nl (Tm.rows (e4 b (deep+1) s.1).1.bf)]=(e4 b (deep+1) s.1).1.cells:=by rw[Tm.lV (e4 b (deep+1) s.1).1];rfl
    refine⟨((e4 b (deep+1) s.1).2,s.2++[(e4 b (deep+1) s.1).1]),?_,?_,by simp;omega,by simpa using iq.2 ah.2,by simp[cx]⟩;.simp only[D5,go_sem,xao bX,Tm.h4 aG,xao ah.1,xao ah.2,mw (bt:=false) (i:=deep) (by omega) (by omega),av,dt,awr cx VK,ht,ae7 cx VK,cf (bt:=false) (i:=i) (by omega)]
    simp only[xaw,gC,xac ah,xaK,xbm]
   refine⟨(s.1,s.2++[fQ]),?_,?_,by simpa using bN,by simpa using bO,by simp[cx]⟩
   .have EU:=ae7 (x:=fQ) cx VK;have bp:Tm.rows (s.2++List.replicate (t.bf.length-i) fQ)=Tm.rows (s.2++[fQ]++List.replicate (t.bf.length-(i+1)) fQ):=by
     obtain⟨m,hm⟩:∃m,t.bf.length=i+1+m:=⟨t.bf.length-(i+1),by omega⟩;have aM:i+1+m-i=m+1:=by omega
     have a8:i+1+m-(i+1)=m:=by omega
     rw[hm,aM,a8];simp[List.replicate_succ]
    by_cases zT:deep<=64;.have r8:¬s.1<=4096:=λh=>ah ⟨zT,h⟩;simp only[D5,go_sem,xao bX,Tm.h4 aG,xao zT,xat r8,bp,cf (bt:=false) (i:=i) (by omega)]
    simp only[D5,go_sem,xao bX,Tm.h4 aG,xat zT,bp,cf (bt:=false) (i:=i) (by omega),xcd]
   simp only[xaw,gC,xae ah,xaK,xbm]
def B5(l:List bA)(S:List Nat):Prop:=∀x∈S,∀y∈to l x,y∈S
def B5.s4{l:List bA}{S:List Nat}(h:B5 l S){a b:Nat}(av:kN (to l) a b)(aG:a∈S):b∈S:=by induction av with|refl=>exact aG|step i j k j0 _ ih=>exact ih (h i aG j j0)
def afa(l:List bA)(i n:Nat)(S:List Nat)(J:jo l.length S)(aa:B5 l S)(aN:l.length<n):jo l.length (h6 (to l) n (to l i) S)/\B5 l (h6 (to l) n (to l i) S)/\∀x,x∈h6 (to l) n (to l i) S↔x∈S\/∃k∈to l i,kN (to l) k x:=by
 have h:=EO (λi k ai=>l2 i k ai) n (to l i) S J (λx ad=>l2 i x ad) (by omega);obtain⟨T,bp⟩:=h.pre;have ah:B5 l (h6 (to l) n (to l i) S):=by
  intro x ad y aH;by_cases az:x∈S;.rw[bp];simp[aa x az y aH]
  exact h.wF x ad az y aH
 refine⟨h.inv,ah,λx=>⟨h.s4 x,?_⟩⟩;rintro(ad|⟨k,ai,av⟩);.rw[bp];simp[ad]
 exact ah.s4 av (h.mem k ai)
def afb(l:List bA){B:Nat}(al:iw B l)(n:Nat)(aN:3*B+200<n)(fr:List Nat)(qk:∀i∈fr,i<l.length)(ll:fr.length<1000000000):∀(m j:Nat)(S:List Nat)(M:List (Value×D)),b9 M S->jo l.length S->B5 l S->fr.length-j<m->j<=fr.length-> ∃eR mB,bJ (NH n) m [di fr,I fr.length,I (j:Int),.mp M,ie (l.map λd=>dR l d.e)]=some (.inl [.mp eR])/\b9 eR mB/\jo l.length mB/\∀x,x∈mB↔x∈S\/∃i∈fr.drop j,∃k∈to l i,kN (to l) k x
 |0,_,_,_,_,_,_,h,_=>absurd h (xaH _)
 |m+1,j,S,M,cQ,cL,ck,hm,aA=>by
  have bI:=al.len;rw[lx];by_cases cq:j<fr.length
  .have ai:=xab cq;generalize fr[j]=i at ai;have ag:=qk i (xad ai);have p2:fr.drop j=i::fr.drop (j+1):=by
    obtain⟨bN,bO⟩:=xaa.1 ai;rw[xaO bN,bO]
   have kp:=cL.len;obtain⟨wH,ey,ez⟩:=VB l al n i S M ag cQ cL (by omega);obtain⟨c1,c2,b8⟩:=afa l i n S cL ck (by omega);obtain⟨eR,mB,g1,g2,g3,g4⟩:=afb l al n aN fr qk ll m (j+1) _ wH ez c1 c2 (by omega) cq;refine⟨eR,mB,?_,g2,g3,λx=>?_⟩;.simp only[NH,go_sem,yT ((j:Int)<(fr.length:Int)),vS ai,jj,ey,cf (bt:=false) (i:=j) (by omega),g1]
   rw[g4,b8,p2];simp only[xam,exists_eq_or_imp,or_assoc]
  have:j=fr.length:=by omega
  subst this;refine⟨M,S,?_,cQ,cL,λx=>by simp⟩;simp only[NH,go_sem,yF ((fr.length:Int)<fr.length)]
def afc(l:List bA){B:Nat}(al:iw B l)(n:Nat)(aN:3*B+200<n)(fr:List Nat)(qk:∀i∈fr,i<l.length)(ll:fr.length<1000000000):∀(m j:Nat)(S:List Nat)(M:List (Value×D)),b9 M S->jo l.length S->B5 l S->fr.length-j<m->j<=fr.length-> ∃eR mB,bJ (NI n) m [di fr,I fr.length,I (j:Int),.mp M,ie (l.map λd=>dR l d.e)]=some (.inl [.mp eR])/\b9 eR mB/\jo l.length mB/\∀x,x∈mB↔x∈S\/∃i∈fr.drop j,∃k∈to l i,kN (to l) k x
 |0,_,_,_,_,_,_,h,_=>absurd h (xaH _)
 |m+1,j,S,M,cQ,cL,ck,hm,aA=>by
  have bI:=al.len;rw[lx];by_cases cq:j<fr.length
  .have ai:=xab cq;generalize fr[j]=i at ai;have ag:=qk i (xad ai);have p2:fr.drop j=i::fr.drop (j+1):=by
    obtain⟨bN,bO⟩:=xaa.1 ai;rw[xaO bN,bO]
   have kp:=cL.len;obtain⟨wH,ey,ez⟩:=VB l al n i S M ag cQ cL (by omega);obtain⟨c1,c2,b8⟩:=afa l i n S cL ck (by omega);obtain⟨eR,mB,g1,g2,g3,g4⟩:=afc l al n aN fr qk ll m (j+1) _ wH ez c1 c2 (by omega) cq;refine⟨eR,mB,?_,g2,g3,λx=>?_⟩;.simp only[NI,go_sem,yT ((j:Int)<(fr.length:Int)),vS ai,jj,ey,cf (bt:=false) (i:=j) (by omega),g1]
   rw[g4,b8,p2];simp only[xam,exists_eq_or_imp,or_assoc]
  have:j=fr.length:=by omega
  subst this;refine⟨M,S,?_,cQ,cL,λx=>by simp⟩;simp only[NI,go_sem,yF ((fr.length:Int)<fr.length)]
theorem VL(l:List bA):bV (aY l)=true:=rfl
theorem afd(l:List (List Nat)):bV (ie l)=true:=rfl
def b9.EV{M:List (Value×D)}{S:List Nat}(h:b9 M S):True:=trivial
def awx(l:List bA){B:Nat}(al:iw B l)(n:Nat)(aN:3*B+200<n)(fr:List Nat)(qk:∀i∈fr,i<l.length)(ll:fr.length<n)(VM:fr.length<1000000000): ∃M S,IP n [ie (l.map λd=>dR l d.e),di fr]=some [.mp M]/\b9 M S/\∀x,x∈S↔∃i∈fr,∃k∈to l i,kN (to l) k x:=by have bT:(I ((0:Nat):Int))=I 0:=rfl;obtain⟨M,S,g1,g2,g3,g4⟩:=afb l al n aN fr qk VM n 0 [] [] b9.nil ⟨by simp,by simp⟩ (by intro x ad;cases ad) (by omega) (xai _);refine⟨M,S,?_,g2,λx=>by rw[g4];simp⟩;rw[bT]at g1;simp only[IP,go_sem,afd,qD,g1]
def awy(l:List bA){B:Nat}(al:iw B l)(n:Nat)(aN:3*B+200<n)(fr:List Nat)(qk:∀i∈fr,i<l.length)(ll:fr.length<n)(VM:fr.length<1000000000): ∃M S,D4 n [ie (l.map λd=>dR l d.e),di fr]=some (.mp M)/\b9 M S/\∀x,x∈S↔∃i∈fr,∃k∈to l i,kN (to l) k x:=by have bT:(I ((0:Nat):Int))=I 0:=rfl;obtain⟨M,S,g1,g2,g3,g4⟩:=afc l al n aN fr qk VM n 0 [] [] b9.nil ⟨by simp,by simp⟩ (by intro x ad;cases ad) (by omega) (xai _);refine⟨M,S,?_,g2,λx=>by rw[g4];simp⟩;rw[bT]at g1;simp only[D4,aco,go_sem,afd,qD,g1]
def awz(l:List bA){B:Nat}(al:iw B l)(n:Nat)(aN:3*B+200<n)(i:Nat)(ag:i<l.length): ∃M,D4 n [ie (l.map λd=>dR l d.e),D.aW 1 [[I (i:Int)]]]=some (.mp M)/\k4 (.int .i64) (.bool false) false M (I (i:Int))=some (aK (jT l i)):=by
 obtain⟨M,S,g1,g2,g3⟩:=awy l al n aN [i] (by simpa using ag) (by simp;omega) (by simp);refine⟨M,g1,?_⟩;rw[g2.look (z:= .bool false)];have:(i∈S)↔jT l i=true:=by rw[g3,Vy];simp
 congr 2
 by_cases h:i∈S;.rw[this.1 h];simp[h]
 have bB:jT l i=false:=by cases aa:jT l i with|false=>rfl|true=>exact absurd (this.2 aa) h
 rw[bB];simp[h]
def s6(l:List bA)(t:Tm):Bool:=(lA l (dR l t)).all λx=>!jT l x
def awA(l:List bA)(t:Tm):s6 l t=true↔ER l t:=by simp[s6,ER]
def awB(n:Nat)(l:List bA){M:List (Value×D)}(cQ:OY M l)(N t:D)(lU:List ByteArray)(a b c d e f g h:D)(J:lU.length<n)(aa:lU.length<100000000):bJ (D6 n) n [aY l,.mp M,N,dH lU,I lU.length,I 0,a,b,c,d,e,f,g,h,D.aW 1 []]=some (.inl [aY l,N,a,b,c,d,e,f,g,h,di (lU.filterMap (dz l))]):=by
 have bT:(I ((0:Nat):Int))=I 0:=rfl;have aM:di []=D.aW 1 []:=rfl;have gK:∀x,D.aW 1 (bb (di x))=di x:=λ_=>rfl;have aA:=dy (f:=D6 n) lU (λj (s:List Nat)=>[aY l,.mp M,N,dH lU,I lU.length,I (j:Int),a,b,c,d,e,f,g,h,di s]) (λr s=>(.inl [aY l,N,a,b,c,d,e,f,g,h,di (s++r.filterMap (dz l))]:List D⊕D)) (λj s=>s.length<=j) ?_ ?_ n 0 [] (by simp) (by omega) (xai _)
 .rw[bT,aM]at aA;simpa using aA
 .intro s _;simp only[D6,go_sem,yF ((lU.length:Int)<lU.length),gK,List.filterMap_nil,xau]
 intro j b' s aj aA az;have ad:=Kd aj;have gZ:=Dy cQ.1 (z:= .int .i64 0) (x:=b');rw[cQ.2]at gZ;left;cases ay:dz l b' with
 |none=>rw[ay]at gZ;simp only[xbz]at gZ;refine⟨s,?_,by simp[ay],by omega⟩;simp only[D6,go_sem,yT ((j:Int)<(lU.length:Int)),ad,jj,nH,gZ,gK,cf (bt:=false) (i:=j) (by omega)]
 |some k=>
  rw[ay]at gZ;simp only[xaJ]at gZ;have eL:cT (s.length+1) 8=true:=fX (by omega) (by omega);have a8:D.aW 1 (bb (di s)++[[I (k:Int)]])=di (s++[k]):=by simp[di]
  have b0:(bb (di s)).length=s.length:=by simp[di]
  refine⟨s++[k],?_,by simp[ay],by simp;omega⟩;simp only[D6,go_sem,yT ((j:Int)<(lU.length:Int)),ad,jj,nH,gZ,gK,a8,b0,xan,xay,xax,eL,cf (bt:=false) (i:=j) (by omega)]
def afe(n:Nat)(fr:List Nat)(L N a b c d e f g h:D)(aa:fr.length<100000000):∀(m j:Nat)(S:List Nat)(M:List (Value×D)),b9 M S->fr.length-j<m->j<=fr.length-> ∃eR mB,bJ (NK n) m [L,N,di fr,I fr.length,I (j:Int),a,b,c,d,e,f,g,h,.mp M]=some (.inl [L,N,a,b,c,d,e,f,g,h,.mp eR])/\b9 eR mB/\∀x,x∈mB↔x∈S\/x∈fr.drop j
 |0,_,_,_,_,h,_=>absurd h (xaH _)
 |m+1,j,S,M,cQ,hm,aA=>by
  rw[lx];by_cases cq:j<fr.length
  .have ai:=xab cq;generalize fr[j]=i at ai;have p2:fr.drop j=i::fr.drop (j+1):=by
    obtain⟨bN,bO⟩:=xaa.1 ai;rw[xaO bN,bO]
   obtain⟨wH,ei,eu⟩:=cQ.put i;obtain⟨eR,mB,g1,g2,g3⟩:=afe n fr L N a b c d e f g h aa m (j+1) _ wH eu (by omega) cq;refine⟨eR,mB,?_,g2,λx=>?_⟩;.simp only[NK,go_sem,yT ((j:Int)<(fr.length:Int)),vS ai,jj,ei,cf (bt:=false) (i:=j) (by omega),g1]
   rw[g3,p2,xam];by_cases ag:i∈S
   .rw[xac ag];constructor
    .rintro(h|h);.exact .inl h
     exact .inr (.inr h)
    rintro(h|rfl|h);.exact .inl h
    .exact .inl ag
    exact .inr h
   rw[xae ag];simp only[xas,xbF,or_assoc]
  have:j=fr.length:=by omega
  subst this;refine⟨M,S,?_,cQ,λx=>by simp⟩;simp only[NK,go_sem,yF ((fr.length:Int)<fr.length)]
def awC(n:Nat)(l:List bA){B:Nat}(al:iw B l)(aN:3*B+200<n){M:List (Value×D)}{S:List Nat}(cQ:b9 M S)(a b c d e f g h:D):bJ (A3 n) n [aY l,ie (l.map λd=>dR l d.e),I l.length,I 0,a,b,c,d,e,f,g,h,.mp M]=some (if(List.range l.length).all (λi=>!(decide (i∈S)&&jT l i))then .inl [aY l,a,b,c,d,e,f,g,h]else .inr (.aZ [fQ.d,I 14])):=by
 have bI:=al.len;have uN:=al.b;have bT:(I ((0:Nat):Int))=I 0:=rfl;have hzero:D.agg [I 0,I 0,a6 ⟨#[]⟩,D.val (.slice none 0 0)]=fQ.d:=Nd.symm;have aA:=dy (f:=A3 n) (List.range l.length) (λj (s:Unit)=>[aY l,ie (l.map λd=>dR l d.e),I l.length,I (j:Int),a,b,c,d,e,f,g,h,.mp M]) (λr s=>(if r.all (λi=>!(decide (i∈S)&&jT l i))then .inl [aY l,a,b,c,d,e,f,g,h]else .inr (.aZ [fQ.d,I 14]):List D⊕D)) (λj s=>True) ?_ ?_ n 0 () trivial (by simp;omega) (xai _)
 .rw[bT]at aA;simpa using aA
 .intro s _;rw[xbD];simp only[A3,go_sem,yF ((l.length:Int)<l.length),xcn]
 intro j b' s aj aA az;rw[xbD]at aA;have Ki:b'=j:=by rw[xce aA]at aj;exact(xba aj).symm
 subst Ki;have gZ:=cQ.look (i:=b') (z:= .bool false);obtain⟨M2,ey,ez⟩:=awz l al n aN b' aA;have gK:nH (D.mp M2)=some M2:=rfl;by_cases cL:b'∈S
 .by_cases av:jT l b'=true;.right;rw[av]at ez;simp only[A3,go_sem,yT ((b':Int)<(l.length:Int)),gZ,xao cL,ey,gK,ez,hzero,xbg,av,xcd]
  have nB:jT l b'=false:=by simpa using av
  left;rw[nB]at ez;refine⟨(),?_,by simp only[xbg,nB,Bool.and_false,xcg,xbs],trivial⟩;simp only[A3,go_sem,yT ((b':Int)<(l.length:Int)),gZ,xao cL,ey,gK,ez,cf (bt:=false) (i:=b') (by omega)]
 left;refine⟨(),?_,by simp only[xbg,xat cL,xcd,xcg,xbs],trivial⟩;have aM:∀(x:Option D)(f:D->Option (List D⊕(List D⊕D))),ab (ec (aK false) true x) (λv=>ab (gW (aK false) v (aK false)) f)=f (aK false):=λ_ _=>rfl;simp only[A3,go_sem,yT ((b':Int)<(l.length:Int)),gZ,xat cL,aM,cf (bt:=false) (i:=b') (by omega)]
inductive s7(C:Nat):Tm->Prop where
 |mk (o m:Int) (s:ByteArray) (b:Bool) (ks:List Tm) (al:ks.length<=C) (ai:∀k∈ks,s7 C k):s7 C (.mk o m s b ks)
def kO.ok{l:List bA}{B:Nat}(al:iw B l):∀{h:Nat}{t X:Tm},kO l h t X->t.Ok->t.bC<=B->X.Ok/\s7 B X
 |0,_,_,H,_,_=>H.elim
 |h+1,t,X,H,bE,aP=>by
  rcases H with⟨aT,i,d,ag,ay,la⟩|⟨gU,ks,rfl,eP,B3⟩;.have h7:=al.e d (xad ay);exact la.ok al h7.1 h7.2
  have key:∀k∈ks,k.Ok/\s7 B k:=by intro k ai;obtain⟨j,aA⟩:=xaF.1 ai;have cq:=(xaa.1 aA).1;have aG:t.bf[j]?=some (t.bf[j]'(by omega)):=xab (by omega);have hm:=xad aG;have bF:=Tm.ki hm;exact(B3 j _ k aG aA).ok al (bE.fO hm) (by omega)
  have oh:=t.mu;have bI:=bE.len;obtain⟨ei,eu,gS⟩:(-9223372036854775808<=t.op/\t.op<=9223372036854775807)/\(-9223372036854775808<=t.num/\t.num<=9223372036854775807)/\t.name.size<=140737488355328:=by cases bE with|mk o n s b ks aT aN az al ai=>exact⟨aT,aN,az⟩
  exact⟨.mk _ _ _ _ _ ei eu gS (by omega) λk ai=>(key k ai).1,.mk _ _ _ _ _ (by omega) λk ai=>(key k ai).2⟩
def s7.fO{C:Nat}{t k:Tm}(h:s7 C t)(ai:k∈t.bf):s7 C k:=by cases h with|mk o m s b ks al fs=>exact fs k ai
def s7.len{C:Nat}{t:Tm}(h:s7 C t):t.bf.length<=C:=by cases h;assumption
theorem Tm.B6(t:Tm):t.bC=2+Tm.fa t.bf:=by cases t;rw[Tm.bC];rfl
def awD(C:Nat)(X:Tm):∀(deep n:Int),X.Ok->s7 C X->(e4 X deep n).1.Ok/\((e4 X deep n).1.bC:Int)<=(2+3*(C:Int))*((e4 X deep n).2-n):=by
 refine Tm.ind (P:=λX=>∀(deep n:Int),X.Ok->s7 C X->(e4 X deep n).1.Ok/\((e4 X deep n).1.bC:Int)<=(2+3*(C:Int))*((e4 X deep n).2-n)) ?_ X;intro t ih deep n bE hw;generalize hz:(2+3*(C:Int))=K at*;have key:∀(ks:List Tm),(∀k∈ks,∀(deep n:Int),(e4 k deep n).1.Ok/\((e4 k deep n).1.bC:Int)<=K*((e4 k deep n).2-n))->∀(n:Int),(∀k∈(gC ks deep n).1,k.Ok)/\(Tm.fa (gC ks deep n).1:Int)<=K*((gC ks deep n).2-n)+3*(ks.length:Int):=by
  intro ks
  induction ks with
  |nil=>intro _ n;simp[gC,Tm.fa]
  |cons a r mD=>
   intro h n;have J:=h a (by simp) (deep+1) n;rw[gC];split
   .have aa:=mD (λk ai=>h k (by simp[ai])) (e4 a (deep+1) n).2;refine⟨?_,?_⟩
    .intro k ai;rcases xam.1 ai with rfl|ai
     .exact J.1
     exact aa.1 k ai
    have e:K*((gC r deep (e4 a (deep+1) n).2).2-n)=K*((e4 a (deep+1) n).2-n)+K*((gC r deep (e4 a (deep+1) n).2).2-(e4 a (deep+1) n).2):=by rw[<-Int.mul_add];congr 1;omega
    simp only[Tm.fa,xan];rw[e];omega
   have aa:=mD (λk ai=>h k (by simp[ai])) n;refine⟨?_,?_⟩
   .intro k ai;rcases xam.1 ai with rfl|ai
    .exact Te
    exact aa.1 k ai
   have e:fQ.bC=2:=rfl;simp only[Tm.fa,xan,e];omega
 rw[VJ];split
 .rename_i he;have:t.bf=[]:=by simpa using he
  have aM:t.bC=2:=by rw[Tm.B6,this];rfl
  refine⟨bE,?_⟩;simp only[aM];have a8:K*(n+1-n)=K:=by rw[show n+1-n=(1:Int) by omega];exact Int.mul_one K
  rw[a8];omega
 obtain⟨cN,ea⟩:=key t.bf (λk ai deep n=>ih k ai deep n (bE.fO ai) (hw.fO ai)) (n+1);have bI:=bE.len;have aff:=hw.len;obtain⟨ei,eu,gS⟩:(-9223372036854775808<=t.op/\t.op<=9223372036854775807)/\(-9223372036854775808<=t.num/\t.num<=9223372036854775807)/\t.name.size<=140737488355328:=by cases bE with|mk o n s b ks aT aN az al ai=>exact⟨aT,aN,az⟩
 refine⟨.mk _ _ _ _ _ ei eu gS (by rw[O6];omega) cN,?_⟩;rw[Tm.B6];have e:K*((gC t.bf deep (n+1)).2-n)=K+K*((gC t.bf deep (n+1)).2-(n+1)):=by
  have:(gC t.bf deep (n+1)).2-n=1+((gC t.bf deep (n+1)).2-(n+1)):=by omega
  rw[this,Int.mul_add,Int.mul_one]
 show((2+Tm.fa (gC t.bf deep (n+1)).1:Nat):Int)<=_;rw[e];omega
def afg{l:List bA}{B h:Nat}(al:iw B l){t X:Tm}(H:kO l h t X)(bE:t.Ok)(aP:t.bC<=B):(e4 X 1 0).1.Ok/\(e4 X 1 0).1.bC<=8194+12291*B:=by obtain⟨J,aa⟩:=H.ok al bE aP;obtain⟨ax,bj⟩:=awD B X 1 0 J aa;refine⟨ax,?_⟩;have aU:=ae5 X 1 0;have xH:=aU.2 (by omega);have hm:(2+3*(B:Int))*((e4 X 1 0).2-0)<=(2+3*(B:Int))*4097:=Int.mul_le_mul_of_nonneg_left (by omega) (by omega);omega
def awE{l:List bA}{B:Nat}(al:iw B l)(n h:Nat)(t X:Tm)(H:kO l h t X)(bE:t.Ok)(aP:t.bC<=B)(aN:h+2*B+200<n):IT n [t.d,aY l]=some (e4 X 1 0).1.d:=by have bI:=al.len;have uN:=al.b;obtain⟨M,m1,m2⟩:=Vv n l (by omega) (by omega);have av:=ae8 al m2 n h t X 1 0 H bE aP (by omega) (by omega) (by omega) (by omega) (by omega);have eK:bV (D.mp M)=true:=rfl;simp only[IT,acp,go_sem,VL,m1,eK,av]
def VN{l:List bA}{B:Nat}(al:iw B l)(n:Nat)(t:Tm)(bE:t.Ok)(aP:t.bC<=B)(aN:20000*B+20000<n):((dn t 1 0).1≠0->np n [t.d,aY l]=some (.aZ [fQ.d,I (dn t 1 0).1]))/\((dn t 1 0).1=0->s6 l t=false->np n [t.d,aY l]=some (.aZ [fQ.d,I 14]))/\(∀h X,(dn t 1 0).1=0->s6 l t=true->kO l h t X->h+2*B+200<n->np n [t.d,aY l]=some (.aZ [if(dn (e4 X 1 0).1 1 0).1=0 then(e4 X 1 0).1.d else fQ.d,I (dn (e4 X 1 0).1 1 0).1])):=by
 have bI:=al.len;have uN:=al.b;have hzero:D.agg [I 0,I 0,a6 ⟨#[]⟩,D.val (.slice none 0 0)]=fQ.d:=Nd.symm;have ck:=OU n t (by omega) bE;obtain⟨M,m1,m2⟩:=Vv n l (by omega) (by omega);have ct:=av8 n l al (by omega);have cj:=OW n t (by omega) bE (by omega);have cp:=EM t;have iu:=awB n l m2 (ie (l.map λd=>dR l d.e)) fQ.d (gw 3 t []) (I t.op) (I t.num) (a6 t.name) (cH 4 t.nl (Tm.rows t.bf)) (I 0) (I 0) (a6 ⟨#[]⟩) de (by omega) (by omega);have cK:(gw 3 t []).filterMap (dz l)=dR l t:=rfl;rw[cK]at iu;have uO:=OZ l t;obtain⟨wH,awF,ey,ez,hQ⟩:=awx l al n (by omega) (dR l t) oy (by omega) (by omega);obtain⟨M2,afh,s1,s2,iX⟩:=afe n (dR l t) (aY l) (ie (l.map λd=>dR l d.e)) (I t.op) (I t.num) (a6 t.name) (cH 4 t.nl (Tm.rows t.bf)) (I 0) (I 0) (a6 ⟨#[]⟩) de (by omega) n 0 awF wH ez (by omega) (xai _);have afi:∀x,x∈afh↔x∈lA l (dR l t):=by
  intro x;rw[iX,hQ,wG l _ oy,xal];constructor
  .rintro(⟨i,ag,k,ai,av⟩|h);.exact⟨i,ag,.step i k x ai av⟩
   exact⟨x,h,.refl x⟩
  rintro⟨i,ag,av⟩;cases av with|refl=>exact .inr ag|step _ k _ ai av=>exact .inl ⟨i,ag,k,ai,av⟩
 have yI:=awC n l al (by omega) s2 (I t.op) (I t.num) (a6 t.name) (cH 4 t.nl (Tm.rows t.bf)) (I 0) (I 0) (a6 ⟨#[]⟩) de;have fl:(List.range l.length).all (λi=>!(decide (i∈afh)&&jT l i))=s6 l t:=by
  rw[Bool.eq_iff_iff];simp only[s6,xaB,xbT,Bool.not_eq_true',Bool.and_eq_false_imp,xaC];constructor;.intro h x ad;exact h x ((yE l _ oy).inv.2 x ad) ((afi x).2 ad)
  intro h x ad O2;exact h x ((afi x).1 O2)
 rw[fl]at yI;have bT:(I ((0:Nat):Int))=I 0:=rfl;rw[bT]at s1;have gK:∀x,D.aW 1 (bb (di x))=di x:=λ_=>rfl;have qP:((0:Int) !=0)=false:=rfl;have dJ:∀x,(bb (di x)).length=x.length:=λx=>by simp[di]
 refine⟨λar=>?_,λar av=>?_,λh X ar av H CI=>?_⟩
 .have s5:((dn t 1 0).1 !=0)=true:=by simpa using ar
  simp only[np,IU,go_sem,ck,s5,hzero]
 .rw[av]at yI;simp only[xar,xaI]at yI;simp only[np,IU,go_sem,ck,ar,qP,m1,ct,cj,Ke,iu,gK,dJ,ey,qD,s1,eV,yI]
 rw[av]at yI;simp only[xaG]at yI;have fS:=awE al n h t X H bE aP CI;obtain⟨f1,f2⟩:=afg al H bE aP;have VO:=OU n (e4 X 1 0).1 (by omega) f1;by_cases ax:(dn (e4 X 1 0).1 1 0).1=0
 .rw[ax]at VO;simp only[np,IU,go_sem,ck,ar,qP,m1,ct,cj,Ke,iu,gK,dJ,ey,qD,s1,eV,yI,fS,VO,ax]
 have s5:((dn (e4 X 1 0).1 1 0).1 !=0)=true:=by simpa using ax
 simp only[np,IU,go_sem,ck,ar,qP,m1,ct,cj,Ke,iu,gK,dJ,ey,qD,s1,eV,yI,fS,VO,ax,s5,hzero]
def VP{l:List bA}{B:Nat}(al:iw B l)(n:Nat)(t:Tm)(bE:t.Ok)(aP:t.bC<=B)(aN:20000*B+20000<n):((dn t 1 0).1≠0->nm n [t.d,aY l]=some (.aZ [fQ.d,I (dn t 1 0).1]))/\((dn t 1 0).1=0->s6 l t=false->nm n [t.d,aY l]=some (.aZ [fQ.d,I 14]))/\(∀h X,(dn t 1 0).1=0->s6 l t=true->kO l h t X->h+2*B+200<n->nm n [t.d,aY l]=some (.aZ [if(dn X 1 0).1=0 then(gN X).d else fQ.d,I (dn X 1 0).1])):=by
 have bI:=al.len;have uN:=al.b;have hzero:D.agg [I 0,I 0,a6 ⟨#[]⟩,D.val (.slice none 0 0)]=fQ.d:=Nd.symm;have ck:=Vp n t (by omega) bE;have uO:=OZ l t;have aj:=Vz l al n t [] de (.inr ⟨rfl,rfl⟩) bE aP ⟨by simp,by simp⟩ (by simp;omega);have awG:h6 (to l) n (dR l t) []=lA l (dR l t):=Vx (λi k ai=>l2 i k ai) n _ (dR l t) [] ⟨by simp,by simp⟩ oy (by simp;omega) (by simp);rw[awG]at aj;have h0:=yE l (dR l t) oy;have ht:=h0.inv.len;have bT:(I ((0:Nat):Int))=I 0:=rfl;have qP:((0:Int) !=0)=false:=rfl;generalize LL:lA l (dR l t)=C at*;have VQ:fW (lB [] de C)=some (I C.length):=by
  unfold lB;split;.rename_i h;rw[h];rfl
  exact qD C
 have afj:∀(i x:Nat),C[i]?=some x->b3 1 (lB [] de C) (I (i:Int))=some [I (x:Int)]:=by
  intro i x ad;unfold lB;split;.rename_i h;have:C=[]:=xaQ h;subst this;simp at ad
  exact vS ad
 have jn:=dy (f:=HW n) C (λi (s:Unit)=>[aY l,lB [] de C,I (i:Int),I t.op,I t.num,a6 t.name,cH 4 t.nl (Tm.rows t.bf),I 0,I 0,a6 ⟨#[]⟩,de]) (λr s=>(if r.all (λx=>!jT l x)then .inl [aY l,I t.op,I t.num,a6 t.name,cH 4 t.nl (Tm.rows t.bf),I 0,I 0,a6 ⟨#[]⟩,de]else .inr (.aZ [fQ.d,I 14]):List D⊕D)) (λi s=>True) ?_ ?_ n 0 () trivial (by omega) (xai _)
 .rw[bT,xal]at jn;have ES:C.all (λx=>!jT l x)=s6 l t:=by rw[s6,LL]
  rw[ES]at jn;refine⟨λar=>?_,λar av=>?_,λh X ar av H CI=>?_⟩
  .have s5:((dn t 1 0).1 !=0)=true:=by simpa using ar
   simp only[nm,HX,go_sem,ck,s5,hzero]
  .rw[av]at jn;simp only[xar,xaI]at jn;simp only[nm,HX,go_sem,ck,ar,qP,aj,jn]
  rw[av]at jn;simp only[xaG]at jn;have aU:=VH al h n t X 1 0 H bE aP (by omega) (by omega) (by omega) (by omega) (by omega);by_cases ax:(dn X 1 0).1=0
  .simp only[ax,xaG]at aU;simp only[nm,HX,go_sem,ck,ar,qP,aj,jn,aU,ax]
  simp only[ax,xaI]at aU;simp only[nm,HX,go_sem,ck,ar,qP,aj,jn,aU,ax]
 .intro s _;simp only[HW,go_sem,VQ,yF ((C.length:Int)<C.length),xcn]
 intro i x s ad ag az;have yJ:=xad ad;have av:=awi l al n x (h0.inv.2 x yJ) (by omega);cases yK:jT l x with
 |true=>right;rw[yK]at av;simp only[HW,go_sem,VQ,yT ((i:Int)<(C.length:Int)),afj i x ad,jj,av,hzero,xbg,yK,xcd]
 |false=>left;rw[yK]at av;refine⟨(),?_,by simp only[xbg,yK,xcg,xbs],trivial⟩;simp only[HW,go_sem,VQ,yT ((i:Int)<(C.length:Int)),afj i x ad,jj,av,cf (bt:=false) (i:=i) (by omega)]
mutual
def lb:Tm->Tm
 | .mk o m s b ks=> .mk o m s (b&&ks.isEmpty) (yL ks)
def yL:List Tm->List Tm
 |[]=>[]|k::r=>lb k::yL r
end
def afk:∀l:List Tm,yL l=l.map lb
 |[]=>rfl|k::r=>by rw[yL,afk r];rfl
theorem Kj(t:Tm):lb t= .mk t.op t.num t.name (t.nl&&t.bf.isEmpty) (t.bf.map lb):=by cases t;rw[lb,afk];rfl
mutual
def afl:∀(X:Tm)(deep n:Int),n<=4096->(dn X deep n).1=0->(e4 X deep n).1=lb X
 | .mk o m s b ks,deep,n,aN=>by
  intro h;rw[e4,lb];cases ks with
  |nil=>simp[yL]
  |cons k r=>
   simp only[List.isEmpty_cons,xar,xaI,Bool.and_false];rw[dn]at h;by_cases J:deep>64;.rw[xac J]at h;cases h
   rw[xae J]at h;by_cases aa:iJ (.mk o m s b (k::r))≠0;.rw[xac aa]at h;exact absurd h aa
   rw[xae aa]at h;by_cases ax:n+1>4096;.rw[xac ax]at h;cases h
   rw[xae ax]at h;rw[afm (k::r) deep (n+1) (by omega) (by omega) h]
def afm:∀(ks:List Tm)(deep n:Int),deep<=64->n<=4096->(fD ks (deep+1) n).1=0->(gC ks deep n).1=yL ks
 |[],deep,n,_,_=>by simp[gC,yL]
 |k::r,deep,n,ay,aN=>by
  intro h;rw[gC,xac ⟨ay,aN⟩,yL];rw[fD]at h;obtain⟨g1,g2⟩:=VF k (deep+1) n aN;by_cases ar:(dn k (deep+1) n).1=0;.simp only[ar,ne_eq,xbO,xaI]at h;obtain⟨bN,bO,cx⟩:=g2 ar;have aU:=(EL k (deep+1) n).2 ar;rw[bN]at h aU;rw[afl k (deep+1) n aN ar,afm r deep _ ay aU h]
  simp only[ne_eq,ar,xcq,xaG]at h
end
def VR(t:Tm):(lb t).bC=t.bC:=by
 refine Tm.ind (P:=λt=>(lb t).bC=t.bC) ?_ t;intro t ih;have key:∀l:List Tm,(∀k∈l,(lb k).bC=k.bC)->Tm.fa (l.map lb)=Tm.fa l:=by
  intro l
  induction l with
  |nil=>intro _;rfl
  |cons a r mD=>intro h;simp only[xaw,Tm.fa];rw[h a (by simp),mD λk ai=>h k (by simp[ai])]
 rw[Tm.B6,Tm.B6 t,Kj];show 2+Tm.fa (t.bf.map lb)=_;rw[key _ ih]
def afn:∀(ks:List Tm),(∀k∈ks,∀(deep n:Int),(dn k deep n).1=0->(k.bC:Int)+1<=3*((dn k deep n).2-n))->∀(deep n:Int),(fD ks deep n).1=0->(Tm.fa ks:Int)<=3*((fD ks deep n).2-n)
 |[],_,deep,n,_=>by simp[fD,Tm.fa]
 |k::r,ai,deep,n,h=>by
  rw[fD]at h⊢;by_cases ar:(dn k deep n).1=0;.simp only[ar,ne_eq,xbO,xaI]at h⊢;have J:=ai k (by simp) deep n ar;have aa:=afn r (λk fs=>ai k (by simp[fs])) deep _ h;simp only[Tm.fa];omega
  simp only[ne_eq,ar,xcq,xaG]at h
def awH(t:Tm):∀(deep n:Int),(dn t deep n).1=0->(t.bC:Int)+1<=3*((dn t deep n).2-n):=by
 refine Tm.ind (P:=λt=>∀(deep n:Int),(dn t deep n).1=0->(t.bC:Int)+1<=3*((dn t deep n).2-n)) ?_ t;intro t ih deep n h;rw[wD]at h⊢;by_cases J:deep>64;.rw[xac J]at h;cases h
 rw[xae J]at h⊢;by_cases aa:iJ t≠0;.rw[xac aa]at h;exact absurd h aa
 rw[xae aa]at h⊢;by_cases ax:n+1>4096;.rw[xac ax]at h;cases h
 rw[xae ax]at h⊢;have:=afn t.bf ih (deep+1) (n+1) h;rw[Tm.B6];omega
def nW(op:Int):Int:=if op=1 then 0 else if op=3\/op=4\/op=5\/op=9\/op=13 then 2 else if op=2\/op=6\/op=7\/op=8\/op=10\/op=11\/op=12 then 1 else-1
def awI(n:Nat)(op:Int):II n [I op]=some (I (nW op)):=by
 rcases M9 op with rfl|rfl|rfl|rfl|rfl|rfl|rfl|rfl|rfl|rfl|rfl|rfl|rfl|rfl|rfl|rfl|rfl|rfl|h
 case inr.inr.inr.inr.inr.inr.inr.inr.inr.inr.inr.inr.inr.inr.inr.inr.inr.inr=>
  have e:∀k:Int,1<=k->k<=18->(op==k)=false:=λk J aa=>by simp;omega
  have a8:nW op=-1:=by unfold nW;repeat(first|rw[xae (by omega)]|rw[xac (by omega)])
  simp[II,acj,e,a8]
 all_goals rfl
def awJ(n:Nat)(op:Int):DS n [I op]=some (I (nW op)):=by
 rcases M9 op with rfl|rfl|rfl|rfl|rfl|rfl|rfl|rfl|rfl|rfl|rfl|rfl|rfl|rfl|rfl|rfl|rfl|rfl|h
 case inr.inr.inr.inr.inr.inr.inr.inr.inr.inr.inr.inr.inr.inr.inr.inr.inr.inr=>
  have e:∀k:Int,1<=k->k<=18->(op==k)=false:=λk J aa=>by simp;omega
  have a8:nW op=-1:=by unfold nW;repeat(first|rw[xae (by omega)]|rw[xac (by omega)])
  simp[DS,abX,e,a8]
 all_goals rfl
def EW(t:Tm):Int:=if(dn t 1 0).1≠0 then(dn t 1 0).1 else if 0<(gw 4 t []).length then 24 else 0
def yM(t:Tm):Bool:=t.op==0&&(t.num==0&&(decide (t.name=⟨#[]⟩)&&decide (t.bf.length=0)))
def nr(f:Fm):Int:=if nW f.op<0 then 11 else if f.op=1/\EW f.e≠0 then EW f.e
 else if(f.bf.length:Int)≠nW f.op\/(f.op≠1/\yM f.e=false)then 3 else 0
def awK(n:Nat)(f:Fm)(aN:2*f.e.bC+40<n)(bE:f.Ok)(aj:f.e.bC<100000000):AZ n [f.d]=some (I (if f.op≠1 then 0 else EW f.e)):=by
 have J:=OU n f.e (by omega) bE.e;have aa:=OW n f.e (by omega) bE.e aj;by_cases aT:f.op=1
 case neg=>simp[AZ,NC,aT]
 unfold EW;by_cases ah:(dn f.e 1 0).1=0
 .have cK:fW (dH (gw 4 f.e []))=some (I (gw 4 f.e []).length):=by simp[dH]
  by_cases bj:0<(gw 4 f.e []).length<;>simp[AZ,NC,aT,J,ah,aa,cK,bj]
 simp[AZ,NC,aT,J,ah]
def awL(n:Nat)(t:Tm):Ic n [t.d]=some (aK (yM t)):=by unfold yM;simp[Ic,abY];by_cases J:t.op=0<;>by_cases aa:t.num=0<;>by_cases ax:t.name=⟨#[]⟩<;>by_cases bj:t.bf=[]<;>simp[J,aa,ax,bj]
def awM(n:Nat)(f:Fm)(aN:2*f.e.bC+40<n)(bE:f.Ok)(aj:f.e.bC<100000000):wc n [f.d]=some (I (nr f)):=by
 have J:=Vp n f.e (by omega) bE.e;have aa:=Vt n f.e (by omega) bE.e (by omega);have ai:=awJ n f.op;have bF:=awL n f.e;have cK:fW (kM true (gw 4 f.e []))=some (I (gw 4 f.e []).length):=o1 _ _;unfold nr;by_cases ar:nW f.op<0
 .simp[wc,DT,ai,ar]
 by_cases aT:f.op=1
 .unfold EW;have cN:nW 1=0:=rfl;rw[aT,cN]at ai;by_cases ah:(dn f.e 1 0).1=0
  .by_cases bj:0<(gw 4 f.e []).length;.simp[wc,DT,ai,aT,J,ah,aa,cK,bj,cN]
   simp[wc,DT,ai,aT,J,ah,aa,cK,bj,cN];by_cases ca:f.bf=[]<;>simp[ca]
  simp[wc,DT,ai,aT,J,ah,cN]
 simp[wc,DT,ai,ar,aT,bF];by_cases ca:(f.bf.length:Int)=nW f.op;.cases cR:yM f.e<;>simp[ca,cR]
 simp[ca]
mutual
def iK:Fm->Int->Int->Int×Int
 | .mk o t b ks,deep,k=>if deep>64 then(17,k+1)else if nr (.mk o t b ks)≠0 then(nr (.mk o t b ks),k+1)else if k+1>4096 then(4,k+1)else lC ks (deep+1) (k+1)
def lC:List Fm->Int->Int->Int×Int
 |[],_,k=>(0,k)|t::r,deep,k=>if(iK t deep k).1≠0 then iK t deep k else lC r deep (iK t deep k).2
end
theorem Kk(t:Fm)(deep k:Int):iK t deep k=if deep>64 then(17,k+1)else if nr t≠0 then(nr t,k+1)else if k+1>4096 then(4,k+1)else lC t.bf (deep+1) (k+1):=by cases t;rw[iK];rfl
mutual
def mE:Fm->Int->Int->Int×Int
 | .mk o t b ks,deep,k=>if deep>64 then(17,k)else if nr (.mk o t b ks)≠0 then(nr (.mk o t b ks),k)else if k+1>4096 then(4,k+1)else o3 ks (deep+1) (k+1)
def o3:List Fm->Int->Int->Int×Int
 |[],_,k=>(0,k)|t::r,deep,k=>if(mE t deep k).1≠0 then mE t deep k else o3 r deep (mE t deep k).2
end
theorem afo(t:Fm)(deep k:Int):mE t deep k=if deep>64 then(17,k)else if nr t≠0 then(nr t,k)else if k+1>4096 then(4,k+1)else o3 t.bf (deep+1) (k+1):=by cases t;rw[mE];rfl
def afp(t:Fm):∀deep k,(mE t deep k).1=(iK t deep k).1/\((mE t deep k).1=0->(mE t deep k).2=(iK t deep k).2):=by
 refine Fm.ind (P:=λt=>∀deep k,(mE t deep k).1=(iK t deep k).1/\((mE t deep k).1=0->(mE t deep k).2=(iK t deep k).2)) ?_ t;intro t ih deep k;rw[afo,Kk];split;.simp
 split;.rename_i h;simp[h]
 split;.simp
 have key:∀(l:List Fm),(∀x∈l,∀deep k,(mE x deep k).1=(iK x deep k).1/\((mE x deep k).1=0->(mE x deep k).2=(iK x deep k).2))->∀deep k,(o3 l deep k).1=(lC l deep k).1/\((o3 l deep k).1=0->(o3 l deep k).2=(lC l deep k).2):=by
  intro l
  induction l with
  |nil=>intro _ deep k;simp[o3,lC]
  |cons a r mD=>
   intro h deep k;rw[o3,lC];have J:=h a (by simp) deep k;by_cases aa:(iK a deep k).1=0
   .have ax:=J.1.trans aa;have bj:=J.2 ax;simp only[aa,ax,ne_eq,xbO,xaI,bj];exact mD (λx ad=>h x (by simp[ad])) deep _
   have ax:(mE a deep k).1≠0:=by rw[J.1];exact aa
   simp only[ne_eq,aa,ax,xcq,xaG];exact⟨J.1,λh=>h.elim⟩
 exact key t.bf ih _ _
def afq(t:Fm):∀(deep k:Int),k+1<=(iK t deep k).2/\((iK t deep k).1=0->(iK t deep k).2<=4096):=by
 refine Fm.ind (P:=λt=>∀(deep k:Int),k+1<=(iK t deep k).2/\((iK t deep k).1=0->(iK t deep k).2<=4096)) ?_ t;intro t ih deep k;rw[Kk];split;.simp
 split;.rename_i h;simp[h]
 split;.simp
 have key:∀(l:List Fm)(deep k:Int),(∀x∈l,∀(deep k:Int),k+1<=(iK x deep k).2/\((iK x deep k).1=0->(iK x deep k).2<=4096))->k<=4096->k<=(lC l deep k).2/\((lC l deep k).1=0->(lC l deep k).2<=4096):=by
  intro l
  induction l with
  |nil=>intro deep k _ h;simp[lC,h]
  |cons a r mD=>
   intro deep k h ai;rw[lC];have J:=h a (by simp) deep k;split
   .rename_i aa;exact⟨by omega,λax=>absurd ax aa⟩
   rename_i aa;simp only[ne_eq,Decidable.not_not]at aa;have ax:=mD deep (iK a deep k).2 (λx ad=>h x (by simp[ad])) (J.2 aa);exact⟨by omega,ax.2⟩
 exact key t.bf (deep+1) (k+1) ih (by omega)
def afr:∀(n:Nat)(t:Fm)(deep k:Int),2*t.bC+40<n->t.Ok->t.bC<100000000->0<=deep->deep<=65->0<=k->k<=4096->uv n [t.d,I deep,I k]=some (.aZ [I (mE t deep k).1,I (mE t deep k).2])
 |0,t,_,_,h,_,_,_,_,_,_=>absurd h (xaH _)
 |n+1,t,deep,k,aN,bE,aj,J,aa,ax,bj=>by
  have VS:=t.Hp;have aU:=awM n t (by omega) bE (by omega);rw[afo];simp[uv,TW,mw (bt:=false) (i:=k) (by omega) (by omega),aU];by_cases ay:64<deep
  .simp[ay]
  simp[ay];by_cases hw:nr t=0
  case neg=>simp[hw]
  simp[hw];by_cases ah:4096<k+1;.simp[ah]
  simp[ah];have al:=dy (f:=Nv (uv n) n) t.bf (λi s=>[I deep,I s,I (i:Int),I t.op,I t.e.op,I t.e.num,a6 t.e.name,cH 4 t.e.nl (Tm.rows t.e.bf),cH 6 t.nl (Fm.rows t.bf)]) (λr (s:Int)=>if(o3 r (deep+1) s).1=0 then(Sum.inl [I (o3 r (deep+1) s).2]:List D⊕D)else .inr (.aZ [I (o3 r (deep+1) s).1,I (o3 r (deep+1) s).2])) (λi s=>0<=s/\s<=4096) ?_ ?_ n 0 (k+1) ⟨by omega,by omega⟩ (by have:=t.mu;omega) (xai _)
  .have bT:(I ((0:Nat):Int))=I 0:=rfl;rw[bT]at al;rw[al];simp only[xal,dQ];by_cases ar:(o3 t.bf (deep+1) (k+1)).1=0;.simp[ar]
   simp[ar]
  .intro s az;simp[Nv,o3]
  intro i a s aG ag az;have hm:=xad aG;have bF:=Fm.ki hm;have bI:=bE.len;have av:=afr n a (deep+1) s (by omega) (bE.fO hm) (by omega) (by omega) (by omega) az.1 az.2;have iq:=afq a (deep+1) s;have VT:=afp a (deep+1) s;simp[Nv,ag,Fm.h4 aG,mw (bt:=false) (i:=deep) (by omega) (by omega),av,cf (bt:=false) (i:=i) (by omega),o3];by_cases ar:(mE a (deep+1) s).1=0
  .left;simp only[ar];have ca:=VT.2 ar;have cR:=VT.1▸ar;refine⟨(mE a (deep+1) s).2,by simp,by simp,by omega,by rw[ca];exact iq.2 (by rw[<-VT.1];exact ar)⟩
  right;simp[ar]
def l3(f:Fm):Int:=(iK f 1 0).1
def VU(n:Nat)(f:Fm)(aN:2*f.bC+50<n)(bE:f.Ok)(aj:f.bC<100000000):AM n [f.d]=some (I (l3 f)):=by have:=afr n f 1 0 (by omega) bE aj (by omega) (by omega) (by omega) (by omega);have e:=(afp f 1 0).1;simp[AM,abZ,this,e,l3]
def awN(n:Nat)(f:Fm)(deep k w:Int)(aN:2*f.bC+40<n)(bE:f.Ok)(aj:f.bC<100000000)(J:0<=k)(aa:k<=4096):∃e,e=(if deep>64 then 17 else if nr f≠0 then nr f else if k+1>4096 then 4 else w)/\IJ n [f.d,I deep,I k,I w]=some [aK (decide (e=0)),I (k+1),I e]:=by
 refine⟨_,rfl,?_⟩;have VS:=f.Hp;have aU:=awK n f (by omega) bE (by omega);have ai:=awI n f.op;have bI:fW (cH 6 f.nl (Fm.rows f.bf))=some (I f.bf.length):=by simp
 have awO:(f.e.op==0&&(f.e.num==0&&(decide (f.e.name=⟨#[]⟩)&&decide (f.e.bf.length=0))))=yM f.e:=rfl;have oi:((f.e.bf.length:Int)==0)=decide (f.e.bf.length=0):=by by_cases h:f.e.bf.length=0<;>simp[h]
 unfold nr;simp only[IJ,go_sem,Tm.Dx,mw (bt:=false) (i:=k) (by omega) (by omega),aU,ai,oi,Bool.and_assoc,awO];have hw:(w==0)=decide (w=0):=by by_cases h:w=0<;>simp[h]
 generalize yM f.e=oI;by_cases c1:64<deep;.simp[c1]
 by_cases c2:nW f.op<0;.simp[c1,c2]
 by_cases b8:f.op=1
 .have cN:nW 1=0:=rfl;by_cases c3:EW f.e=0;.by_cases dq:f.bf=[]<;>by_cases dr:4096<k+1<;>simp[c1,c2,b8,c3,dq,dr,cN,hw]
  simp[c1,c2,b8,c3,cN]
 by_cases dq:(f.bf.length:Int)=nW f.op<;>by_cases dr:4096<k+1<;>cases oI<;>simp[c1,c2,b8,dq,dr,hw]
def afs:∀(n:Nat)(t:Fm)(deep k:Int),2*t.bC+45<n->t.Ok->t.bC<100000000->0<=deep->deep<=65->0<=k->k<=4096->wk n [t.d,I deep,I k,I 0]=some [aK (decide ((iK t deep k).1=0)),I (iK t deep k).2,I (iK t deep k).1]
 |0,t,_,_,h,_,_,_,_,_,_=>absurd h (xaH _)
 |n+1,t,deep,k,aN,bE,aj,J,aa,ax,bj=>by
  obtain⟨e,he,aU⟩:=awN n t deep k 0 (by omega) bE aj ax bj;rw[Kk];simp only[wk,T8,go_sem,aU];by_cases Ka:e=0
  case neg=>simp[Ka];grind
  have ah:¬deep>64/\nr t=0/\¬k+1>4096:=by grind
  simp[Ka,ah];have al:=dy (f:=ND (wk n) n) t.bf (λi (s:Int)=>[I deep,cH 6 t.nl (Fm.rows t.bf),I t.bf.length,I (i:Int),I s,I 0]) (λr (s:Int)=>if(lC r (deep+1) s).1=0 then(Sum.inl [I (lC r (deep+1) s).2,I 0]:List D⊕List D)else .inr [aK false,I (lC r (deep+1) s).2,I (lC r (deep+1) s).1]) (λi s=>0<=s/\s<=4096) ?_ ?_ n 0 (k+1) ⟨by omega,by omega⟩ (by have:=t.mu;omega) (xai _)
  .have bT:(I ((0:Nat):Int))=I 0:=rfl;rw[bT]at al;rw[al];simp only[xal,dQ];by_cases ar:(lC t.bf (deep+1) (k+1)).1=0;.simp[ar]
   simp[ar]
  .intro s az;simp[ND,lC]
  intro i a s aG ag az;have hm:=xad aG;have bF:=Fm.ki hm;have bI:=bE.len;have av:=afs n a (deep+1) s (by omega) (bE.fO hm) (by omega) (by omega) (by omega) az.1 az.2;have iq:=afq a (deep+1) s;simp[ND,ag,Fm.h4 aG,mw (bt:=false) (i:=deep) (by omega) (by omega),av,cf (bt:=false) (i:=i) (by omega),lC];by_cases ar:(iK a (deep+1) s).1=0
  .left;exact⟨(iK a (deep+1) s).2,by simp[ar],by simp[ar],by omega,iq.2 ar⟩
  right;simp[ar]
def VV(n:Nat)(f:Fm)(aN:2*f.bC+50<n)(bE:f.Ok)(aj:f.bC<100000000):A1 n [f.d]=some (I (l3 f)):=by have:=afs n f 1 0 (by omega) bE aj (by omega) (by omega) (by omega) (by omega);simp[A1,ack,this,l3]
def rI(t:Fm):Prop:=∃deep k,(iK t deep k).1=0
def rI.one{t:Fm}(h:rI t):nr t=0:=by
 obtain⟨d,k,h⟩:=h;rw[Kk]at h;split at h;.cases h
 split at h;.rename_i aa;exact absurd h aa
 rename_i aa;simpa using aa
def awP{l:List Fm}{d k:Int}(h:(lC l d k).1=0):∀x∈l,rI x:=by
 induction l generalizing k with
 |nil=>intro x ad;cases ad
 |cons a r ih=>
  intro x ad;rw[lC]at h;by_cases aa:(iK a d k).1=0
  .simp only[aa,ne_eq,xbO,xaI]at h;rcases xam.1 ad with rfl|ad
   .exact⟨d,k,aa⟩
   exact ih h x ad
  simp only[ne_eq,aa,xcq,xaG]at h
def rI.fO{t k:Fm}(h:rI t)(ai:k∈t.bf):rI k:=by
 obtain⟨d,n,h⟩:=h;rw[Kk]at h;split at h;.cases h
 split at h;.rename_i aa;exact absurd h aa
 split at h;.cases h
 exact awP h k ai
def rI.len{t:Fm}(h:rI t):(t.bf.length:Int)=nW t.op/\¬nW t.op<0:=by
 have J:=h.one;unfold nr at J;split at J;.cases J
 rename_i aa;refine⟨?_,aa⟩;split at J;.rename_i ax;exact absurd J ax.2
 split at J;.cases J
 rename_i bj;simp only[not_or,Decidable.not_not,ne_eq]at bj;exact bj.1
def T.uP(t:Tm):[I t.op,I t.num,a6 t.name,cH 4 t.nl (Tm.rows t.bf)]=t.cells:=(Tm.lV t).symm
def F.aft(t:Fm):[I t.op,I t.e.op,I t.e.num,a6 t.e.name,cH 4 t.e.nl (Tm.rows t.e.bf),cH 6 t.nl (Fm.rows t.bf)]=t.cells:=(Fm.lV t).symm
def ae4(s:List Fm)(p:Fm):Fm.rows (s++[p])=Fm.rows s++[p.cells]:=by simp[Fm.kh]
theorem T.p4(t:Tm):D.agg t.cells=t.d:=rfl
theorem F.p4(t:Fm):D.agg t.cells=t.d:=rfl
structure Y where
 b:Bool
 lo:Int
 ag:Int
deriving DecidableEq
def Y.cells(y:Y):List D:=[aK y.b,I y.lo,I y.ag]
def Y.d(y:Y):D:= .agg [aK y.b,I y.lo,I y.ag]
def fE:Y:=⟨false,0,0⟩
def jA:Y:=⟨true,0,0⟩
def Y.lD(y:Y):Prop:=(y.b=true->y.lo=0/\y.ag=0)/\-1048576<=y.lo/\y.lo<=y.ag/\y.ag<=1048576
@[simp] theorem Y.oq (y:Y):dO 3 y.d=true:=rfl
@[simp] theorem Y.bc (y:Y):ae y.d 0=aK y.b:=rfl
@[simp] theorem Y.c1 (y:Y):ae y.d 1=I y.lo:=rfl
@[simp] theorem Y.c2 (y:Y):ae y.d 2=I y.ag:=rfl
@[simp] theorem Y.Hl (y:Y):D.agg [aK y.b,I y.lo,I y.ag]=y.d:=rfl
@[simp high] theorem Y.bM (y:Y):Go.Am.bM true 3 0 y.cells=some y.d:=rfl
@[simp] theorem Y.hb (y:Y):y.cells[0]?=some (aK y.b):=rfl
@[simp] theorem Y.iZ (y:Y):y.cells[1]?=some (I y.lo):=rfl
@[simp] theorem Y.aoL (y:Y):y.cells[2]?=some (I y.ag):=rfl
@[simp] theorem Y.flat (y:Y):y.d.flat=true:=rfl
@[simp] theorem aEi (y:Y) (e:Int):(D.aZ [y.d,I e]).flat=true:=rfl
def hC(lo ag:Int):Y×Int:=if lo< -1048576\/ag>1048576\/lo>ag\/ag-lo>4096 then(fE,2)else(⟨false,lo,ag⟩,0)
def EX{lo ag:Int}(h:(hC lo ag).2=0):(hC lo ag).1.lD:=by
 unfold hC at*;split at h;.cases h
 rename_i ah;rw[xae ah];exact⟨by simp,by simp;omega,by simp;omega,by simp;omega⟩
theorem afu(lo ag:Int):(D.aZ [(hC lo ag).1.d,I (hC lo ag).2])=if lo< -1048576\/ag>1048576\/lo>ag\/ag-lo>4096 then D.aZ [.agg [aK false,I 0,I 0],I 2]else D.aZ [.agg [aK false,I lo,I ag],I 0]:=by unfold hC;split<;>rfl
def wI(n:Nat)(lo ag:Int):sP n [I lo,I ag]=some (.aZ [(hC lo ag).1.d,I (hC lo ag).2]):=by rw[afu];have bj:-1048576<=lo->ag<=1048576->lo<=ag->IntKind.i64.wrap (ag-lo)=ag-lo:=λ_ _ _=>wrap64 _ (by omega) (by omega);simp[sP,acr,SX,-S9,-SP];grind
def Kl(n:Nat)(lo ag:Int):ry n [I lo,I ag]=some (.aZ [(hC lo ag).1.d,I (hC lo ag).2]):=by
 have hw:IntKind.i64.wrap (-1048576)=-1048576:=by decide
 rw[afu];have bj:-1048576<=lo->ag<=1048576->lo<=ag->IntKind.i64.wrap (ag-lo)=ag-lo:=λ_ _ _=>wrap64 _ (by omega) (by omega);simp[ry,abR,SX,hw,-S9,-SP];grind
def hi(l:List Y):D:= .aW 3 (l.map Y.cells)
def Km{l:List Y}{i:Nat}{y:Y}(h:l[i]?=some y):b3 3 (hi l) (I (i:Int))=some y.cells:=by simp[hi,h]
def awQ(n:Nat)(l:List Y)(aN:l.length<n)(al:l.length<1000000000):IX n [hi l]=some (.aZ [(if l.all Y.b then jA else fE).d,I (if l.all Y.b then 0 else 13)]):=by
 have ag:=dy (f:=IW n) l (λi (s:Unit)=>[hi l,I l.length,I (i:Int),aK false,I 0,I 0]) (λr _=>if r.all Y.b then(Sum.inl [aK false,I 0,I 0]:List D⊕D)else .inr (.aZ [fE.d,I 13])) (λ_ _=>True) (λ_ _=>by simp[IW]) ?_ n 0 () trivial (by omega) (xai _)
 .have bT:(I ((0:Nat):Int))=I 0:=rfl;rw[bT]at ag;have bI:fW (hi l)=some (I l.length):=by simp[hi]
  simp only[IX,acs,bI,dQ,ag,xal,b7,oT];by_cases h:l.all Y.b=true;.simp only[h,xaG,rn];rfl
  simp only[h,xar,xaI,G8]
 intro i a _ aG ag _;have:=Km aG;cases aj:a.b
 .right;simp[IW,ag,this,cf (bt:=false) (i:=i) (by omega),aj];rfl
 left;exact⟨(),by simp[IW,ag,this,cf (bt:=false) (i:=i) (by omega),aj],by simp[aj],trivial⟩
def awR(n:Nat)(l:List Y)(aN:l.length<n)(al:l.length<1000000000):H0 n [hi l]=some (aK (l.all Y.b)):=by
 have bI:fW (hi l)=some (I l.length):=by simp[hi]
 have ag:=dy (f:=HZ n) l (λi (s:Unit)=>[hi l,I (i:Int)]) (λr _=>if r.all Y.b then(Sum.inl []:List D⊕D)else .inr (aK false)) (λ_ _=>True) (λ_ _=>by simp[HZ,bI]) ?_ n 0 () trivial (by omega) (xai _)
 .have bT:(I ((0:Nat):Int))=I 0:=rfl;rw[bT]at ag;simp only[H0,abT,dQ,ag,xal,oT];by_cases h:l.all Y.b=true;.simp only[h,xaG,rn,dQ]
  simp only[h,xar,xaI,G8,dQ]
 intro i a _ aG ag _;have:=Km aG;cases aj:a.b
 .right;simp[HZ,bI,ag,this,cf (bt:=false) (i:=i) (by omega),aj]
 left;exact⟨(),by simp[HZ,bI,ag,this,cf (bt:=false) (i:=i) (by omega),aj],by simp[aj],trivial⟩
def l4(a b:Int):Int:=if b<a then b else a
def gj(a b:Int):Int:=if b>a then b else a
def O8(a b:Int):k3 true [I a,I b]=some (I (gj a b)):=S8 a b
def VW(a b:Int):k3 false [I a,I b]=some (I (l4 a b)):=aa7 a b
theorem awS(a b c d:Int):k3 true [I a,I b,I c,I d]=some (I (gj (gj (gj a b) c) d)):=rfl
theorem awT(a b c d:Int):k3 false [I a,I b,I c,I d]=some (I (l4 (l4 (l4 a b) c) d)):=rfl
def yN{x y:Int}(ad:-1048576<=x/\x<=1048576)(aH:-1048576<=y/\y<=1048576):-1099511627776<=x*y/\x*y<=1099511627776:=by
 have J:x.natAbs<=1048576:=by omega
 have aa:y.natAbs<=1048576:=by omega
 have ax:(x*y).natAbs<=1048576*1048576:=by rw[Int.natAbs_mul];exact Nat.mul_le_mul J aa
 omega
def EY(a b:Y):Int:=l4 (l4 (l4 (a.lo*b.lo) (a.lo*b.ag)) (a.ag*b.lo)) (a.ag*b.ag)
def EZ(a b:Y):Int:=gj (gj (gj (a.lo*b.lo) (a.lo*b.ag)) (a.ag*b.lo)) (a.ag*b.ag)
def p5(op:Int)(a b:Y):Y×Int:=if op=15 then hC (a.lo-b.ag) (a.ag-b.lo)else if op=14 then hC (a.lo+b.lo) (a.ag+b.ag)else hC (EY a b) (EZ a b)
def awU(n:Nat)(op:Int)(a b:Y)(aG:a.lD)(aj:b.lD):A5 n [I op,a.d,b.d]=some (.aZ [(p5 op a b).1.d,I (p5 op a b).2]):=by
 obtain⟨_,aI,a2,a3⟩:=aG;obtain⟨_,fH,hI,kH⟩:=aj;have oe:IntKind.i64.wrap (-b.ag)=-b.ag:=wrap64 _ (by omega) (by omega);have xi:IntKind.i64.wrap (-b.lo)=-b.lo:=wrap64 _ (by omega) (by omega);by_cases J:op=15
 .subst J;have aM:a.lo+-b.ag=a.lo-b.ag:=by omega
  have a8:a.ag+-b.lo=a.ag-b.lo:=by omega
  simp(disch:=omega) [A5,NL,p5,oe,xi,e9,wI,aM,a8]
 by_cases aa:op=14;.subst aa;simp(disch:=omega) [A5,NL,p5,e9,wI]
 have m1:=yN (x:=a.lo) (y:=b.lo) (by omega) (by omega);have m2:=yN (x:=a.lo) (y:=b.ag) (by omega) (by omega);have m3:=yN (x:=a.ag) (y:=b.lo) (by omega) (by omega);have m4:=yN (x:=a.ag) (y:=b.ag) (by omega) (by omega);simp(disch:=omega) [A5,NL,p5,J,aa,xQ,wI,awS,awT,EY,EZ]
def awV(n:Nat)(a b:Y)(aN:6<=n)(aG:a.lD)(aj:b.lD):H2 n [a.d,b.d]=some (.aZ [I (EY a b),I (EZ a b)]):=by
 obtain⟨_,aI,a2,a3⟩:=aG;obtain⟨_,fH,hI,kH⟩:=aj;have m1:=yN (x:=a.lo) (y:=b.lo) (by omega) (by omega);have m2:=yN (x:=a.lo) (y:=b.ag) (by omega) (by omega);have m3:=yN (x:=a.ag) (y:=b.lo) (by omega) (by omega);have m4:=yN (x:=a.ag) (y:=b.ag) (by omega) (by omega);obtain⟨k,rfl⟩:∃k,n=k+4:=⟨n-4,by omega⟩;have p1:cC 4 (I 0)=some 0:=rfl;have ei:cC 4 (I 1)=some 1:=rfl;have eu:cC 4 (I 2)=some 2:=rfl;have gS:cC 4 (I 3)=some 3:=rfl;unfold EY EZ;simp(disch:=omega) [H2,abU,xQ,p1];generalize a.lo*b.lo=w at*;generalize a.lo*b.ag=x at*;generalize a.ag*b.lo=y at*;generalize a.ag*b.ag=z at*;have aEj:l4 w x=l4 w x:=rfl;have step:∀(p q:Int)(i j:Int)(r:Int),i+1=j->(cC 4 (I i)=some i.toNat)->i<4->0<=i->([[I w],[I x],[I y],[I z]]:List (List D))[i.toNat]?=some [I r]->Ns (k+4) [I p,I q,I i,.aW 1 [[I w],[I x],[I y],[I z]]]=some (.inl [I (l4 p r),I (gj q r),I j,.aW 1 [[I w],[I x],[I y],[I z]]]):=by intro p q i j r ar J aa ax bj;subst ar;simp(disch:=omega) [Ns,J,aa,bj,O8,VW,e9]
 rw[lx,step w w 1 2 x rfl rfl (by omega) (by omega) rfl];simp only[dQ];rw[lx,step _ _ 2 3 y rfl rfl (by omega) (by omega) rfl];simp only[dQ];rw[lx,step _ _ 3 4 z rfl rfl (by omega) (by omega) rfl];simp only[dQ];rw[lx];simp[Ns]
def Valid(t:Tm):Prop:=∃deep k:Int,(dn t deep k).1=0
def Valid.O9{t:Tm}(h:Valid t):iJ t=0:=by
 obtain⟨deep,k,h⟩:=h;rw[wD]at h;split at h;.cases h
 split at h;.assumption
 rename_i ah;simpa using ah
def afv:∀(l:List Tm)(deep k:Int),(fD l deep k).1=0->∀x∈l,Valid x
 |[],_,_,_,x,ad=>by cases ad
 |a::r,deep,k,h,x,ad=>by
  rw[fD]at h;split at h;.rename_i ah;exact absurd h ah
  rename_i ah;rcases xam.1 ad with rfl|ad
  .exact⟨deep,k,by simpa using ah⟩
  exact afv r deep _ h x ad
def Valid.fO{t x:Tm}(h:Valid t)(ad:x∈t.bf):Valid x:=by
 have hw:=h.O9;obtain⟨deep,k,h⟩:=h;rw[wD]at h;split at h;.cases h
 split at h;.rename_i ah;exact absurd hw ah
 split at h;.cases h
 exact afv _ _ _ h x ad
def Valid.op{t:Tm}(h:Valid t):1<=t.op/\t.op<=18:=by
 have hw:=h.O9;unfold iJ at hw;split at hw;.cases hw
 rename_i ah;unfold gG at ah;refine xbi λaN=>?_;simp only[show¬(t.op=1\/t.op=2\/t.op=3\/t.op=4) by omega,show¬t.op=5 by omega,show¬(t.op=6\/t.op=7) by omega,show¬t.op=18 by omega,show(t.op<1\/t.op>18) by omega,xaG,xaI]at ah;exact ah (by decide)
def afw{t:Tm}(hw:iJ t=0):¬(gG t.op).1<0/\¬((t.num<(if t.op=1 then-255 else 0))\/t.num>(if t.op=1 then 255 else if t.op=2 then 1 else 0))/\ ¬(if EK t.op then t.name=⟨#[]⟩\/t.name.size>24 else t.name≠⟨#[]⟩)/\¬((t.bf.length:Int)<(gG t.op).1\/(t.bf.length:Int)>(gG t.op).2):=by
 unfold iJ at hw;by_cases J:(gG t.op).1<0;.rw[xac J]at hw;cases hw
 rw[xae J]at hw;by_cases aa:(t.num<(if t.op=1 then-255 else 0))\/t.num>(if t.op=1 then 255 else if t.op=2 then 1 else 0);.rw[xac aa]at hw;cases hw
 rw[xae aa]at hw;by_cases ax:(if EK t.op then t.name=⟨#[]⟩\/t.name.size>24 else t.name≠⟨#[]⟩);.rw[xac ax]at hw;cases hw
 rw[xae ax]at hw;by_cases bj:((t.bf.length:Int)<(gG t.op).1\/(t.bf.length:Int)>(gG t.op).2);.rw[xac bj]at hw;cases hw
 exact⟨J,aa,ax,bj⟩
def Valid.len{t:Tm}(h:Valid t):(gG t.op).1<=t.bf.length/\(t.bf.length:Int)<=(gG t.op).2:=by have:=(afw h.O9).2.2.2;omega
def Valid.num{t:Tm}(h:Valid t):-255<=t.num/\t.num<=255/\(t.op≠1->0<=t.num/\t.num<=1)/\(t.op≠1->t.op≠2->t.num=0):=by
 have aa:=(afw h.O9).2.1;by_cases c1:t.op=1;.simp only[c1,xaG]at aa;exact⟨by omega,by omega,by omega,by omega⟩
 by_cases c2:t.op=2;.simp only[c1,c2,xaG,xaI]at aa;exact⟨by omega,by omega,by omega,by omega⟩
 simp only[c1,c2,xaI]at aa;exact⟨by omega,by omega,by omega,by omega⟩
def hj(t:Tm)(l:List Y):Y×Int:=if 5<=t.op/\t.op<=9 then if l.all Y.b then(jA,0)else(fE,13)
 else match l with
  |[a,b,c]=>if(!a.b||(b.b !=c.b))then(fE,13)else if b.b then(jA,0)else hC (l4 b.lo c.lo) (gj b.ag c.ag)
  |[a,b]=>if t.op=10\/t.op=11 then if a.b !=b.b then(fE,13)else(jA,0)
   else if(a.b||b.b)then(fE,13)
   else if t.op=12\/t.op=13 then(jA,0)
   else if t.op=17 then(match t.bf[1]? with
    |some k=>if k.op≠1\/k.num<1 then(fE,2)else hC 0 (k.num-1)
    |none=>(fE,0))
   else p5 t.op a b
  |_=>(fE,0)
theorem wJ{α:Type}{l:List α}(h:l.length=3):∃a b c,l=[a,b,c]:=by match l,h with|[a,b,c],_=>exact⟨a,b,c,rfl⟩
theorem rJ{α:Type}{l:List α}(h:l.length=2):∃a b,l=[a,b]:=by match l,h with|[a,b],_=>exact⟨a,b,rfl⟩
theorem B7{op:Int}(h:op=18):gG op=(3,3):=by subst h;rfl
def yO{op:Int}(h:8<=op/\op<=17):gG op=(2,2):=by unfold gG;rw[xae (by omega),xae (by omega),xae (by omega),xae (by omega),xae (by omega)]
def afx{l:List Tm}{b:Bool}{t:Tm}(h:l[1]?=some t):b3 4 (cH 4 b (Tm.rows l)) (I 1)=some t.cells:=Tm.h4 (i:=1) h
def Pa{l:List Y}{y:Y}(h:l[0]?=some y):b3 3 (hi l) (I 0)=some y.cells:=Km (i:=0) h
def Pb{l:List Y}{y:Y}(h:l[1]?=some y):b3 3 (hi l) (I 1)=some y.cells:=Km (i:=1) h
def afy{l:List Y}{y:Y}(h:l[2]?=some y):b3 3 (hi l) (I 2)=some y.cells:=Km (i:=2) h
set_option maxHeartbeats 1000000 in
def awW(n:Nat)(t:Tm)(l:List Y)(aS:Valid t)(b6:l.length=t.bf.length)(eb:5<=t.op)(bL:∀y∈l,y.lD)(aN:100<n):AH n [t.d,hi l]=some (.aZ [(hj t l).1.d,I (hj t l).2]):=by
 have rK:=aS.op;have bI:=aS.len;have bc:=Tm.qC t;have b8:=Tm.sw t;have dp:=Tm.oq t;have jq:D.agg [aK false,I 0,I 0]=fE.d:=rfl;have lE:D.agg [aK true,I 0,I 0]=jA.d:=rfl;have ai:=yO (op:=t.op);have wK:=B7 (op:=t.op);have awX:l.length<=64:=by
  have:(gG t.op).2<=64:=by unfold gG;repeat(first|split|decide)
  omega
 have aP:=awR n l (by omega) (by omega);by_cases J:t.op<=9
 .have e:hj t l=if l.all Y.b then(jA,0)else(fE,13):=by unfold hj;rw[xac ⟨eb,J⟩]
  rw[e];have ah:t.op=5\/t.op=6\/t.op=7\/t.op=8\/t.op=9:=by omega
  generalize t.op=op at*;generalize l.all Y.b=q at*;rcases ah with rfl|rfl|rfl|rfl|rfl<;>simp[AH,Nt,dp,bc,aP,jq,lE]<;>cases q<;>simp
 by_cases aa:t.op=18;.rw[wK aa]at bI;obtain⟨a,b,c,rfl⟩:=wJ (l:=l) (by simp at bI;omega);have g0:=Pa (l:=[a,b,c]) rfl;have g1:=Pb (l:=[a,b,c]) rfl;have g2:=afy (l:=[a,b,c]) rfl;unfold hj;generalize hi [a,b,c]=L at*;rw[xae (by omega)];simp[AH,Nt,dp,bc,aa,g0,g1,g2,jq,lE,Kl,O8,VW];cases a.b<;>cases b.b<;>cases c.b<;>(try simp)
 have ax:10<=t.op/\t.op<=17:=by omega
 rw[ai (by omega)]at bI;obtain⟨a,b,rfl⟩:=rJ (l:=l) (by simp at bI;omega);have g0:=Pa (l:=[a,b]) rfl;have g1:=Pb (l:=[a,b]) rfl;have B8:=bL a (by simp);have rL:=bL b (by simp);have aU:=awV n a b (by omega) B8 rL;obtain⟨_,aI,a2,a3⟩:=B8;obtain⟨_,fH,hI,kH⟩:=rL;unfold hj;generalize hi [a,b]=L at*;rw[xae (by omega)];obtain⟨C6,cN,eP⟩:=rJ (l:=t.bf) (by simp at bI;omega);have VX:=afx (l:=t.bf) (b:=t.nl) (t:=cN) (by rw[eP];rfl);have awY:=(aS.fO (x:=cN) (by rw[eP];simp)).num;have s1:IntKind.i64.wrap (cN.num-1)=cN.num-1:=wrap64 _ (by omega) (by omega);have f5:bD false .sub (I cN.num) (I 1)=some (I (cN.num-1)):=oo (by omega) (by omega);have f1:bD false .add (I a.lo) (I b.lo)=some (I (a.lo+b.lo)):=e9 (by omega) (by omega);have f2:bD false .add (I a.ag) (I b.ag)=some (I (a.ag+b.ag)):=e9 (by omega) (by omega);have f3:bD false .sub (I a.lo) (I b.ag)=some (I (a.lo-b.ag)):=oo (by omega) (by omega);have f4:bD false .sub (I a.ag) (I b.lo)=some (I (a.ag-b.lo)):=oo (by omega) (by omega);have ah:t.op=10\/t.op=11\/t.op=12\/t.op=13\/t.op=14\/t.op=15\/t.op=16\/t.op=17:=by omega
 have bN:(t.bf[1]?)=some cN:=by rw[eP];rfl
 generalize t.op=op at*;have Kn:∀x y:Int,hC x y=hC x y:=λ_ _=>rfl;rcases ah with rfl|rfl|rfl|rfl|rfl|rfl|rfl|rfl<;>
  cases dm:a.b<;>cases eU:b.b<;>simp[AH,Nt,dp,bc,b8,g0,g1,VX,bN,jq,lE,Kl,p5,f1,f2,f3,f4,f5,aU,dm,eU]
 all_goals (by_cases lM:cN.op=1<;>by_cases z2:cN.num<1<;>simp[lM,z2])
set_option maxHeartbeats 2000000 in
def awZ(n:Nat)(aw0 M:D)(t:Tm)(nx:Bool)(l:List Y)(aS:Valid t)(b6:l.length=t.bf.length)(eb:5<=t.op)(bL:∀y∈l,y.lD)(aN:100<n):pZ n [aw0,M,t.d,aK nx,hi l]=some (.aZ [(hj t l).1.d,I (hj t l).2]):=by
 have rK:=aS.op;have bI:=aS.len;have bc:=Tm.qC t;have b8:=Tm.sw t;have dp:=Tm.oq t;have jq:D.agg [aK false,I 0,I 0]=fE.d:=rfl;have lE:D.agg [aK true,I 0,I 0]=jA.d:=rfl;have ai:=yO (op:=t.op);have wK:=B7 (op:=t.op);have awX:l.length<=64:=by
  have:(gG t.op).2<=64:=by unfold gG;repeat(first|split|decide)
  omega
 have aP:=awQ n l (by omega) (by omega);by_cases J:t.op<=9
 .have e:hj t l=if l.all Y.b then(jA,0)else(fE,13):=by unfold hj;rw[xac ⟨eb,J⟩]
  rw[e];have ah:t.op=5\/t.op=6\/t.op=7\/t.op=8\/t.op=9:=by omega
  generalize t.op=op at*;generalize l.all Y.b=q at*;rcases ah with rfl|rfl|rfl|rfl|rfl<;>simp[pZ,uA,dp,bc,aP,jq,lE]<;>cases q<;>simp
 by_cases aa:t.op=18;.rw[wK aa]at bI;obtain⟨a,b,c,rfl⟩:=wJ (l:=l) (by simp at bI;omega);have g0:=Pa (l:=[a,b,c]) rfl;have g1:=Pb (l:=[a,b,c]) rfl;have g2:=afy (l:=[a,b,c]) rfl;have rL:=(bL b (by simp)).1;unfold hj;generalize hi [a,b,c]=L at*;rw[xae (by omega)];simp[pZ,uA,dp,bc,aa,g0,g1,g2,jq,lE,wI,O8,VW];obtain⟨oI,aEk,aEl⟩:=b;cases a.b<;>cases oI<;>cases c.b<;>simp at rL⊢;obtain⟨rfl,rfl⟩:=rL;rfl
 have ax:10<=t.op/\t.op<=17:=by omega
 rw[ai (by omega)]at bI;obtain⟨a,b,rfl⟩:=rJ (l:=l) (by simp at bI;omega);have g0:=Pa (l:=[a,b]) rfl;have g1:=Pb (l:=[a,b]) rfl;have B8:=bL a (by simp);have rL:=bL b (by simp);have aU:=λop=>awU n op a b B8 rL;obtain⟨_,aI,a2,a3⟩:=B8;obtain⟨_,fH,hI,kH⟩:=rL;unfold hj;generalize hi [a,b]=L at*;rw[xae (by omega)];obtain⟨C6,cN,eP⟩:=rJ (l:=t.bf) (by simp at bI;omega);have VX:=afx (l:=t.bf) (b:=t.nl) (t:=cN) (by rw[eP];rfl);have awY:=(aS.fO (x:=cN) (by rw[eP];simp)).num;have s1:IntKind.i64.wrap (cN.num-1)=cN.num-1:=wrap64 _ (by omega) (by omega);have f5:bD false .sub (I cN.num) (I 1)=some (I (cN.num-1)):=oo (by omega) (by omega);have f1:bD false .add (I a.lo) (I b.lo)=some (I (a.lo+b.lo)):=e9 (by omega) (by omega);have f2:bD false .add (I a.ag) (I b.ag)=some (I (a.ag+b.ag)):=e9 (by omega) (by omega);have f3:bD false .sub (I a.lo) (I b.ag)=some (I (a.lo-b.ag)):=oo (by omega) (by omega);have f4:bD false .sub (I a.ag) (I b.lo)=some (I (a.ag-b.lo)):=oo (by omega) (by omega);have ah:t.op=10\/t.op=11\/t.op=12\/t.op=13\/t.op=14\/t.op=15\/t.op=16\/t.op=17:=by omega
 have bN:(t.bf[1]?)=some cN:=by rw[eP];rfl
 generalize t.op=op at*;have Kn:∀x y:Int,hC x y=hC x y:=λ_ _=>rfl;rcases ah with rfl|rfl|rfl|rfl|rfl|rfl|rfl|rfl<;>
  cases dm:a.b<;>cases eU:b.b<;>simp[pZ,uA,dp,bc,b8,g0,g1,VX,bN,jq,lE,wI,aU,f1,f2,f3,f4,f5,dm,eU]
 all_goals (by_cases lM:cN.op=1<;>by_cases z2:cN.num<1<;>simp[lM,z2])
def eB(vs:List V)(x:ByteArray):Option Nat:=vs.findIdx? (λv=>decide (v.name=x))
def yP{vs:List V}{x:ByteArray}{i:Nat}(h:eB vs x=some i):∃v,vs[i]?=some v/\v.name=x/\i<vs.length:=by obtain⟨J,aa,_⟩:=xbv.1 h;exact⟨_,xab J,by simpa using aa,J⟩
theorem V.wL(v:V):v.cells[0]?=some (a6 v.name)/\v.cells[1]?=some (aK v.bool)/\v.cells[2]?=some (I v.lo)/\v.cells[3]?=some (I v.ag):=⟨rfl,rfl,rfl,rfl⟩
def hk{l:List V}{i:Nat}{v:V}(h:l[i]?=some v):b3 4 (bu l) (I (i:Int))=some v.cells:=by simp[bu,h]
def e5(l:List V):fW (bu l)=some (I l.length):=by simp[bu]
theorem V.aw1(v:V):bM true 4 0 v.cells=some v.d/\dO 4 v.d=true/\ae v.d 0=a6 v.name:=⟨rfl,rfl,rfl⟩
def uQ:List V->Nat->List (Value×D)->List (Value×D)
 |[],_,M=>M|v::r,i,M=>uQ r (i+1) (if(gP M v.name).isSome then M else(sg .string M (a6 v.name) (I i)).getD [])
def VY:∀(r:List V)(i:Nat)(M:List (Value×D)),mx M->mx (uQ r i M)/\∀x,gP (uQ r i M) x=match gP M x with|some d=>some d|none=>(eB r x).map λj=>I ((i+j:Nat):Int)
 |[],i,M,h=>⟨h,λx=>by simp only[uQ,eB,List.findIdx?_nil];cases gP M x<;>rfl⟩
 |v::r,i,M,h=>by
  rw[uQ];have e:∀x,eB (v::r) x=if v.name=x then some 0 else(eB r x).map (·+1):=by intro x;simp[eB,xbZ]
  by_cases az:(gP M v.name).isSome
  .rw[xac az];obtain⟨J,aa⟩:=VY r (i+1) M h;refine⟨J,λx=>?_⟩;rw[aa x,e x];cases ad:gP M x with
   |some d=>rfl
   |none=>
    have cp:¬v.name=x:=by rintro rfl;simp[ad]at az
    simp only[cp,xaI,Option.map_map]
    congr 1
    funext j
    simp only[Function.comp]
    congr 2
    omega
  rw[xae az];obtain⟨eR,ei,eu,gS,_⟩:=Na h v.name (I i);rw[ei,xbr];obtain⟨J,aa⟩:=VY r (i+1) eR eu;refine⟨J,λx=>?_⟩;rw[aa x,gS x,e x];by_cases ad:x=v.name
  .subst ad;have aN:gP M v.name=none:=by simpa using az
   simp[aN]
  have cp:¬v.name=x:=λh=>ad h.symm;simp only[ad,cp,xaI];cases bL:gP M x with
  |some d=>rfl
  |none=>
   simp only[Option.map_map]
   congr 1
   funext j
   simp only[Function.comp]
   congr 2
   omega
def Pc(M:List (Value×D))(vs:List V):Prop:=mx M/\∀x,gP M x=(eB vs x).map λ(j:Nat)=>I (j:Int)
def afz(n:Nat)(vs:List V)(aN:vs.length<n)(al:vs.length<1000000000000):∃M,A4 n [bu vs]=some (.mp M)/\Pc M vs:=by
 have ar:mx []:=by intro e he;cases he
 obtain⟨J,aa⟩:=VY vs 0 [] ar;refine⟨uQ vs 0 [],?_,J,λx=>by rw[aa x];simp only[gP,xax]⟩;have ag:=dy (f:=IV n) vs (λi (M:List (Value×D))=>[bu vs,I vs.length,I (i:Int),.mp M]) (λr M=>(Sum.inl [.mp (uQ r (vs.length-r.length) M)]:List D⊕D)) (λi M=>mx M) (λM _=>by simp[IV,uQ]) ?_ n 0 [] ar (by omega) (xai _)
 .have bT:(I ((0:Nat):Int))=I 0:=rfl;rw[bT]at ag;simp[A4,acq,e5,ag]
 intro i a M aG ag cQ;left;have e:vs.length-(a::vs.drop (i+1)).length=i:=by simp;omega
 have dx:vs.length-(vs.drop (i+1)).length=i+1:=by simp;omega
 have ax:=Dy cQ (z:= .int .i64 0) (x:=a.name);have ac:=a.aw1;cases bL:gP M a.name with|some d=>rw[bL]at ax;refine⟨M,by simp[IV,ag,hk aG,ac,ax,cf (bt:=false) (i:=i) (by omega)],?_,cQ⟩;rw[e,uQ,bL,dx];rfl|none=>rw[bL]at ax;obtain⟨eR,ei,eu,gS,_⟩:=Na cQ a.name (I i);refine⟨eR,by simp[IV,ag,hk aG,ac,ax,ei,cf (bt:=false) (i:=i) (by omega)],?_,eu⟩;rw[e,uQ,bL,dx];simp only[xcv,xar,xaI,ei,xbr]
def VZ(n:Nat)(vs:List V)(x:ByteArray)(aN:vs.length<n)(al:vs.length<1000000000000):vX n [bu vs,a6 x]=some (I (match eB vs x with|some i=>(i:Int)|none=>-1)):=by
 have ag:=dy (f:=HY n) vs (λi (_:Unit)=>[bu vs,a6 x,I (i:Int)]) (λr _=>match eB r x with|some j=>(Sum.inr (I ((vs.length-r.length+j:Nat):Int)):List D⊕D)|none=> .inl []) (λ_ _=>True) (λ_ _=>by simp[HY,e5,eB]) ?_ n 0 () trivial (by omega) (xai _);.have bT:(I ((0:Nat):Int))=I 0:=rfl;rw[bT]at ag;simp only[vX,abS,ag,xal,dQ,z8];cases eB vs x<;>simp
 intro i a _ aG ag _;have e:vs.length-(a::vs.drop (i+1)).length=i:=by simp;omega
 have dx:vs.length-(vs.drop (i+1)).length=i+1:=by simp;omega
 have oH:eB (a::vs.drop (i+1)) x=if a.name=x then some 0 else(eB (vs.drop (i+1)) x).map (·+1):=by simp[eB,xbZ]
 have ac:=a.wL;by_cases ad:a.name=x;.right;rw[oH,xac ad,e];simp[HY,e5,ag,hk aG,ac,ad]
 left;refine⟨(),by simp[HY,e5,ag,hk aG,ac,ad,cf (bt:=false) (i:=i) (by omega)],?_,trivial⟩;rw[oH,xae ad,e,dx];cases eB (vs.drop (i+1)) x with|none=>rfl|some j=>simp;omega
def ld(vs:List V)(nx:Bool)(t:Tm):Y×Int:=if t.op=1 then hC t.num t.num else if t.op=2 then(jA,0)
 else match eB vs t.name with
  |none=>(fE,12)
  |some i=>if t.op=4/\nx=false then(fE,24)else match vs[i]? with
   |some v=>if v.bool then(jA,0)else hC v.lo v.ag
   |none=>(fE,12)
mutual
def ed(vs:List V)(nx:Bool):Tm->Y×Int
 | .mk o n s b ks=>if o<=4 then ld vs nx (.mk o n s b ks)else if(er vs nx ks).2≠0 then(fE,(er vs nx ks).2)else hj (.mk o n s b ks) (er vs nx ks).1
def er(vs:List V)(nx:Bool):List Tm->List Y×Int
 |[]=>([],0)|t::r=>if(ed vs nx t).2≠0 then([],(ed vs nx t).2)else if(er vs nx r).2≠0 then([],(er vs nx r).2)else((ed vs nx t).1::(er vs nx r).1,0)
end
theorem o4(vs:List V)(nx:Bool)(t:Tm):ed vs nx t=if t.op<=4 then ld vs nx t else if(er vs nx t.bf).2≠0 then(fE,(er vs nx t.bf).2)else hj t (er vs nx t.bf).1:=by cases t;rw[ed];rfl
def V0:jA.lD:=⟨by simp[jA],by simp[jA],by simp[jA],by simp[jA]⟩
def aw2{vs:List V}{nx:Bool}{t:Tm}(h:(ld vs nx t).2=0):(ld vs nx t).1.lD:=by
 unfold ld at*;by_cases J:t.op=1;.rw[xac J]at*;exact EX h
 rw[xae J]at*;by_cases aa:t.op=2;.rw[xac aa];exact V0
 rw[xae aa]at*;cases ag:eB vs t.name with
 |none=>simp[ag]at h
 |some i=>
  simp only[ag]at h⊢;by_cases ax:t.op=4/\nx=false;.simp[ax]at h
  rw[xae ax]at*;cases aS:vs[i]? with
  |none=>simp[aS]at h
  |some v=>
   simp only[aS]at h⊢;by_cases aj:v.bool=true;.rw[xac aj];exact V0
   rw[xae aj]at*;exact EX h
def aw3{op:Int}{a b:Y}(h:(p5 op a b).2=0):(p5 op a b).1.lD:=by
 unfold p5 at*;split at h;.rename_i J;rw[xac J];exact EX h
 rename_i J;split at h;.rename_i aa;rw[xae J,xac aa];exact EX h
 rename_i aa;rw[xae J,xae aa];exact EX h
def uR{c:Prop}[Decidable c]{x y:Y×Int}(ad:x.2=0->x.1.lD\/x.1=fE)(aH:y.2=0->y.1.lD\/y.1=fE):(if c then x else y).2=0->(if c then x else y).1.lD\/(if c then x else y).1=fE:=by
 split;.exact ad
 exact aH
def aw4{t:Tm}{l:List Y}:(hj t l).2=0->(hj t l).1.lD\/(hj t l).1=fE:=by
 have z:∀e:Int,((fE,e):Y×Int).2=0->((fE,e):Y×Int).1.lD\/((fE,e):Y×Int).1=fE:=λ_ _=> .inr rfl;have y:((jA,0):Y×Int).2=0->((jA,0):Y×Int).1.lD\/((jA,0):Y×Int).1=fE:=λ_=> .inl V0;have sp:∀a b:Int,(hC a b).2=0->(hC a b).1.lD\/(hC a b).1=fE:=λa b h=> .inl (EX h);unfold hj;refine uR (uR y (z _)) ?_;split
 .exact uR (z _) (uR y (sp _ _))
 .refine uR (uR (z _) y) (uR (z _) (uR y (uR ?_ (λh=> .inl (aw3 h)))));split;.exact uR (z _) (sp _ _)
  exact z _
 exact z _
def aw5:fE.lD:=⟨by simp[fE],by simp[fE],by simp[fE],by simp[fE]⟩
def aw6(vs:List V)(nx:Bool)(t:Tm)(h:(ed vs nx t).2=0):(ed vs nx t).1.lD:=by
 rw[o4]at*;split at h;.rename_i ah;rw[xac ah];exact aw2 h
 rename_i ah;rw[xae ah];split at h;.rename_i bB;exact absurd h bB
 rename_i bB;rw[xae bB];rcases aw4 h with J|J
 .exact J
 rw[J];exact aw5
def E0(vs:List V)(nx:Bool):∀(l:List Tm),(er vs nx l).2=0->(er vs nx l).1.length=l.length/\∀y∈(er vs nx l).1,y.lD
 |[],_=>⟨rfl,by intro y aH;cases aH⟩
 |t::r,h=>by
  rw[er]at*;by_cases J:(ed vs nx t).2=0
  case neg=>rw[xac J]at h;exact absurd h J
  rw[xae (by simpa using J)]at*;by_cases aa:(er vs nx r).2=0
  case neg=>rw[xac aa]at h;exact absurd h aa
  rw[xae (by simpa using aa)];obtain⟨g1,g2⟩:=E0 vs nx r aa;refine⟨by simp[g1],λy aH=>?_⟩;rcases xam.1 aH with rfl|aH
  .exact aw6 vs nx t J
  exact g2 y aH
def aw7(n:Nat)(vs:List V)(M:List (Value×D))(t:Tm)(nx:Bool)(L:D)(cQ:Pc M vs)(bj:t.op<=4)(J:1<=t.op):pZ n [bu vs,.mp M,t.d,aK nx,L]=some (.aZ [(ld vs nx t).1.d,I (ld vs nx t).2]):=by
 have bc:=Tm.qC t;have c1:=Tm.ug t;have c2:=Tm.uh t;have dp:=Tm.oq t;have jq:D.agg [aK false,I 0,I 0]=fE.d:=rfl;have lE:D.agg [aK true,I 0,I 0]=jA.d:=rfl;have al:=Dy cQ.1 (z:= .int .i64 0) (x:=t.name);rw[cQ.2]at al;unfold ld;have ah:t.op=1\/t.op=2\/t.op=3\/t.op=4:=by omega
 have tY:nH (.mp M)=some M:=rfl;generalize t.op=op at*;rcases ah with rfl|rfl|rfl|rfl
 .simp[pZ,uA,dp,bc,c1,jq,lE,wI]
 .simp[pZ,uA,dp,bc,c1,jq,lE,wI]
 .cases ag:eB vs t.name with|none=>rw[ag]at al;simp[pZ,uA,dp,bc,c1,c2,jq,lE,tY,al]|some i=>rw[ag]at al;obtain⟨v,v1,v2,v3⟩:=yP ag;simp[pZ,uA,dp,bc,c1,c2,jq,lE,tY,al,v1,hk v1,v.wL,wI];cases v.bool<;>simp
 cases ag:eB vs t.name with|none=>rw[ag]at al;simp[pZ,uA,dp,bc,c1,c2,jq,lE,tY,al]|some i=>rw[ag]at al;obtain⟨v,v1,v2,v3⟩:=yP ag;simp[pZ,uA,dp,bc,c1,c2,jq,lE,tY,al,v1,hk v1,v.wL,wI];cases v.bool<;>cases nx<;>simp
def Valid.leaf{t:Tm}(h:Valid t)(bj:t.op<=4):t.bf=[]:=by
 have J:=h.op;have aa:=h.len;have:gG t.op=(0,0):=by unfold gG;rw[xac (by omega)]
 rw[this]at aa;exact xaQ (by have:=aa.2;simp only at this;omega)
def Valid.E1{t:Tm}(h:Valid t):t.bf.length<=64:=by
 have aa:=h.len;have:(gG t.op).2<=64:=by unfold gG;repeat(first|split|decide)
 omega
def afA{a b:Nat}(h:a+b<=1000):cT (a+b) 24=true:=fX (by omega) (by omega)
def afB(vs:List V)(M:List (Value×D))(nx:Bool)(cQ:Pc M vs):∀(n:Nat)(t:Tm),t.bC+200<n->t.Ok->Valid t->sR n [bu vs,.mp M,t.d,aK nx]=some (.aZ [(ed vs nx t).1.d,I (ed vs nx t).2])
 |0,t,h,_,_=>absurd h (xaH _)
 |n+1,t,aN,bE,aS=>by
  rw[o4];have jq:D.agg [aK false,I 0,I 0]=fE.d:=rfl;have yQ:=aS.E1;have al:=dy (f:=D7 (sR n) n) t.bf (λi (s:List Y)=>[bu vs,.mp M,aK nx,cH 4 t.nl (Tm.rows t.bf),I t.bf.length,I (i:Int),I t.op,I t.num,a6 t.name,cH 4 t.nl (Tm.rows t.bf),aK false,I 0,I 0,hi s]) (λr s=>if(er vs nx r).2=0 then(Sum.inl [bu vs,.mp M,aK nx,I t.op,I t.num,a6 t.name,cH 4 t.nl (Tm.rows t.bf),aK false,I 0,I 0,hi (s++(er vs nx r).1)]:List D⊕D)else .inr (.aZ [fE.d,I (er vs nx r).2])) (λi s=>s.length=i) ?_ ?_ n 0 [] rfl (by omega) (xai _)
  .have bT:(I ((0:Nat):Int))=I 0:=rfl;have aM:hi []= .aW 3 []:=rfl;rw[bT,aM]at al;simp only[sR,Ug,Tm.oq,Tm.qC,Tm.ug,Tm.uh,Tm.sw,rm,aa6,Tm.Dx,dQ,al,xal,xaL,bw,b7,km];by_cases ar:(er vs nx t.bf).2=0
   .obtain⟨g1,g2⟩:=E0 vs nx t.bf ar;have a8:∀l:List Y,D.aW 3 (bb (hi l))=hi l:=λ_=>rfl;have aw8:=λbj=>aw7 n vs M t nx (hi (er vs nx t.bf).1) cQ bj aS.op.1;have V1:=λca=>awZ n (bu vs) (.mp M) t nx _ aS g1 ca g2 (by omega);by_cases bj:t.op<=4
    .simp[ar,a8,aw8 bj,bj]
    simp[ar,a8,V1 (by omega),bj]
   have bj:¬t.op<=4:=λbj=>ar (by rw[aS.leaf bj];rfl);simp[ar,bj]
  .intro s az;simp[D7,er,hi]
  intro i a s aG ag az;have hm:=xad aG;have bF:=Tm.ki hm;have av:=afB vs M nx cQ n a (by omega) (bE.fO hm) (aS.fO hm);have eL:cT (s.length+1) 24=true:=afA (by omega);have xk:D7 (sR n) n [bu vs,.mp M,aK nx,cH 4 t.nl (Tm.rows t.bf),I t.bf.length,I (i:Int),I t.op,I t.num,a6 t.name,cH 4 t.nl (Tm.rows t.bf),aK false,I 0,I 0,hi s]=
    if(ed vs nx a).2=0 then some (.inl [bu vs,.mp M,aK nx,cH 4 t.nl (Tm.rows t.bf),I t.bf.length,I ((i+1:Nat):Int),I t.op,I t.num,a6 t.name,cH 4 t.nl (Tm.rows t.bf),aK false,I 0,I 0,hi (s++[(ed vs nx a).1])])
    else some (.inr (.inr (.aZ [fE.d,I (ed vs nx a).2]))):=by
   by_cases ar:(ed vs nx a).2=0;.simp[D7,ag,Tm.h4 aG,av,ar,cf (bt:=false) (i:=i) (by omega),hi,eL];simp[Y.cells]
   .simp[D7,ag,Tm.h4 aG,av,ar,jq]
  rw[xk];simp only[er];by_cases ar:(ed vs nx a).2=0
  .left;refine⟨s++[(ed vs nx a).1],by simp[ar],?_,by simp[az]⟩;by_cases J:(er vs nx (t.bf.drop (i+1))).2=0;.simp[ar,J]
   simp[ar,J]
  right;simp[ar]
def afC(vs:List V)(nx:Bool)(jz:vs.length<1000000000000):∀(n:Nat)(t:Tm),t.bC+200+vs.length<n->t.Ok->Valid t->nT n [bu vs,t.d,aK nx]=some (.aZ [(ed vs nx t).1.d,I (ed vs nx t).2])
 |0,t,h,_,_=>absurd h (xaH _)
 |n+1,t,aN,bE,aS=>by
  rw[o4];have jq:D.agg [aK false,I 0,I 0]=fE.d:=rfl;have lE:D.agg [aK true,I 0,I 0]=jA.d:=rfl;have yQ:=aS.E1;have eb:=aS.op;by_cases bj:t.op<=4
  .rw[xac bj];have bc:=Tm.qC t;have c1:=Tm.ug t;have c2:=Tm.uh t;have b8:=Tm.sw t;have dp:=Tm.oq t;unfold ld;have ad:=VZ n vs t.name (by omega) jz;have ah:t.op=1\/t.op=2\/t.op=3\/t.op=4:=by omega
   generalize t.op=op at*;rcases ah with rfl|rfl|rfl|rfl
   .simp[nT,v8,dp,bc,c1,jq,lE,Kl]
   .simp[nT,v8,dp,bc,c1,jq,lE]
   .cases ag:eB vs t.name with
    |none=>rw[ag]at ad;simp[nT,v8,dp,bc,c1,c2,b8,jq,lE,ad]
    |some i=>
     rw[ag]at ad;obtain⟨v,v1,v2,v3⟩:=yP ag;have jF:¬((i:Int)<0):=by omega
     simp[nT,v8,dp,bc,c1,c2,b8,jq,lE,ad,jF,v1,hk v1,v.wL,Kl];cases v.bool<;>simp
   cases ag:eB vs t.name with
   |none=>rw[ag]at ad;simp[nT,v8,dp,bc,c1,c2,b8,jq,lE,ad]
   |some i=>
    rw[ag]at ad;obtain⟨v,v1,v2,v3⟩:=yP ag;have jF:¬((i:Int)<0):=by omega
    simp[nT,v8,dp,bc,c1,c2,b8,jq,lE,ad,jF,v1,hk v1,v.wL,Kl];cases v.bool<;>cases nx<;>simp
  rw[xae bj];have al:=dy (f:=DP (nT n) n) t.bf (λi (s:List Y)=>[bu vs,aK nx,I (i:Int),I t.op,I t.num,a6 t.name,cH 4 t.nl (Tm.rows t.bf),aK false,I 0,I 0,hi s]) (λr s=>if(er vs nx r).2=0 then(Sum.inl [I t.op,I t.num,a6 t.name,cH 4 t.nl (Tm.rows t.bf),aK false,I 0,I 0,hi (s++(er vs nx r).1)]:List D⊕D)else .inr (.aZ [fE.d,I (er vs nx r).2])) (λi s=>s.length=i) ?_ ?_ n 0 [] rfl (by omega) (xai _)
  .have bT:(I ((0:Nat):Int))=I 0:=rfl;have aM:hi []= .aW 3 []:=rfl;rw[bT,aM]at al;have fH:(t.op==1)=false:=by simp;omega
   have hI:(t.op==2)=false:=by simp;omega
   have kH:(t.op==3)=false:=by simp;omega
   have rM:(t.op==4)=false:=by simp;omega
   simp only[nT,v8,Tm.oq,Tm.qC,Tm.ug,Tm.uh,Tm.sw,rm,Dt,fH,hI,kH,rM,mo,xar,xaI,dQ,rn,qB,sr,al,xal,xaL,dF,aw,aF,bw,bK,jl,u8];by_cases ar:(er vs nx t.bf).2=0;.obtain⟨g1,g2⟩:=E0 vs nx t.bf ar;have a8:∀l:List Y,D.aW 3 (bb (hi l))=hi l:=λ_=>rfl;have V1:=awW n t _ aS g1 (by omega) g2 (by omega);simp[ar,a8,V1]
   simp[ar]
  .intro s az;simp[DP,er,hi]
  intro i a s aG ag az;have hm:=xad aG;have bF:=Tm.ki hm;have av:=afC vs nx jz n a (by omega) (bE.fO hm) (aS.fO hm);have eL:cT (s.length+1) 24=true:=afA (by omega);have xk:DP (nT n) n [bu vs,aK nx,I (i:Int),I t.op,I t.num,a6 t.name,cH 4 t.nl (Tm.rows t.bf),aK false,I 0,I 0,hi s]=
    if(ed vs nx a).2=0 then some (.inl [bu vs,aK nx,I ((i+1:Nat):Int),I t.op,I t.num,a6 t.name,cH 4 t.nl (Tm.rows t.bf),aK false,I 0,I 0,hi (s++[(ed vs nx a).1])])
    else some (.inr (.inr (.aZ [fE.d,I (ed vs nx a).2]))):=by
   by_cases ar:(ed vs nx a).2=0;.simp[DP,ag,Tm.h4 aG,av,ar,cf (bt:=false) (i:=i) (by omega),hi,eL];simp[Y.cells]
   .simp[DP,ag,Tm.h4 aG,av,ar,jq]
  rw[xk];simp only[er];by_cases ar:(ed vs nx a).2=0
  .left;refine⟨s++[(ed vs nx a).1],by simp[ar],?_,by simp[az]⟩;by_cases J:(er vs nx (t.bf.drop (i+1))).2=0;.simp[ar,J]
   simp[ar,J]
  right;simp[ar]
def j6(vs:List V)(nx:Bool)(t:Tm):Y×Int:=if(dn t 1 0).1≠0 then(fE,(dn t 1 0).1)else ed vs nx t
def afD(n:Nat)(vs:List V)(t:Tm)(nx:Bool)(aN:t.bC+200+vs.length<n)(bE:t.Ok)(jz:vs.length<1000000000000):yg n [bu vs,t.d,aK nx]=some (.aZ [(j6 vs nx t).1.d,I (j6 vs nx t).2]):=by
 have ah:=OU n t (by omega) bE;obtain⟨M,m1,m2⟩:=afz n vs (by omega) jz;have jq:D.agg [aK false,I 0,I 0]=fE.d:=rfl;unfold j6;by_cases ar:(dn t 1 0).1=0
 .have aP:=afB vs M nx m2 n t (by omega) bE ⟨1,0,ar⟩;simp[yg,Uh,ah,ar,m1,aP]
 simp[yg,Uh,ah,ar,jq]
def afE(n:Nat)(vs:List V)(t:Tm)(nx:Bool)(aN:t.bC+200+vs.length<n)(bE:t.Ok)(jz:vs.length<1000000000000):x6 n [bu vs,t.d,aK nx]=some (.aZ [(j6 vs nx t).1.d,I (j6 vs nx t).2]):=by
 have ah:=Vp n t (by omega) bE;have jq:D.agg [aK false,I 0,I 0]=fE.d:=rfl;unfold j6;by_cases ar:(dn t 1 0).1=0
 .have aP:=afC vs nx jz n t (by omega) bE ⟨1,0,ar⟩;simp[x6,TQ,ah,ar,aP]
 simp[x6,TQ,ah,ar,jq]
end Go.Am
