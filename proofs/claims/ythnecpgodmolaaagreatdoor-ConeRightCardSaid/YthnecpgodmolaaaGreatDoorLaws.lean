/- The laws, on data. No condition. -/
import Derived.Test.YthnecpgodmolaaaGreatDoorEngD
import Derived.Test.YthnecpgodmolaaaGreatDoorCode
import Derived.Test.YthnecpgodmolaaaGreatDoorEngS
set_option linter.all false
set_option linter.unnecessarySimpa false
namespace Go.Am
def hf(op:Int):Int×Int:=if op=1\/op=2\/op=3\/op=4 then(0,0)else if op=5 then(1,1)else if op=6\/op=7 then(1,64)else if op=18 then(3,3)else if op<1\/op>18 then(-1,-1)else(2,2)
def CY(op:Int):Bool:=op==3||op==4
def il(t:Tm):Int:=if(hf t.op).1<0 then 11
 else if(t.num<(if t.op=1 then-255 else 0))\/t.num>(if t.op=1 then 255 else if t.op=2 then 1 else 0)then 2
 else if(if CY t.op then t.name=⟨#[]⟩\/t.name.size>24 else t.name≠⟨#[]⟩)then 12
 else if(t.aT.length:Int)<(hf t.op).1\/(t.aT.length:Int)>(hf t.op).2 then 3 else 0
def ar9(n:Nat)(op:Int):FH n [J op]=some (.a1 [J (hf op).1,J (hf op).2]):=by
 rcases K5 op with rfl|rfl|rfl|rfl|rfl|rfl|rfl|rfl|rfl|rfl|rfl|rfl|rfl|rfl|rfl|rfl|rfl|rfl|h
 case inr.inr.inr.inr.inr.inr.inr.inr.inr.inr.inr.inr.inr.inr.inr.inr.inr.inr=>
  have e:∀k:Int,1<=k->k<=18->(op==k)=false:=λk ab af=>by simp;omega
  have aX:hf op=(-1,-1):=by unfold hf;repeat(first|rw[xac (by omega)]|rw[xad (by omega)])
  simp[FH,Zx,e,aX]
 all_goals rfl
def asa(n:Nat)(op:Int):Ct n [J op]=some (.a1 [J (hf op).1,J (hf op).2]):=by
 rcases K5 op with rfl|rfl|rfl|rfl|rfl|rfl|rfl|rfl|rfl|rfl|rfl|rfl|rfl|rfl|rfl|rfl|rfl|rfl|h
 case inr.inr.inr.inr.inr.inr.inr.inr.inr.inr.inr.inr.inr.inr.inr.inr.inr.inr=>
  have e:∀k:Int,1<=k->k<=18->(op==k)=false:=λk ab af=>by simp;omega
  have aX:hf op=(-1,-1):=by unfold hf;repeat(first|rw[xac (by omega)]|rw[xad (by omega)])
  rcases h with h|h;.simp[Ct,SC,e,aX,h]
  have:¬op<1:=by omega
  simp[Ct,SC,e,aX,h,this]
 all_goals rfl
def asb(s:ByteArray):decide (s=⟨#[]⟩)=decide ((s.size:Int)<1):=by
 have:s=⟨#[]⟩↔(s.size:Int)<1:=by
  constructor;.rintro rfl;decide
  intro h;have:s.size=0:=by omega
  cases s with|mk a=>congr;exact xbg this
 simp[this]
def asc(n:Nat)(t:Tm):FI n [t.d]=some (J (il t)):=by
 cases t with|mk op num s b ks=>
 have ak:=ar9 n op;have jz:a5 4 (Tm.d (.mk op num s b ks))=true:=Tm.oE _;have bF:ad (Tm.d (.mk op num s b ks)) 0=J op:=rfl;have aL:ad (Tm.d (.mk op num s b ks)) 1=J num:=rfl;have aX:ad (Tm.d (.mk op num s b ks)) 2=aC s:=rfl;have bL:ad (Tm.d (.mk op num s b ks)) 3=cl 4 b (Tm.rows ks):=rfl;generalize Tm.d (.mk op num s b ks)=x at*;simp only[il,Tm.op,Tm.num,Tm.name,Tm.aT];simp only[FI,Zy,jz,bF,aL,aX,bL,sI,ak,eH,Q0,xbw,xcb,EX,lR];by_cases au:(hf op).1<0
 .simp[au]
 simp only[au,xbG,xat,xaF,Bk,eH,lR];simp[CY];grind
def ab5(n:Nat)(t:Tm)(deep:Int):zw n [t.d,J deep]=some (J (if deep>64 then 17 else il t)):=by
 cases t with|mk op num s b ks=>
 have ak:=asa n op;have jz:a5 4 (Tm.d (.mk op num s b ks))=true:=Tm.oE _;have bF:ad (Tm.d (.mk op num s b ks)) 0=J op:=rfl;have aL:ad (Tm.d (.mk op num s b ks)) 1=J num:=rfl;have aX:ad (Tm.d (.mk op num s b ks)) 2=aC s:=rfl;have bL:ad (Tm.d (.mk op num s b ks)) 3=cl 4 b (Tm.rows ks):=rfl;have cL:D.agg [J op,J num,aC s,cl 4 b (Tm.rows ks)]=(Tm.d (.mk op num s b ks)):=rfl;have aG:=asb s;simp only[il,Tm.op,Tm.num,Tm.name,Tm.aT];simp only[zw,aar,jz,bF,aL,aX,bL,cL,sI,ak,eH,Q0,xbw,xcb,EX,oC,lR];by_cases aB:deep>64
 .simp[aB]
 by_cases au:(hf op).1<0;.simp[au]
 simp only[au,aB,xbG,xat,xaF,Bk,eH,lR];simp[CY];simp at aG;grind
mutual
def dg:Tm->Int->Int->Int×Int
 | .mk op n s b ks,deep,k=>if deep>64 then(17,k+1)else if il (.mk op n s b ks)≠0 then(il (.mk op n s b ks),k+1)else if k+1>4096 then(4,k+1)else fA ks (deep+1) (k+1)
def fA:List Tm->Int->Int->Int×Int
 |[],_,k=>(0,k)|t::r,deep,k=>if(dg t deep k).1≠0 then dg t deep k else fA r deep (dg t deep k).2
end
theorem u3(t:Tm)(deep k:Int):dg t deep k=if deep>64 then(17,k+1)else if il t≠0 then(il t,k+1)else if k+1>4096 then(4,k+1)else fA t.aT (deep+1) (k+1):=by cases t;rw[dg];rfl
def CZ(t:Tm):∀(deep k:Int),k+1<=(dg t deep k).2/\((dg t deep k).1=0->(dg t deep k).2<=4096):=by
 refine Tm.ind (P:=λt=>∀(deep k:Int),k+1<=(dg t deep k).2/\((dg t deep k).1=0->(dg t deep k).2<=4096)) ?_ t;intro t ih deep k;rw[u3];split;.simp
 split;.rename_i h;simp[h]
 split;.simp
 have key:∀(l:List Tm)(deep k:Int),(∀x∈l,∀(deep k:Int),k+1<=(dg x deep k).2/\((dg x deep k).1=0->(dg x deep k).2<=4096))->k<=4096->k<=(fA l deep k).2/\((fA l deep k).1=0->(fA l deep k).2<=4096):=by
  intro l
  induction l with
  |nil=>intro deep k _ h;simp[fA,h]
  |cons a r lW=>
   intro deep k h ak;rw[fA];have ab:=h a (by simp) deep k;split
   .rename_i af;exact⟨by omega,λaw=>absurd aw af⟩
   rename_i af;simp only[ne_eq,Decidable.not_not]at af;have aw:=lW deep (dg a deep k).2 (λx ag=>h x (by simp[ag])) (ab.2 af);exact⟨by omega,aw.2⟩
 have:=key t.aT (deep+1) (k+1) ih (by omega);exact this
def ab6:∀(n:Nat)(t:Tm)(deep k:Int),t.bo<n->t.cp->0<=deep->deep<=65->0<=k->k<=4096->s8 n [t.d,J deep,J k]=some (.a1 [J (dg t deep k).1,J (dg t deep k).2])
 |0,t,_,_,h,_,_,_,_,_=>absurd h (xay _)
 |n+1,t,deep,k,aM,bm,ab,af,aw,a4=>by
  have aU:=ab5 n t deep;rw[u3];simp[s8,SD,lS (bt:=false) (i:=k) (by omega) (by omega),aU];by_cases aB:64<deep;.simp[aB]
  simp[aB];by_cases hw:il t=0
  case neg=>simp[hw]
  simp[hw];by_cases ao:4096<k+1;.simp[ao]
  simp[ao];have aq:=dG (f:=Mh (s8 n) n) t.aT (λi s=>[J deep,J s,J (i:Int),J t.op,J t.num,aC t.name,cl 4 t.nl (Tm.rows t.aT)]) (λr (s:Int)=>if(fA r (deep+1) s).1=0 then(Sum.inl [J (fA r (deep+1) s).2]:List D⊕D)else .inr (.a1 [J (fA r (deep+1) s).1,J (fA r (deep+1) s).2])) (λi s=>0<=s/\s<=4096) ?_ ?_ n 0 (k+1) ⟨by omega,by omega⟩ (by have:=t.kc;omega) (xai _)
  .have bF:(J ((0:Nat):Int))=J 0:=rfl;rw[bF]at aq;rw[aq];simp only[xak,eH];by_cases au:(fA t.aT (deep+1) (k+1)).1=0;.simp[au]
   simp[au]
  .intro s aG;simp[Mh,fA]
  intro i a s aE ah aG;have hm:=xaa aE;have bD:=Tm.jk hm;have b6:=bm.len;have av:=ab6 n a (deep+1) s (by omega) (bm.gz hm) (by omega) (by omega) aG.1 aG.2;have jv:=CZ a (deep+1) s;simp[Mh,ah,Tm.gE aE,lS (bt:=false) (i:=deep) (by omega) (by omega),av,b1 (bt:=false) (i:=i) (by omega),fA];by_cases au:(dg a (deep+1) s).1=0
  .left;simp only[au];exact⟨(dg a (deep+1) s).2,by simp,by simp,by omega,jv.2 au⟩
  right;simp[au]
def To(n:Nat)(t:Tm)(aM:t.bo<n)(bm:t.cp):uW n [t.d]=some (J (dg t 1 0).1):=by have:=ab6 n t 1 0 aM bm (by omega) (by omega) (by omega) (by omega);simp[uW,aas,this]
def asd(n:Nat)(t:Tm)(deep k w:Int)(ab:0<=k)(af:k<=4096):∃e,e=(if deep>64 then 17 else if il t≠0 then il t else if k+1>4096 then 4 else 0)/\FJ n [t.d,J deep,J k,J w]=some [ay (decide (e=0)),J (k+1),J e]:=by refine⟨_,rfl,?_⟩;have aU:=asc n t;simp[FJ,lS (bt:=false) (i:=k) (by omega) (by omega),aU];by_cases bR:64<deep<;>by_cases bY:il t=0<;>by_cases ct:4096<k+1<;>simp[bR,bY,ct]
def ab7:∀(n:Nat)(t:Tm)(deep k w:Int),t.bo<n->t.cp->0<=deep->deep<=65->0<=k->k<=4096->uD n [t.d,J deep,J k,J w]=some [ay (decide ((dg t deep k).1=0)),J (dg t deep k).2,J (dg t deep k).1]
 |0,t,_,_,_,h,_,_,_,_,_=>absurd h (xay _)
 |n+1,t,deep,k,w,aM,bm,ab,af,aw,a4=>by
  obtain⟨e,he,aU⟩:=asd n t deep k w aw a4;rw[u3];simp[uD,Rt,aU];by_cases HX:e=0
  case neg=>simp[HX];grind
  have ao:¬deep>64/\il t=0/\¬k+1>4096:=by grind
  simp[HX,ao];have aq:=dG (f:=Lj (uD n) n) t.aT (λi (s:Int×Int)=>[J deep,cl 4 t.nl (Tm.rows t.aT),J t.aT.length,J (i:Int),J s.1,J s.2]) (λr (s:Int×Int)=>if(fA r (deep+1) s.1).1=0 then(Sum.inl [J (fA r (deep+1) s.1).2,J 0]:List D⊕List D)else .inr [ay false,J (fA r (deep+1) s.1).2,J (fA r (deep+1) s.1).1]) (λi s=>0<=s.1/\s.1<=4096/\s.2=0) ?_ ?_ n 0 (k+1,0) ⟨by simp;omega,by simp;omega,rfl⟩ (by have:=t.kc;omega) (xai _)
  .have bF:(J ((0:Nat):Int))=J 0:=rfl;rw[bF]at aq;rw[aq];simp only[xak,eH];by_cases au:(fA t.aT (deep+1) (k+1)).1=0;.simp[au]
   simp[au]
  .intro s aG;simp[Lj,fA,aG.2.2]
  intro i a s aE ah aG;have hm:=xaa aE;have bD:=Tm.jk hm;have b6:=bm.len;have av:=ab7 n a (deep+1) s.1 s.2 (by omega) (bm.gz hm) (by omega) (by omega) aG.1 aG.2.1;have jv:=CZ a (deep+1) s.1;simp[Lj,ah,Tm.gE aE,lS (bt:=false) (i:=deep) (by omega) (by omega),av,b1 (bt:=false) (i:=i) (by omega),fA];by_cases au:(dg a (deep+1) s.1).1=0
  .left;exact⟨(dg a (deep+1) s.1).2,0,by simp[au],by simp[au],by omega,jv.2 au,rfl⟩
  right;simp[au]
def MC(n:Nat)(t:Tm)(aM:t.bo<n)(bm:t.cp):sT n [t.d]=some (J (dg t 1 0).1):=by have:=ab7 n t 1 0 0 aM bm (by omega) (by omega) (by omega) (by omega);simp[sT,Zz,this]
def ase{α:Type}(A B:List α)(z s:α):(((A++B++[z]).take (A.length+1)++(((A++B++[z]).drop A.length).take (B.length+1)).take (min ((((A++B++[z]).drop A.length).take (B.length+1)).length) B.length)++(A++B++[z]).drop (A.length+1+min ((((A++B++[z]).drop A.length).take (B.length+1)).length) B.length)).set A.length s)=A++s::B:=by
 have aL:(A++B++[z]).drop A.length=B++[z]:=by rw[xaQ,List.drop_left]
 have aX:(B++[z]).take (B.length+1)=B++[z]:=xbJ (by simp);rw[aL,aX];have bL:min (B++[z]).length B.length=B.length:=by simp
 rw[bL];have cL:(B++[z]).take B.length=B:=List.take_left;have ea:(A++B++[z]).drop (A.length+1+B.length)=[]:=xcg (by simp;omega);rw[cL,ea,xaC];obtain⟨w,hw⟩:∃w,(A++B++[z]).take (A.length+1)=A++[w]:=by rw[xaQ,List.take_append];cases B with|nil=>exact⟨z,by rw[xbJ (by omega)];simp⟩|cons b B=>exact⟨b,by rw[xbJ (by omega)];simp⟩
 rw[hw,xaQ];simp
def ab8{n i:Nat}(h:i<=n):pe n (some (J (i:Int))) none=some (i,n-i):=by simp[pe,sA,J,h]
theorem asf(l:List ByteArray):ar (bA l)=l.map λs=>[aC s]:=rfl
def ab9(n:Nat)(s:ByteArray)(l:List ByteArray)(aG:iP l)(aM:l.length+2<n)(aq:l.length<1000000000):wD n [aC s,bA l]=some [bA (hK s l)]:=by
 obtain⟨a,b,rfl,af,aw,a4,b7,cO⟩:=Rf s aG;have es:=asf (a++b);have key:bp (FK n) n [aC s,J ((a++b).length:Int),bA (a++b)]=some (.inl [aC s,J (a.length:Int),bA (a++b)]):=by
  refine nj (λj=>[aC s,J (((a++b).length-j:Nat):Int),bA (a++b)]) b.length (by simp) ?_ ?_ (by simp at aM;omega)
  .intro j aN;have b6:(a++b).length=a.length+b.length:=by simp
   obtain⟨m,hm⟩:∃m:Nat,(a++b).length-j=m+1:=⟨(a++b).length-j-1,by omega⟩;have Tp:(a++b).length-(j+1)=m:=by omega
   have lI:(a++b)[m]?=b[m-a.length]?:=xaI (by omega);have cv:m-a.length<b.length:=by omega
   have asg:=xab cv;rw[asg]at lI;have aj:=aw _ (xaX cv);generalize b[m-a.length]=x at*;have oN:ai false .sub (J ((m+1:Nat):Int)) (J 1)=some (J (m:Int)):=by rw[mq (by omega) (by omega)];congr 2;omega
   have u4:cg (ar (bA (a++b))).length (J (m:Int))=some m:=by rw[oB,xad (by rw[es];simp at b6⊢;omega)]
   have e3:(ar (bA (a++b)))[m]?=some [aC x]:=by rw[es,xaj,lI];rfl
   have jv:((m+1:Nat):Int)>0:=by omega
   simp only[hm,Tp];simp only[FK,nS,pr,oC,xav jv,eH,ec,xaD,oN,u4,e3,iO,xbw,K6,aj,dS,lR];rfl
  have b6:(a++b).length-b.length=a.length:=by simp
  simp only[b6];by_cases au:a.length=0
  .have:¬((a.length:Int)>0):=by omega
   simp only[FK,nS,pr,oC,xaE this,eH,ec,xat,xaF,dS,lR,QY];rfl
  obtain⟨m,hm⟩:∃m:Nat,a.length=m+1:=⟨a.length-1,by omega⟩;have cv:m<a.length:=by omega
  have lI:(a++b)[m]?=a[m]?:=xaK cv;rw[xab cv]at lI;have aE:=af _ (xaX cv);generalize a[m]=x at*;have oN:ai false .sub (J ((m+1:Nat):Int)) (J 1)=some (J (m:Int)):=by rw[mq (by omega) (by simp at aq;omega)];congr 2;omega
  have u4:cg (ar (bA (a++b))).length (J (m:Int))=some m:=by rw[oB,xad (by rw[es];simp;omega)]
  have e3:(ar (bA (a++b)))[m]?=some [aC x]:=by rw[es,xaj,lI];rfl
  have jv:((m+1:Nat):Int)>0:=by omega
  simp only[hm];simp only[FK,nS,pr,oC,xav jv,eH,ec,xaD,oN,u4,e3,iO,xbw,K6,aE,dS,lR,xat,xaF,QY];rfl
 have nE:D.ax 1 (ar (bA (a++b)))=bA (a++b):=rfl;have aca:(ar (bA (a++b))).length=(a++b).length:=by rw[es];simp
 by_cases ht:s∈a++b
 .obtain⟨cB,rfl⟩:=a4 ht;rw[Re aG ht];have fv:(cB++[s]).length=cB.length+1:=by simp
  have oN:ai false .sub (J ((cB.length+1:Nat):Int)) (J 1)=some (J (cB.length:Int)):=by rw[mq (by omega) (by simp at aq;omega)];congr 2;omega
  have u4:cg ((cB++[s]++b).length) (J (cB.length:Int))=some cB.length:=by rw[oB,xad (by simp)]
  have e3:(ar (bA (cB++[s]++b)))[cB.length]?=some [aC s]:=by rw[es];simp
  have jv:((cB.length+1:Nat):Int)>0:=by omega
  rw[fv]at key;simp only[wD,nS,pr,aca,nE,key,eH,qd,oC,xav jv,ec,xaD,oN,u4,e3,iO,xbw,Q3,xbr,dS,lR]
 rw[cO ht];have E3:=b7 ht;have ash:aa (bM (ay (decide ((a.length:Int)>0))) true (aa (ai false .sub (J (a.length:Int)) (J 1)) λcq=>aa (cg (a++b).length cq) λsS=>aa ((ar (bA (a++b)))[sS]?) λyJ=>aa (a3 false 1 0 yJ) λdA=>aa (ai false .eql dA (aC s)) λv30=>some v30)) (λv30=>aa (bW (ay (decide ((a.length:Int)>0))) v30 (ay false)) λed=>some ed)=some (ay false):=by
  by_cases au:a.length=0
  .have:¬((a.length:Int)>0):=by omega
   simp only[xaE this,ec,xat,xaF,eH,dS]
  obtain⟨m,hm⟩:∃m:Nat,a.length=m+1:=⟨a.length-1,by omega⟩;have cv:m<a.length:=by omega
  have lI:(a++b)[m]?=a[m]?:=xaK cv;rw[xab cv]at lI;have cU:a[m]≠s:=λe=>E3 (by rw[<-e];exact xaX cv);generalize a[m]=x at*;have oN:ai false .sub (J ((m+1:Nat):Int)) (J 1)=some (J (m:Int)):=by rw[mq (by omega) (by simp at aq;omega)];congr 2;omega
  have u4:cg (a++b).length (J (m:Int))=some m:=by rw[oB,xad (by simp;omega)]
  have e3:(ar (bA (a++b)))[m]?=some [aC x]:=by rw[es,xaj,lI];rfl
  have jv:((m+1:Nat):Int)>0:=by omega
  rw[hm];simp only[xav jv,ec,xaD,oN,eH,u4,e3,iO,xbw,Q3,xaE cU,dS]
 obtain⟨v30,bw,bz⟩:=ft ash;obtain⟨ed,cz,eA⟩:=ft bz;cases eA;have dM:c5 ((a++b).length+1) 16=true:=gk (by omega) (by omega);have g4:=b1 (bt:=false) (i:=a.length) (by simp at aq;omega);have j6:ar (bA (a++b))++[[aC ⟨#[]⟩]]=(a.map λs=>[aC s])++(b.map λs=>[aC s])++[[aC ⟨#[]⟩]]:=by rw[es];simp
 have asi:((a.map λs=>[aC s])++(b.map λs=>[aC s])++[[aC ⟨#[]⟩]]:List (List D)).length=a.length+b.length+1:=by simp;omega
 have bR:pe (a.length+b.length+1) (some (J ((a.length+1:Nat):Int))) none=some (a.length+1,b.length):=by rw[ab8 (by omega)];congr 2;omega
 have bY:pe (a.length+b.length+1) (some (J (a.length:Int))) none=some (a.length,b.length+1):=by rw[ab8 (by omega)];congr 2;omega
 have KS:=ase (a.map λs=>[aC s]) (b.map λs=>[aC s]) [aC ⟨#[]⟩] [aC s];simp only[xaV]at KS;have OV:∀(X:List (List D)) (w:List D),X[a.length]?=some w->dE w 0 [aC s]=[aC s]->(X.set a.length (dE w 0 [aC s]))=X.set a.length [aC s]:=λX w _ h=>by rw[h]
 generalize kH:(((a.map λs=>[aC s])++(b.map λs=>[aC s])++[[aC ⟨#[]⟩]]:List (List D)).take (a.length+1)++((((a.map λs=>[aC s])++(b.map λs=>[aC s])++[[aC ⟨#[]⟩]]:List (List D)).drop a.length).take (b.length+1)).take (min (((((a.map λs=>[aC s])++(b.map λs=>[aC s])++[[aC ⟨#[]⟩]]:List (List D)).drop a.length).take (b.length+1)).length) b.length)++((a.map λs=>[aC s])++(b.map λs=>[aC s])++[[aC ⟨#[]⟩]]:List (List D)).drop (a.length+1+min (((((a.map λs=>[aC s])++(b.map λs=>[aC s])++[[aC ⟨#[]⟩]]:List (List D)).drop a.length).take (b.length+1)).length) b.length))=X at*;have azX:X.length=a.length+b.length+1:=by have:=congrArg List.length KS;simp at this;omega
 have u4:cg X.length (J (a.length:Int))=some a.length:=by rw[oB,xad (by omega)]
 have hw:∃x,X[a.length]?=some [x]:=by
  have hm:∀w∈X,∃x,w=[x]:=by
   rw[<-kH];intro w hw;have ht:w∈((a.map λs=>[aC s])++(b.map λs=>[aC s])++[[aC ⟨#[]⟩]]:List (List D)):=by
    rcases xas.1 hw with hw|hw
    .rcases xas.1 hw with hw|hw;.exact xbl hw
     exact xbp (xbl (xbl hw))
    exact xbp hw
   rcases xas.1 ht with ht|ht
   .rcases xas.1 ht with ht|ht;.obtain⟨x,_,rfl⟩:=xax.1 ht;exact⟨_,rfl⟩
    obtain⟨x,_,rfl⟩:=xax.1 ht;exact⟨_,rfl⟩
   simp at ht;exact⟨_,ht⟩
  have cv:a.length<X.length:=by omega
  obtain⟨x,ag⟩:=hm _ (xaX cv);exact⟨x,by rw[xab cv,ag]⟩
 obtain⟨x,ag⟩:=hw;have Tq:dE [x] 0 [aC s]=[aC s]:=rfl;have d1:decide (a.length+(b.length+1)<=a.length+b.length+1)=true:=xav (by omega);have d2:decide (a.length+1+b.length<=a.length+b.length+1)=true:=xav (by omega);have qO:bE (aC s)=true:=rfl;have nA:([[aC ⟨#[]⟩]]:List (List D)).length=1:=rfl;simp only[wD,nS,pr,aca,nE,key,eH,qd,oC];rw[bw];simp only[eH,cz,lR,xat,xaF,nA,dM,sI,g4,j6,asi,bR,bY,d1,d2,kH,u4,qO,ag,Tq,KS];simp[bA]
def gP(nl:Bool)(l:List ByteArray):D:=cl 1 nl (l.map λs=>[aC s])
def acb(l:List ByteArray):gP false l=bA l:=by simp[gP,bA,cl]
def acd{nl:Bool}{l:List ByteArray}(h:l≠[]):gP nl l=bA l:=by cases l with|nil=>exact absurd rfl h|cons a r=>simp[gP,bA,cl]
def kg(nl:Bool)(l:List ByteArray):bK (gP nl l)=some (J l.length):=by simp[gP]
def pG{nl:Bool}{l:List ByteArray}{i:Nat}{s:ByteArray}(h:l[i]?=some s):bn 1 (gP nl l) (J (i:Int))=some [aC s]:=by unfold gP;rw[E5];simp[h]
def asj(s:ByteArray)(l:List ByteArray):hK s l≠[]:=by cases l with|nil=>simp[hK]|cons a r=>rw[hK];split<;>(try split)<;>simp
def asl(n:Nat)(nl:Bool)(l:List ByteArray)(s:ByteArray)(aM:l.length<n)(aq:l.length<1000000000):Hd n [gP nl l,aC s]=some (ay (l.any λx=>decide (x=s))):=by
 have ah:=dG (f:=Hc n) l (λi (_:Unit)=>[gP nl l,aC s,J (i:Int)]) (λr _=>if r.any (λx=>decide (x=s))=true then(.inr (ay true):List D⊕D)else .inl []) (λ_ _=>True) (λ_ _=>by simp[Hc,kg]) ?_ n 0 () trivial (by omega) (xai _)
 .have bF:(J ((0:Nat):Int))=J 0:=rfl;rw[bF]at ah;simp only[xak]at ah;simp only[Hd,aan,ah,eH];by_cases h:l.any (λx=>decide (x=s))=true;.rw[xad h,h];rfl
  rw[xac h];cases bg:l.any (λx=>decide (x=s))with|false=>rfl|true=>exact absurd bg h
 intro i x _ ag ah _;by_cases h:x=s;.right;simp[Hc,kg,ah,pG ag,h]
 left;exact⟨(),by simp[Hc,kg,ah,pG ag,h,b1 (bt:=false) (i:=i) (by omega)],by simp only[List.any_cons,xaE h,xbN],trivial⟩
def wf(s:ByteArray):List ByteArray->Bool->List ByteArray->Bool×List ByteArray
 |[],d,o=>(d,o)|x::r,d,o=>if(!d&&blt s x)=true then wf s r true (o++[s,x])else wf s r d (o++[x])
def ace(s:ByteArray):∀(l o:List ByteArray),wf s l true o=(true,o++l)
 |[],o=>by simp[wf]|x::r,o=>by rw[wf];simp[ace s r]
def acf(s:ByteArray):∀(a b o:List ByteArray),(∀x∈a,blt s x=false)->wf s (a++b) false o=wf s b false (o++a)
 |[],b,o,_=>by simp|x::a,b,o,h=>by rw[xcf,wf];have:=h x (by simp);simp[this,acf s a b _ (λy aQ=>h y (by simp[aQ]))]
def asm(s:ByteArray):∀(b o:List ByteArray),(∀x∈b,blt s x=true)->wf s b false o=(match b with|[]=>(false,o)|_=>(true,o++s::b))
 |[],o,_=>rfl|x::r,o,h=>by rw[wf];have:=h x (by simp);simp[this,ace]
@[simp] theorem C0 (p:List ByteArray) (x:ByteArray):D.ax 1 (ar (bA p)++[[aC x]])=bA (p++[x]):=by simp[bA]
@[simp] theorem azY (p:List ByteArray):(ar (bA p)).length=p.length:=by simp[bA]
@[simp] theorem azZ (p:List ByteArray):D.ax 1 (ar (bA p))=bA p:=rfl
def asn(n:Nat)(nl:Bool)(l:List ByteArray)(s:ByteArray)(aG:iP l)(aM:l.length+2<n)(aq:l.length<1000000000):zt n [gP nl l,aC s]=some (bA (hK s l)):=by
 have ht:=asl n nl l s (by omega) aq;by_cases hm:s∈l;.have:l.any (λx=>decide (x=s))=true:=xbt.2 ⟨s,hm,by simp⟩;rw[this]at ht;rw[Re aG hm];simp only[zt,Me,ht,eH,lR,xaD];rw[acd (List.ne_nil_of_mem hm)]
 have E3:l.any (λx=>decide (x=s))=false:=by cases h:l.any (λx=>decide (x=s))with|false=>rfl|true=>obtain⟨x,ab,af⟩:=xbt.1 h;simp at af;subst af;exact absurd ab hm
 rw[E3]at ht;obtain⟨a,b,fG,af,aw,a4,b7,cO⟩:=Rf s aG;have hw:wf s l false []=wf s b false a:=by rw[fG,acf s a b _ af];simp
 have np:=dG (f:=Cs n) l (λi (p:Bool×List ByteArray)=>[gP nl l,aC s,ay p.1,J (i:Int),bA p.2]) (λr p=>(.inl [aC s,ay (wf s r p.1 p.2).1,bA (wf s r p.1 p.2).2]:List D⊕D)) (λi p=>p.2.length<=i+(if p.1=true then 1 else 0)) (λp _=>by simp[Cs,kg,wf]) ?_ n 0 (false,[]) (by simp) (by omega) (xai _)
 .have bF:(J ((0:Nat):Int))=J 0:=rfl;have aL:bA []= .ax 1 []:=rfl;rw[bF,aL]at np;simp only[xak,hw]at np;rw[cO hm];have JJ:a.length<=l.length:=by rw[fG];simp
  cases b with|nil=>simp only[wf]at np;have dM:c5 (a.length+1) 16=true:=gk (by omega) (by omega);simp[zt,Me,ht,np,dM]|cons c r=>have aj:=asm s (c::r) a aw;simp only at aj;rw[aj]at np;simp[zt,Me,ht,np]
 intro i x p ag ah aU;left;have aE:=b1 (bt:=false) (i:=i) (by omega);have oy:p.2.length<=i+1:=by split at aU<;>omega
 have eX:c5 (p.2.length+1) 16=true:=gk (by omega) (by omega);have ei:c5 (p.2.length+1+1) 16=true:=gk (by omega) (by omega);obtain⟨d,o⟩:=p;simp only at aU eX ei;cases d with
 |true=>
  refine⟨(true,o++[x]),?_,by rw[wf];simp,?_⟩;.simp[Cs,kg,ah,pG ag,eX,aE]
  simp at aU⊢;omega
 |false=>
  cases aj:blt s x
  .refine⟨(false,o++[x]),?_,by rw[wf];simp[aj],?_⟩;.simp[Cs,kg,ah,pG ag,eX,aE,K6,aj,-Q4]
   simp at aU⊢;omega
  refine⟨(true,o++[s]++[x]),?_,by rw[wf];simp[aj],?_⟩;.simp[Cs,kg,ah,pG ag,eX,ei,aE,K6,aj,-Q4]
  simp at aU⊢;omega
mutual
def dO(o:Int):Tm->List ByteArray->List ByteArray
 | .mk op _ s _ ks,l=>j0 o ks (if op=o then hK s l else l)
def j0(o:Int):List Tm->List ByteArray->List ByteArray
 |[],l=>l|t::r,l=>j0 o r (dO o t l)
end
theorem zX(o:Int)(t:Tm)(l:List ByteArray):dO o t l=j0 o t.aT (if t.op=o then hK t.name l else l):=by cases t;rw[dO];rfl
mutual
def pH(o:Int):∀(t:Tm)(l:List ByteArray),iP l->iP (dO o t l)/\(dO o t l).length<=l.length+t.bo
 | .mk op n s b ks,l,h=>by
  rw[dO];have ab:iP (if op=o then hK s l else l):=by split;exact E8 h;exact h
  have af:(if op=o then hK s l else l).length<=l.length+1:=by split;exact E9 l;omega
  have:=acg o ks _ ab;exact⟨this.1,by simp only[Tm.bo];omega⟩
def acg(o:Int):∀(ks:List Tm)(l:List ByteArray),iP l->iP (j0 o ks l)/\(j0 o ks l).length<=l.length+Tm.dN ks
 |[],l,h=>⟨h,by simp[j0,Tm.dN]⟩|t::r,l,h=>by rw[j0];have ab:=pH o t l h;have af:=acg o r _ ab.1;exact⟨af.1,by simp only[Tm.dN];omega⟩
end
theorem ach{l:List Tm}{i:Nat}{a:Tm}(h:l[i]?=some a):Tm.dN (l.drop i)=1+a.bo+Tm.dN (l.drop (i+1)):=by obtain⟨ab,af⟩:=xae.1 h;rw[xaZ ab,af];rfl
def aso(nl:Bool)(s:ByteArray)(l:List ByteArray):gP nl (hK s l)=bA (hK s l):=acd (asj s l)
def Tr(o:Int):∀(n:Nat)(t:Tm)(nl:Bool)(l:List ByteArray),t.bo+l.length+10<n->t.cp->iP l->l.length+t.bo<1000000000->rE n [t.d,J o,gP nl l]=some (gP nl (dO o t l))
 |0,t,_,_,h,_,_,_=>absurd h (xay _)
 |n+1,t,nl,l,aM,bm,aG,aj=>by
  have b6:=bm.len;have MD:=t.kc;show He (rE n) n t.d (J o) (gP nl l)=_;rw[zX];generalize kW:(if t.op=o then hK t.name l else l)=w4;have ab:iP w4:=by rw[<-kW];split;exact E8 aG;exact aG
  have af:w4.length<=l.length+1:=by rw[<-kW];split;exact E9 l;omega
  have asp:Tm.dN t.aT+2=t.bo:=by cases t;simp[Tm.bo,Tm.aT];omega
  have aq:=dG (f:=Mf (rE n) n) t.aT (λi (p:List ByteArray)=>[J o,gP nl p,J (i:Int),J t.op,J t.num,aC t.name,cl 4 t.nl (Tm.rows t.aT)]) (λr p=>(.inl [gP nl (j0 o r p)]:List D⊕D)) (λi p=>iP p/\p.length+Tm.dN (t.aT.drop i)<=w4.length+Tm.dN t.aT) (λp _=>by simp[Mf,j0]) ?_ n 0 w4 ⟨ab,by simp⟩ (by omega) (xai _)
  .have bF:(J ((0:Nat):Int))=J 0:=rfl;rw[bF]at aq;simp only[xak]at aq;by_cases aF:t.op=o;.rw[xad aF]at kW;have hw:=asn n nl l t.name aG (by omega) (by omega);rw[kW,<-kW,<-aso nl,kW]at hw;simp[He,aF,hw];rw[aF]at aq;rw[aq];rfl
   rw[xac aF]at kW;subst kW;simp[He,aF,aq]
  intro i a p aE ah aU;have hm:=xaa aE;have bD:=Tm.jk hm;have aB:=ach aE;have av:=Tr o n a nl p (by omega) (bm.gz hm) aU.1 (by omega);have asq:=pH o a p aU.1;left;refine⟨dO o a p,?_,by rw[j0],asq.1,by omega⟩;simp[Mf,ah,Tm.gE aE,av,b1 (bt:=false) (i:=i) (by omega)]
def ME(n:Nat)(t:Tm)(aM:t.bo+10<n)(bm:t.cp)(aj:t.bo<1000000000):rF n [t.d]=some (.a1 [gP true (dO 3 t []),gP true (dO 4 t [])]):=by have aw:=Tr 3 n t true [] (by simp;omega) bm trivial (by simp;omega);have a4:=Tr 4 n t true [] (by simp;omega) bm trivial (by simp;omega);have e:gP true []=eR:=rfl;rw[e]at aw a4;simp[rF,aao,aw,a4]
def asr(n:Nat)(t:Tm)(fx:D)(p q:List ByteArray)(aU:iP p)(bg:iP q)(aM:p.length+q.length+5<n)(aj:p.length+q.length<1000000000):yK n [t.d,fx,bA p,bA q]=some [ay true,bA (if t.op=3 then hK t.name p else p),bA (if t.op=4 then hK t.name q else q)]:=by
 have gg:=ab9 n t.name p aU (by omega) (by omega);have hN:=ab9 n t.name q bg (by omega) (by omega);by_cases aw:t.op=3
 .simp[yK,aw,gg]
 by_cases a4:t.op=4;.simp[yK,aw,a4,hN]
 simp[yK,aw,a4]
def Ts:∀(n:Nat)(t:Tm)(deep:Int)(p q:List ByteArray),t.bo+p.length+q.length+t.bo+20<n->t.cp->iP p->iP q->0<=deep->deep+t.bo<1000000000->p.length+q.length+t.bo+t.bo<1000000000->rq n [t.d,J deep,bA p,bA q]=some [ay true,bA (dO 3 t p),bA (dO 4 t q)]
 |0,t,_,_,_,h,_,_,_,_,_,_=>absurd h (xay _)
 |n+1,t,deep,p,q,aM,bm,aU,bg,az0,E1,aj=>by
  have b6:=bm.len;have MD:=t.kc;have asp:Tm.dN t.aT+2=t.bo:=by cases t;simp[Tm.bo,Tm.aT];omega
  have ab:=asr n t (J deep) p q aU bg (by omega) (by omega);rw[zX,zX];generalize aci:(if t.op=3 then hK t.name p else p)=C1 at*;generalize acj:(if t.op=4 then hK t.name q else q)=w5 at*;have dw:iP C1:=by rw[<-aci];split;exact E8 aU;exact aU
  have da:C1.length<=p.length+1:=by rw[<-aci];split;exact E9 p;omega
  have bw:iP w5:=by rw[<-acj];split;exact E8 bg;exact bg
  have bz:w5.length<=q.length+1:=by rw[<-acj];split;exact E9 q;omega
  have aq:=dG (f:=Lk (rq n) n) t.aT (λi (z:List ByteArray×List ByteArray)=>[J deep,cl 4 t.nl (Tm.rows t.aT),J t.aT.length,J (i:Int),bA z.1,bA z.2]) (λr z=>(.inl [bA (j0 3 r z.1),bA (j0 4 r z.2)]:List D⊕List D)) (λi z=>iP z.1/\iP z.2/\z.1.length+Tm.dN (t.aT.drop i)<=C1.length+Tm.dN t.aT/\z.2.length+Tm.dN (t.aT.drop i)<=w5.length+Tm.dN t.aT) (λz _=>by simp[Lk,j0]) ?_ n 0 (C1,w5) ⟨dw,bw,by simp,by simp⟩ (by omega) (xai _);.have bF:(J ((0:Nat):Int))=J 0:=rfl;rw[bF]at aq;simp only[xak]at aq;simp[rq,Ru,ab,aq]
  intro i a z aE ah bD;obtain⟨hT,o2,MF,MG⟩:=bD;have hm:=xaa aE;have az1:=Tm.jk hm;have aB:=ach aE;have av:=Ts n a (deep+1) z.1 z.2 (by omega) (bm.gz hm) hT o2 (by omega) (by omega) (by omega);have mg:=pH 3 a z.1 hT;have tW:=pH 4 a z.2 o2;left;refine⟨(dO 3 a z.1,dO 4 a z.2),?_,by simp[j0],mg.1,tW.1,by simp only;omega,by simp only;omega⟩;simp[Lk,ah,Tm.gE aE,av,lS (bt:=false) (i:=deep) (by omega) (by omega),b1 (bt:=false) (i:=i) (by omega)]
def MH(n:Nat)(t:Tm)(aM:t.bo+t.bo+30<n)(bm:t.cp)(aj:t.bo<100000000):rr n [t.d]=some (.a1 [bA (dO 3 t []),bA (dO 4 t [])]):=by have h:=Ts n t 1 [] [] (by simp;omega) bm trivial trivial (by omega) (by omega) (by simp;omega);have e:bA []= .ax 1 []:=rfl;have gL:∀l,bE (bA l)=true:=λ_=>rfl;rw[e]at h;simp[rr,ZA,h,gL]
mutual
def ek:Tm->Tm->Bool
 | .mk o n s _ ks,u=>decide (o=u.op)&&decide (n=u.num)&&decide (s=u.name)&&decide (ks.length=u.aT.length)&&jJ ks u.aT
def jJ:List Tm->List Tm->Bool
 |a::r,b::q=>ek a b&&jJ r q|[],_=>true|_::_,[]=>true
end
theorem u5(t u:Tm):ek t u=(decide (t.op=u.op)&&decide (t.num=u.num)&&decide (t.name=u.name)&&decide (t.aT.length=u.aT.length)&&jJ t.aT u.aT):=by cases t;rw[ek];rfl
def ack(t u:Tm):(t.op=u.op/\t.num=u.num/\t.name=u.name/\t.aT.length=u.aT.length)\/(ek t u=false/\¬(t.op=u.op/\t.num=u.num/\t.name=u.name/\t.aT.length=u.aT.length)):=by
 by_cases h:t.op=u.op/\t.num=u.num/\t.name=u.name/\t.aT.length=u.aT.length;.exact .inl h
 refine .inr ⟨?_,h⟩;rw[u5];by_cases ab:t.op=u.op
 .by_cases af:t.num=u.num
  .by_cases aw:t.name=u.name;.have a4:¬t.aT.length=u.aT.length:=λa4=>h ⟨ab,af,aw,a4⟩;simp[a4]
   simp[aw]
  simp[af]
 simp[ab]
def ti:List a8->Nat->List (Value×D)->List (Value×D)
 |[],_,M=>M|v::r,i,M=>ti r (i+1) (if(gA M v.name).isSome then M else(nh .string M (aC v.name) (J i)).getD [])
def Tt:∀(r:List a8)(i:Nat)(M:List (Value×D)),lu M->lu (ti r i M)/\∀x,gA (ti r i M) x=match gA M x with|some d=>some d|none=>(ds r x).map λj=>J ((i+j:Nat):Int)
 |[],i,M,h=>⟨h,λx=>by simp only[ti,ds,List.findIdx?_nil];cases gA M x<;>rfl⟩
 |v::r,i,M,h=>by
  rw[ti];have e:∀x,ds (v::r) x=if v.name=x then some 0 else(ds r x).map (·+1):=by intro x;simp[ds,xbU]
  by_cases aG:(gA M v.name).isSome
  .rw[xad aG];obtain⟨ab,af⟩:=Tt r (i+1) M h;refine⟨ab,λx=>?_⟩;rw[af x,e x];cases ag:gA M x with
   |some d=>rfl
   |none=>
    have cU:¬v.name=x:=by rintro rfl;simp[ag]at aG
    simp only[cU,xaF,Option.map_map]
    congr 1
    funext j
    simp only[Function.comp]
    congr 2
    omega
  rw[xac aG];obtain⟨cW,dw,da,eM,_⟩:=Bs h v.name (J i);rw[dw,xbc];obtain⟨ab,af⟩:=Tt r (i+1) cW da;refine⟨ab,λx=>?_⟩;rw[af x,eM x,e x];by_cases ag:x=v.name
  .subst ag;have aM:gA M v.name=none:=by simpa using aG
   simp[aM]
  have cU:¬v.name=x:=λh=>ag h.symm;simp only[ag,cU,xaF];cases cb:gA M x with
  |some d=>rfl
  |none=>
   simp only[Option.map_map]
   congr 1
   funext j
   simp only[Function.comp]
   congr 2
   omega
def MI(M:List (Value×D))(vs:List a8):Prop:=lu M/\∀x,gA M x=(ds vs x).map λ(j:Nat)=>J (j:Int)
def Tu(n:Nat)(vs:List a8)(aM:vs.length<n)(aq:vs.length<1000000000000):∃M,uE n [aP vs]=some (.mp M)/\MI M vs:=by
 have au:lu []:=by intro e he;cases he
 obtain⟨ab,af⟩:=Tt vs 0 [] au;refine⟨ti vs 0 [],?_,ab,λx=>by rw[af x];simp only[gA,xau]⟩;have ah:=dG (f:=FN n) vs (λi (M:List (Value×D))=>[aP vs,J vs.length,J (i:Int),.mp M]) (λr M=>(Sum.inl [.mp (ti r (vs.length-r.length) M)]:List D⊕D)) (λi M=>lu M) (λM _=>by simp[FN,ti]) ?_ n 0 [] au (by omega) (xai _)
 .have bF:(J ((0:Nat):Int))=J 0:=rfl;rw[bF]at ah;simp[uE,ZC,dT,ah]
 intro i a M aE ah eb;left;have e:vs.length-(a::vs.drop (i+1)).length=i:=by simp;omega
 have dp:vs.length-(vs.drop (i+1)).length=i+1:=by simp;omega
 have aw:=ys eb (z:= .int .i64 0) (x:=a.name);cases cb:gA M a.name with|some d=>rw[cb]at aw;refine⟨M,by simp[FN,ah,eZ aE,aw,b1 (bt:=false) (i:=i) (by omega)],?_,eb⟩;rw[e,ti,cb,dp];rfl|none=>rw[cb]at aw;obtain⟨cW,dw,da,eM,_⟩:=Bs eb a.name (J i);refine⟨cW,by simp[FN,ah,eZ aE,aw,dw,b1 (bt:=false) (i:=i) (by omega)],?_,da⟩;rw[e,ti,cb,dp];simp only[Option.isSome_none,xat,xaF,dw,xbc]
def acm(n:Nat)(vs:List a8)(x:ByteArray)(aM:vs.length<n)(aq:vs.length<1000000000000):wR n [aP vs,aC x]=some (J (match ds vs x with|some i=>(i:Int)|none=>-1)):=by
 have ah:=dG (f:=Hh n) vs (λi (_:Unit)=>[aP vs,aC x,J (i:Int)]) (λr _=>match ds r x with|some j=>(Sum.inr (J ((vs.length-r.length+j:Nat):Int)):List D⊕D)|none=> .inl []) (λ_ _=>True) (λ_ _=>by simp[Hh,dT,ds]) ?_ n 0 () trivial (by omega) (xai _);.have bF:(J ((0:Nat):Int))=J 0:=rfl;rw[bF]at ah;simp only[wR,aat,ah,xak,eH];cases ds vs x<;>simp
 intro i a _ aE ah _;have e:vs.length-(a::vs.drop (i+1)).length=i:=by simp;omega
 have dp:vs.length-(vs.drop (i+1)).length=i+1:=by simp;omega
 have nC:ds (a::vs.drop (i+1)) x=if a.name=x then some 0 else(ds (vs.drop (i+1)) x).map (·+1):=by simp[ds,xbU]
 have ae:a.cells[0]?=some (aC a.name):=rfl;by_cases ag:a.name=x;.right;rw[nC,xad ag,e];simp[Hh,dT,ah,eZ aE,ae,ag]
 left;refine⟨(),by simp[Hh,dT,ah,eZ aE,ae,ag,b1 (bt:=false) (i:=i) (by omega)],?_,trivial⟩;rw[nC,xac ag,e,dp];cases ds (vs.drop (i+1)) x with|none=>rfl|some j=>simp;omega
def dJ(l:List a8)(t:Tm):List Nat:=(dO 3 t []).filterMap (ds l)
def nq{l:List a8}{t:Tm}:∀k∈dJ l t,k<l.length:=by intro k ak;obtain⟨x,_,ag⟩:=List.mem_filterMap.1 ak;obtain⟨_,_,_,h⟩:=Ri ag;exact h
def C2(t:Tm):(dO 3 t []).length<=t.bo:=by have:=(pH 3 t [] trivial).2;simpa using this
def MJ(l:List a8)(t:Tm):(dJ l t).length<=t.bo:=xbV (List.length_filterMap_le _ _) (C2 t)
structure h5(B:Nat)(l:List a8):Prop where
 len:l.length<=B
 e:∀d∈l,d.e.cp/\d.e.bo<=B
 b:B<=1000000
def to(l:List a8)(i:Nat):List Nat:=match l[i]? with|some d=>dJ l d.e|none=>[]
def lz{l:List a8}(i:Nat):∀k∈to l i,k<l.length:=by
 unfold to;split;.exact nq
 intro k ak;cases ak
def C3{l:List a8}{i:Nat}{d:a8}(h:l[i]?=some d):to l i=dJ l d.e:=by simp[to,h]
def n0{l:List ByteArray}{i:Nat}{s:ByteArray}(h:l[i]?=some s):bn 1 (bA l) (J (i:Int))=some [aC s]:=by simp[bA,h]
def lX(l:List ByteArray):bK (bA l)=some (J l.length):=by simp[bA]
def ass(n:Nat)(l:List a8)(t:Tm){B:Nat}(aq:l.length<=B)(bm:t.cp)(aK:t.bo<=B)(gC:B<=1000000)(aM:2*B+100<n):Hj n [t.d,aP l]=some (c9 (dJ l t)):=by
 have cj:=ME n t (by omega) bm (by omega);have cU:=C2 t;have ah:=dG (f:=Hi n) (dO 3 t []) (λi (s:List Nat)=>[aP l,gP true (dO 3 t []),J (i:Int),c9 s]) (λr s=>(.inl [c9 (s++r.filterMap (ds l))]:List D⊕D)) (λi s=>s.length<=i) (λs _=>by simp[Hi,kg,c9]) ?_ n 0 [] (by simp) (by omega) (xai _)
 .have bF:(J ((0:Nat):Int))=J 0:=rfl;have aL:c9 []=D.ax 1 []:=rfl;have cN:∀x,D.ax 1 (ar (c9 x))=c9 x:=λ_=>rfl;rw[bF,aL]at ah;simp only[xak,xaH]at ah;simp only[Hj,aau,go_sem,cj,ah,cN];rfl
 intro i a s aE ah aG;have ag:=pG (nl:=true) aE;have iz:=acm n l a (by omega) (by omega);have cN:∀x,D.ax 1 (ar (c9 x))=c9 x:=λ_=>rfl;left;cases aB:ds l a with
 |none=>rw[aB]at iz;refine⟨s,?_,by simp[aB],by omega⟩;simp only[Hi,go_sem,kg,yT ((i:Int)<((dO 3 t []).length:Int)),ag,iO,iz,yF ((-1:Int)>=0),cN,b1 (bt:=false) (i:=i) (by omega)]
 |some k=>
  rw[aB]at iz;have dM:c5 (s.length+1) 8=true:=gk (by omega) (by omega);have aX:D.ax 1 (ar (c9 s)++[[J (k:Int)]])=c9 (s++[k]):=by simp[c9]
  have bL:(ar (c9 s)).length=s.length:=by simp[c9]
  refine⟨s++[k],?_,by simp[aB],by simp;omega⟩;simp only[Hi,go_sem,kg,yT ((i:Int)<((dO 3 t []).length:Int)),ag,iO,iz,yT ((k:Int)>=0),cN,aX,bL,xap,xar,xau,dM,b1 (bt:=false) (i:=i) (by omega)]
def acn(n:Nat)(l:List Nat)(k:Nat)(d:D)(aB:d=c9 l\/(l=[]/\d=eR))(aq:l.length<1000000000)(aM:l.length+5<n):wS n [d,J (k:Int)]=some (ay (decide (k∈l))):=by
 rcases aB with rfl|⟨rfl,rfl⟩
 case inr=>obtain⟨m,rfl⟩:∃m,n=m+1:=⟨n-1,by omega⟩;simp[wS,SE,jH,Cu]
 have ah:=dG (f:=Cu n) l (λi (_:Unit)=>[c9 l,J (k:Int),J (i:Int)]) (λr _=>if k∈r then(.inr (ay true):List D⊕D)else .inl []) (λi s=>True) (λs _=>by simp[Cu,pt]) ?_ n 0 () trivial (by omega) (xai _);.have bF:(J ((0:Nat):Int))=J 0:=rfl;rw[bF]at ah;simp only[xak]at ah;by_cases h:k∈l<;>simp only[h,xaD,xaF]at ah<;>simp[wS,SE,ah,h]
 intro i a s aE ah _;have ag:=uz aE;by_cases aco:a=k
 .right;subst aco;simp[Cu,pt,ah,ag]
 left;have ast:¬((a:Int)=(k:Int)):=by omega
 have asu:¬k=a:=λh=>aco h.symm;refine⟨(),by simp[Cu,pt,ah,ag,ast,b1 (bt:=false) (i:=i) (by omega)],by simp[asu],trivial⟩
def asv(n:Nat)(l:List a8){B:Nat}(aq:h5 B l)(aM:4*B+200<n):FP n [aP l]=some (hW (l.map λd=>dJ l d.e)):=by
 have b6:=aq.len;have tj:=aq.b;obtain⟨M,gD,kx,u6⟩:=Tu n l (by omega) (by omega);have cN:∀x,D.ax 1 (ar (c9 x))=c9 x:=λ_=>rfl;have MK:∀x,D.ax 1 (ar (hW x))=hW x:=λ_=>rfl;have ah:=dG (f:=Lm n) l (λi (s:List (List Nat))=>[.mp M,aP l,J l.length,J (i:Int),hW s]) (λr s=>(.inl [hW (s++r.map λd=>dJ l d.e)]:List D⊕D)) (λi s=>s.length=i) (λs _=>by simp[Lm,hW]) ?_ n 0 [] rfl (by omega) (xai _)
 .have bF:(J ((0:Nat):Int))=J 0:=rfl;have aL:hW []=D.ax 1 []:=rfl;rw[bF,aL]at ah;simp only[xak,xaH]at ah;simp only[FP,ZD,go_sem,gD,dT,ah,MK]
 intro i a acc aE ah asw;have hm:=xaa aE;have asx:=aq.e a hm;have cj:=MH n a.e (by omega) asx.1 (by omega);have cU:=C2 a.e;have aN:=dG (f:=FO n) (dO 3 a.e []) (λj (s:List Nat)=>[.mp M,aP l,J l.length,J (i:Int),bA (dO 3 a.e []),J (dO 3 a.e []).length,J (j:Int),hW acc,c9 s]) (λr s=>(.inl [.mp M,aP l,J l.length,J (i:Int),hW acc,c9 (s++r.filterMap (ds l))]:List D⊕(List D⊕(List D⊕(List D⊕D))))) (λj s=>s.length<=j) (λs _=>by simp[FO,c9,hW]) ?_ n 0 [] (by simp) (by omega) (xai _)
 .have bF:(J ((0:Nat):Int))=J 0:=rfl;have aL:c9 []=D.ax 1 []:=rfl;rw[bF,aL]at aN;simp only[xak,xaH]at aN;have dM:c5 (acc.length+1) 24=true:=gk (by omega) (by omega);have aX:D.ax 1 (ar (hW acc)++[[c9 (dJ l a.e)]])=hW (acc++[dJ l a.e]):=by simp[hW]
  have bL:(ar (hW acc)).length=acc.length:=by simp[hW]
  have cL:(dO 3 a.e []).filterMap (ds l)=dJ l a.e:=rfl;have gL:∀x,bE (c9 x)=true:=λ_=>rfl;rw[cL]at aN;left;refine⟨acc++[dJ l a.e],?_,by simp,by simp[asw]⟩;simp only[Lm,go_sem,yT ((i:Int)<(l.length:Int)),eZ aE,a8.yv,a8.agg,a8.bR,a8.bY,a8.ct,a8.de,Tm.E7,cj,lX,MK,aN,cN,gL,aX,bL,xap,xar,xau,dM,b1 (bt:=false) (i:=i) (by omega)]
 intro j b s aj aN aG;have ag:=n0 aj;have hC:=ys kx (z:= .int .i64 0) (x:=b);have acp:=u6 b;left;cases aB:ds l b with
 |none=>rw[acp,aB]at hC;simp only[xbn]at hC;refine⟨s,?_,by simp[aB],by omega⟩;simp only[FO,go_sem,yT ((j:Int)<((dO 3 a.e []).length:Int)),ag,iO,lp,hC,cN,MK,b1 (bt:=false) (i:=j) (by omega)]
 |some k=>
  rw[acp,aB]at hC;simp only[xaO]at hC;have dM:c5 (s.length+1) 8=true:=gk (by omega) (by omega);have aX:D.ax 1 (ar (c9 s)++[[J (k:Int)]])=c9 (s++[k]):=by simp[c9]
  have bL:(ar (c9 s)).length=s.length:=by simp[c9]
  refine⟨s++[k],?_,by simp[aB],by simp;omega⟩;simp only[FO,go_sem,yT ((j:Int)<((dO 3 a.e []).length:Int)),ag,iO,lp,hC,cN,MK,aX,bL,xap,xar,xau,dM,b1 (bt:=false) (i:=j) (by omega)]
def hO(to:Nat->List Nat):Nat->List Nat->List Nat->List Nat
 |0,_,S=>S|n+1,ks,S=>ks.foldl (λS k=>if k∈S then S else hO to n (to k) (S++[k])) S
inductive kh(to:Nat->List Nat):Nat->Nat->Prop where
 |refl (i:Nat):kh to i i
 |step (i j k:Nat) (h:j∈to i) (bx:kh to j k):kh to i k
def kh.trans{to:Nat->List Nat}{i j k:Nat}(h:kh to i j)(bx:kh to j k):kh to i k:=by induction h with|refl=>exact bx|step a b c fG _ ih=>exact .step a b _ fG (ih bx)
def iR(N:Nat)(S:List Nat):Prop:=S.Nodup/\∀x∈S,x<N
def acq:∀(N:Nat)(S:List Nat),S.Nodup->(∀x∈S,x<N)->S.length<=N
 |0,S,_,h=>by cases S with|nil=>simp|cons a r=>exact absurd (h a (by simp)) (xay _)
 |N+1,S,aM,h=>by
  have ab:=acq N (S.erase N) (aM.erase N) (λx ag=>by
   have af:=h x (List.mem_of_mem_erase ag);have aw:x≠N:=by rintro rfl;exact aM.not_mem_erase ag
   omega)
  have a4:=List.length_erase (a:=N) (l:=S);split at a4<;>omega
def iR.len{N:Nat}{S:List Nat}(h:iR N S):S.length<=N:=acq N S h.1 h.2
def iR.lt{N k:Nat}{S:List Nat}(h:iR N S)(ak:k<N)(aM:k∉S):S.length<N:=by have af:iR N (S++[k]):=⟨by rw[List.nodup_append];exact⟨h.1,by simp,by intro a aE b aj;simp at aj;subst aj;rintro rfl;exact aM aE⟩,by intro x ag;rcases xas.1 ag with ag|ag;exact h.2 x ag;simp at ag;omega⟩;have:=af.len;simp at this;omega
def iR.snoc{N k:Nat}{S:List Nat}(h:iR N S)(ak:k<N)(aM:k∉S):iR N (S++[k]):=⟨by rw[List.nodup_append];exact⟨h.1,by simp,by intro a aE b aj;simp at aj;subst aj;rintro rfl;exact aM aE⟩,by intro x ag;rcases xas.1 ag with ag|ag;exact h.2 x ag;simp at ag;omega⟩
structure acr(to:Nat->List Nat)(N:Nat)(ks S R:List Nat):Prop where
 inv:iR N R
 pre:∃T,R=S++T
 mem:∀k∈ks,k∈R
 u7:∀x∈R,x∉S->∀y∈to x,y∈R
 rN:∀x∈R,x∈S\/∃k∈ks,kh to k x
def C4{to:Nat->List Nat}{N:Nat}(kU:∀i,∀k∈to i,k<N):∀(n:Nat)(ks S:List Nat),iR N S->(∀k∈ks,k<N)->N-S.length<n->acr to N ks S (hO to n ks S)
 |0,_,_,_,_,h=>absurd h (xay _)
 |n+1,ks,S,dR,eJ,aM=>by
  rw[hO]
  induction ks generalizing S with
  |nil=>exact⟨dR,⟨[],by simp⟩,by simp,λx ag aM=>absurd ag aM,λx ag=> .inl ag⟩
  |cons k r ih=>
   rw[xbx];by_cases ak:k∈S
   .rw[xad ak];have h:=ih S dR (λx ag=>eJ x (by simp[ag])) aM;obtain⟨T,bf⟩:=h.pre;refine⟨h.inv,h.pre,?_,h.u7,λx ag=>?_⟩
    .intro x ag;rcases xao.1 ag with rfl|ag
     .rw[bf];simp[ak]
     exact h.mem x ag
    rcases h.rN x ag with ab|⟨j,ab,af⟩;.exact .inl ab
    exact .inr ⟨j,by simp[ab],af⟩
   rw[xac ak];have oO:=eJ k (by simp);have cv:=dR.lt oO ak;have au:=C4 kU n (to k) (S++[k]) (dR.snoc oO ak) (kU k) (by simp;omega);obtain⟨fK,C5⟩:=au.pre;have h:=ih (hO to n (to k) (S++[k])) au.inv (λx ag=>eJ x (by simp[ag])) (by rw[C5];simp;omega);obtain⟨T,bf⟩:=h.pre;have asy:k∈hO to n (to k) (S++[k]):=by rw[C5];simp
   refine⟨h.inv,⟨[k]++fK++T,by rw[bf,C5];simp⟩,?_,?_,?_⟩
   .intro x ag;rcases xao.1 ag with rfl|ag
    .rw[bf];exact xbP _ asy
    exact h.mem x ag
   .intro x ag Tv y aQ;by_cases ML:x∈hO to n (to k) (S++[k])
    .by_cases MM:x∈S++[k]
     .have asz:x=k:=by
       rcases xas.1 MM with h|h;.exact absurd h Tv
       simpa using h
      subst asz;rw[bf];exact xbP _ (au.mem y aQ)
     rw[bf];exact xbP _ (au.u7 x ML MM y aQ)
    exact h.u7 x ag ML y aQ
   intro x ag;rcases h.rN x ag with ab|⟨j,ab,af⟩
   .rcases au.rN x ab with aw|⟨j,aw,a4⟩
    .rcases xas.1 aw with aw|aw;.exact .inl aw
     simp at aw;subst aw;exact .inr ⟨x,by simp,.refl x⟩
    exact .inr ⟨k,by simp,.step k j x aw a4⟩
   exact .inr ⟨j,by simp[ab],af⟩
def Tw{to:Nat->List Nat}{N:Nat}(kU:∀i,∀k∈to i,k<N):∀(n m:Nat)(ks S:List Nat),iR N S->(∀k∈ks,k<N)->N-S.length<n->N-S.length<m->hO to n ks S=hO to m ks S
 |0,_,_,_,_,_,h,_=>absurd h (xay _)|_+1,0,_,_,_,_,_,h=>absurd h (xay _)
 |n+1,m+1,ks,S,dR,eJ,aM,hm=>by
  rw[hO,hO]
  induction ks generalizing S with
  |nil=>rfl
  |cons k r ih=>
   rw[xbx,xbx];by_cases ak:k∈S;.rw[xad ak,xad ak];exact ih S dR (λx ag=>eJ x (by simp[ag])) aM hm
   rw[xac ak,xac ak];have oO:=eJ k (by simp);have cv:=dR.lt oO ak;have e:=Tw kU n m (to k) (S++[k]) (dR.snoc oO ak) (kU k) (by simp;omega) (by simp;omega);have au:=C4 kU n (to k) (S++[k]) (dR.snoc oO ak) (kU k) (by simp;omega);obtain⟨fK,C5⟩:=au.pre;rw[<-e];exact ih _ au.inv (λx ag=>eJ x (by simp[ag])) (by rw[C5];simp;omega) (by rw[C5];simp;omega)
def k0(l:List a8)(ks:List Nat):List Nat:=hO (to l) (l.length+1) ks []
def w6(l:List a8)(ks:List Nat)(ak:∀k∈ks,k<l.length):acr (to l) l.length ks [] (k0 l ks):=C4 (λi k ak=>lz i k ak) _ ks [] ⟨by simp,by simp⟩ ak (by simp)
def u9(l:List a8)(ks:List Nat)(ak:∀k∈ks,k<l.length)(x:Nat):x∈k0 l ks↔∃k∈ks,kh (to l) k x:=by
 have h:=w6 l ks ak;constructor
 .intro ag;rcases h.rN x ag with ab|ab
  .cases ab
  exact ab
 rintro⟨k,fQ,av⟩;have g8:∀a b,kh (to l) a b->a∈k0 l ks->b∈k0 l ks:=by
  intro a b fG
  induction fG with|refl=>exact λh=>h|step i j k gK _ ih=>exact λah=>ih (h.u7 i ah (by simp) j gK)
 exact g8 k x av (h.mem k fQ)
def jo(l:List a8)(i:Nat):Bool:=decide (i∈k0 l (to l i))
def Tx(l:List a8)(i:Nat):jo l i=true↔∃k∈to l i,kh (to l) k i:=by unfold jo;rw[xaG,u9 l _ (lz i)]
def acs{to:Nat->List Nat}:∀(n:Nat)(ks S:List Nat),∃T,hO to n ks S=S++T
 |0,ks,S=>⟨[],by simp[hO]⟩
 |n+1,ks,S=>by
  rw[hO]
  induction ks generalizing S with
  |nil=>exact⟨[],by simp⟩
  |cons k r ih=>
   rw[xbx];split;.exact ih S
   obtain⟨fK,au⟩:=acs n (to k) (S++[k]);obtain⟨T,bf⟩:=ih (hO to n (to k) (S++[k]));exact⟨[k]++fK++T,by rw[bf,au];simp⟩
def k1(S:List Nat)(d:D)(s:List Nat):D:=if s.length=S.length then d else c9 s
def Ty(l:List a8){B:Nat}(aq:h5 B l):∀(n:Nat)(t:Tm)(S:List Nat)(d:D),d=c9 S\/(S=[]/\d=eR)->t.cp->t.bo<=B->iR l.length S->l.length-S.length+4*B+300<n->qo n [t.d,aP l,d]=some (k1 S d (hO (to l) n (dJ l t) S))
 |0,_,_,_,_,_,_,_,h=>absurd h (xay _)
 |n+1,t,S,d,aB,bm,aK,dR,aM=>by
  have b6:=aq.len;have tj:=aq.b;have HY:=MJ l t;have asA:=ass n l t b6 bm aK tj (by omega);have asB:∀T,k1 S d (S++T)=c9 (S++T)\/(S++T=[]/\k1 S d (S++T)=eR):=by
   intro T;unfold k1;split
   .rename_i h;have:T=[]:=by simpa using h
    subst this;rcases aB with rfl|⟨rfl,rfl⟩
    .left;simp
    right;simp
   exact .inl rfl
  have bF:(J ((0:Nat):Int))=J 0:=rfl;have asC:k1 S d S=d:=by simp[k1]
  rw[hO];have du:=dG (f:=Hk (qo n) n) (dJ l t) (λi (s:List Nat)=>[aP l,k1 S d s,c9 (dJ l t),J (i:Int)]) (λr s=>(.inl [k1 S d (r.foldl (λS k=>if k∈S then S else hO (to l) n (to l k) (S++[k])) s)]:List D⊕D)) (λi s=>iR l.length s/\∃T,s=S++T) (λs _=>by simp[Hk,pt]) ?_ n 0 S ⟨dR,[],by simp⟩ (by omega) (xai _)
  .rw[bF,asC]at du;simp only[xak]at du;show Mi (qo n) n t.d (aP l) d=_;simp only[Mi,go_sem,asA,du]
  rintro i k s ak ah ⟨ab,T,bf⟩;have EM:=xaa ak;have oO:=nq k EM;obtain⟨MN,Ay⟩:∃MN,l[k]?=some MN:=⟨l[k],xab oO⟩;have h6:=aq.e MN (xaa Ay);have gn:=ab.len;have aw:=asB T;rw[<-bf]at aw;have az2:S.length<=s.length:=by rw[bf];simp
  have MO:=acn n s k (k1 S d s) aw (by omega) (by omega);left;by_cases eJ:k∈s
  .refine⟨s,?_,?_,ab,T,bf⟩;.simp only[Hk,go_sem,pt,yT ((i:Int)<((dJ l t).length:Int)),uz ak,iO,MO,xav eJ,b1 (bt:=false) (i:=i) (by omega)]
   simp only[xbx,xad eJ]
  have cv:=ab.lt oO eJ;have HZ:=ab.snoc oO eJ;have aW:=Ty l aq n MN.e (s++[k]) (c9 (s++[k])) (.inl rfl) h6.1 h6.2 HZ (by simp;omega);have lq:=C4 (λi k ak=>lz i k ak) n (to l k) (s++[k]) HZ (λx ag=>lz k x ag) (by simp;omega);rw[<-C3 Ay]at aW;obtain⟨Tz,H0⟩:=acs (to:=to l) n (to l k) (s++[k]);have a2:k1 (s++[k]) (c9 (s++[k])) (hO (to l) n (to l k) (s++[k]))=c9 (hO (to l) n (to l k) (s++[k])):=by
   unfold k1;split
   .rename_i h;rw[H0]at h⊢;have:Tz=[]:=by simpa using h
    subst this;simp
   rfl
  have bc:k1 S d (hO (to l) n (to l k) (s++[k]))=c9 (hO (to l) n (to l k) (s++[k])):=by unfold k1;rw[xac];rw[H0,bf];simp<;>omega
  rw[a2]at aW;obtain⟨q,bw,bz⟩:∃q,kS (k1 S d s)=some (q,s.map λ(i:Nat)=>[J (i:Int)])/\(decide (q=1\/(s.map λ(i:Nat)=>[J (i:Int)])=[])&&decide (0<1))=true:=by
   rcases aw with aw|⟨aw,a4⟩;.rw[aw];exact⟨1,rfl,by simp⟩
   rw[a4,aw];exact⟨0,rfl,by simp⟩
  have asD:c5 (s.map λ(i:Nat)=>[J (i:Int)]).length 8=true:=gk (by simp;omega) (by simp;omega);have H2:c5 ((s.map λ(i:Nat)=>[J (i:Int)]).length+1) 8=true:=gk (by simp;omega) (by simp;omega);have aX:D.ax 1 ((s.map λ(i:Nat)=>[J (i:Int)])++[[J (k:Int)]])=c9 (s++[k]):=by simp[c9]
  refine⟨hO (to l) n (to l k) (s++[k]),?_,?_,lq.inv,T++[k]++Tz,?_⟩;.rw[bc];simp only[Hk,go_sem,pt,yT ((i:Int)<((dJ l t).length:Int)),uz ak,iO,MO,xaE eJ,eZ Ay,a8.ho,bw,bz,xar,asD,xaH,xap,xau,H2,aX,aW,b1 (bt:=false) (i:=i) (by omega)]
  .simp only[xbx,xac eJ]
  rw[H0,bf];simp
def asE(l:List a8){B:Nat}(aq:h5 B l)(n:Nat)(i:Nat)(ah:i<l.length)(aM:6*B+400<n):Hm n [aP l,J (i:Int)]=some (ay (jo l i)):=by
 have b6:=aq.len;have tj:=aq.b;obtain⟨d,aB⟩:∃d,l[i]?=some d:=⟨l[i],xab ah⟩;have h6:=aq.e d (xaa aB);have aj:=Ty l aq n d.e [] eR (.inr ⟨rfl,rfl⟩) h6.1 h6.2 ⟨by simp,by simp⟩ (by simp;omega);have bd:=Tw (λi k ak=>lz (l:=l) i k ak) n (l.length+1) (dJ l d.e) [] ⟨by simp,by simp⟩ nq (by simp;omega) (by simp);have lq:=w6 l (dJ l d.e) nq;have g8:=lq.inv.len;rw[bd]at aj;have ao:hO (to l) (l.length+1) (dJ l d.e) []=k0 l (dJ l d.e):=rfl;rw[ao]at aj;have MO:=acn n (k0 l (dJ l d.e)) i (k1 [] eR (k0 l (dJ l d.e))) (by
  unfold k1;split;.rename_i h;exact .inr ⟨xaJ h,rfl⟩
  exact .inl rfl) (by omega) (by omega)
 simp only[Hm,aav,go_sem,eZ aB,a8.ho,aj,MO,jo,C3 aB]
def TA(l:List a8){B:Nat}(aq:h5 B l):∀(n:Nat)(i:Nat)(S:List Nat)(M:List (Value×D)),i<l.length->jI M S->iR l.length S->l.length-S.length+2*B+100<n-> ∃cW,ru n [J (i:Int),hW (l.map λd=>dJ l d.e),.mp M]=some [D.a1 [],hW (l.map λd=>dJ l d.e),.mp cW]/\jI cW (hO (to l) n (to l i) S)
 |0,_,_,_,_,_,_,h=>absurd h (xay _)
 |n+1,i,S,M,ah,eb,dR,aM=>by
  have b6:=aq.len;have tj:=aq.b;obtain⟨d,aB⟩:∃d,l[i]?=some d:=⟨l[i],xab ah⟩;have h6:=aq.e d (xaa aB);have HY:=MJ l d.e;have ag:bn 1 (hW (l.map λd=>dJ l d.e)) (J (i:Int))=some [c9 (dJ l d.e)]:=alu (by simp[aB]);have bF:(J ((0:Nat):Int))=J 0:=rfl;rw[C3 aB,hO];have key:∀(m j:Nat)(s:List Nat)(M:List (Value×D)),jI M s->iR l.length s->S.length<=s.length->(dJ l d.e).length-j<m->j<=(dJ l d.e).length-> ∃cW,bp (FQ (ru n) n) m [c9 (dJ l d.e),J (dJ l d.e).length,J (j:Int),hW (l.map λd=>dJ l d.e),.mp M]=some (.inl [hW (l.map λd=>dJ l d.e),.mp cW])/\jI cW (((dJ l d.e).drop j).foldl (λS k=>if k∈S then S else hO (to l) n (to l k) (S++[k])) s):=by
   intro m
   induction m with
   |zero=>intro j s M _ _ _ h _;exact absurd h (xay _)
   |succ m ih=>
    intro j s M eb aG Tq hm aN;rw[jH];by_cases cM:j<(dJ l d.e).length
    .have ak:=xab cM;generalize (dJ l d.e)[j]=k at ak;have EM:=xaa ak;have oO:=nq k EM;have pI:(dJ l d.e).drop j=k::(dJ l d.e).drop (j+1):=by
      obtain⟨bw,bz⟩:=xae.1 ak;rw[xaZ bw,bz]
     rw[pI,xbx];have MP:=eb.look (i:=k) (z:= .bool false);by_cases eJ:k∈s
     .rw[xad eJ];obtain⟨cW,aW,a2⟩:=ih (j+1) s M eb aG Tq (by omega) cM;refine⟨cW,?_,a2⟩;simp only[FQ,go_sem,yT ((j:Int)<((dJ l d.e).length:Int)),uz ak,iO,MP,xav eJ,b1 (bt:=false) (i:=j) (by omega),aW]
     rw[xac eJ];obtain⟨vb,dw,da⟩:=eb.put k;rw[xac eJ]at da;have HZ:=aG.snoc oO eJ;have cv:=aG.lt oO eJ;obtain⟨M2,eX,ei⟩:=TA l aq n k (s++[k]) vb oO da HZ (by simp;omega);have lq:=C4 (λi k ak=>lz i k ak) n (to l k) (s++[k]) HZ (λx ag=>lz k x ag) (by simp;omega);obtain⟨Tz,H0⟩:=lq.pre;obtain⟨cW,aW,a2⟩:=ih (j+1) _ M2 ei lq.inv (by rw[H0];simp;omega) (by omega) cM;refine⟨cW,?_,a2⟩;simp only[FQ,go_sem,yT ((j:Int)<((dJ l d.e).length:Int)),uz ak,iO,MP,xaE eJ,dw,eX,b1 (bt:=false) (i:=j) (by omega),aW]
    have:j=(dJ l d.e).length:=by omega
    subst this;refine⟨M,?_,by simpa using eb⟩;simp only[FQ,go_sem,yF (((dJ l d.e).length:Int)<(dJ l d.e).length)]
  obtain⟨cW,aW,a2⟩:=key n 0 S M eb dR (xal _) (by omega) (xai _);rw[bF]at aW;refine⟨cW,?_,by simpa using a2⟩;show Ln (ru n) n _=_;simp only[Ln,go_sem,ag,iO,pt,aW]
inductive w7(o:Int)(x:ByteArray):Tm->Prop where
 |here (t:Tm) (h:t.op=o) (bx:t.name=x):w7 o x t
 |gz (t k:Tm) (h:k∈t.aT) (bx:w7 o x k):w7 o x t
def MQ{s x:ByteArray}:∀{l:List ByteArray},x∈hK s l↔x=s\/x∈l
 |[]=>by simp[hK]
 |a::r=>by
  rw[hK];split;.rename_i h;subst h;simp
  split;.simp
  rw[xao,MQ,xao];constructor
  .rintro(h|h|h);.exact .inr (.inl h)
   .exact .inl h
   exact .inr (.inr h)
  rintro(h|h|h);.exact .inr (.inl h)
  .exact .inl h
  exact .inr (.inr h)
def acu(o:Int)(x:ByteArray)(t:Tm):∀l,x∈dO o t l↔x∈l\/w7 o x t:=by
 refine Tm.ind (P:=λt=>∀l,x∈dO o t l↔x∈l\/w7 o x t) ?_ t;intro t ih l;have key:∀(ks:List Tm),(∀k∈ks,∀l,x∈dO o k l↔x∈l\/w7 o x k)->∀l,x∈j0 o ks l↔x∈l\/∃k∈ks,w7 o x k:=by
  intro ks
  induction ks with
  |nil=>intro _ l;simp[j0]
  |cons a r lW=>intro h l;rw[j0,lW (λk ak=>h k (by simp[ak])),h a (by simp)];simp only[xao,exists_eq_or_imp,or_assoc]
 rw[zX,key t.aT ih];constructor
 .rintro(h|⟨k,ak,h⟩)
  .split at h
   .rename_i aF;rcases MQ.1 h with rfl|h
    .exact .inr (.here t aF rfl)
    exact .inl h
   exact .inl h
  exact .inr (.gz t k ak h)
 rintro(h|h)
 .left;split;.exact MQ.2 (.inr h)
  exact h
 cases h with|here _ ab af=>left;rw[xad ab];exact MQ.2 (.inl af.symm)|gz _ k ak h=>exact .inr ⟨k,ak,h⟩
def MR{l:List a8}{t:Tm}{i:Nat}:i∈dJ l t↔∃x,w7 3 x t/\ds l x=some i:=by
 unfold dJ;rw[List.mem_filterMap];constructor;.rintro⟨x,ab,af⟩;exact⟨x,((acu 3 x t []).1 ab).resolve_left (by simp),af⟩
 rintro⟨x,ab,af⟩;exact⟨x,(acu 3 x t []).2 (.inr ab),af⟩
def TB{l:List a8}{t k:Tm}(ak:k∈t.aT):∀i∈dJ l k,i∈dJ l t:=by intro i ah;obtain⟨x,ab,af⟩:=MR.1 ah;exact MR.2 ⟨x,.gz t k ak ab,af⟩
def w8(l:List a8)(t:Tm):Bool:=t.op==3&&(ds l t.name).isSome
def kI(l:List a8):Nat->Tm->Tm->Prop
 |0,_,_=>False|h+1,t,X=>(t.op=3/\∃i d,ds l t.name=some i/\l[i]?=some d/\kI l h d.e X)\/(w8 l t=false/\∃ks,X= .mk t.op t.num t.name t.nl ks/\ks.length=t.aT.length/\∀(j:Nat)(a b:Tm),t.aT[j]?=some a->ks[j]?=some b->kI l h a b)
def kI.mono{l:List a8}:∀{h bx:Nat}{t X:Tm},h<=bx->kI l h t X->kI l bx t X
 |0,_,_,_,_,H=>H.elim|h+1,0,_,_,hle,_=>absurd hle (by omega)
 |h+1,bx+1,t,X,hle,H=>by
  rcases H with⟨ab,i,d,af,aw,a4⟩|⟨ab,ks,af,aw,a4⟩;.exact .inl ⟨ab,i,d,af,aw,a4.mono (by omega)⟩
  exact .inr ⟨ab,ks,af,aw,λj a b aE aj=>(a4 j a b aE aj).mono (by omega)⟩
def acv:∀{A B:List Nat},A.Nodup->(∀x∈A,x∈B)->A.length<=B.length
 |[],B,_,_=>by simp
 |a::A,B,aM,h=>by
  have aE:=h a (by simp);have ab:=acv (A:=A) (B:=B.erase a) (List.nodup_cons.1 aM).2 (λx ag=>by
   have cU:x≠a:=by rintro rfl;exact(List.nodup_cons.1 aM).1 ag
   exact(List.mem_erase_of_ne cU).2 (h x (by simp[ag])))
  have af:=List.length_erase_of_mem aE;have aw:0<B.length:=List.length_pos_of_mem aE;simp;omega
def zY(l:List a8)(i:Nat):Nat:=(k0 l (to l i)).length
def asF{l:List a8}{i j:Nat}(aN:j∈to l i)(av:jo l j=false):zY l j<zY l i:=by
 have ah:=w6 l (to l i) (lz i);have asG:=w6 l (to l j) (lz j);have asH:j∉k0 l (to l j):=by
  intro h;have:jo l j=true:=by simp[jo,h]
  rw[av]at this;cases this
 have oN:∀x∈k0 l (to l j)++[j],x∈k0 l (to l i):=by
  intro x ag;rcases xas.1 ag with ag|ag
  .obtain⟨k,ab,af⟩:=(u9 l _ (lz j) x).1 ag;exact(u9 l _ (lz i) x).2 ⟨j,aN,.step j k x ab af⟩
  simp at ag;subst ag;exact ah.mem _ aN
 have:=acv (A:=k0 l (to l j)++[j]) (B:=k0 l (to l i)) (by rw[List.nodup_append];exact⟨asG.inv.1,by simp,by intro a aE b aj;simp at aj;subst aj;rintro rfl;exact asH aE⟩) oN;simp at this;unfold zY;omega
def C6(l:List a8)(t:Tm):Prop:=∀x∈k0 l (dJ l t),jo l x=false
def TC{α:Type}{P:Nat->Tm->α->Prop}:∀(ks:List Tm),(∀(j:Nat)(a:Tm),ks[j]?=some a->∃b,P j a b)->∃r:List α,r.length=ks.length/\∀(j:Nat)(a:Tm)(b:α),ks[j]?=some a->r[j]?=some b->P j a b
 |[],_=>⟨[],rfl,by intro j a b h;simp at h⟩
 |k::r,h=>by obtain⟨b,aj⟩:=h 0 k rfl;obtain⟨j7,ab,af⟩:=TC (P:=λj=>P (j+1)) r (λj a aE=>h (j+1) a (by simpa using aE));refine⟨b::j7,by simp[ab],?_⟩;intro j a c aE ao;cases j with|zero=>simp at aE ao;subst aE;subst ao;exact aj|succ j=>exact af j a c (by simpa using aE) (by simpa using ao)
def asI{l:List a8}{B:Nat}(aq:h5 B l):∀(r:Nat)(t:Tm),t.bo<=B->C6 l t->(∀k∈dJ l t,zY l k<r)->∃X,kI l (r*(B+1)+t.bo) t X:=by
 intro r
 induction r with
 |zero=>
  intro t;refine Tm.ind (P:=λt=>t.bo<=B->C6 l t->(∀k∈dJ l t,zY l k<0)->∃X,kI l (0*(B+1)+t.bo) t X) ?_ t;intro t ih aK C7 ak;have ie:dJ l t=[]:=by cases h:dJ l t with|nil=>rfl|cons a q=>exact absurd (ak a (by rw[h];simp)) (xay _)
  have kP:w8 l t=false:=by cases h:w8 l t with|false=>rfl|true=>simp only[w8,xam,xbq,Option.isSome_iff_exists]at h;obtain⟨ab,i,af⟩:=h;have:i∈dJ l t:=MR.2 ⟨_,.here t ab rfl,af⟩;rw[ie]at this;cases this
  obtain⟨ks,ab,af⟩:=TC (P:=λj a b=>kI l (t.bo-1) a b) t.aT (λj a aE=>by
   have hm:=xaa aE;have bD:=Tm.jk hm;have acw:dJ l a=[]:=by cases h:dJ l a with|nil=>rfl|cons b q=>have:=TB hm b (by rw[h];simp);rw[ie]at this;cases this
   obtain⟨X,kH⟩:=ih a hm (by omega) (λx ag=>by rw[acw]at ag;simp[k0,hO]at ag) (by rw[acw];simp);exact⟨X,kH.mono (by omega)⟩)
  have bD:=t.kc;refine⟨.mk t.op t.num t.name t.nl ks,?_⟩;have e:0*(B+1)+t.bo=(t.bo-1)+1:=by omega
  rw[e];exact .inr ⟨kP,ks,rfl,ab,af⟩
 |succ r lW=>
  intro t;refine Tm.ind (P:=λt=>t.bo<=B->C6 l t->(∀k∈dJ l t,zY l k<r+1)->∃X,kI l ((r+1)*(B+1)+t.bo) t X) ?_ t;intro t ih aK C7 ak;have bD:=t.kc;have e:(r+1)*(B+1)+t.bo=((r+1)*(B+1)+(t.bo-1))+1:=by omega
  cases aM:w8 l t with
  |true=>
   simp only[w8,xam,xbq,Option.isSome_iff_exists]at aM;obtain⟨ab,i,af⟩:=aM;obtain⟨d,aw,a4,b7⟩:=Ri af;have ah:i∈dJ l t:=MR.2 ⟨_,.here t ab rfl,af⟩;have kU:=C3 aw;have asJ:=aq.e d (xaa aw);have g8:=w6 l (dJ l t) nq;obtain⟨X,kH⟩:=lW d.e asJ.2 (λx ag=>C7 x (by
    obtain⟨k,bw,bz⟩:=(u9 l _ nq x).1 ag;rw[<-kU]at bw;exact(u9 l _ nq x).2 ⟨i,ah,.step i k x bw bz⟩)) (λk dj=>by
    rw[<-kU]at dj;have qX:k∈k0 l (dJ l t):=(u9 l _ nq k).2 ⟨i,ah,.step i k k dj (.refl k)⟩;have:=asF dj (C7 k qX);have:=ak i ah;omega)
   refine⟨X,?_⟩;rw[e];exact .inl ⟨ab,i,d,af,aw,kH.mono (by have:(r+1)*(B+1)=r*(B+1)+(B+1):=Nat.succ_mul _ _;omega)⟩
  |false=>
   obtain⟨ks,ab,af⟩:=TC (P:=λj a b=>kI l ((r+1)*(B+1)+(t.bo-1)) a b) t.aT (λj a aE=>by
    have hm:=xaa aE;have az3:=Tm.jk hm;obtain⟨X,kH⟩:=ih a hm (by omega) (λx ag=>C7 x (by obtain⟨k,bw,bz⟩:=(u9 l _ nq x).1 ag;exact(u9 l _ nq x).2 ⟨k,TB hm k bw,bz⟩)) (λk dj=>ak k (TB hm k dj))
    exact⟨X,kH.mono (by omega)⟩)
   refine⟨.mk t.op t.num t.name t.nl ks,?_⟩;rw[e];exact .inr ⟨aM,ks,rfl,ab,af⟩
def asK(l:List a8)(i:Nat):zY l i<=l.length:=(w6 l (to l i) (lz i)).inv.len
def asL{l:List a8}{B:Nat}(aq:h5 B l){t:Tm}(aK:t.bo<=B)(h:C6 l t):∃X,kI l ((l.length+1)*(B+1)+B) t X:=by obtain⟨X,kH⟩:=asI aq (l.length+1) t aK h (λk _=>by have:=asK l k;omega);exact⟨X,kH.mono (by omega)⟩
mutual
def eS:Tm->Int->Int->Tm×Int
 | .mk o m s b ks,deep,n=>if ks.isEmpty then(.mk o m s b ks,n+1)else(.mk o m s false (gp ks deep (n+1)).1,(gp ks deep (n+1)).2)
def gp:List Tm->Int->Int->List Tm×Int
 |[],_,n=>([],n)|k::r,deep,n=>if deep<=64/\n<=4096 then((eS k (deep+1) n).1::(gp r deep (eS k (deep+1) n).2).1,(gp r deep (eS k (deep+1) n).2).2)else(fK::(gp r deep n).1,(gp r deep n).2)
end
mutual
def gG:Tm->Tm
 | .mk o m s b ks=> .mk o m s false (n1 ks)
def n1:List Tm->List Tm
 |[]=>[]|k::r=>gG k::n1 r
end
def acx:∀l:List Tm,(n1 l).length=l.length
 |[]=>rfl|k::r=>by simp[n1,acx r]
def MS:∀(l:List Tm)(d n:Int),(gp l d n).1.length=l.length
 |[],_,_=>rfl|k::r,d,n=>by rw[gp];split<;>simp[MS r]
def asM(o m:Int)(s:ByteArray)(n:Nat):Int:=if(hf o).1<0 then 11
 else if(m<(if o=1 then-255 else 0))\/m>(if o=1 then 255 else if o=2 then 1 else 0)then 2
 else if(if CY o then s=⟨#[]⟩\/s.size>24 else s≠⟨#[]⟩)then 12
 else if(n:Int)<(hf o).1\/(n:Int)>(hf o).2 then 3 else 0
theorem acy(o m:Int)(s:ByteArray)(b:Bool)(ks:List Tm):il (.mk o m s b ks)=asM o m s ks.length:=rfl
def acz{o m:Int}{s:ByteArray}{b b':Bool}{ks ks':List Tm}(h:ks.length=ks'.length):il (.mk o m s b ks)=il (.mk o m s b' ks'):=by rw[acy,acy,h]
mutual
def TD:∀(X:Tm)(deep n:Int),n<=4096->(dg (eS X deep n).1 deep n).1=(dg X deep n).1/\((dg X deep n).1=0->(dg X deep n).2=(eS X deep n).2/\(dg (eS X deep n).1 deep n).2=(eS X deep n).2/\ek (eS X deep n).1 (gG X)=true)
 | .mk o m s b ks,deep,n,aM=>by
  rw[eS];cases ks with
  |nil=>
   simp only[List.isEmpty_nil,xaD,true_and];intro h;rw[dg]at h⊢;split at h;.cases h
   split at h;.rename_i af;exact absurd h af
   split at h;.cases h
   rename_i ab af aw;rw[xac ab,xac af,xac aw];simp[fA,gG,n1,u5,Tm.op,Tm.num,Tm.name,Tm.aT,jJ]
  |cons k r=>
   simp only[List.isEmpty_cons,xat,xaF];rw[dg,dg,acz (b':=b) (ks':=k::r) (MS (k::r) deep (n+1))];by_cases ab:deep>64;.rw[xad ab,xad ab];simp
   rw[xac ab,xac ab];by_cases af:il (.mk o m s b (k::r))≠0;.rw[xad af,xad af];exact⟨rfl,λh=>absurd h af⟩
   rw[xac af,xac af];by_cases aw:n+1>4096;.rw[xad aw,xad aw];simp
   rw[xac aw,xac aw];obtain⟨aW,a2⟩:=acA (k::r) deep (n+1) (by omega) (by omega);refine⟨aW,λh=>?_⟩;obtain⟨bw,bz,cz⟩:=a2 h;refine⟨bw,bz,?_⟩;rw[u5];simp only[gG,Tm.op,Tm.num,Tm.name,Tm.aT,cz,MS,acx];simp
def acA:∀(ks:List Tm)(deep n:Int),deep<=64->n<=4096->(fA (gp ks deep n).1 (deep+1) n).1=(fA ks (deep+1) n).1/\((fA ks (deep+1) n).1=0->(fA ks (deep+1) n).2=(gp ks deep n).2/\(fA (gp ks deep n).1 (deep+1) n).2=(gp ks deep n).2/\jJ (gp ks deep n).1 (n1 ks)=true)
 |[],deep,n,_,_=>by simp[gp,fA,n1,jJ]
 |k::r,deep,n,aB,aM=>by
  rw[gp,xad ⟨aB,aM⟩,fA,fA];obtain⟨aW,a2⟩:=TD k (deep+1) n aM;have aU:=CZ k (deep+1) n;by_cases h:(dg k (deep+1) n).1=0
  .obtain⟨bw,bz,cz⟩:=a2 h;have bx:=aW.trans h;simp only[h,bx,ne_eq,xbD,xaF,bw,bz];have hle:(eS k (deep+1) n).2<=4096:=by rw[<-bw];exact aU.2 h
   obtain⟨dw,da⟩:=acA r deep (eS k (deep+1) n).2 aB hle;refine⟨dw,λh=>?_⟩;obtain⟨s1,s2,gM⟩:=da h;exact⟨s1,s2,by rw[n1,jJ,cz,gM];rfl⟩
  have bx:(dg (eS k (deep+1) n).1 (deep+1) n).1≠0:=by rw[aW];exact h
  simp only[ne_eq,h,bx,xca,xaD];exact⟨aW,λbJ=>bJ.elim⟩
end
def Tm.acB(l:List Tm)(t:Tm):Tm.rows (l++[t])=Tm.rows l++[t.cells]:=by simp[Tm.mr]
def asN(o m:Int)(s:ByteArray)(b:Bool)(ks:List Tm):gG (.mk o m s b ks)= .mk o m s false (n1 ks):=by rw[gG]
def MT{α β:Type}{a:List α}{b:List β}{i:Nat}{x:α×β}(h:(a.zip b)[i]?=some x):a[i]?=some x.1/\b[i]?=some x.2:=by rw[List.getElem?_zip_eq_some]at h;exact h
def TE{α β:Type}{a:List α}{b:List β}(h:b.length=a.length):(a.zip b).map (·.2)=b:=List.map_snd_zip (by omega)
def TF{l:List a8}{B:Nat}(aq:h5 B l):∀(h n:Nat)(t X:Tm)(deep k:Int),kI l h t X->t.cp->t.bo<=B->1<=deep->deep<=65->0<=k->k<=4096->h+2*B+100<n->rI n [t.d,aP l,J deep,J k]=some (.a1 [if(dg X deep k).1=0 then(gG X).d else fK.d,J (dg X deep k).2,J (dg X deep k).1])
 |0,_,_,_,_,_,H,_,_,_,_,_,_,_=>H.elim|h+1,0,_,_,_,_,_,_,_,_,_,_,_,aM=>absurd aM (xay _)
 |h+1,n+1,t,X,deep,k,H,bm,aK,ab,af,aw,a4,aM=>by
  have b6:=aq.len;have tj:=aq.b;have iz:=acm n l t.name (by omega) (by omega);have aU:=ab5 n t deep;have hzero:D.agg [J 0,J 0,aC ⟨#[]⟩,D.val (.slice none 0 0)]=fK.d:=K9.symm;rcases H with⟨aF,i,d,ah,aB,kH⟩|⟨ie,ks,rfl,eJ,zZ⟩
  .have h6:=aq.e d (xaa aB);have av:=TF aq h n d.e X deep k kH h6.1 h6.2 ab af aw a4 (by omega);simp only[ah]at iz;show rH (rI n) n t.d (aP l) (J deep) (J k)=_;have C8:((3:Int)==3)=true:=rfl;by_cases au:(dg X deep k).1=0
   .simp only[au,xaD]at av⊢;simp only[rH,go_sem,aF,C8,iz,yT ((i:Int)>=0),eZ aB,a8.ho,av]
   simp only[au,xaF]at av⊢;simp only[rH,go_sem,aF,C8,iz,yT ((i:Int)>=0),eZ aB,a8.ho,av]
  have hw:il (.mk t.op t.num t.name t.nl ks)=il t:=by have:=acz (o:=t.op) (m:=t.num) (s:=t.name) (b:=t.nl) (b':=t.nl) eJ;rw[this];cases t;rfl
  have H3:(t.op==3)=false/\True\/(t.op==3)=true/\wR n [aP l,aC t.name]=some (J (-1)):=by
   by_cases aw:t.op=3
   .right;have TG:ds l t.name=none:=by simpa[w8,aw]using ie
    rw[TG]at iz;exact⟨by simp[aw],iz⟩
   left;simp[aw]
  have H4:decide ((-1:Int)>=0)=false:=by decide
  show rH (rI n) n t.d (aP l) (J deep) (J k)=_;rw[u3,hw];by_cases bR:64<deep
  .have rO:((17:Int) !=0)=true:=rfl;rcases H3 with⟨aG,oP⟩|⟨aG,oP⟩<;>
   simp only[rH,go_sem,aG,oP,H4,lS (bt:=false) (i:=k) (by omega) (by omega),aU,gt_iff_lt,bR,hzero,rO,show¬((17:Int)=0) by omega]
  by_cases bY:il t=0
  case neg=>
   have rO:(il t !=0)=true:=by simpa using bY
   rcases H3 with⟨aG,oP⟩|⟨aG,oP⟩<;>
   simp only[rH,go_sem,aG,oP,H4,lS (bt:=false) (i:=k) (by omega) (by omega),aU,gt_iff_lt,bR,hzero,rO,bY,ne_eq,xca]
  have pJ:((0:Int) !=0)=false:=rfl;by_cases ct:4096<k+1
  .rcases H3 with⟨aG,oP⟩|⟨aG,oP⟩<;>
   simp only[rH,go_sem,aG,oP,H4,lS (bt:=false) (i:=k) (by omega) (by omega),aU,gt_iff_lt,bR,hzero,bY,pJ,ne_eq,xbD,xbr,ct,show¬((4:Int)=0) by omega]
  have du:=dG (f:=Hn (rI n) n) (t.aT.zip ks) (λi (s:Int×List Tm)=>[aP l,J deep,J s.1,J (i:Int),J t.op,J t.num,aC t.name,cl 4 t.nl (Tm.rows t.aT),J 0,J 0,aC ⟨#[]⟩,eR,.ax 4 (Tm.rows s.2)]) (λr (s:Int×List Tm)=>if(fA (r.map (·.2)) (deep+1) s.1).1=0 then(Sum.inl [J (fA (r.map (·.2)) (deep+1) s.1).2,J t.op,J t.num,aC t.name,cl 4 t.nl (Tm.rows t.aT),J 0,J 0,aC ⟨#[]⟩,eR,.ax 4 (Tm.rows (s.2++n1 (r.map (·.2))))]:List D⊕D)else .inr (.a1 [fK.d,J (fA (r.map (·.2)) (deep+1) s.1).2,J (fA (r.map (·.2)) (deep+1) s.1).1])) (λi s=>0<=s.1/\s.1<=4096/\s.2.length=i) ?_ ?_ n 0 (k+1,[]) ⟨by simp;omega,by simp;omega,rfl⟩ (by have:=t.kc;simp[eJ];omega) (xai _)
  .have bF:(J ((0:Nat):Int))=J 0:=rfl;have nc:Tm.rows []=[]:=rfl;simp only[xak,TE eJ,bF,nc,xaH]at du;have oc:(Tm.mk t.op t.num t.name t.nl ks).aT=ks:=rfl;have mb:(gG (.mk t.op t.num t.name t.nl ks)).d=D.agg [J t.op,J t.num,aC t.name,.ax 4 (Tm.rows (n1 ks))]:=by rw[asN,Tm.jX];simp[cl,Tm.op,Tm.num,Tm.name,Tm.nl,Tm.aT]
   by_cases au:(fA ks (deep+1) (k+1)).1=0
   .simp only[au,xaD]at du;rcases H3 with⟨aG,oP⟩|⟨aG,oP⟩<;>
    simp only[rH,go_sem,aG,oP,H4,lS (bt:=false) (i:=k) (by omega) (by omega),aU,gt_iff_lt,bR,hzero,bY,pJ,ne_eq,xbD,xbG,ct,du,oc,au,mb]
   simp only[au,xaF]at du;rcases H3 with⟨aG,oP⟩|⟨aG,oP⟩<;>
   simp only[rH,go_sem,aG,oP,H4,lS (bt:=false) (i:=k) (by omega) (by omega),aU,gt_iff_lt,bR,hzero,bY,pJ,ne_eq,xbD,xbG,ct,du,oc,au]
  .intro s _;have e:((t.aT.zip ks).length:Int)=t.aT.length:=by simp[eJ]
   simp only[Hn,go_sem,e,yF ((t.aT.length:Int)<t.aT.length),xbj,fA,n1,xaC]
  rintro i ⟨a,b⟩ s fG ah ⟨bw,bz,cz⟩;obtain⟨aE,aj⟩:=MT fG;simp only at aE aj;have hm:=xaa aE;have bD:=Tm.jk hm;have b6:=bm.len;have ch:(i:Int)<t.aT.length:=by have:=(xae.1 aE).1;omega
  have av:=TF aq h n a b (deep+1) s.1 (zZ i a b aE aj) (bm.gz hm) (by omega) (by omega) (by omega) bw bz (by omega);have jv:=CZ b (deep+1) s.1;have dM:c5 (s.2.length+1) 56=true:=gk (by omega) (by omega);by_cases au:(dg b (deep+1) s.1).1=0
  .simp only[au,xaD]at av;left;refine⟨((dg b (deep+1) s.1).2,s.2++[gG b]),?_,?_,by simp;omega,by simpa using jv.2 au,by simp[cz]⟩;.have bL:[J (gG b).op,J (gG b).num,aC (gG b).name,cl 4 (gG b).nl (Tm.rows (gG b).aT)]=(gG b).cells:=((gG b).nm).symm;simp only[Hn,go_sem,xav ch,Tm.gE aE,lS (bt:=false) (i:=deep) (by omega) (by omega),av,pJ,bL,Tm.acB,xap,xar,xau,dM,b1 (bt:=false) (i:=i) (by omega)]
   simp only[xaB,fA,au,ne_eq,xbD,xaF,n1,xaQ,xbi]
  simp only[au,xaF]at av;have rO:((dg b (deep+1) s.1).1 !=0)=true:=by simpa using au
  right;simp only[Hn,go_sem,xav ch,Tm.gE aE,lS (bt:=false) (i:=deep) (by omega) (by omega),av,rO,hzero,xaB,fA,ne_eq,au,xca]
theorem TH(t:Tm)(deep n:Int):eS t deep n=if t.aT.isEmpty then(t,n+1)else(.mk t.op t.num t.name false (gp t.aT deep (n+1)).1,(gp t.aT deep (n+1)).2):=by cases t;rw[eS];rfl
def acC(t:Tm):∀(deep n:Int),n+1<=(eS t deep n).2/\(n<=4096->(eS t deep n).2<=4097):=by
 refine Tm.ind (P:=λt=>∀(deep n:Int),n+1<=(eS t deep n).2/\(n<=4096->(eS t deep n).2<=4097)) ?_ t;intro t ih deep n;have key:∀(ks:List Tm),(∀k∈ks,∀(deep n:Int),n+1<=(eS k deep n).2/\(n<=4096->(eS k deep n).2<=4097))->∀(n:Int),n<=(gp ks deep n).2/\(n<=4097->(gp ks deep n).2<=4097):=by
  intro ks
  induction ks with
  |nil=>intro _ n;simp[gp]
  |cons a r lW=>
   intro h n;have ab:=h a (by simp) (deep+1) n;rw[gp];split
   .have af:=lW (λk ak=>h k (by simp[ak])) (eS a (deep+1) n).2;simp only;constructor;.omega
    intro _;exact af.2 (by omega)
   exact lW (λk ak=>h k (by simp[ak])) n
 rw[TH];split;.simp only[Int.le_refl,true_and];omega
 have:=key t.aT ih (n+1);simp only;constructor;.omega
 intro _;exact this.2 (by omega)
def acD{l:List a8}{B:Nat}(aq:h5 B l){M:List (Value×D)}(eb:MI M l)(r:List D->Option (List D))(fU:Nat)(deep vc:Int):∀(h n:Nat)(t X:Tm),kI l h t X->t.cp->t.bo<=B->h<n-> ∃(t':Tm)(bx:Nat)(ks:List Tm),bx<h/\t'.cp/\t'.bo<=B/\X= .mk t'.op t'.num t'.name t'.nl ks/\ks.length=t'.aT.length/\(∀(j:Nat)(a b:Tm),t'.aT[j]?=some a->ks[j]?=some b->kI l bx a b)/\bp (FU r fU) n [J deep,.mp M,aP l,J vc,J t.op,J t.num,aC t.name,cl 4 t.nl (Tm.rows t.aT),J 0,J 0,aC ⟨#[]⟩,eR]=some (.inl [J deep,J vc,J t'.op,J t'.num,aC t'.name,cl 4 t'.nl (Tm.rows t'.aT),J 0,J 0,aC ⟨#[]⟩,eR,.mp M,aP l])
 |0,_,_,_,H,_,_,_=>H.elim|h+1,0,_,_,_,_,_,aM=>absurd aM (xay _)
 |h+1,n+1,t,X,H,bm,aK,aM=>by
  have hC:=ys eb.1 (z:= .int .i64 0) (x:=t.name);rw[eb.2]at hC;rcases H with⟨aF,i,d,ah,aB,kH⟩|⟨ie,ks,rfl,eJ,zZ⟩
  .have h6:=aq.e d (xaa aB);have C8:((3:Int)==3)=true:=rfl;rw[ah]at hC;simp only[xaO]at hC;obtain⟨t',bx,ks,aW,a2,bc,cV,iA,MU,q8⟩:=acD aq eb r fU deep vc h n d.e X kH h6.1 h6.2 (by omega);refine⟨t',bx,ks,by omega,a2,bc,cV,iA,MU,?_⟩;rw[jH,<-q8];simp only[FU,go_sem,aF,C8,lp,hC,eZ aB,a8.ho]
  refine⟨t,h,ks,by omega,bm,aK,rfl,eJ,zZ,?_⟩;rw[jH];by_cases aw:t.op=3
  .have TG:ds l t.name=none:=by simpa[w8,aw]using ie
   have C8:((3:Int)==3)=true:=rfl;rw[TG]at hC;simp only[xbn]at hC;simp only[FU,go_sem,aw,C8,lp,hC]
  have aG:(t.op==3)=false:=by simp[aw]
  simp only[FU,go_sem,aG]
def acE{s:List Tm}{x:Tm}{i k:Nat}(ah:s.length=i)(ak:i<k):(Tm.rows (s++List.replicate (k-i) fK)).set i x.cells=Tm.rows ((s++[x])++List.replicate (k-(i+1)) fK):=by
 obtain⟨m,rfl⟩:∃m,k=i+1+m:=⟨k-(i+1),by omega⟩;have aL:i+1+m-i=m+1:=by omega
 have aX:i+1+m-(i+1)=m:=by omega
 subst ah;rw[aL,aX];simp[Tm.mr,List.replicate_succ]
def asO{s:List Tm}{i k:Nat}(ah:s.length=i)(ak:i<k):(Tm.rows (s++List.replicate (k-i) fK))[i]?=some fK.cells:=by
 obtain⟨m,rfl⟩:∃m,k=i+1+m:=⟨k-(i+1),by omega⟩;have aL:i+1+m-i=m+1:=by omega
 subst ah;rw[aL];simp[Tm.mr,List.replicate_succ]
def asP{t:Nat}(h:t<=1000000):q1 56 (J (t:Int)) (J (t:Int))=some t:=by simp only[q1,J];rw[xad ⟨by omega,by omega,by omega,by omega⟩];simp
def acF{l:List a8}{B:Nat}(aq:h5 B l){M:List (Value×D)}(eb:MI M l):∀(n h:Nat)(t X:Tm)(deep k:Int),kI l h t X->t.cp->t.bo<=B->1<=deep->deep<=65->0<=k->k<=4096->h+2*B+100<n->sU n [t.d,J deep,.mp M,aP l,J k]=some [(eS X deep k).1.d,.mp M,aP l,J (eS X deep k).2]
 |0,_,_,_,_,_,_,_,_,_,_,_,_,aM=>absurd aM (xay _)
 |n+1,h,t0,X,deep,k,H,asQ,asR,ab,af,aw,a4,aM=>by
  have b6:=aq.len;have tj:=aq.b;obtain⟨t,bx,ks,aW,bm,aK,rfl,eJ,zZ,q8⟩:=acD aq eb (sU n) n deep k h n t0 X H asQ asR (by omega);have oc:(Tm.mk t.op t.num t.name t.nl ks).aT=ks:=rfl;have acG:∀(b:Bool)(r:List Tm),(Tm.mk t.op t.num t.name b r).d=D.agg [J t.op,J t.num,aC t.name,cl 4 b (Tm.rows r)]:=λb r=>by rw[Tm.jX];rfl
  have ou:=t.kc;have bF:(J ((0:Nat):Int))=J 0:=rfl;show FV (sU n) n _=_;rw[TH,oc];cases dj:t.aT with
  |nil=>
   have asS:ks=[]:=by rw[dj]at eJ;exact xaJ eJ
   subst asS;rw[dj]at q8;have pJ:((((Tm.rows []).length:Nat):Int)==0)=true:=rfl;simp only[FV,go_sem,q8,lS (bt:=false) (i:=k) (by omega) (by omega),List.isEmpty_nil,acG];simp
  |cons ae jA=>
   have cU:¬ks.isEmpty=true:=by cases ks with|nil=>rw[dj]at eJ;simp at eJ|cons _ _=>simp
   have asT:((t.aT.length:Int)==0)=false:=by rw[dj];simp;omega
   rw[xac cU];show _=some [(Tm.mk t.op t.num t.name false (gp ks deep (k+1)).1).d,.mp M,aP l,J (gp ks deep (k+1)).2];clear dj;have du:=dG (f:=BH (sU n) n) (t.aT.zip ks) (λi (s:Int×List Tm)=>[J deep,cl 4 t.nl (Tm.rows t.aT),J t.aT.length,J (i:Int),J s.1,J t.op,J t.num,aC t.name,cl 4 t.nl (Tm.rows t.aT),J 0,J 0,aC ⟨#[]⟩,eR,.ax 4 (Tm.rows (s.2++List.replicate (t.aT.length-i) fK)),.mp M,aP l]) (λr (s:Int×List Tm)=>(Sum.inl [J t.op,J t.num,aC t.name,cl 4 t.nl (Tm.rows t.aT),J 0,J 0,aC ⟨#[]⟩,eR,.ax 4 (Tm.rows (s.2++(gp (r.map (·.2)) deep s.1).1)),.mp M,aP l,J (gp (r.map (·.2)) deep s.1).2]:List D⊕List D)) (λi s=>0<=s.1/\s.1<=4097/\s.2.length=i) ?_ ?_ n 0 (k+1,[]) ⟨by simp;omega,by simp;omega,rfl⟩ (by simp[eJ];omega) (xai _)
   .have nc:Tm.rows (List.replicate t.aT.length fK)=List.replicate t.aT.length [J 0,J 0,aC ⟨#[]⟩,D.val (.slice none 0 0)]:=by
     rw[Tm.mr,List.map_replicate];rfl
    simp only[xak,TE eJ,bF,xaH,Nat.sub_zero,nc]at du;have H5:=asP (t:=t.aT.length) (by omega);simp only[FV,go_sem,q8,lS (bt:=false) (i:=k) (by omega) (by omega),asT,H5,du,acG,Bp]
   .intro s aG;have e:(t.aT.zip ks).length=t.aT.length:=by simp[eJ]
    simp only[e,BH,go_sem,yF ((t.aT.length:Int)<t.aT.length),xbj,gp,xbW,List.replicate_zero,xaC]
   rintro i ⟨a,b⟩ s fG ah ⟨bw,bz,cz⟩;obtain⟨aE,aj⟩:=MT fG;simp only at aE aj;have hm:=xaa aE;have bD:=Tm.jk hm;have TI:=(xae.1 aE).1;have ch:(i:Int)<t.aT.length:=by omega
   left;by_cases ao:deep<=64/\s.1<=4096
   .have av:=acF aq eb n bx a b (deep+1) s.1 (zZ i a b aE aj) (bm.gz hm) (by omega) (by omega) (by omega) bw ao.2 (by omega);have jv:=acC b (deep+1) s.1;have fW:cg (s.2++List.replicate (t.aT.length-i) fK).length (J (i:Int))=some i:=by
     rw[oB,xad];simp;omega
    have g8:dE fK.cells 0 [J (eS b (deep+1) s.1).1.op,J (eS b (deep+1) s.1).1.num,aC (eS b (deep+1) s.1).1.name,cl 4 (eS b (deep+1) s.1).1.nl (Tm.rows (eS b (deep+1) s.1).1.aT)]=(eS b (deep+1) s.1).1.cells:=by rw[Tm.nm (eS b (deep+1) s.1).1];rfl
    refine⟨((eS b (deep+1) s.1).2,s.2++[(eS b (deep+1) s.1).1]),?_,?_,by simp;omega,by simpa using jv.2 ao.2,by simp[cz]⟩;.simp only[BH,go_sem,xav ch,Tm.gE aE,xav ao.1,xav ao.2,lS (bt:=false) (i:=deep) (by omega) (by omega),av,fW,asO cz TI,g8,acE cz TI,b1 (bt:=false) (i:=i) (by omega)]
    simp only[xaB,gp,xad ao,xaQ,xbi]
   refine⟨(s.1,s.2++[fK]),?_,?_,by simpa using bw,by simpa using bz,by simp[cz]⟩
   .have az4:=acE (x:=fK) cz TI;have bf:Tm.rows (s.2++List.replicate (t.aT.length-i) fK)=Tm.rows (s.2++[fK]++List.replicate (t.aT.length-(i+1)) fK):=by
     obtain⟨m,hm⟩:∃m,t.aT.length=i+1+m:=⟨t.aT.length-(i+1),by omega⟩;have aL:i+1+m-i=m+1:=by omega
     have aX:i+1+m-(i+1)=m:=by omega
     rw[hm,aL,aX];simp[List.replicate_succ]
    by_cases EC:deep<=64;.have o5:¬s.1<=4096:=λh=>ao ⟨EC,h⟩;simp only[BH,go_sem,xav ch,Tm.gE aE,xav EC,xaE o5,bf,b1 (bt:=false) (i:=i) (by omega)]
    simp only[BH,go_sem,xav ch,Tm.gE aE,xaE EC,bf,b1 (bt:=false) (i:=i) (by omega),xbk]
   simp only[xaB,gp,xac ao,xaQ,xbi]
def z0(l:List a8)(S:List Nat):Prop:=∀x∈S,∀y∈to l x,y∈S
def z0.rN{l:List a8}{S:List Nat}(h:z0 l S){a b:Nat}(av:kh (to l) a b)(aE:a∈S):b∈S:=by induction av with|refl=>exact aE|step i j k gK _ ih=>exact ih (h i aE j gK)
def acH(l:List a8)(i n:Nat)(S:List Nat)(ab:iR l.length S)(af:z0 l S)(aM:l.length<n):iR l.length (hO (to l) n (to l i) S)/\z0 l (hO (to l) n (to l i) S)/\∀x,x∈hO (to l) n (to l i) S↔x∈S\/∃k∈to l i,kh (to l) k x:=by
 have h:=C4 (λi k ak=>lz i k ak) n (to l i) S ab (λx ag=>lz i x ag) (by omega);obtain⟨T,bf⟩:=h.pre;have ao:z0 l (hO (to l) n (to l i) S):=by
  intro x ag y aQ;by_cases aG:x∈S;.rw[bf];simp[af x aG y aQ]
  exact h.u7 x ag aG y aQ
 refine⟨h.inv,ao,λx=>⟨h.rN x,?_⟩⟩;rintro(ag|⟨k,ak,av⟩);.rw[bf];simp[ag]
 exact ao.rN av (h.mem k ak)
def acI(l:List a8){B:Nat}(aq:h5 B l)(n:Nat)(aM:3*B+200<n)(fr:List Nat)(p1:∀i∈fr,i<l.length)(mb:fr.length<1000000000):∀(m j:Nat)(S:List Nat)(M:List (Value×D)),jI M S->iR l.length S->z0 l S->fr.length-j<m->j<=fr.length-> ∃cW nr,bp (Lo n) m [c9 fr,J fr.length,J (j:Int),.mp M,hW (l.map λd=>dJ l d.e)]=some (.inl [.mp cW])/\jI cW nr/\iR l.length nr/\∀x,x∈nr↔x∈S\/∃i∈fr.drop j,∃k∈to l i,kh (to l) k x
 |0,_,_,_,_,_,_,h,_=>absurd h (xay _)
 |m+1,j,S,M,eb,dR,b8,hm,aN=>by
  have b6:=aq.len;rw[jH];by_cases cM:j<fr.length
  .have ak:=xab cM;generalize fr[j]=i at ak;have ah:=p1 i (xaa ak);have pI:fr.drop j=i::fr.drop (j+1):=by
    obtain⟨bw,bz⟩:=xae.1 ak;rw[xaZ bw,bz]
   have gn:=dR.len;obtain⟨vb,eX,ei⟩:=TA l aq n i S M ah eb dR (by omega);obtain⟨bR,bY,ct⟩:=acH l i n S dR b8 (by omega);obtain⟨cW,nr,aW,a2,bc,cV⟩:=acI l aq n aM fr p1 mb m (j+1) _ vb ei bR bY (by omega) cM;refine⟨cW,nr,?_,a2,bc,λx=>?_⟩;.simp only[Lo,go_sem,yT ((j:Int)<(fr.length:Int)),uz ak,iO,eX,b1 (bt:=false) (i:=j) (by omega),aW]
   rw[cV,ct,pI];simp only[xao,exists_eq_or_imp,or_assoc]
  have:j=fr.length:=by omega
  subst this;refine⟨M,S,?_,eb,dR,λx=>by simp⟩;simp only[Lo,go_sem,yF ((fr.length:Int)<fr.length)]
def acJ(l:List a8){B:Nat}(aq:h5 B l)(n:Nat)(aM:3*B+200<n)(fr:List Nat)(p1:∀i∈fr,i<l.length)(mb:fr.length<1000000000):∀(m j:Nat)(S:List Nat)(M:List (Value×D)),jI M S->iR l.length S->z0 l S->fr.length-j<m->j<=fr.length-> ∃cW nr,bp (Lp n) m [c9 fr,J fr.length,J (j:Int),.mp M,hW (l.map λd=>dJ l d.e)]=some (.inl [.mp cW])/\jI cW nr/\iR l.length nr/\∀x,x∈nr↔x∈S\/∃i∈fr.drop j,∃k∈to l i,kh (to l) k x
 |0,_,_,_,_,_,_,h,_=>absurd h (xay _)
 |m+1,j,S,M,eb,dR,b8,hm,aN=>by
  have b6:=aq.len;rw[jH];by_cases cM:j<fr.length
  .have ak:=xab cM;generalize fr[j]=i at ak;have ah:=p1 i (xaa ak);have pI:fr.drop j=i::fr.drop (j+1):=by
    obtain⟨bw,bz⟩:=xae.1 ak;rw[xaZ bw,bz]
   have gn:=dR.len;obtain⟨vb,eX,ei⟩:=TA l aq n i S M ah eb dR (by omega);obtain⟨bR,bY,ct⟩:=acH l i n S dR b8 (by omega);obtain⟨cW,nr,aW,a2,bc,cV⟩:=acJ l aq n aM fr p1 mb m (j+1) _ vb ei bR bY (by omega) cM;refine⟨cW,nr,?_,a2,bc,λx=>?_⟩;.simp only[Lp,go_sem,yT ((j:Int)<(fr.length:Int)),uz ak,iO,eX,b1 (bt:=false) (i:=j) (by omega),aW]
   rw[cV,ct,pI];simp only[xao,exists_eq_or_imp,or_assoc]
  have:j=fr.length:=by omega
  subst this;refine⟨M,S,?_,eb,dR,λx=>by simp⟩;simp only[Lp,go_sem,yF ((fr.length:Int)<fr.length)]
theorem TJ(l:List a8):bE (aP l)=true:=rfl
theorem acK(l:List (List Nat)):bE (hW l)=true:=rfl
def asU(l:List a8){B:Nat}(aq:h5 B l)(n:Nat)(aM:3*B+200<n)(fr:List Nat)(p1:∀i∈fr,i<l.length)(mb:fr.length<n)(TK:fr.length<1000000000): ∃M S,FT n [hW (l.map λd=>dJ l d.e),c9 fr]=some [.mp M]/\jI M S/\∀x,x∈S↔∃i∈fr,∃k∈to l i,kh (to l) k x:=by have bF:(J ((0:Nat):Int))=J 0:=rfl;obtain⟨M,S,aW,a2,bc,cV⟩:=acI l aq n aM fr p1 TK n 0 [] [] jI.nil ⟨by simp,by simp⟩ (by intro x ag;cases ag) (by omega) (xai _);refine⟨M,S,?_,a2,λx=>by rw[cV];simp⟩;rw[bF]at aW;simp only[FT,go_sem,acK,pt,aW]
def asV(l:List a8){B:Nat}(aq:h5 B l)(n:Nat)(aM:3*B+200<n)(fr:List Nat)(p1:∀i∈fr,i<l.length)(mb:fr.length<n)(TK:fr.length<1000000000): ∃M S,BG n [hW (l.map λd=>dJ l d.e),c9 fr]=some (.mp M)/\jI M S/\∀x,x∈S↔∃i∈fr,∃k∈to l i,kh (to l) k x:=by have bF:(J ((0:Nat):Int))=J 0:=rfl;obtain⟨M,S,aW,a2,bc,cV⟩:=acJ l aq n aM fr p1 TK n 0 [] [] jI.nil ⟨by simp,by simp⟩ (by intro x ag;cases ag) (by omega) (xai _);refine⟨M,S,?_,a2,λx=>by rw[cV];simp⟩;rw[bF]at aW;simp only[BG,ZE,go_sem,acK,pt,aW]
def asW(l:List a8){B:Nat}(aq:h5 B l)(n:Nat)(aM:3*B+200<n)(i:Nat)(ah:i<l.length): ∃M,BG n [hW (l.map λd=>dJ l d.e),D.ax 1 [[J (i:Int)]]]=some (.mp M)/\jV (.int .i64) (.bool false) false M (J (i:Int))=some (ay (jo l i)):=by
 obtain⟨M,S,aW,a2,bc⟩:=asV l aq n aM [i] (by simpa using ah) (by simp;omega) (by simp);refine⟨M,aW,?_⟩;rw[a2.look (z:= .bool false)];have:(i∈S)↔jo l i=true:=by rw[bc,Tx];simp
 congr 2
 by_cases h:i∈S;.rw[this.1 h];simp[h]
 have bx:jo l i=false:=by cases af:jo l i with|false=>rfl|true=>exact absurd (this.2 af) h
 rw[bx];simp[h]
def rP(l:List a8)(t:Tm):Bool:=(k0 l (dJ l t)).all λx=>!jo l x
def asX(l:List a8)(t:Tm):rP l t=true↔C6 l t:=by simp[rP,C6]
def asY(n:Nat)(l:List a8){M:List (Value×D)}(eb:MI M l)(N t:D)(nT:List ByteArray)(a b c d e f g h:D)(ab:nT.length<n)(af:nT.length<100000000):bp (BI n) n [aP l,.mp M,N,bA nT,J nT.length,J 0,a,b,c,d,e,f,g,h,D.ax 1 []]=some (.inl [aP l,N,a,b,c,d,e,f,g,h,c9 (nT.filterMap (ds l))]):=by
 have bF:(J ((0:Nat):Int))=J 0:=rfl;have aL:c9 []=D.ax 1 []:=rfl;have cN:∀x,D.ax 1 (ar (c9 x))=c9 x:=λ_=>rfl;have aN:=dG (f:=BI n) nT (λj (s:List Nat)=>[aP l,.mp M,N,bA nT,J nT.length,J (j:Int),a,b,c,d,e,f,g,h,c9 s]) (λr s=>(.inl [aP l,N,a,b,c,d,e,f,g,h,c9 (s++r.filterMap (ds l))]:List D⊕D)) (λj s=>s.length<=j) ?_ ?_ n 0 [] (by simp) (by omega) (xai _)
 .rw[bF,aL]at aN;simpa using aN
 .intro s _;simp only[BI,go_sem,yF ((nT.length:Int)<nT.length),cN,List.filterMap_nil,xaC]
 intro j b' s aj aN aG;have ag:=n0 aj;have hC:=ys eb.1 (z:= .int .i64 0) (x:=b');rw[eb.2]at hC;left;cases aB:ds l b' with
 |none=>rw[aB]at hC;simp only[xbn]at hC;refine⟨s,?_,by simp[aB],by omega⟩;simp only[BI,go_sem,yT ((j:Int)<(nT.length:Int)),ag,iO,lp,hC,cN,b1 (bt:=false) (i:=j) (by omega)]
 |some k=>
  rw[aB]at hC;simp only[xaO]at hC;have dM:c5 (s.length+1) 8=true:=gk (by omega) (by omega);have aX:D.ax 1 (ar (c9 s)++[[J (k:Int)]])=c9 (s++[k]):=by simp[c9]
  have bL:(ar (c9 s)).length=s.length:=by simp[c9]
  refine⟨s++[k],?_,by simp[aB],by simp;omega⟩;simp only[BI,go_sem,yT ((j:Int)<(nT.length:Int)),ag,iO,lp,hC,cN,aX,bL,xap,xar,xau,dM,b1 (bt:=false) (i:=j) (by omega)]
def acL(n:Nat)(fr:List Nat)(L N a b c d e f g h:D)(af:fr.length<100000000):∀(m j:Nat)(S:List Nat)(M:List (Value×D)),jI M S->fr.length-j<m->j<=fr.length-> ∃cW nr,bp (Lq n) m [L,N,c9 fr,J fr.length,J (j:Int),a,b,c,d,e,f,g,h,.mp M]=some (.inl [L,N,a,b,c,d,e,f,g,h,.mp cW])/\jI cW nr/\∀x,x∈nr↔x∈S\/x∈fr.drop j
 |0,_,_,_,_,h,_=>absurd h (xay _)
 |m+1,j,S,M,eb,hm,aN=>by
  rw[jH];by_cases cM:j<fr.length
  .have ak:=xab cM;generalize fr[j]=i at ak;have pI:fr.drop j=i::fr.drop (j+1):=by
    obtain⟨bw,bz⟩:=xae.1 ak;rw[xaZ bw,bz]
   obtain⟨vb,dw,da⟩:=eb.put i;obtain⟨cW,nr,aW,a2,bc⟩:=acL n fr L N a b c d e f g h af m (j+1) _ vb da (by omega) cM;refine⟨cW,nr,?_,a2,λx=>?_⟩;.simp only[Lq,go_sem,yT ((j:Int)<(fr.length:Int)),uz ak,iO,dw,b1 (bt:=false) (i:=j) (by omega),aW]
   rw[bc,pI,xao];by_cases ah:i∈S
   .rw[xad ah];constructor
    .rintro(h|h);.exact .inl h
     exact .inr (.inr h)
    rintro(h|rfl|h);.exact .inl h
    .exact .inl ah
    exact .inr h
   rw[xac ah];simp only[xas,List.mem_singleton,or_assoc]
  have:j=fr.length:=by omega
  subst this;refine⟨M,S,?_,eb,λx=>by simp⟩;simp only[Lq,go_sem,yF ((fr.length:Int)<fr.length)]
def asZ(n:Nat)(l:List a8){B:Nat}(aq:h5 B l)(aM:3*B+200<n){M:List (Value×D)}{S:List Nat}(eb:jI M S)(a b c d e f g h:D):bp (yQ n) n [aP l,hW (l.map λd=>dJ l d.e),J l.length,J 0,a,b,c,d,e,f,g,h,.mp M]=some (if(List.range l.length).all (λi=>!(decide (i∈S)&&jo l i))then .inl [aP l,a,b,c,d,e,f,g,h]else .inr (.a1 [fK.d,J 14])):=by
 have b6:=aq.len;have tj:=aq.b;have bF:(J ((0:Nat):Int))=J 0:=rfl;have hzero:D.agg [J 0,J 0,aC ⟨#[]⟩,D.val (.slice none 0 0)]=fK.d:=K9.symm;have aN:=dG (f:=yQ n) (List.range l.length) (λj (s:Unit)=>[aP l,hW (l.map λd=>dJ l d.e),J l.length,J (j:Int),a,b,c,d,e,f,g,h,.mp M]) (λr s=>(if r.all (λi=>!(decide (i∈S)&&jo l i))then .inl [aP l,a,b,c,d,e,f,g,h]else .inr (.a1 [fK.d,J 14]):List D⊕D)) (λj s=>True) ?_ ?_ n 0 () trivial (by simp;omega) (xai _)
 .rw[bF]at aN;simpa using aN
 .intro s _;rw[List.length_range];simp only[yQ,go_sem,yF ((l.length:Int)<l.length),List.all_nil]
 intro j b' s aj aN aG;rw[List.length_range]at aN;have H6:b'=j:=by rw[xbQ aN]at aj;exact(xaU aj).symm
 subst H6;have hC:=eb.look (i:=b') (z:= .bool false);obtain⟨M2,eX,ei⟩:=asW l aq n aM b' aN;have cN:lp (D.mp M2)=some M2:=rfl;by_cases dR:b'∈S
 .by_cases av:jo l b'=true;.right;rw[av]at ei;simp only[yQ,go_sem,yT ((b':Int)<(l.length:Int)),hC,xav dR,eX,cN,ei,hzero,xbO,av,xbk]
  have nH:jo l b'=false:=by simpa using av
  left;rw[nH]at ei;refine⟨(),?_,by simp only[xbO,nH,Bool.and_false,Bool.not_false,xbE],trivial⟩;simp only[yQ,go_sem,yT ((b':Int)<(l.length:Int)),hC,xav dR,eX,cN,ei,b1 (bt:=false) (i:=b') (by omega)]
 left;refine⟨(),?_,by simp only[xbO,xaE dR,xbk,Bool.not_false,xbE],trivial⟩;have aL:∀(x:Option D)(f:D->Option (List D⊕(List D⊕D))),aa (bM (ay false) true x) (λv=>aa (bW (ay false) v (ay false)) f)=f (ay false):=λ_ _=>rfl;simp only[yQ,go_sem,yT ((b':Int)<(l.length:Int)),hC,xaE dR,aL,b1 (bt:=false) (i:=b') (by omega)]
inductive rQ(C:Nat):Tm->Prop where
 |mk (o m:Int) (s:ByteArray) (b:Bool) (ks:List Tm) (aq:ks.length<=C) (ak:∀k∈ks,rQ C k):rQ C (.mk o m s b ks)
def kI.ok{l:List a8}{B:Nat}(aq:h5 B l):∀{h:Nat}{t X:Tm},kI l h t X->t.cp->t.bo<=B->X.cp/\rQ B X
 |0,_,_,H,_,_=>H.elim
 |h+1,t,X,H,bm,aK=>by
  rcases H with⟨aF,i,d,ah,aB,kH⟩|⟨ie,ks,rfl,eJ,zZ⟩;.have h6:=aq.e d (xaa aB);exact kH.ok aq h6.1 h6.2
  have key:∀k∈ks,k.cp/\rQ B k:=by intro k ak;obtain⟨j,aN⟩:=xaT.1 ak;have cM:=(xae.1 aN).1;have aE:t.aT[j]?=some (t.aT[j]'(by omega)):=xab (by omega);have hm:=xaa aE;have bD:=Tm.jk hm;exact(zZ j _ k aE aN).ok aq (bm.gz hm) (by omega)
  have ou:=t.kc;have b6:=bm.len;obtain⟨dw,da,eM⟩:(-9223372036854775808<=t.op/\t.op<=9223372036854775807)/\(-9223372036854775808<=t.num/\t.num<=9223372036854775807)/\t.name.size<=140737488355328:=by cases bm with|mk o n s b ks aF aM aG aq ak=>exact⟨aF,aM,aG⟩
  exact⟨.mk _ _ _ _ _ dw da eM (by omega) λk ak=>(key k ak).1,.mk _ _ _ _ _ (by omega) λk ak=>(key k ak).2⟩
def rQ.gz{C:Nat}{t k:Tm}(h:rQ C t)(ak:k∈t.aT):rQ C k:=by cases h with|mk o m s b ks aq fQ=>exact fQ k ak
def rQ.len{C:Nat}{t:Tm}(h:rQ C t):t.aT.length<=C:=by cases h;assumption
theorem Tm.z1(t:Tm):t.bo=2+Tm.dN t.aT:=by cases t;rw[Tm.bo];rfl
def as0(C:Nat)(X:Tm):∀(deep n:Int),X.cp->rQ C X->(eS X deep n).1.cp/\((eS X deep n).1.bo:Int)<=(2+3*(C:Int))*((eS X deep n).2-n):=by
 refine Tm.ind (P:=λX=>∀(deep n:Int),X.cp->rQ C X->(eS X deep n).1.cp/\((eS X deep n).1.bo:Int)<=(2+3*(C:Int))*((eS X deep n).2-n)) ?_ X;intro t ih deep n bm hw;generalize fi:(2+3*(C:Int))=K at*;have key:∀(ks:List Tm),(∀k∈ks,∀(deep n:Int),(eS k deep n).1.cp/\((eS k deep n).1.bo:Int)<=K*((eS k deep n).2-n))->∀(n:Int),(∀k∈(gp ks deep n).1,k.cp)/\(Tm.dN (gp ks deep n).1:Int)<=K*((gp ks deep n).2-n)+3*(ks.length:Int):=by
  intro ks
  induction ks with
  |nil=>intro _ n;simp[gp,Tm.dN]
  |cons a r lW=>
   intro h n;have ab:=h a (by simp) (deep+1) n;rw[gp];split
   .have af:=lW (λk ak=>h k (by simp[ak])) (eS a (deep+1) n).2;refine⟨?_,?_⟩
    .intro k ak;rcases xao.1 ak with rfl|ak
     .exact ab.1
     exact af.1 k ak
    have e:K*((gp r deep (eS a (deep+1) n).2).2-n)=K*((eS a (deep+1) n).2-n)+K*((gp r deep (eS a (deep+1) n).2).2-(eS a (deep+1) n).2):=by rw[<-Int.mul_add];congr 1;omega
    simp only[Tm.dN,xap];rw[e];omega
   have af:=lW (λk ak=>h k (by simp[ak])) n;refine⟨?_,?_⟩
   .intro k ak;rcases xao.1 ak with rfl|ak
    .exact Rg
    exact af.1 k ak
   have e:fK.bo=2:=rfl;simp only[Tm.dN,xap,e];omega
 rw[TH];split
 .rename_i he;have:t.aT=[]:=by simpa using he
  have aL:t.bo=2:=by rw[Tm.z1,this];rfl
  refine⟨bm,?_⟩;simp only[aL];have aX:K*(n+1-n)=K:=by rw[show n+1-n=(1:Int) by omega];exact Int.mul_one K
  rw[aX];omega
 obtain⟨cE,dz⟩:=key t.aT (λk ak deep n=>ih k ak deep n (bm.gz ak) (hw.gz ak)) (n+1);have b6:=bm.len;have az5:=hw.len;obtain⟨dw,da,eM⟩:(-9223372036854775808<=t.op/\t.op<=9223372036854775807)/\(-9223372036854775808<=t.num/\t.num<=9223372036854775807)/\t.name.size<=140737488355328:=by cases bm with|mk o n s b ks aF aM aG aq ak=>exact⟨aF,aM,aG⟩
 refine⟨.mk _ _ _ _ _ dw da eM (by rw[MS];omega) cE,?_⟩;rw[Tm.z1];have e:K*((gp t.aT deep (n+1)).2-n)=K+K*((gp t.aT deep (n+1)).2-(n+1)):=by
  have:(gp t.aT deep (n+1)).2-n=1+((gp t.aT deep (n+1)).2-(n+1)):=by omega
  rw[this,Int.mul_add,Int.mul_one]
 show((2+Tm.dN (gp t.aT deep (n+1)).1:Nat):Int)<=_;rw[e];omega
def acM{l:List a8}{B h:Nat}(aq:h5 B l){t X:Tm}(H:kI l h t X)(bm:t.cp)(aK:t.bo<=B):(eS X 1 0).1.cp/\(eS X 1 0).1.bo<=8194+12291*B:=by obtain⟨ab,af⟩:=H.ok aq bm aK;obtain⟨aw,a4⟩:=as0 B X 1 0 ab af;refine⟨aw,?_⟩;have aU:=acC X 1 0;have oy:=aU.2 (by omega);have hm:(2+3*(B:Int))*((eS X 1 0).2-0)<=(2+3*(B:Int))*4097:=Int.mul_le_mul_of_nonneg_left (by omega) (by omega);omega
def as1{l:List a8}{B:Nat}(aq:h5 B l)(n h:Nat)(t X:Tm)(H:kI l h t X)(bm:t.cp)(aK:t.bo<=B)(aM:h+2*B+200<n):FW n [t.d,aP l]=some (eS X 1 0).1.d:=by have b6:=aq.len;have tj:=aq.b;obtain⟨M,gD,kx⟩:=Tu n l (by omega) (by omega);have av:=acF aq kx n h t X 1 0 H bm aK (by omega) (by omega) (by omega) (by omega) (by omega);have gL:bE (D.mp M)=true:=rfl;simp only[FW,ZF,go_sem,TJ,gD,gL,av]
def TL{l:List a8}{B:Nat}(aq:h5 B l)(n:Nat)(t:Tm)(bm:t.cp)(aK:t.bo<=B)(aM:20000*B+20000<n):((dg t 1 0).1≠0->mu n [t.d,aP l]=some (.a1 [fK.d,J (dg t 1 0).1]))/\((dg t 1 0).1=0->rP l t=false->mu n [t.d,aP l]=some (.a1 [fK.d,J 14]))/\(∀h X,(dg t 1 0).1=0->rP l t=true->kI l h t X->h+2*B+200<n->mu n [t.d,aP l]=some (.a1 [if(dg (eS X 1 0).1 1 0).1=0 then(eS X 1 0).1.d else fK.d,J (dg (eS X 1 0).1 1 0).1])):=by
 have b6:=aq.len;have tj:=aq.b;have hzero:D.agg [J 0,J 0,aC ⟨#[]⟩,D.val (.slice none 0 0)]=fK.d:=K9.symm;have b8:=MC n t (by omega) bm;obtain⟨M,gD,kx⟩:=Tu n l (by omega) (by omega);have bT:=asv n l aq (by omega);have cj:=MH n t (by omega) bm (by omega);have cU:=C2 t;have hV:=asY n l kx (hW (l.map λd=>dJ l d.e)) fK.d (dO 3 t []) (J t.op) (J t.num) (aC t.name) (cl 4 t.nl (Tm.rows t.aT)) (J 0) (J 0) (aC ⟨#[]⟩) eR (by omega) (by omega);have cL:(dO 3 t []).filterMap (ds l)=dJ l t:=rfl;rw[cL]at hV;have MP:=MJ l t;obtain⟨vb,as2,eX,ei,jD⟩:=asU l aq n (by omega) (dJ l t) nq (by omega) (by omega);obtain⟨M2,acN,s1,s2,gM⟩:=acL n (dJ l t) (aP l) (hW (l.map λd=>dJ l d.e)) (J t.op) (J t.num) (aC t.name) (cl 4 t.nl (Tm.rows t.aT)) (J 0) (J 0) (aC ⟨#[]⟩) eR (by omega) n 0 as2 vb ei (by omega) (xai _);have z2:∀x,x∈acN↔x∈k0 l (dJ l t):=by
  intro x;rw[gM,jD,u9 l _ nq,xak];constructor
  .rintro(⟨i,ah,k,ak,av⟩|h);.exact⟨i,ah,.step i k x ak av⟩
   exact⟨x,h,.refl x⟩
  rintro⟨i,ah,av⟩;cases av with|refl=>exact .inr ah|step _ k _ ak av=>exact .inl ⟨i,ah,k,ak,av⟩
 have w9:=asZ n l aq (by omega) s2 (J t.op) (J t.num) (aC t.name) (cl 4 t.nl (Tm.rows t.aT)) (J 0) (J 0) (aC ⟨#[]⟩) eR;have gu:(List.range l.length).all (λi=>!(decide (i∈acN)&&jo l i))=rP l t:=by
  rw[Bool.eq_iff_iff];simp only[rP,xaz,xbT,xbZ,Bool.and_eq_false_imp,xaG];constructor;.intro h x ag;exact h x ((w6 l _ nq).inv.2 x ag) ((z2 x).2 ag)
  intro h x ag MM;exact h x ((z2 x).1 MM)
 rw[gu]at w9;have bF:(J ((0:Nat):Int))=J 0:=rfl;rw[bF]at s1;have cN:∀x,D.ax 1 (ar (c9 x))=c9 x:=λ_=>rfl;have pJ:((0:Int) !=0)=false:=rfl;have ea:∀x,(ar (c9 x)).length=x.length:=λx=>by simp[c9]
 refine⟨λau=>?_,λau av=>?_,λh X au av H AE=>?_⟩
 .have rO:((dg t 1 0).1 !=0)=true:=by simpa using au
  simp only[mu,FX,go_sem,b8,rO,hzero]
 .rw[av]at w9;simp only[xat,xaF]at w9;simp only[mu,FX,go_sem,b8,au,pJ,gD,bT,cj,lX,hV,cN,ea,eX,pt,s1,dT,w9]
 rw[av]at w9;simp only[xaD]at w9;have iz:=as1 aq n h t X H bm aK AE;obtain⟨f1,f2⟩:=acM aq H bm aK;have TM:=MC n (eS X 1 0).1 (by omega) f1;by_cases aw:(dg (eS X 1 0).1 1 0).1=0
 .rw[aw]at TM;simp only[mu,FX,go_sem,b8,au,pJ,gD,bT,cj,lX,hV,cN,ea,eX,pt,s1,dT,w9,iz,TM,aw]
 have rO:((dg (eS X 1 0).1 1 0).1 !=0)=true:=by simpa using aw
 simp only[mu,FX,go_sem,b8,au,pJ,gD,bT,cj,lX,hV,cN,ea,eX,pt,s1,dT,w9,iz,TM,aw,rO,hzero]
def TN{l:List a8}{B:Nat}(aq:h5 B l)(n:Nat)(t:Tm)(bm:t.cp)(aK:t.bo<=B)(aM:20000*B+20000<n):((dg t 1 0).1≠0->my n [t.d,aP l]=some (.a1 [fK.d,J (dg t 1 0).1]))/\((dg t 1 0).1=0->rP l t=false->my n [t.d,aP l]=some (.a1 [fK.d,J 14]))/\(∀h X,(dg t 1 0).1=0->rP l t=true->kI l h t X->h+2*B+200<n->my n [t.d,aP l]=some (.a1 [if(dg X 1 0).1=0 then(gG X).d else fK.d,J (dg X 1 0).1])):=by
 have b6:=aq.len;have tj:=aq.b;have hzero:D.agg [J 0,J 0,aC ⟨#[]⟩,D.val (.slice none 0 0)]=fK.d:=K9.symm;have b8:=To n t (by omega) bm;have MP:=MJ l t;have aj:=Ty l aq n t [] eR (.inr ⟨rfl,rfl⟩) bm aK ⟨by simp,by simp⟩ (by simp;omega);have as3:hO (to l) n (dJ l t) []=k0 l (dJ l t):=Tw (λi k ak=>lz i k ak) n _ (dJ l t) [] ⟨by simp,by simp⟩ nq (by simp;omega) (by simp);rw[as3]at aj;have hG:=w6 l (dJ l t) nq;have g8:=hG.inv.len;have bF:(J ((0:Nat):Int))=J 0:=rfl;have pJ:((0:Int) !=0)=false:=rfl;generalize Pa:k0 l (dJ l t)=C at*;have TO:bK (k1 [] eR C)=some (J C.length):=by
  unfold k1;split;.rename_i h;rw[h];rfl
  exact pt C
 have acO:∀(i x:Nat),C[i]?=some x->bn 1 (k1 [] eR C) (J (i:Int))=some [J (x:Int)]:=by
  intro i x ag;unfold k1;split;.rename_i h;have:C=[]:=xaJ h;subst this;simp at ag
  exact uz ag
 have np:=dG (f:=Hp n) C (λi (s:Unit)=>[aP l,k1 [] eR C,J (i:Int),J t.op,J t.num,aC t.name,cl 4 t.nl (Tm.rows t.aT),J 0,J 0,aC ⟨#[]⟩,eR]) (λr s=>(if r.all (λx=>!jo l x)then .inl [aP l,J t.op,J t.num,aC t.name,cl 4 t.nl (Tm.rows t.aT),J 0,J 0,aC ⟨#[]⟩,eR]else .inr (.a1 [fK.d,J 14]):List D⊕D)) (λi s=>True) ?_ ?_ n 0 () trivial (by omega) (xai _)
 .rw[bF,xak]at np;have C7:C.all (λx=>!jo l x)=rP l t:=by rw[rP,Pa]
  rw[C7]at np;refine⟨λau=>?_,λau av=>?_,λh X au av H AE=>?_⟩
  .have rO:((dg t 1 0).1 !=0)=true:=by simpa using au
   simp only[my,Hq,go_sem,b8,rO,hzero]
  .rw[av]at np;simp only[xat,xaF]at np;simp only[my,Hq,go_sem,b8,au,pJ,aj,np]
  rw[av]at np;simp only[xaD]at np;have aU:=TF aq h n t X 1 0 H bm aK (by omega) (by omega) (by omega) (by omega) (by omega);by_cases aw:(dg X 1 0).1=0
  .simp only[aw,xaD]at aU;simp only[my,Hq,go_sem,b8,au,pJ,aj,np,aU,aw]
  simp only[aw,xaF]at aU;simp only[my,Hq,go_sem,b8,au,pJ,aj,np,aU,aw]
 .intro s _;simp only[Hp,go_sem,TO,yF ((C.length:Int)<C.length),List.all_nil]
 intro i x s ag ah aG;have as4:=xaa ag;have av:=asE l aq n x (hG.inv.2 x as4) (by omega);cases MV:jo l x with
 |true=>right;rw[MV]at av;simp only[Hp,go_sem,TO,yT ((i:Int)<(C.length:Int)),acO i x ag,iO,av,hzero,xbO,MV,xbk]
 |false=>left;rw[MV]at av;refine⟨(),?_,by simp only[xbO,MV,Bool.not_false,xbE],trivial⟩;simp only[Hp,go_sem,TO,yT ((i:Int)<(C.length:Int)),acO i x ag,iO,av,b1 (bt:=false) (i:=i) (by omega)]
mutual
def ki:Tm->Tm
 | .mk o m s b ks=> .mk o m s (b&&ks.isEmpty) (xa ks)
def xa:List Tm->List Tm
 |[]=>[]|k::r=>ki k::xa r
end
def acP:∀l:List Tm,xa l=l.map ki
 |[]=>rfl|k::r=>by rw[xa,acP r];rfl
theorem H7(t:Tm):ki t= .mk t.op t.num t.name (t.nl&&t.aT.isEmpty) (t.aT.map ki):=by cases t;rw[ki,acP];rfl
mutual
def acQ:∀(X:Tm)(deep n:Int),n<=4096->(dg X deep n).1=0->(eS X deep n).1=ki X
 | .mk o m s b ks,deep,n,aM=>by
  intro h;rw[eS,ki];cases ks with
  |nil=>simp[xa]
  |cons k r=>
   simp only[List.isEmpty_cons,xat,xaF,Bool.and_false];rw[dg]at h;by_cases ab:deep>64;.rw[xad ab]at h;cases h
   rw[xac ab]at h;by_cases af:il (.mk o m s b (k::r))≠0;.rw[xad af]at h;exact absurd h af
   rw[xac af]at h;by_cases aw:n+1>4096;.rw[xad aw]at h;cases h
   rw[xac aw]at h;rw[acR (k::r) deep (n+1) (by omega) (by omega) h]
def acR:∀(ks:List Tm)(deep n:Int),deep<=64->n<=4096->(fA ks (deep+1) n).1=0->(gp ks deep n).1=xa ks
 |[],deep,n,_,_=>by simp[gp,xa]
 |k::r,deep,n,aB,aM=>by
  intro h;rw[gp,xad ⟨aB,aM⟩,xa];rw[fA]at h;obtain⟨aW,a2⟩:=TD k (deep+1) n aM;by_cases au:(dg k (deep+1) n).1=0;.simp only[au,ne_eq,xbD,xaF]at h;obtain⟨bw,bz,cz⟩:=a2 au;have aU:=(CZ k (deep+1) n).2 au;rw[bw]at h aU;rw[acQ k (deep+1) n aM au,acR r deep _ aB aU h]
  simp only[ne_eq,au,xca,xaD]at h
end
def TP(t:Tm):(ki t).bo=t.bo:=by
 refine Tm.ind (P:=λt=>(ki t).bo=t.bo) ?_ t;intro t ih;have key:∀l:List Tm,(∀k∈l,(ki k).bo=k.bo)->Tm.dN (l.map ki)=Tm.dN l:=by
  intro l
  induction l with
  |nil=>intro _;rfl
  |cons a r lW=>intro h;simp only[xaB,Tm.dN];rw[h a (by simp),lW λk ak=>h k (by simp[ak])]
 rw[Tm.z1,Tm.z1 t,H7];show 2+Tm.dN (t.aT.map ki)=_;rw[key _ ih]
def acS:∀(ks:List Tm),(∀k∈ks,∀(deep n:Int),(dg k deep n).1=0->(k.bo:Int)+1<=3*((dg k deep n).2-n))->∀(deep n:Int),(fA ks deep n).1=0->(Tm.dN ks:Int)<=3*((fA ks deep n).2-n)
 |[],_,deep,n,_=>by simp[fA,Tm.dN]
 |k::r,ak,deep,n,h=>by
  rw[fA]at h⊢;by_cases au:(dg k deep n).1=0;.simp only[au,ne_eq,xbD,xaF]at h⊢;have ab:=ak k (by simp) deep n au;have af:=acS r (λk fQ=>ak k (by simp[fQ])) deep _ h;simp only[Tm.dN];omega
  simp only[ne_eq,au,xca,xaD]at h
def as5(t:Tm):∀(deep n:Int),(dg t deep n).1=0->(t.bo:Int)+1<=3*((dg t deep n).2-n):=by
 refine Tm.ind (P:=λt=>∀(deep n:Int),(dg t deep n).1=0->(t.bo:Int)+1<=3*((dg t deep n).2-n)) ?_ t;intro t ih deep n h;rw[u3]at h⊢;by_cases ab:deep>64;.rw[xad ab]at h;cases h
 rw[xac ab]at h⊢;by_cases af:il t≠0;.rw[xad af]at h;exact absurd h af
 rw[xac af]at h⊢;by_cases aw:n+1>4096;.rw[xad aw]at h;cases h
 rw[xac aw]at h⊢;have:=acS t.aT ih (deep+1) (n+1) h;rw[Tm.z1];omega
def mZ(op:Int):Int:=if op=1 then 0 else if op=3\/op=4\/op=5\/op=9\/op=13 then 2 else if op=2\/op=6\/op=7\/op=8\/op=10\/op=11\/op=12 then 1 else-1
def as6(n:Nat)(op:Int):FL n [J op]=some (J (mZ op)):=by
 rcases K5 op with rfl|rfl|rfl|rfl|rfl|rfl|rfl|rfl|rfl|rfl|rfl|rfl|rfl|rfl|rfl|rfl|rfl|rfl|h
 case inr.inr.inr.inr.inr.inr.inr.inr.inr.inr.inr.inr.inr.inr.inr.inr.inr.inr=>
  have e:∀k:Int,1<=k->k<=18->(op==k)=false:=λk ab af=>by simp;omega
  have aX:mZ op=-1:=by unfold mZ;repeat(first|rw[xac (by omega)]|rw[xad (by omega)])
  simp[FL,ZB,e,aX]
 all_goals rfl
def as7(n:Nat)(op:Int):CB n [J op]=some (J (mZ op)):=by
 rcases K5 op with rfl|rfl|rfl|rfl|rfl|rfl|rfl|rfl|rfl|rfl|rfl|rfl|rfl|rfl|rfl|rfl|rfl|rfl|h
 case inr.inr.inr.inr.inr.inr.inr.inr.inr.inr.inr.inr.inr.inr.inr.inr.inr.inr=>
  have e:∀k:Int,1<=k->k<=18->(op==k)=false:=λk ab af=>by simp;omega
  have aX:mZ op=-1:=by unfold mZ;repeat(first|rw[xac (by omega)]|rw[xad (by omega)])
  simp[CB,aaF,e,aX]
 all_goals rfl
def C9(t:Tm):Int:=if(dg t 1 0).1≠0 then(dg t 1 0).1 else if 0<(dO 4 t []).length then 24 else 0
def xb(t:Tm):Bool:=t.op==0&&(t.num==0&&(decide (t.name=⟨#[]⟩)&&decide (t.aT.length=0)))
def mz(f:Fm):Int:=if mZ f.op<0 then 11 else if f.op=1/\C9 f.e≠0 then C9 f.e
 else if(f.aT.length:Int)≠mZ f.op\/(f.op≠1/\xb f.e=false)then 3 else 0
def as8(n:Nat)(f:Fm)(aM:2*f.e.bo+40<n)(bm:f.cp)(aj:f.e.bo<100000000):yN n [f.d]=some (J (if f.op≠1 then 0 else C9 f.e)):=by
 have ab:=MC n f.e (by omega) bm.e;have af:=MH n f.e (by omega) bm.e aj;by_cases aF:f.op=1
 case neg=>simp[yN,Ll,aF]
 unfold C9;by_cases ao:(dg f.e 1 0).1=0
 .have cL:bK (bA (dO 4 f.e []))=some (J (dO 4 f.e []).length):=by simp[bA]
  by_cases a4:0<(dO 4 f.e []).length<;>simp[yN,Ll,aF,ab,ao,af,cL,a4]
 simp[yN,Ll,aF,ab,ao]
def as9(n:Nat)(t:Tm):HB n [t.d]=some (ay (xb t)):=by unfold xb;simp[HB,aaG];by_cases ab:t.op=0<;>by_cases af:t.num=0<;>by_cases aw:t.name=⟨#[]⟩<;>by_cases a4:t.aT=[]<;>simp[ab,af,aw,a4]
def ata(n:Nat)(f:Fm)(aM:2*f.e.bo+40<n)(bm:f.cp)(aj:f.e.bo<100000000):uZ n [f.d]=some (J (mz f)):=by
 have ab:=To n f.e (by omega) bm.e;have af:=ME n f.e (by omega) bm.e (by omega);have ak:=as7 n f.op;have bD:=as9 n f.e;have cL:bK (gP true (dO 4 f.e []))=some (J (dO 4 f.e []).length):=kg _ _;unfold mz;by_cases au:mZ f.op<0
 .simp[uZ,CC,ak,au]
 by_cases aF:f.op=1
 .unfold C9;have cE:mZ 1=0:=rfl;rw[aF,cE]at ak;by_cases ao:(dg f.e 1 0).1=0
  .by_cases a4:0<(dO 4 f.e []).length;.simp[uZ,CC,ak,aF,ab,ao,af,cL,a4,cE]
   simp[uZ,CC,ak,aF,ab,ao,af,cL,a4,cE];by_cases b7:f.aT=[]<;>simp[b7]
  simp[uZ,CC,ak,aF,ab,ao,cE]
 simp[uZ,CC,ak,au,aF,bD];by_cases b7:(f.aT.length:Int)=mZ f.op;.cases cO:xb f.e<;>simp[b7,cO]
 simp[b7]
mutual
def im:Fm->Int->Int->Int×Int
 | .mk o t b ks,deep,k=>if deep>64 then(17,k+1)else if mz (.mk o t b ks)≠0 then(mz (.mk o t b ks),k+1)else if k+1>4096 then(4,k+1)else k2 ks (deep+1) (k+1)
def k2:List Fm->Int->Int->Int×Int
 |[],_,k=>(0,k)|t::r,deep,k=>if(im t deep k).1≠0 then im t deep k else k2 r deep (im t deep k).2
end
theorem H8(t:Fm)(deep k:Int):im t deep k=if deep>64 then(17,k+1)else if mz t≠0 then(mz t,k+1)else if k+1>4096 then(4,k+1)else k2 t.aT (deep+1) (k+1):=by cases t;rw[im];rfl
mutual
def lY:Fm->Int->Int->Int×Int
 | .mk o t b ks,deep,k=>if deep>64 then(17,k)else if mz (.mk o t b ks)≠0 then(mz (.mk o t b ks),k)else if k+1>4096 then(4,k+1)else n2 ks (deep+1) (k+1)
def n2:List Fm->Int->Int->Int×Int
 |[],_,k=>(0,k)|t::r,deep,k=>if(lY t deep k).1≠0 then lY t deep k else n2 r deep (lY t deep k).2
end
theorem acT(t:Fm)(deep k:Int):lY t deep k=if deep>64 then(17,k)else if mz t≠0 then(mz t,k)else if k+1>4096 then(4,k+1)else n2 t.aT (deep+1) (k+1):=by cases t;rw[lY];rfl
def acU(t:Fm):∀deep k,(lY t deep k).1=(im t deep k).1/\((lY t deep k).1=0->(lY t deep k).2=(im t deep k).2):=by
 refine Fm.ind (P:=λt=>∀deep k,(lY t deep k).1=(im t deep k).1/\((lY t deep k).1=0->(lY t deep k).2=(im t deep k).2)) ?_ t;intro t ih deep k;rw[acT,H8];split;.simp
 split;.rename_i h;simp[h]
 split;.simp
 have key:∀(l:List Fm),(∀x∈l,∀deep k,(lY x deep k).1=(im x deep k).1/\((lY x deep k).1=0->(lY x deep k).2=(im x deep k).2))->∀deep k,(n2 l deep k).1=(k2 l deep k).1/\((n2 l deep k).1=0->(n2 l deep k).2=(k2 l deep k).2):=by
  intro l
  induction l with
  |nil=>intro _ deep k;simp[n2,k2]
  |cons a r lW=>
   intro h deep k;rw[n2,k2];have ab:=h a (by simp) deep k;by_cases af:(im a deep k).1=0
   .have aw:=ab.1.trans af;have a4:=ab.2 aw;simp only[af,aw,ne_eq,xbD,xaF,a4];exact lW (λx ag=>h x (by simp[ag])) deep _
   have aw:(lY a deep k).1≠0:=by rw[ab.1];exact af
   simp only[ne_eq,af,aw,xca,xaD];exact⟨ab.1,λh=>h.elim⟩
 exact key t.aT ih _ _
def acV(t:Fm):∀(deep k:Int),k+1<=(im t deep k).2/\((im t deep k).1=0->(im t deep k).2<=4096):=by
 refine Fm.ind (P:=λt=>∀(deep k:Int),k+1<=(im t deep k).2/\((im t deep k).1=0->(im t deep k).2<=4096)) ?_ t;intro t ih deep k;rw[H8];split;.simp
 split;.rename_i h;simp[h]
 split;.simp
 have key:∀(l:List Fm)(deep k:Int),(∀x∈l,∀(deep k:Int),k+1<=(im x deep k).2/\((im x deep k).1=0->(im x deep k).2<=4096))->k<=4096->k<=(k2 l deep k).2/\((k2 l deep k).1=0->(k2 l deep k).2<=4096):=by
  intro l
  induction l with
  |nil=>intro deep k _ h;simp[k2,h]
  |cons a r lW=>
   intro deep k h ak;rw[k2];have ab:=h a (by simp) deep k;split
   .rename_i af;exact⟨by omega,λaw=>absurd aw af⟩
   rename_i af;simp only[ne_eq,Decidable.not_not]at af;have aw:=lW deep (im a deep k).2 (λx ag=>h x (by simp[ag])) (ab.2 af);exact⟨by omega,aw.2⟩
 exact key t.aT (deep+1) (k+1) ih (by omega)
def acW:∀(n:Nat)(t:Fm)(deep k:Int),2*t.bo+40<n->t.cp->t.bo<100000000->0<=deep->deep<=65->0<=k->k<=4096->ta n [t.d,J deep,J k]=some (.a1 [J (lY t deep k).1,J (lY t deep k).2])
 |0,t,_,_,h,_,_,_,_,_,_=>absurd h (xay _)
 |n+1,t,deep,k,aM,bm,aj,ab,af,aw,a4=>by
  have H9:=t.yu;have aU:=ata n t (by omega) bm (by omega);rw[acT];simp[ta,SU,lS (bt:=false) (i:=k) (by omega) (by omega),aU];by_cases aB:64<deep
  .simp[aB]
  simp[aB];by_cases hw:mz t=0
  case neg=>simp[hw]
  simp[hw];by_cases ao:4096<k+1;.simp[ao]
  simp[ao];have aq:=dG (f:=Ml (ta n) n) t.aT (λi s=>[J deep,J s,J (i:Int),J t.op,J t.e.op,J t.e.num,aC t.e.name,cl 4 t.e.nl (Tm.rows t.e.aT),cl 6 t.nl (Fm.rows t.aT)]) (λr (s:Int)=>if(n2 r (deep+1) s).1=0 then(Sum.inl [J (n2 r (deep+1) s).2]:List D⊕D)else .inr (.a1 [J (n2 r (deep+1) s).1,J (n2 r (deep+1) s).2])) (λi s=>0<=s/\s<=4096) ?_ ?_ n 0 (k+1) ⟨by omega,by omega⟩ (by have:=t.kc;omega) (xai _)
  .have bF:(J ((0:Nat):Int))=J 0:=rfl;rw[bF]at aq;rw[aq];simp only[xak,eH];by_cases au:(n2 t.aT (deep+1) (k+1)).1=0;.simp[au]
   simp[au]
  .intro s aG;simp[Ml,n2]
  intro i a s aE ah aG;have hm:=xaa aE;have bD:=Fm.jk hm;have b6:=bm.len;have av:=acW n a (deep+1) s (by omega) (bm.gz hm) (by omega) (by omega) (by omega) aG.1 aG.2;have jv:=acV a (deep+1) s;have TQ:=acU a (deep+1) s;simp[Ml,ah,Fm.gE aE,lS (bt:=false) (i:=deep) (by omega) (by omega),av,b1 (bt:=false) (i:=i) (by omega),n2];by_cases au:(lY a (deep+1) s).1=0
  .left;simp only[au];have b7:=TQ.2 au;have cO:=TQ.1▸au;refine⟨(lY a (deep+1) s).2,by simp,by simp,by omega,by rw[b7];exact jv.2 (by rw[<-TQ.1];exact au)⟩
  right;simp[au]
def lA(f:Fm):Int:=(im f 1 0).1
def TR(n:Nat)(f:Fm)(aM:2*f.bo+50<n)(bm:f.cp)(aj:f.bo<100000000):zD n [f.d]=some (J (lA f)):=by have:=acW n f 1 0 (by omega) bm aj (by omega) (by omega) (by omega) (by omega);have e:=(acU f 1 0).1;simp[zD,aaH,this,e,lA]
def atb(n:Nat)(f:Fm)(deep k w:Int)(aM:2*f.bo+40<n)(bm:f.cp)(aj:f.bo<100000000)(ab:0<=k)(af:k<=4096):∃e,e=(if deep>64 then 17 else if mz f≠0 then mz f else if k+1>4096 then 4 else w)/\FM n [f.d,J deep,J k,J w]=some [ay (decide (e=0)),J (k+1),J e]:=by
 refine⟨_,rfl,?_⟩;have H9:=f.yu;have aU:=as8 n f (by omega) bm (by omega);have ak:=as6 n f.op;have b6:bK (cl 6 f.nl (Fm.rows f.aT))=some (J f.aT.length):=by simp
 have atc:(f.e.op==0&&(f.e.num==0&&(decide (f.e.name=⟨#[]⟩)&&decide (f.e.aT.length=0))))=xb f.e:=rfl;have kW:((f.e.aT.length:Int)==0)=decide (f.e.aT.length=0):=by by_cases h:f.e.aT.length=0<;>simp[h]
 unfold mz;simp only[FM,go_sem,Tm.Bq,lS (bt:=false) (i:=k) (by omega) (by omega),aU,ak,kW,Bool.and_assoc,atc];have hw:(w==0)=decide (w=0):=by by_cases h:w=0<;>simp[h]
 generalize xb f.e=gS;by_cases bR:64<deep;.simp[bR]
 by_cases bY:mZ f.op<0;.simp[bR,bY]
 by_cases ct:f.op=1
 .have cE:mZ 1=0:=rfl;by_cases de:C9 f.e=0;.by_cases ee:f.aT=[]<;>by_cases ef:4096<k+1<;>simp[bR,bY,ct,de,ee,ef,cE,hw]
  simp[bR,bY,ct,de,cE]
 by_cases ee:(f.aT.length:Int)=mZ f.op<;>by_cases ef:4096<k+1<;>cases gS<;>simp[bR,bY,ct,ee,ef,hw]
def acX:∀(n:Nat)(t:Fm)(deep k:Int),2*t.bo+45<n->t.cp->t.bo<100000000->0<=deep->deep<=65->0<=k->k<=4096->u1 n [t.d,J deep,J k,J 0]=some [ay (decide ((im t deep k).1=0)),J (im t deep k).2,J (im t deep k).1]
 |0,t,_,_,h,_,_,_,_,_,_=>absurd h (xay _)
 |n+1,t,deep,k,aM,bm,aj,ab,af,aw,a4=>by
  obtain⟨e,he,aU⟩:=atb n t deep k 0 (by omega) bm aj aw a4;rw[H8];simp only[u1,S3,go_sem,aU];by_cases HX:e=0
  case neg=>simp[HX];grind
  have ao:¬deep>64/\mz t=0/\¬k+1>4096:=by grind
  simp[HX,ao];have aq:=dG (f:=Mr (u1 n) n) t.aT (λi (s:Int)=>[J deep,cl 6 t.nl (Fm.rows t.aT),J t.aT.length,J (i:Int),J s,J 0]) (λr (s:Int)=>if(k2 r (deep+1) s).1=0 then(Sum.inl [J (k2 r (deep+1) s).2,J 0]:List D⊕List D)else .inr [ay false,J (k2 r (deep+1) s).2,J (k2 r (deep+1) s).1]) (λi s=>0<=s/\s<=4096) ?_ ?_ n 0 (k+1) ⟨by omega,by omega⟩ (by have:=t.kc;omega) (xai _)
  .have bF:(J ((0:Nat):Int))=J 0:=rfl;rw[bF]at aq;rw[aq];simp only[xak,eH];by_cases au:(k2 t.aT (deep+1) (k+1)).1=0;.simp[au]
   simp[au]
  .intro s aG;simp[Mr,k2]
  intro i a s aE ah aG;have hm:=xaa aE;have bD:=Fm.jk hm;have b6:=bm.len;have av:=acX n a (deep+1) s (by omega) (bm.gz hm) (by omega) (by omega) (by omega) aG.1 aG.2;have jv:=acV a (deep+1) s;simp[Mr,ah,Fm.gE aE,lS (bt:=false) (i:=deep) (by omega) (by omega),av,b1 (bt:=false) (i:=i) (by omega),k2];by_cases au:(im a (deep+1) s).1=0
  .left;exact⟨(im a (deep+1) s).2,by simp[au],by simp[au],by omega,jv.2 au⟩
  right;simp[au]
def TS(n:Nat)(f:Fm)(aM:2*f.bo+50<n)(bm:f.cp)(aj:f.bo<100000000):zP n [f.d]=some (J (lA f)):=by have:=acX n f 1 0 (by omega) bm aj (by omega) (by omega) (by omega) (by omega);simp[zP,aaR,this,lA]
def acY:∀(n:Nat)(t u:Tm),t.bo<n->t.cp->u.cp->te n [t.d,u.d]=some (ay (ek t u))
 |0,t,_,h,_,_=>absurd h (xay _)
 |n+1,t,u,aM,bm,Da=>by
  have b6:=bm.len;show HM (te n) n t.d u.d=_;rcases ack t u with⟨ab,af,aw,a4⟩|⟨bd,ao⟩
  .have aq:=dG (f:=HL (te n) n) t.aT (λi (_:Unit)=>[J (i:Int),J t.op,J t.num,aC t.name,cl 4 t.nl (Tm.rows t.aT),J u.op,J u.num,aC u.name,cl 4 u.nl (Tm.rows u.aT)]) (λr _=>if jJ r (u.aT.drop (t.aT.length-r.length))=true then(.inl []:List D⊕D)else .inr (ay false)) (λ_ _=>True) (λ_ _=>by simp[HL,jJ]) ?_ n 0 () trivial (by have:=t.kc;omega) (xai _)
   .have bF:(J ((0:Nat):Int))=J 0:=rfl;rw[bF]at aq;simp only[xak,xbW]at aq;have mI:ek t u=jJ t.aT u.aT:=by rw[u5];simp[ab,af,aw,a4]
    rw[mI];cases aG:jJ t.aT u.aT<;>rw[aG]at aq<;>rw[ab,af,aw]at aq<;>simp[HM,ab,af,aw,a4,aq]
   intro i a _ aE ah _;have hm:=xaa aE;have bD:=Tm.jk hm;have rR:i<u.aT.length:=by omega
   have aj:=xab rR;have av:=acY n a u.aT[i] (by omega) (bm.gz hm) (Da.gz (xaX rR));have e:t.aT.length-(a::t.aT.drop (i+1)).length=i:=by simp;omega
   have dp:t.aT.length-(t.aT.drop (i+1)).length=i+1:=by rw[xce];omega
   have pI:u.aT.drop i=u.aT[i]::u.aT.drop (i+1):=xaZ rR;rw[e,pI,jJ,dp];cases aG:ek a u.aT[i];.right;simp[HL,ah,Tm.gE aE,Tm.gE aj,av,aG]
   left;exact⟨(),by simp[HL,ah,Tm.gE aE,Tm.gE aj,av,aG,b1 (bt:=false) (i:=i) (by omega)],by simp,trivial⟩
  rw[bd];by_cases ab:t.op=u.op<;>by_cases af:t.num=u.num<;>by_cases aw:t.name=u.name<;>simp[HM,ab,af,aw];have a4:¬((t.aT.length:Int)=(u.aT.length:Int)):=λa4=>ao ⟨ab,af,aw,by omega⟩;simp[a4]
mutual
def xc:Fm->Fm->Bool
 | .mk o t _ ks,u=>decide (o=u.op)&&(ek t u.e&&(decide (ks.length=u.aT.length)&&xd ks u.aT))
def xd:List Fm->List Fm->Bool
 |a::r,b::q=>xc a b&&xd r q|[],_=>true|_::_,[]=>true
end
theorem acZ(t u:Fm):xc t u=(decide (t.op=u.op)&&(ek t.e u.e&&(decide (t.aT.length=u.aT.length)&&xd t.aT u.aT))):=by cases t;rw[xc];rfl
def TT:∀(n:Nat)(t u:Fm),t.bo<n->t.cp->u.cp->nZ n [t.d,u.d]=some (ay (xc t u))
 |0,t,_,h,_,_=>absurd h (xay _)
 |n+1,t,u,aM,bm,Da=>by
  have b6:=bm.len;have H9:=t.yu;have gn:=t.kc;have bf:=acY n t.e u.e (by omega) bm.e Da.e;rw[acZ];by_cases bR:t.op=u.op
  case neg=>simp[nZ,CS,bR]
  cases bY:ek t.e u.e;.simp[nZ,CS,bR,bf,bY]
  by_cases ct:t.aT.length=u.aT.length
  case neg=>
   have rS:¬((t.aT.length:Int)=(u.aT.length:Int)):=by omega
   simp[nZ,CS,bR,bf,bY,ct,rS]
  have aq:=dG (f:=HN (nZ n) n) t.aT (λi (_:Unit)=>[J (i:Int),J t.op,J t.e.op,J t.e.num,aC t.e.name,cl 4 t.e.nl (Tm.rows t.e.aT),cl 6 t.nl (Fm.rows t.aT),J u.op,J u.e.op,J u.e.num,aC u.e.name,cl 4 u.e.nl (Tm.rows u.e.aT),cl 6 u.nl (Fm.rows u.aT)]) (λr _=>if xd r (u.aT.drop (t.aT.length-r.length))=true then(.inl []:List D⊕D)else .inr (ay false)) (λ_ _=>True) (λ_ _=>by simp[HN,xd]) ?_ n 0 () trivial (by omega) (xai _);.have bF:(J ((0:Nat):Int))=J 0:=rfl;rw[bF]at aq;simp only[xak,xbW]at aq;rw[bR]at aq;cases aG:xd t.aT u.aT<;>rw[aG]at aq<;>simp[nZ,CS,bR,bf,bY,ct,aq]
  intro i a _ aE ah _;have hm:=xaa aE;have bD:=Fm.jk hm;have rR:i<u.aT.length:=by omega
  have aj:=xab rR;have av:=TT n a u.aT[i] (by omega) (bm.gz hm) (Da.gz (xaX rR));have e:t.aT.length-(a::t.aT.drop (i+1)).length=i:=by simp;omega
  have dp:t.aT.length-(t.aT.drop (i+1)).length=i+1:=by rw[xce];omega
  have pI:u.aT.drop i=u.aT[i]::u.aT.drop (i+1):=xaZ rR;rw[e,pI,xd,dp];cases aG:xc a u.aT[i];.right;simp[HN,ah,Fm.gE aE,Fm.gE aj,av,aG]
  left;exact⟨(),by simp[HN,ah,Fm.gE aE,Fm.gE aj,av,aG,b1 (bt:=false) (i:=i) (by omega)],by simp,trivial⟩
mutual
def ns:Tm->Int->Int
 | .mk _ _ _ _ ks,m=>hP ks m
def hP:List Tm->Int->Int
 |[],m=>m|t::r,m=>if 0<=m then hP r (ns t (m-1))else m
end
mutual
def qv:Fm->Int->Int
 | .mk _ e _ ks,m=>pK ks (ns e (m-1))
def pK:List Fm->Int->Int
 |[],m=>m|t::r,m=>if 0<=m then pK r (qv t m)else m
end
theorem ac0(t:Tm)(m:Int):ns t m=hP t.aT m:=by cases t;rw[ns];rfl
theorem atd(t:Fm)(m:Int):qv t m=pK t.aT (ns t.e (m-1)):=by cases t;rw[qv];rfl
mutual
def Ia:∀(t:Tm)(m:Int),-1<=m->-1<=ns t m/\ns t m<=m/\(0<=ns t m->5*ns t m+t.bo<=5*m+2)
 | .mk o n s b ks,m,h=>by have:=oQ ks m h;rw[ns];simp only[Tm.bo];omega
def oQ:∀(l:List Tm)(m:Int),-1<=m->-1<=hP l m/\hP l m<=m/\(0<=hP l m->5*hP l m+Tm.dN l<=5*m)
 |[],m,h=>by simp only[hP,Tm.dN];omega
 |t::r,m,h=>by
  rw[hP];split;.have ab:=Ia t (m-1) (by omega);have af:=oQ r (ns t (m-1)) ab.1;simp only[Tm.dN];omega
  omega
end
mutual
def TU:∀(t:Fm)(m:Int),0<=m->-1<=qv t m/\qv t m<=m-1/\(0<=qv t m->5*qv t m+t.bo+1<=5*m)
 | .mk o e b ks,m,h=>by have ab:=Ia e (m-1) (by omega);have af:=ac1 ks (ns e (m-1)) ab.1;rw[qv];simp only[Fm.bo];omega
def ac1:∀(l:List Fm)(m:Int),-1<=m->-1<=pK l m/\pK l m<=m/\(0<=pK l m->5*pK l m+Fm.dN l<=5*m)
 |[],m,h=>by simp only[pK,Fm.dN];omega
 |t::r,m,h=>by
  rw[pK];split;.have ab:=TU t m (by omega);have af:=ac1 r (qv t m) ab.1;simp only[Fm.dN];omega
  omega
end
def ac2:∀(n:Nat)(t:Tm)(m:Int),t.bo+5<n->t.cp->-1<=m->m<1000000->sN n [t.d,J m]=some (J (ns t m))
 |0,t,_,h,_,_,_=>absurd h (xay _)
 |n+1,t,m,aM,bm,ab,af=>by
  have b6:=bm.len;have MD:=t.kc;have aq:=dG (f:=Fe (sN n) n) t.aT (λi (s:Int)=>[J s,J (i:Int),J t.op,J t.num,aC t.name,cl 4 t.nl (Tm.rows t.aT)]) (λr s=>(.inl [J (hP r s)]:List D⊕D)) (λi s=>-1<=s/\s<=m) (λs _=>by simp[Fe,hP]) ?_ n 0 m (by omega) (by omega) (xai _)
  .have bF:(J ((0:Nat):Int))=J 0:=rfl;rw[bF]at aq;simp only[xak]at aq;rw[ac0];simp only[sN,Rk,go_sem,aq]
  intro i a s aE ah aG;have hm:=xaa aE;have bD:=Tm.jk hm;by_cases au:0<=s
  .have av:=ac2 n a (s-1) (by omega) (bm.gz hm) (by omega) (by omega);have aj:=Ia a (s-1) (by omega);left;refine⟨ns a (s-1),?_,by simp[hP,au],by omega⟩;simp only[Fe,go_sem,yT ((i:Int)<(t.aT.length:Int)),yT (s>=0),Tm.gE aE,mq (bt:=false) (a:=s) (b:=1) (by omega) (by omega),av,b1 (bt:=false) (i:=i) (by omega)]
  right;simp only[Fe,go_sem,yT ((i:Int)<(t.aT.length:Int)),yF (s>=0),hP,xac au]
def ac3:∀(n:Nat)(t:Fm)(m:Int),t.bo+10<n->t.cp->0<=m->m<1000000->sO n [t.d,J m]=some (J (qv t m))
 |0,t,_,h,_,_,_=>absurd h (xay _)
 |n+1,t,m,aM,bm,ab,af=>by
  have b6:=bm.len;have MD:=t.kc;have H9:=t.yu;have aj:=Ia t.e (m-1) (by omega);have bf:=ac2 n t.e (m-1) (by omega) bm.e (by omega) (by omega);have aq:=dG (f:=Ff (sO n) n) t.aT (λi (s:Int)=>[J s,J (i:Int),J t.op,J t.e.op,J t.e.num,aC t.e.name,cl 4 t.e.nl (Tm.rows t.e.aT),cl 6 t.nl (Fm.rows t.aT)]) (λr s=>(.inl [J (pK r s)]:List D⊕D)) (λi s=>-1<=s/\s<=m) (λs _=>by simp[Ff,pK]) ?_ n 0 (ns t.e (m-1)) (by omega) (by omega) (xai _)
  .have bF:(J ((0:Nat):Int))=J 0:=rfl;rw[bF]at aq;simp only[xak]at aq;rw[atd];simp only[sO,Rl,go_sem,mq (bt:=false) (a:=m) (b:=1) (by omega) (by omega),bf,aq]
  intro i a s aE ah aG;have hm:=xaa aE;have bD:=Fm.jk hm;by_cases au:0<=s
  .have av:=ac3 n a s (by omega) (bm.gz hm) (by omega) (by omega);have aj:=TU a s (by omega);left;refine⟨qv a s,?_,by simp[pK,au],by omega⟩;simp only[Ff,go_sem,yT ((i:Int)<(t.aT.length:Int)),yT (s>=0),Fm.gE aE,av,b1 (bt:=false) (i:=i) (by omega)]
  right;simp only[Ff,go_sem,yT ((i:Int)<(t.aT.length:Int)),yF (s>=0),pK,xac au]
def Ib(f:Fm)(m:Int):Bool:=decide (qv f m>=0)
def ate(n:Nat)(f:Fm)(m:Int)(aM:f.bo+20<n)(bm:f.cp)(ab:0<=m)(af:m<1000000):Fh n [f.d,J m]=some (ay (Ib f m)):=by have:=ac3 n f m (by omega) bm ab af;simp[Fh,Zk,this,Ib]
def atf{f:Fm}{m:Int}(h:Ib f m=true)(hm:0<=m):(f.bo:Int)+1<=5*m:=by have ab:=xba h;have af:=(TU f m hm).2.2 ab;omega
def qw(t:Fm):Prop:=∃deep k,(im t deep k).1=0
def qw.one{t:Fm}(h:qw t):mz t=0:=by
 obtain⟨d,k,h⟩:=h;rw[H8]at h;split at h;.cases h
 split at h;.rename_i af;exact absurd h af
 rename_i af;simpa using af
def atg{l:List Fm}{d k:Int}(h:(k2 l d k).1=0):∀x∈l,qw x:=by
 induction l generalizing k with
 |nil=>intro x ag;cases ag
 |cons a r ih=>
  intro x ag;rw[k2]at h;by_cases af:(im a d k).1=0
  .simp only[af,ne_eq,xbD,xaF]at h;rcases xao.1 ag with rfl|ag
   .exact⟨d,k,af⟩
   exact ih h x ag
  simp only[ne_eq,af,xca,xaD]at h
def qw.gz{t k:Fm}(h:qw t)(ak:k∈t.aT):qw k:=by
 obtain⟨d,n,h⟩:=h;rw[H8]at h;split at h;.cases h
 split at h;.rename_i af;exact absurd h af
 split at h;.cases h
 exact atg h k ak
def qw.len{t:Fm}(h:qw t):(t.aT.length:Int)=mZ t.op/\¬mZ t.op<0:=by
 have ab:=h.one;unfold mz at ab;split at ab;.cases ab
 rename_i af;refine⟨?_,af⟩;split at ab;.rename_i aw;exact absurd ab aw.2
 split at ab;.cases ab
 rename_i a4;simp only[not_or,Decidable.not_not,ne_eq]at a4;exact a4.1
def T.vd(t:Tm):[J t.op,J t.num,aC t.name,cl 4 t.nl (Tm.rows t.aT)]=t.cells:=(Tm.nm t).symm
def F.ac4(t:Fm):[J t.op,J t.e.op,J t.e.num,aC t.e.name,cl 4 t.e.nl (Tm.rows t.e.aT),cl 6 t.nl (Fm.rows t.aT)]=t.cells:=(Fm.nm t).symm
def acB(s:List Fm)(p:Fm):Fm.rows (s++[p])=Fm.rows s++[p.cells]:=by simp[Fm.mr]
theorem T.xe(t:Tm):D.agg t.cells=t.d:=rfl
theorem F.xe(t:Fm):D.agg t.cells=t.d:=rfl
def TV:∀(n:Nat)(t u:Tm),t.bo<n->t.cp->u.cp->qn n [t.d,u.d]=some (ay (ek t u))
 |0,t,_,h,_,_=>absurd h (xay _)
 |n+1,t,u,aM,bm,Da=>by
  have b6:=bm.len;show GY (qn n) n t.d u.d=_;rcases ack t u with⟨ab,af,aw,a4⟩|⟨bd,ao⟩
  .have aq:=dG (f:=GW (qn n) n) t.aT (λi (_:Unit)=>[cl 4 t.nl (Tm.rows t.aT),J t.aT.length,J (i:Int),J u.op,J u.num,aC u.name,cl 4 u.nl (Tm.rows u.aT)]) (λr _=>if jJ r (u.aT.drop (t.aT.length-r.length))=true then(.inl []:List D⊕D)else .inr (ay false)) (λ_ _=>True) (λ_ _=>by simp[GW,jJ]) ?_ n 0 () trivial (by have:=t.kc;omega) (xai _)
   .have bF:(J ((0:Nat):Int))=J 0:=rfl;rw[bF]at aq;simp only[xak,xbW]at aq;have mI:ek t u=jJ t.aT u.aT:=by rw[u5];simp[ab,af,aw,a4]
    rw[mI];rw[a4]at aq;cases aG:jJ t.aT u.aT<;>rw[aG]at aq<;>simp[GY,ab,af,aw,a4,aq]
   intro i a _ aE ah _;have hm:=xaa aE;have bD:=Tm.jk hm;have rR:i<u.aT.length:=by omega
   have aj:=xab rR;have av:=TV n a u.aT[i] (by omega) (bm.gz hm) (Da.gz (xaX rR));have e:t.aT.length-(a::t.aT.drop (i+1)).length=i:=by simp;omega
   have dp:t.aT.length-(t.aT.drop (i+1)).length=i+1:=by rw[xce];omega
   have pI:u.aT.drop i=u.aT[i]::u.aT.drop (i+1):=xaZ rR;rw[e,pI,jJ,dp];cases aG:ek a u.aT[i];.right;simp[GW,ah,Tm.gE aE,Tm.gE aj,av,aG]
   left;exact⟨(),by simp[GW,ah,Tm.gE aE,Tm.gE aj,av,aG,b1 (bt:=false) (i:=i) (by omega)],by simp,trivial⟩
  rw[bd];by_cases ab:t.op=u.op<;>by_cases af:t.num=u.num<;>by_cases aw:t.name=u.name<;>simp[GY,ab,af,aw];have a4:¬((t.aT.length:Int)=(u.aT.length:Int)):=λa4=>ao ⟨ab,af,aw,by omega⟩;simp[a4]
structure Y where
 b:Bool
 lo:Int
 ah:Int
deriving DecidableEq
def Y.cells(y:Y):List D:=[ay y.b,J y.lo,J y.ah]
def Y.d(y:Y):D:= .agg [ay y.b,J y.lo,J y.ah]
def fX:Y:=⟨false,0,0⟩
def k3:Y:=⟨true,0,0⟩
def Y.lB(y:Y):Prop:=(y.b=true->y.lo=0/\y.ah=0)/\-1048576<=y.lo/\y.lo<=y.ah/\y.ah<=1048576
@[simp] theorem Y.oE (y:Y):a5 3 y.d=true:=rfl
@[simp] theorem Y.a7 (y:Y):ad y.d 0=ay y.b:=rfl
@[simp] theorem Y.bR (y:Y):ad y.d 1=J y.lo:=rfl
@[simp] theorem Y.bY (y:Y):ad y.d 2=J y.ah:=rfl
@[simp] theorem Y.E7 (y:Y):D.agg [ay y.b,J y.lo,J y.ah]=y.d:=rfl
@[simp high] theorem Y.a3 (y:Y):Go.Am.a3 true 3 0 y.cells=some y.d:=rfl
@[simp] theorem Y.fY (y:Y):y.cells[0]?=some (ay y.b):=rfl
@[simp] theorem Y.ho (y:Y):y.cells[1]?=some (J y.lo):=rfl
@[simp] theorem Y.ak7 (y:Y):y.cells[2]?=some (J y.ah):=rfl
@[simp] theorem Y.flat (y:Y):y.d.flat=true:=rfl
@[simp] theorem az6 (y:Y) (e:Int):(D.a1 [y.d,J e]).flat=true:=rfl
def j1(lo ah:Int):Y×Int:=if lo< -1048576\/ah>1048576\/lo>ah\/ah-lo>4096 then(fX,2)else(⟨false,lo,ah⟩,0)
def Db{lo ah:Int}(h:(j1 lo ah).2=0):(j1 lo ah).1.lB:=by
 unfold j1 at*;split at h;.cases h
 rename_i ao;rw[xac ao];exact⟨by simp,by simp;omega,by simp;omega,by simp;omega⟩
theorem ac5(lo ah:Int):(D.a1 [(j1 lo ah).1.d,J (j1 lo ah).2])=if lo< -1048576\/ah>1048576\/lo>ah\/ah-lo>4096 then D.a1 [.agg [ay false,J 0,J 0],J 2]else D.a1 [.agg [ay false,J lo,J ah],J 0]:=by unfold j1;split<;>rfl
def ve(n:Nat)(lo ah:Int):rv n [J lo,J ah]=some (.a1 [(j1 lo ah).1.d,J (j1 lo ah).2]):=by rw[ac5];have a4:-1048576<=lo->ah<=1048576->lo<=ah->IntKind.i64.wrap (ah-lo)=ah-lo:=λ_ _ _=>wrap64 _ (by omega) (by omega);simp[rv,ZH,Q2,-YY,-YD];grind
def Ic(n:Nat)(lo ah:Int):qp n [J lo,J ah]=some (.a1 [(j1 lo ah).1.d,J (j1 lo ah).2]):=by
 have hw:IntKind.i64.wrap (-1048576)=-1048576:=by decide
 rw[ac5];have a4:-1048576<=lo->ah<=1048576->lo<=ah->IntKind.i64.wrap (ah-lo)=ah-lo:=λ_ _ _=>wrap64 _ (by omega) (by omega);simp[qp,aaw,Q2,hw,-YY,-YD];grind
def gV(l:List Y):D:= .ax 3 (l.map Y.cells)
def Ie{l:List Y}{i:Nat}{y:Y}(h:l[i]?=some y):bn 3 (gV l) (J (i:Int))=some y.cells:=by simp[gV,h]
def ath(n:Nat)(l:List Y)(aM:l.length<n)(aq:l.length<1000000000):F2 n [gV l]=some (.a1 [(if l.all Y.b then k3 else fX).d,J (if l.all Y.b then 0 else 13)]):=by
 have ah:=dG (f:=F0 n) l (λi (s:Unit)=>[gV l,J l.length,J (i:Int),ay false,J 0,J 0]) (λr _=>if r.all Y.b then(Sum.inl [ay false,J 0,J 0]:List D⊕D)else .inr (.a1 [fX.d,J 13])) (λ_ _=>True) (λ_ _=>by simp[F0]) ?_ n 0 () trivial (by omega) (xai _)
 .have bF:(J ((0:Nat):Int))=J 0:=rfl;rw[bF]at ah;have b6:bK (gV l)=some (J l.length):=by simp[gV]
  simp only[F2,ZI,b6,eH,ah,xak];by_cases h:l.all Y.b=true;.simp only[h,xaD,qd];rfl
  simp only[h,xat,xaF,EW]
 intro i a _ aE ah _;have:=Ie aE;cases aj:a.b
 .right;simp[F0,ah,this,b1 (bt:=false) (i:=i) (by omega),aj];rfl
 left;exact⟨(),by simp[F0,ah,this,b1 (bt:=false) (i:=i) (by omega),aj],by simp[aj],trivial⟩
def ati(n:Nat)(l:List Y)(aM:l.length<n)(aq:l.length<1000000000):Hu n [gV l]=some (ay (l.all Y.b)):=by
 have b6:bK (gV l)=some (J l.length):=by simp[gV]
 have ah:=dG (f:=Ht n) l (λi (s:Unit)=>[gV l,J (i:Int)]) (λr _=>if r.all Y.b then(Sum.inl []:List D⊕D)else .inr (ay false)) (λ_ _=>True) (λ_ _=>by simp[Ht,b6]) ?_ n 0 () trivial (by omega) (xai _)
 .have bF:(J ((0:Nat):Int))=J 0:=rfl;rw[bF]at ah;simp only[Hu,aay,eH,ah,xak];by_cases h:l.all Y.b=true;.simp only[h,xaD,qd,eH]
  simp only[h,xat,xaF,EW,eH]
 intro i a _ aE ah _;have:=Ie aE;cases aj:a.b
 .right;simp[Ht,b6,ah,this,b1 (bt:=false) (i:=i) (by omega),aj]
 left;exact⟨(),by simp[Ht,b6,ah,this,b1 (bt:=false) (i:=i) (by omega),aj],by simp[aj],trivial⟩
def rT(a b:Int):Int:=if b<a then b else a
def hr(a b:Int):Int:=if b>a then b else a
def TW(a b:Int):lK true [J a,J b]=some (J (hr a b)):=YS a b
def TX(a b:Int):lK false [J a,J b]=some (J (rT a b)):=YT a b
theorem atj(a b c d:Int):lK true [J a,J b,J c,J d]=some (J (hr (hr (hr a b) c) d)):=rfl
theorem atk(a b c d:Int):lK false [J a,J b,J c,J d]=some (J (rT (rT (rT a b) c) d)):=rfl
def xf{x y:Int}(ag:-1048576<=x/\x<=1048576)(aQ:-1048576<=y/\y<=1048576):-1099511627776<=x*y/\x*y<=1099511627776:=by
 have ab:x.natAbs<=1048576:=by omega
 have af:y.natAbs<=1048576:=by omega
 have aw:(x*y).natAbs<=1048576*1048576:=by rw[Int.natAbs_mul];exact Nat.mul_le_mul ab af
 omega
def MW(a b:Y):Int:=rT (rT (rT (a.lo*b.lo) (a.lo*b.ah)) (a.ah*b.lo)) (a.ah*b.ah)
def MX(a b:Y):Int:=hr (hr (hr (a.lo*b.lo) (a.lo*b.ah)) (a.ah*b.lo)) (a.ah*b.ah)
def tk(op:Int)(a b:Y):Y×Int:=if op=15 then j1 (a.lo-b.ah) (a.ah-b.lo)else if op=14 then j1 (a.lo+b.lo) (a.ah+b.ah)else j1 (MW a b) (MX a b)
def atl(n:Nat)(op:Int)(a b:Y)(aE:a.lB)(aj:b.lB):yR n [J op,a.d,b.d]=some (.a1 [(tk op a b).1.d,J (tk op a b).2]):=by
 obtain⟨_,an,bb,b4⟩:=aE;obtain⟨_,eI,gW,kz⟩:=aj;have mg:IntKind.i64.wrap (-b.ah)=-b.ah:=wrap64 _ (by omega) (by omega);have tW:IntKind.i64.wrap (-b.lo)=-b.lo:=wrap64 _ (by omega) (by omega);by_cases ab:op=15
 .subst ab;have aL:a.lo+-b.ah=a.lo-b.ah:=by omega
  have aX:a.ah+-b.lo=a.ah-b.lo:=by omega
  simp(disch:=omega) [yR,Lr,tk,mg,tW,gr,ve,aL,aX]
 by_cases af:op=14;.subst af;simp(disch:=omega) [yR,Lr,tk,gr,ve]
 have gD:=xf (x:=a.lo) (y:=b.lo) (by omega) (by omega);have kx:=xf (x:=a.lo) (y:=b.ah) (by omega) (by omega);have u6:=xf (x:=a.ah) (y:=b.lo) (by omega) (by omega);have atm:=xf (x:=a.ah) (y:=b.ah) (by omega) (by omega);simp(disch:=omega) [yR,Lr,tk,ab,af,KV,ve,atj,atk,MW,MX]
def atn(n:Nat)(a b:Y)(aM:6<=n)(aE:a.lB)(aj:b.lB):Hv n [a.d,b.d]=some (.a1 [J (MW a b),J (MX a b)]):=by
 obtain⟨_,an,bb,b4⟩:=aE;obtain⟨_,eI,gW,kz⟩:=aj;have gD:=xf (x:=a.lo) (y:=b.lo) (by omega) (by omega);have kx:=xf (x:=a.lo) (y:=b.ah) (by omega) (by omega);have u6:=xf (x:=a.ah) (y:=b.lo) (by omega) (by omega);have atm:=xf (x:=a.ah) (y:=b.ah) (by omega) (by omega);obtain⟨k,rfl⟩:∃k,n=k+4:=⟨n-4,by omega⟩;have C1:cg 4 (J 0)=some 0:=rfl;have dw:cg 4 (J 1)=some 1:=rfl;have da:cg 4 (J 2)=some 2:=rfl;have eM:cg 4 (J 3)=some 3:=rfl;unfold MW MX;simp(disch:=omega) [Hv,aaz,KV,C1];generalize a.lo*b.lo=w at*;generalize a.lo*b.ah=x at*;generalize a.ah*b.lo=y at*;generalize a.ah*b.ah=z at*;have jK:rT w x=rT w x:=rfl;have step:∀(p q:Int)(i j:Int)(r:Int),i+1=j->(cg 4 (J i)=some i.toNat)->i<4->0<=i->([[J w],[J x],[J y],[J z]]:List (List D))[i.toNat]?=some [J r]->Mj (k+4) [J p,J q,J i,.ax 1 [[J w],[J x],[J y],[J z]]]=some (.inl [J (rT p r),J (hr q r),J j,.ax 1 [[J w],[J x],[J y],[J z]]]):=by intro p q i j r au ab af aw a4;subst au;simp(disch:=omega) [Mj,ab,af,a4,TW,TX,gr]
 rw[jH,step w w 1 2 x rfl rfl (by omega) (by omega) rfl];simp only[eH];rw[jH,step _ _ 2 3 y rfl rfl (by omega) (by omega) rfl];simp only[eH];rw[jH,step _ _ 3 4 z rfl rfl (by omega) (by omega) rfl];simp only[eH];rw[jH];simp[Mj]
def Valid(t:Tm):Prop:=∃deep k:Int,(dg t deep k).1=0
def Valid.MY{t:Tm}(h:Valid t):il t=0:=by
 obtain⟨deep,k,h⟩:=h;rw[u3]at h;split at h;.cases h
 split at h;.assumption
 rename_i ao;simpa using ao
def ac6:∀(l:List Tm)(deep k:Int),(fA l deep k).1=0->∀x∈l,Valid x
 |[],_,_,_,x,ag=>by cases ag
 |a::r,deep,k,h,x,ag=>by
  rw[fA]at h;split at h;.rename_i ao;exact absurd h ao
  rename_i ao;rcases xao.1 ag with rfl|ag
  .exact⟨deep,k,by simpa using ao⟩
  exact ac6 r deep _ h x ag
def Valid.gz{t x:Tm}(h:Valid t)(ag:x∈t.aT):Valid x:=by
 have hw:=h.MY;obtain⟨deep,k,h⟩:=h;rw[u3]at h;split at h;.cases h
 split at h;.rename_i ao;exact absurd hw ao
 split at h;.cases h
 exact ac6 _ _ _ h x ag
def Valid.op{t:Tm}(h:Valid t):1<=t.op/\t.op<=18:=by
 have hw:=h.MY;unfold il at hw;split at hw;.cases hw
 rename_i ao;unfold hf at ao;refine xbA λaM=>?_;simp only[show¬(t.op=1\/t.op=2\/t.op=3\/t.op=4) by omega,show¬t.op=5 by omega,show¬(t.op=6\/t.op=7) by omega,show¬t.op=18 by omega,show(t.op<1\/t.op>18) by omega,xaD,xaF]at ao;exact ao (by decide)
def ac7{t:Tm}(hw:il t=0):¬(hf t.op).1<0/\¬((t.num<(if t.op=1 then-255 else 0))\/t.num>(if t.op=1 then 255 else if t.op=2 then 1 else 0))/\ ¬(if CY t.op then t.name=⟨#[]⟩\/t.name.size>24 else t.name≠⟨#[]⟩)/\¬((t.aT.length:Int)<(hf t.op).1\/(t.aT.length:Int)>(hf t.op).2):=by
 unfold il at hw;by_cases ab:(hf t.op).1<0;.rw[xad ab]at hw;cases hw
 rw[xac ab]at hw;by_cases af:(t.num<(if t.op=1 then-255 else 0))\/t.num>(if t.op=1 then 255 else if t.op=2 then 1 else 0);.rw[xad af]at hw;cases hw
 rw[xac af]at hw;by_cases aw:(if CY t.op then t.name=⟨#[]⟩\/t.name.size>24 else t.name≠⟨#[]⟩);.rw[xad aw]at hw;cases hw
 rw[xac aw]at hw;by_cases a4:((t.aT.length:Int)<(hf t.op).1\/(t.aT.length:Int)>(hf t.op).2);.rw[xad a4]at hw;cases hw
 exact⟨ab,af,aw,a4⟩
def Valid.len{t:Tm}(h:Valid t):(hf t.op).1<=t.aT.length/\(t.aT.length:Int)<=(hf t.op).2:=by have:=(ac7 h.MY).2.2.2;omega
def Valid.num{t:Tm}(h:Valid t):-255<=t.num/\t.num<=255/\(t.op≠1->0<=t.num/\t.num<=1)/\(t.op≠1->t.op≠2->t.num=0):=by
 have af:=(ac7 h.MY).2.1;by_cases bR:t.op=1;.simp only[bR,xaD]at af;exact⟨by omega,by omega,by omega,by omega⟩
 by_cases bY:t.op=2;.simp only[bR,bY,xaD,xaF]at af;exact⟨by omega,by omega,by omega,by omega⟩
 simp only[bR,bY,xaF]at af;exact⟨by omega,by omega,by omega,by omega⟩
def k4(t:Tm)(l:List Y):Y×Int:=if 5<=t.op/\t.op<=9 then if l.all Y.b then(k3,0)else(fX,13)
 else match l with
  |[a,b,c]=>if(!a.b||(b.b !=c.b))then(fX,13)else if b.b then(k3,0)else j1 (rT b.lo c.lo) (hr b.ah c.ah)
  |[a,b]=>if t.op=10\/t.op=11 then if a.b !=b.b then(fX,13)else(k3,0)
   else if(a.b||b.b)then(fX,13)
   else if t.op=12\/t.op=13 then(k3,0)
   else if t.op=17 then(match t.aT[1]? with
    |some k=>if k.op≠1\/k.num<1 then(fX,2)else j1 0 (k.num-1)
    |none=>(fX,0))
   else tk t.op a b
  |_=>(fX,0)
theorem ac8{α:Type}{l:List α}(h:l.length=3):∃a b c,l=[a,b,c]:=by match l,h with|[a,b,c],_=>exact⟨a,b,c,rfl⟩
theorem MZ{α:Type}{l:List α}(h:l.length=2):∃a b,l=[a,b]:=by match l,h with|[a,b],_=>exact⟨a,b,rfl⟩
theorem ac9{op:Int}(h:op=18):hf op=(3,3):=by subst h;rfl
def ada{op:Int}(h:8<=op/\op<=17):hf op=(2,2):=by unfold hf;rw[xac (by omega),xac (by omega),xac (by omega),xac (by omega),xac (by omega)]
def adb{l:List Tm}{b:Bool}{t:Tm}(h:l[1]?=some t):bn 4 (cl 4 b (Tm.rows l)) (J 1)=some t.cells:=Tm.gE (i:=1) h
def M0{l:List Y}{y:Y}(h:l[0]?=some y):bn 3 (gV l) (J 0)=some y.cells:=Ie (i:=0) h
def M1{l:List Y}{y:Y}(h:l[1]?=some y):bn 3 (gV l) (J 1)=some y.cells:=Ie (i:=1) h
def ade{l:List Y}{y:Y}(h:l[2]?=some y):bn 3 (gV l) (J 2)=some y.cells:=Ie (i:=2) h
set_option maxHeartbeats 1000000 in
def ato(n:Nat)(t:Tm)(l:List Y)(a6:Valid t)(cv:l.length=t.aT.length)(eF:5<=t.op)(cb:∀y∈l,y.lB)(aM:100<n):zz n [t.d,gV l]=some (.a1 [(k4 t l).1.d,J (k4 t l).2]):=by
 have atp:=a6.op;have b6:=a6.len;have a7:=Tm.uw t;have ct:=Tm.wv t;have k5:=Tm.oE t;have iS:D.agg [ay false,J 0,J 0]=fX.d:=rfl;have k6:D.agg [ay true,J 0,J 0]=k3.d:=rfl;have ak:=ada (op:=t.op);have TY:=ac9 (op:=t.op);have atq:l.length<=64:=by
  have:(hf t.op).2<=64:=by unfold hf;repeat(first|split|decide)
  omega
 have aK:=ati n l (by omega) (by omega);by_cases ab:t.op<=9
 .have e:k4 t l=if l.all Y.b then(k3,0)else(fX,13):=by unfold k4;rw[xad ⟨eF,ab⟩]
  rw[e];have ao:t.op=5\/t.op=6\/t.op=7\/t.op=8\/t.op=9:=by omega
  generalize t.op=op at*;generalize l.all Y.b=q at*;rcases ao with rfl|rfl|rfl|rfl|rfl<;>simp[zz,Mk,k5,a7,aK,iS,k6]<;>cases q<;>simp
 by_cases af:t.op=18;.rw[TY af]at b6;obtain⟨a,b,c,rfl⟩:=ac8 (l:=l) (by simp at b6;omega);have o3:=M0 (l:=[a,b,c]) rfl;have aW:=M1 (l:=[a,b,c]) rfl;have a2:=ade (l:=[a,b,c]) rfl;unfold k4;generalize gV [a,b,c]=L at*;rw[xac (by omega)];simp[zz,Mk,k5,a7,af,o3,aW,a2,iS,k6,Ic,TW,TX];cases a.b<;>cases b.b<;>cases c.b<;>(try simp)
 have aw:10<=t.op/\t.op<=17:=by omega
 rw[ak (by omega)]at b6;obtain⟨a,b,rfl⟩:=MZ (l:=l) (by simp at b6;omega);have o3:=M0 (l:=[a,b]) rfl;have aW:=M1 (l:=[a,b]) rfl;have Ig:=cb a (by simp);have xg:=cb b (by simp);have aU:=atn n a b (by omega) Ig xg;obtain⟨_,an,bb,b4⟩:=Ig;obtain⟨_,eI,gW,kz⟩:=xg;unfold k4;generalize gV [a,b]=L at*;rw[xac (by omega)];obtain⟨Ep,cE,eJ⟩:=MZ (l:=t.aT) (by simp at b6;omega);have TZ:=adb (l:=t.aT) (b:=t.nl) (t:=cE) (by rw[eJ];rfl);have atr:=(a6.gz (x:=cE) (by rw[eJ];simp)).num;have s1:IntKind.i64.wrap (cE.num-1)=cE.num-1:=wrap64 _ (by omega) (by omega);have f5:ai false .sub (J cE.num) (J 1)=some (J (cE.num-1)):=mq (by omega) (by omega);have f1:ai false .add (J a.lo) (J b.lo)=some (J (a.lo+b.lo)):=gr (by omega) (by omega);have f2:ai false .add (J a.ah) (J b.ah)=some (J (a.ah+b.ah)):=gr (by omega) (by omega);have f3:ai false .sub (J a.lo) (J b.ah)=some (J (a.lo-b.ah)):=mq (by omega) (by omega);have f4:ai false .sub (J a.ah) (J b.lo)=some (J (a.ah-b.lo)):=mq (by omega) (by omega);have ao:t.op=10\/t.op=11\/t.op=12\/t.op=13\/t.op=14\/t.op=15\/t.op=16\/t.op=17:=by omega
 have bw:(t.aT[1]?)=some cE:=by rw[eJ];rfl
 generalize t.op=op at*;have ats:∀x y:Int,j1 x y=j1 x y:=λ_ _=>rfl;rcases ao with rfl|rfl|rfl|rfl|rfl|rfl|rfl|rfl<;>
  cases dy:a.b<;>cases gC:b.b<;>simp[zz,Mk,k5,a7,ct,o3,aW,TZ,bw,iS,k6,Ic,tk,f1,f2,f3,f4,f5,aU,dy,gC]
 all_goals (by_cases hT:cE.op=1<;>by_cases o2:cE.num<1<;>simp[hT,o2])
set_option maxHeartbeats 2000000 in
def att(n:Nat)(atu M:D)(t:Tm)(nx:Bool)(l:List Y)(a6:Valid t)(cv:l.length=t.aT.length)(eF:5<=t.op)(cb:∀y∈l,y.lB)(aM:100<n):oK n [atu,M,t.d,ay nx,gV l]=some (.a1 [(k4 t l).1.d,J (k4 t l).2]):=by
 have atp:=a6.op;have b6:=a6.len;have a7:=Tm.uw t;have ct:=Tm.wv t;have k5:=Tm.oE t;have iS:D.agg [ay false,J 0,J 0]=fX.d:=rfl;have k6:D.agg [ay true,J 0,J 0]=k3.d:=rfl;have ak:=ada (op:=t.op);have TY:=ac9 (op:=t.op);have atq:l.length<=64:=by
  have:(hf t.op).2<=64:=by unfold hf;repeat(first|split|decide)
  omega
 have aK:=ath n l (by omega) (by omega);by_cases ab:t.op<=9
 .have e:k4 t l=if l.all Y.b then(k3,0)else(fX,13):=by unfold k4;rw[xad ⟨eF,ab⟩]
  rw[e];have ao:t.op=5\/t.op=6\/t.op=7\/t.op=8\/t.op=9:=by omega
  generalize t.op=op at*;generalize l.all Y.b=q at*;rcases ao with rfl|rfl|rfl|rfl|rfl<;>simp[oK,sW,k5,a7,aK,iS,k6]<;>cases q<;>simp
 by_cases af:t.op=18;.rw[TY af]at b6;obtain⟨a,b,c,rfl⟩:=ac8 (l:=l) (by simp at b6;omega);have o3:=M0 (l:=[a,b,c]) rfl;have aW:=M1 (l:=[a,b,c]) rfl;have a2:=ade (l:=[a,b,c]) rfl;have xg:=(cb b (by simp)).1;unfold k4;generalize gV [a,b,c]=L at*;rw[xac (by omega)];simp[oK,sW,k5,a7,af,o3,aW,a2,iS,k6,ve,TW,TX];obtain⟨gS,az7,az8⟩:=b;cases a.b<;>cases gS<;>cases c.b<;>simp at xg⊢;obtain⟨rfl,rfl⟩:=xg;rfl
 have aw:10<=t.op/\t.op<=17:=by omega
 rw[ak (by omega)]at b6;obtain⟨a,b,rfl⟩:=MZ (l:=l) (by simp at b6;omega);have o3:=M0 (l:=[a,b]) rfl;have aW:=M1 (l:=[a,b]) rfl;have Ig:=cb a (by simp);have xg:=cb b (by simp);have aU:=λop=>atl n op a b Ig xg;obtain⟨_,an,bb,b4⟩:=Ig;obtain⟨_,eI,gW,kz⟩:=xg;unfold k4;generalize gV [a,b]=L at*;rw[xac (by omega)];obtain⟨Ep,cE,eJ⟩:=MZ (l:=t.aT) (by simp at b6;omega);have TZ:=adb (l:=t.aT) (b:=t.nl) (t:=cE) (by rw[eJ];rfl);have atr:=(a6.gz (x:=cE) (by rw[eJ];simp)).num;have s1:IntKind.i64.wrap (cE.num-1)=cE.num-1:=wrap64 _ (by omega) (by omega);have f5:ai false .sub (J cE.num) (J 1)=some (J (cE.num-1)):=mq (by omega) (by omega);have f1:ai false .add (J a.lo) (J b.lo)=some (J (a.lo+b.lo)):=gr (by omega) (by omega);have f2:ai false .add (J a.ah) (J b.ah)=some (J (a.ah+b.ah)):=gr (by omega) (by omega);have f3:ai false .sub (J a.lo) (J b.ah)=some (J (a.lo-b.ah)):=mq (by omega) (by omega);have f4:ai false .sub (J a.ah) (J b.lo)=some (J (a.ah-b.lo)):=mq (by omega) (by omega);have ao:t.op=10\/t.op=11\/t.op=12\/t.op=13\/t.op=14\/t.op=15\/t.op=16\/t.op=17:=by omega
 have bw:(t.aT[1]?)=some cE:=by rw[eJ];rfl
 generalize t.op=op at*;have ats:∀x y:Int,j1 x y=j1 x y:=λ_ _=>rfl;rcases ao with rfl|rfl|rfl|rfl|rfl|rfl|rfl|rfl<;>
  cases dy:a.b<;>cases gC:b.b<;>simp[oK,sW,k5,a7,ct,o3,aW,TZ,bw,iS,k6,ve,aU,f1,f2,f3,f4,f5,dy,gC]
 all_goals (by_cases hT:cE.op=1<;>by_cases o2:cE.num<1<;>simp[hT,o2])
def fk(vs:List V)(x:ByteArray):Option Nat:=vs.findIdx? (λv=>decide (v.name=x))
def Ih{vs:List V}{x:ByteArray}{i:Nat}(h:fk vs x=some i):∃v,vs[i]?=some v/\v.name=x/\i<vs.length:=by obtain⟨ab,af,_⟩:=xbh.1 h;exact⟨_,xab ab,by simpa using af,ab⟩
theorem V.Ii(v:V):v.cells[0]?=some (aC v.name)/\v.cells[1]?=some (ay v.bool)/\v.cells[2]?=some (J v.lo)/\v.cells[3]?=some (J v.ah):=⟨rfl,rfl,rfl,rfl⟩
def g5{l:List V}{i:Nat}{v:V}(h:l[i]?=some v):bn 4 (bj l) (J (i:Int))=some v.cells:=by simp[bj,h]
def fB(l:List V):bK (bj l)=some (J l.length):=by simp[bj]
theorem V.n3(v:V):a3 true 4 0 v.cells=some v.d/\a5 4 v.d=true/\ad v.d 0=aC v.name:=⟨rfl,rfl,rfl⟩
def tl:List V->Nat->List (Value×D)->List (Value×D)
 |[],_,M=>M|v::r,i,M=>tl r (i+1) (if(gA M v.name).isSome then M else(nh .string M (aC v.name) (J i)).getD [])
def T0:∀(r:List V)(i:Nat)(M:List (Value×D)),lu M->lu (tl r i M)/\∀x,gA (tl r i M) x=match gA M x with|some d=>some d|none=>(fk r x).map λj=>J ((i+j:Nat):Int)
 |[],i,M,h=>⟨h,λx=>by simp only[tl,fk,List.findIdx?_nil];cases gA M x<;>rfl⟩
 |v::r,i,M,h=>by
  rw[tl];have e:∀x,fk (v::r) x=if v.name=x then some 0 else(fk r x).map (·+1):=by intro x;simp[fk,xbU]
  by_cases aG:(gA M v.name).isSome
  .rw[xad aG];obtain⟨ab,af⟩:=T0 r (i+1) M h;refine⟨ab,λx=>?_⟩;rw[af x,e x];cases ag:gA M x with
   |some d=>rfl
   |none=>
    have cU:¬v.name=x:=by rintro rfl;simp[ag]at aG
    simp only[cU,xaF,Option.map_map]
    congr 1
    funext j
    simp only[Function.comp]
    congr 2
    omega
  rw[xac aG];obtain⟨cW,dw,da,eM,_⟩:=Bs h v.name (J i);rw[dw,xbc];obtain⟨ab,af⟩:=T0 r (i+1) cW da;refine⟨ab,λx=>?_⟩;rw[af x,eM x,e x];by_cases ag:x=v.name
  .subst ag;have aM:gA M v.name=none:=by simpa using aG
   simp[aM]
  have cU:¬v.name=x:=λh=>ag h.symm;simp only[ag,cU,xaF];cases cb:gA M x with
  |some d=>rfl
  |none=>
   simp only[Option.map_map]
   congr 1
   funext j
   simp only[Function.comp]
   congr 2
   omega
def T1(M:List (Value×D))(vs:List V):Prop:=lu M/\∀x,gA M x=(fk vs x).map λ(j:Nat)=>J (j:Int)
def atv(n:Nat)(vs:List V)(aM:vs.length<n)(aq:vs.length<1000000000000):∃M,FZ n [bj vs]=some (.mp M)/\T1 M vs:=by
 have au:lu []:=by intro e he;cases he
 obtain⟨ab,af⟩:=T0 vs 0 [] au;refine⟨tl vs 0 [],?_,ab,λx=>by rw[af x];simp only[gA,xau]⟩;have ah:=dG (f:=FY n) vs (λi (M:List (Value×D))=>[bj vs,J vs.length,J (i:Int),.mp M]) (λr M=>(Sum.inl [.mp (tl r (vs.length-r.length) M)]:List D⊕D)) (λi M=>lu M) (λM _=>by simp[FY,tl]) ?_ n 0 [] au (by omega) (xai _)
 .have bF:(J ((0:Nat):Int))=J 0:=rfl;rw[bF]at ah;simp[FZ,ZG,fB,ah]
 intro i a M aE ah eb;left;have e:vs.length-(a::vs.drop (i+1)).length=i:=by simp;omega
 have dp:vs.length-(vs.drop (i+1)).length=i+1:=by simp;omega
 have aw:=ys eb (z:= .int .i64 0) (x:=a.name);have ac:=a.n3;cases cb:gA M a.name with|some d=>rw[cb]at aw;refine⟨M,by simp[FY,ah,g5 aE,ac,aw,b1 (bt:=false) (i:=i) (by omega)],?_,eb⟩;rw[e,tl,cb,dp];rfl|none=>rw[cb]at aw;obtain⟨cW,dw,da,eM,_⟩:=Bs eb a.name (J i);refine⟨cW,by simp[FY,ah,g5 aE,ac,aw,dw,b1 (bt:=false) (i:=i) (by omega)],?_,da⟩;rw[e,tl,cb,dp];simp only[Option.isSome_none,xat,xaF,dw,xbc]
def atw(n:Nat)(vs:List V)(x:ByteArray)(aM:vs.length<n)(aq:vs.length<1000000000000):Hs n [bj vs,aC x]=some (J (match fk vs x with|some i=>(i:Int)|none=>-1)):=by
 have ah:=dG (f:=Hr n) vs (λi (_:Unit)=>[bj vs,aC x,J (i:Int)]) (λr _=>match fk r x with|some j=>(Sum.inr (J ((vs.length-r.length+j:Nat):Int)):List D⊕D)|none=> .inl []) (λ_ _=>True) (λ_ _=>by simp[Hr,fB,fk]) ?_ n 0 () trivial (by omega) (xai _);.have bF:(J ((0:Nat):Int))=J 0:=rfl;rw[bF]at ah;simp only[Hs,aax,ah,xak,eH];cases fk vs x<;>simp
 intro i a _ aE ah _;have e:vs.length-(a::vs.drop (i+1)).length=i:=by simp;omega
 have dp:vs.length-(vs.drop (i+1)).length=i+1:=by simp;omega
 have nC:fk (a::vs.drop (i+1)) x=if a.name=x then some 0 else(fk (vs.drop (i+1)) x).map (·+1):=by simp[fk,xbU]
 have ac:=a.Ii;by_cases ag:a.name=x;.right;rw[nC,xad ag,e];simp[Hr,fB,ah,g5 aE,ac,ag]
 left;refine⟨(),by simp[Hr,fB,ah,g5 aE,ac,ag,b1 (bt:=false) (i:=i) (by omega)],?_,trivial⟩;rw[nC,xac ag,e,dp];cases fk (vs.drop (i+1)) x with|none=>rfl|some j=>simp;omega
def pL(vs:List V)(nx:Bool)(t:Tm):Y×Int:=if t.op=1 then j1 t.num t.num else if t.op=2 then(k3,0)
 else match fk vs t.name with
  |none=>(fX,12)
  |some i=>if t.op=4/\nx=false then(fX,24)else match vs[i]? with
   |some v=>if v.bool then(k3,0)else j1 v.lo v.ah
   |none=>(fX,12)
mutual
def hq(vs:List V)(nx:Bool):Tm->Y×Int
 | .mk o n s b ks=>if o<=4 then pL vs nx (.mk o n s b ks)else if(g6 vs nx ks).2≠0 then(fX,(g6 vs nx ks).2)else k4 (.mk o n s b ks) (g6 vs nx ks).1
def g6(vs:List V)(nx:Bool):List Tm->List Y×Int
 |[]=>([],0)|t::r=>if(hq vs nx t).2≠0 then([],(hq vs nx t).2)else if(g6 vs nx r).2≠0 then([],(g6 vs nx r).2)else((hq vs nx t).1::(g6 vs nx r).1,0)
end
theorem Dc(vs:List V)(nx:Bool)(t:Tm):hq vs nx t=if t.op<=4 then pL vs nx t else if(g6 vs nx t.aT).2≠0 then(fX,(g6 vs nx t.aT).2)else k4 t (g6 vs nx t.aT).1:=by cases t;rw[hq];rfl
def T2:k3.lB:=⟨by simp[k3],by simp[k3],by simp[k3],by simp[k3]⟩
def atx{vs:List V}{nx:Bool}{t:Tm}(h:(pL vs nx t).2=0):(pL vs nx t).1.lB:=by
 unfold pL at*;by_cases ab:t.op=1;.rw[xad ab]at*;exact Db h
 rw[xac ab]at*;by_cases af:t.op=2;.rw[xad af];exact T2
 rw[xac af]at*;cases ah:fk vs t.name with
 |none=>simp[ah]at h
 |some i=>
  simp only[ah]at h⊢;by_cases aw:t.op=4/\nx=false;.simp[aw]at h
  rw[xac aw]at*;cases a6:vs[i]? with
  |none=>simp[a6]at h
  |some v=>
   simp only[a6]at h⊢;by_cases aj:v.bool=true;.rw[xad aj];exact T2
   rw[xac aj]at*;exact Db h
def aty{op:Int}{a b:Y}(h:(tk op a b).2=0):(tk op a b).1.lB:=by
 unfold tk at*;split at h;.rename_i ab;rw[xad ab];exact Db h
 rename_i ab;split at h;.rename_i af;rw[xac ab,xad af];exact Db h
 rename_i af;rw[xac ab,xac af];exact Db h
def tn{c:Prop}[Decidable c]{x y:Y×Int}(ag:x.2=0->x.1.lB\/x.1=fX)(aQ:y.2=0->y.1.lB\/y.1=fX):(if c then x else y).2=0->(if c then x else y).1.lB\/(if c then x else y).1=fX:=by
 split;.exact ag
 exact aQ
def atz{t:Tm}{l:List Y}:(k4 t l).2=0->(k4 t l).1.lB\/(k4 t l).1=fX:=by
 have z:∀e:Int,((fX,e):Y×Int).2=0->((fX,e):Y×Int).1.lB\/((fX,e):Y×Int).1=fX:=λ_ _=> .inr rfl;have y:((k3,0):Y×Int).2=0->((k3,0):Y×Int).1.lB\/((k3,0):Y×Int).1=fX:=λ_=> .inl T2;have sp:∀a b:Int,(j1 a b).2=0->(j1 a b).1.lB\/(j1 a b).1=fX:=λa b h=> .inl (Db h);unfold k4;refine tn (tn y (z _)) ?_;split
 .exact tn (z _) (tn y (sp _ _))
 .refine tn (tn (z _) y) (tn (z _) (tn y (tn ?_ (λh=> .inl (aty h)))));split;.exact tn (z _) (sp _ _)
  exact z _
 exact z _
def atA:fX.lB:=⟨by simp[fX],by simp[fX],by simp[fX],by simp[fX]⟩
def atB(vs:List V)(nx:Bool)(t:Tm)(h:(hq vs nx t).2=0):(hq vs nx t).1.lB:=by
 rw[Dc]at*;split at h;.rename_i ao;rw[xad ao];exact atx h
 rename_i ao;rw[xac ao];split at h;.rename_i bx;exact absurd h bx
 rename_i bx;rw[xac bx];rcases atz h with ab|ab
 .exact ab
 rw[ab];exact atA
def T3(vs:List V)(nx:Bool):∀(l:List Tm),(g6 vs nx l).2=0->(g6 vs nx l).1.length=l.length/\∀y∈(g6 vs nx l).1,y.lB
 |[],_=>⟨rfl,by intro y aQ;cases aQ⟩
 |t::r,h=>by
  rw[g6]at*;by_cases ab:(hq vs nx t).2=0
  case neg=>rw[xad ab]at h;exact absurd h ab
  rw[xac (by simpa using ab)]at*;by_cases af:(g6 vs nx r).2=0
  case neg=>rw[xad af]at h;exact absurd h af
  rw[xac (by simpa using af)];obtain⟨aW,a2⟩:=T3 vs nx r af;refine⟨by simp[aW],λy aQ=>?_⟩;rcases xao.1 aQ with rfl|aQ
  .exact atB vs nx t ab
  exact a2 y aQ
def atC(n:Nat)(vs:List V)(M:List (Value×D))(t:Tm)(nx:Bool)(L:D)(eb:T1 M vs)(a4:t.op<=4)(ab:1<=t.op):oK n [bj vs,.mp M,t.d,ay nx,L]=some (.a1 [(pL vs nx t).1.d,J (pL vs nx t).2]):=by
 have a7:=Tm.uw t;have bR:=Tm.yq t;have bY:=Tm.yr t;have k5:=Tm.oE t;have iS:D.agg [ay false,J 0,J 0]=fX.d:=rfl;have k6:D.agg [ay true,J 0,J 0]=k3.d:=rfl;have aq:=ys eb.1 (z:= .int .i64 0) (x:=t.name);rw[eb.2]at aq;unfold pL;have ao:t.op=1\/t.op=2\/t.op=3\/t.op=4:=by omega
 have A9:lp (.mp M)=some M:=rfl;generalize t.op=op at*;rcases ao with rfl|rfl|rfl|rfl
 .simp[oK,sW,k5,a7,bR,iS,k6,ve]
 .simp[oK,sW,k5,a7,bR,iS,k6,ve]
 .cases ah:fk vs t.name with|none=>rw[ah]at aq;simp[oK,sW,k5,a7,bR,bY,iS,k6,A9,aq]|some i=>rw[ah]at aq;obtain⟨v,v1,v2,Bb⟩:=Ih ah;simp[oK,sW,k5,a7,bR,bY,iS,k6,A9,aq,v1,g5 v1,v.Ii,ve];cases v.bool<;>simp
 cases ah:fk vs t.name with|none=>rw[ah]at aq;simp[oK,sW,k5,a7,bR,bY,iS,k6,A9,aq]|some i=>rw[ah]at aq;obtain⟨v,v1,v2,Bb⟩:=Ih ah;simp[oK,sW,k5,a7,bR,bY,iS,k6,A9,aq,v1,g5 v1,v.Ii,ve];cases v.bool<;>cases nx<;>simp
def Valid.leaf{t:Tm}(h:Valid t)(a4:t.op<=4):t.aT=[]:=by
 have ab:=h.op;have af:=h.len;have:hf t.op=(0,0):=by unfold hf;rw[xad (by omega)]
 rw[this]at af;exact xaJ (by have:=af.2;simp only at this;omega)
def Valid.adf{t:Tm}(h:Valid t):t.aT.length<=64:=by
 have af:=h.len;have:(hf t.op).2<=64:=by unfold hf;repeat(first|split|decide)
 omega
def adg{a b:Nat}(h:a+b<=1000):c5 (a+b) 24=true:=gk (by omega) (by omega)
def adh(vs:List V)(M:List (Value×D))(nx:Bool)(eb:T1 M vs):∀(n:Nat)(t:Tm),t.bo+200<n->t.cp->Valid t->ry n [bj vs,.mp M,t.d,ay nx]=some (.a1 [(hq vs nx t).1.d,J (hq vs nx t).2])
 |0,t,h,_,_=>absurd h (xay _)
 |n+1,t,aM,bm,a6=>by
  rw[Dc];have iS:D.agg [ay false,J 0,J 0]=fX.d:=rfl;have atD:=a6.adf;have aq:=dG (f:=BN (ry n) n) t.aT (λi (s:List Y)=>[bj vs,.mp M,ay nx,cl 4 t.nl (Tm.rows t.aT),J t.aT.length,J (i:Int),J t.op,J t.num,aC t.name,cl 4 t.nl (Tm.rows t.aT),ay false,J 0,J 0,gV s]) (λr s=>if(g6 vs nx r).2=0 then(Sum.inl [bj vs,.mp M,ay nx,J t.op,J t.num,aC t.name,cl 4 t.nl (Tm.rows t.aT),ay false,J 0,J 0,gV (s++(g6 vs nx r).1)]:List D⊕D)else .inr (.a1 [fX.d,J (g6 vs nx r).2])) (λi s=>s.length=i) ?_ ?_ n 0 [] rfl (by omega) (xai _)
  .have bF:(J ((0:Nat):Int))=J 0:=rfl;have aL:gV []= .ax 3 []:=rfl;rw[bF,aL]at aq;simp only[ry,RK,Tm.oE,Tm.uw,Tm.yq,Tm.yr,Tm.wv,sI,YR,Tm.Bq,eH,aq,xak,xaH];by_cases au:(g6 vs nx t.aT).2=0
   .obtain⟨aW,a2⟩:=T3 vs nx t.aT au;have aX:∀l:List Y,D.ax 3 (ar (gV l))=gV l:=λ_=>rfl;have atE:=λa4=>atC n vs M t nx (gV (g6 vs nx t.aT).1) eb a4 a6.op.1;have T4:=λb7=>att n (bj vs) (.mp M) t nx _ a6 aW b7 a2 (by omega);by_cases a4:t.op<=4
    .simp[au,aX,atE a4,a4]
    simp[au,aX,T4 (by omega),a4]
   have a4:¬t.op<=4:=λa4=>au (by rw[a6.leaf a4];rfl);simp[au,a4]
  .intro s aG;simp[BN,g6,gV]
  intro i a s aE ah aG;have hm:=xaa aE;have bD:=Tm.jk hm;have av:=adh vs M nx eb n a (by omega) (bm.gz hm) (a6.gz hm);have dM:c5 (s.length+1) 24=true:=adg (by omega);have vO:BN (ry n) n [bj vs,.mp M,ay nx,cl 4 t.nl (Tm.rows t.aT),J t.aT.length,J (i:Int),J t.op,J t.num,aC t.name,cl 4 t.nl (Tm.rows t.aT),ay false,J 0,J 0,gV s]=
    if(hq vs nx a).2=0 then some (.inl [bj vs,.mp M,ay nx,cl 4 t.nl (Tm.rows t.aT),J t.aT.length,J ((i+1:Nat):Int),J t.op,J t.num,aC t.name,cl 4 t.nl (Tm.rows t.aT),ay false,J 0,J 0,gV (s++[(hq vs nx a).1])])
    else some (.inr (.inr (.a1 [fX.d,J (hq vs nx a).2]))):=by
   by_cases au:(hq vs nx a).2=0;.simp[BN,ah,Tm.gE aE,av,au,b1 (bt:=false) (i:=i) (by omega),gV,dM];simp[Y.cells]
   .simp[BN,ah,Tm.gE aE,av,au,iS]
  rw[vO];simp only[g6];by_cases au:(hq vs nx a).2=0
  .left;refine⟨s++[(hq vs nx a).1],by simp[au],?_,by simp[aG]⟩;by_cases ab:(g6 vs nx (t.aT.drop (i+1))).2=0;.simp[au,ab]
   simp[au,ab]
  right;simp[au]
def adi(vs:List V)(nx:Bool)(Dd:vs.length<1000000000000):∀(n:Nat)(t:Tm),t.bo+200+vs.length<n->t.cp->Valid t->mY n [bj vs,t.d,ay nx]=some (.a1 [(hq vs nx t).1.d,J (hq vs nx t).2])
 |0,t,h,_,_=>absurd h (xay _)
 |n+1,t,aM,bm,a6=>by
  rw[Dc];have iS:D.agg [ay false,J 0,J 0]=fX.d:=rfl;have k6:D.agg [ay true,J 0,J 0]=k3.d:=rfl;have atD:=a6.adf;have eF:=a6.op;by_cases a4:t.op<=4
  .rw[xad a4];have a7:=Tm.uw t;have bR:=Tm.yq t;have bY:=Tm.yr t;have ct:=Tm.wv t;have k5:=Tm.oE t;unfold pL;have ag:=atw n vs t.name (by omega) Dd;have ao:t.op=1\/t.op=2\/t.op=3\/t.op=4:=by omega
   generalize t.op=op at*;rcases ao with rfl|rfl|rfl|rfl
   .simp[mY,uX,k5,a7,bR,iS,k6,Ic]
   .simp[mY,uX,k5,a7,bR,iS,k6]
   .cases ah:fk vs t.name with
    |none=>rw[ah]at ag;simp[mY,uX,k5,a7,bR,bY,ct,iS,k6,ag]
    |some i=>
     rw[ah]at ag;obtain⟨v,v1,v2,Bb⟩:=Ih ah;have kP:¬((i:Int)<0):=by omega
     simp[mY,uX,k5,a7,bR,bY,ct,iS,k6,ag,kP,v1,g5 v1,v.Ii,Ic];cases v.bool<;>simp
   cases ah:fk vs t.name with
   |none=>rw[ah]at ag;simp[mY,uX,k5,a7,bR,bY,ct,iS,k6,ag]
   |some i=>
    rw[ah]at ag;obtain⟨v,v1,v2,Bb⟩:=Ih ah;have kP:¬((i:Int)<0):=by omega
    simp[mY,uX,k5,a7,bR,bY,ct,iS,k6,ag,kP,v1,g5 v1,v.Ii,Ic];cases v.bool<;>cases nx<;>simp
  rw[xac a4];have aq:=dG (f:=Cx (mY n) n) t.aT (λi (s:List Y)=>[bj vs,ay nx,J (i:Int),J t.op,J t.num,aC t.name,cl 4 t.nl (Tm.rows t.aT),ay false,J 0,J 0,gV s]) (λr s=>if(g6 vs nx r).2=0 then(Sum.inl [J t.op,J t.num,aC t.name,cl 4 t.nl (Tm.rows t.aT),ay false,J 0,J 0,gV (s++(g6 vs nx r).1)]:List D⊕D)else .inr (.a1 [fX.d,J (g6 vs nx r).2])) (λi s=>s.length=i) ?_ ?_ n 0 [] rfl (by omega) (xai _)
  .have bF:(J ((0:Nat):Int))=J 0:=rfl;have aL:gV []= .ax 3 []:=rfl;rw[bF,aL]at aq;have eI:(t.op==1)=false:=by simp;omega
   have gW:(t.op==2)=false:=by simp;omega
   have kz:(t.op==3)=false:=by simp;omega
   have n4:(t.op==4)=false:=by simp;omega
   simp only[mY,uX,Tm.oE,Tm.uw,Tm.yq,Tm.yr,Tm.wv,sI,Bk,eI,gW,kz,n4,lR,xat,xaF,eH,qd,nS,pr,aq,xak,xaH];by_cases au:(g6 vs nx t.aT).2=0;.obtain⟨aW,a2⟩:=T3 vs nx t.aT au;have aX:∀l:List Y,D.ax 3 (ar (gV l))=gV l:=λ_=>rfl;have T4:=ato n t _ a6 aW (by omega) a2 (by omega);simp[au,aX,T4]
   simp[au]
  .intro s aG;simp[Cx,g6,gV]
  intro i a s aE ah aG;have hm:=xaa aE;have bD:=Tm.jk hm;have av:=adi vs nx Dd n a (by omega) (bm.gz hm) (a6.gz hm);have dM:c5 (s.length+1) 24=true:=adg (by omega);have vO:Cx (mY n) n [bj vs,ay nx,J (i:Int),J t.op,J t.num,aC t.name,cl 4 t.nl (Tm.rows t.aT),ay false,J 0,J 0,gV s]=
    if(hq vs nx a).2=0 then some (.inl [bj vs,ay nx,J ((i+1:Nat):Int),J t.op,J t.num,aC t.name,cl 4 t.nl (Tm.rows t.aT),ay false,J 0,J 0,gV (s++[(hq vs nx a).1])])
    else some (.inr (.inr (.a1 [fX.d,J (hq vs nx a).2]))):=by
   by_cases au:(hq vs nx a).2=0;.simp[Cx,ah,Tm.gE aE,av,au,b1 (bt:=false) (i:=i) (by omega),gV,dM];simp[Y.cells]
   .simp[Cx,ah,Tm.gE aE,av,au,iS]
  rw[vO];simp only[g6];by_cases au:(hq vs nx a).2=0
  .left;refine⟨s++[(hq vs nx a).1],by simp[au],?_,by simp[aG]⟩;by_cases ab:(g6 vs nx (t.aT.drop (i+1))).2=0;.simp[au,ab]
   simp[au,ab]
  right;simp[au]
def qx(vs:List V)(nx:Bool)(t:Tm):Y×Int:=if(dg t 1 0).1≠0 then(fX,(dg t 1 0).1)else hq vs nx t
def atF(n:Nat)(vs:List V)(t:Tm)(nx:Bool)(aM:t.bo+200+vs.length<n)(bm:t.cp)(Dd:vs.length<1000000000000):BO n [bj vs,t.d,ay nx]=some (.a1 [(qx vs nx t).1.d,J (qx vs nx t).2]):=by
 have ao:=MC n t (by omega) bm;obtain⟨M,gD,kx⟩:=atv n vs (by omega) Dd;have iS:D.agg [ay false,J 0,J 0]=fX.d:=rfl;unfold qx;by_cases au:(dg t 1 0).1=0
 .have aK:=adh vs M nx kx n t (by omega) bm ⟨1,0,au⟩;simp[BO,RL,ao,au,gD,aK]
 simp[BO,RL,ao,au,iS]
def atG(n:Nat)(vs:List V)(t:Tm)(nx:Bool)(aM:t.bo+200+vs.length<n)(bm:t.cp)(Dd:vs.length<1000000000000):Cy n [bj vs,t.d,ay nx]=some (.a1 [(qx vs nx t).1.d,J (qx vs nx t).2]):=by
 have ao:=To n t (by omega) bm;have iS:D.agg [ay false,J 0,J 0]=fX.d:=rfl;unfold qx;by_cases au:(dg t 1 0).1=0
 .have aK:=adi vs nx Dd n t (by omega) bm ⟨1,0,au⟩;simp[Cy,SN,ao,au,aK]
 simp[Cy,SN,ao,au,iS]
end Go.Am
