/- The laws, on data. No condition. -/
import Derived.Test.YtbninlabhgbhcaaGreatDoorEngD
import Derived.Test.YtbninlabhgbhcaaGreatDoorCode
import Derived.Test.YtbninlabhgbhcaaGreatDoorEngS
set_option linter.all false
set_option linter.unnecessarySimpa false
namespace Go.Am
def gm(op:Int):Int×Int:=if op=1\/op=2\/op=3\/op=4 then(0,0)else if op=5 then(1,1)else if op=6\/op=7 then(1,64)else if op=18 then(3,3)else if op<1\/op>18 then(-1,-1)else(2,2)
def Dl(op:Int):Bool:=op==3||op==4
def ia(t:Tm):Int:=if(gm t.op).1<0 then 11
 else if(t.num<(if t.op=1 then-255 else 0))\/t.num>(if t.op=1 then 255 else if t.op=2 then 1 else 0)then 2
 else if(if Dl t.op then t.name=⟨#[]⟩\/t.name.size>24 else t.name≠⟨#[]⟩)then 12
 else if(t.a4.length:Int)<(gm t.op).1\/(t.a4.length:Int)>(gm t.op).2 then 3 else 0
def avP(n:Nat)(op:Int):GZ n [R op]=some (.aR [R (gm op).1,R (gm op).2]):=by
 rcases Ll op with rfl|rfl|rfl|rfl|rfl|rfl|rfl|rfl|rfl|rfl|rfl|rfl|rfl|rfl|rfl|rfl|rfl|rfl|h
 case inr.inr.inr.inr.inr.inr.inr.inr.inr.inr.inr.inr.inr.inr.inr.inr.inr.inr=>
  have e:∀k:Int,1<=k->k<=18->(op==k)=false:=λk aa ae=>by simp;omega
  have a2:gm op=(-1,-1):=by unfold gm;repeat(first|rw[xac (by omega)]|rw[xaa (by omega)])
  simp[GZ,aaO,e,a2]
 all_goals rfl
def avQ(n:Nat)(op:Int):Cv n [R op]=some (.aR [R (gm op).1,R (gm op).2]):=by
 rcases Ll op with rfl|rfl|rfl|rfl|rfl|rfl|rfl|rfl|rfl|rfl|rfl|rfl|rfl|rfl|rfl|rfl|rfl|rfl|h
 case inr.inr.inr.inr.inr.inr.inr.inr.inr.inr.inr.inr.inr.inr.inr.inr.inr.inr=>
  have e:∀k:Int,1<=k->k<=18->(op==k)=false:=λk aa ae=>by simp;omega
  have a2:gm op=(-1,-1):=by unfold gm;repeat(first|rw[xac (by omega)]|rw[xaa (by omega)])
  rcases h with h|h;.simp[Cv,Ry,e,a2,h]
  have:¬op<1:=by omega
  simp[Cv,Ry,e,a2,h,this]
 all_goals rfl
def avR(s:ByteArray):decide (s=⟨#[]⟩)=decide ((s.size:Int)<1):=by
 have:s=⟨#[]⟩↔(s.size:Int)<1:=by
  constructor;.rintro rfl;decide
  intro h;have:s.size=0:=by omega
  cases s with|mk a=>congr;exact xbh this
 simp[this]
def avS(n:Nat)(t:Tm):G0 n [t.d]=some (R (ia t)):=by
 cases t with|mk op num s b ks=>
 have al:=avP n op;have iX:a6 4 (Tm.d (.mk op num s b ks))=true:=Tm.nd _;have bU:ab (Tm.d (.mk op num s b ks)) 0=R op:=rfl;have aP:ab (Tm.d (.mk op num s b ks)) 1=R num:=rfl;have a2:ab (Tm.d (.mk op num s b ks)) 2=aT s:=rfl;have bS:ab (Tm.d (.mk op num s b ks)) 3=cA 4 b (Tm.rows ks):=rfl;generalize Tm.d (.mk op num s b ks)=x at*;simp only[ia,Tm.op,Tm.num,Tm.name,Tm.a4];simp only[G0,aaP,iX,bU,aP,a2,bS,qq,al,dS,QY,xbs,xca,Fv,lF];by_cases ar:(gm op).1<0
 .simp[ar]
 simp only[ar,decide_false,xan,xaz,Cf,dS,lF];simp[Dl];grind
def ada(n:Nat)(t:Tm)(deep:Int):zs n [t.d,R deep]=some (R (if deep>64 then 17 else ia t)):=by
 cases t with|mk op num s b ks=>
 have al:=avQ n op;have iX:a6 4 (Tm.d (.mk op num s b ks))=true:=Tm.nd _;have bU:ab (Tm.d (.mk op num s b ks)) 0=R op:=rfl;have aP:ab (Tm.d (.mk op num s b ks)) 1=R num:=rfl;have a2:ab (Tm.d (.mk op num s b ks)) 2=aT s:=rfl;have bS:ab (Tm.d (.mk op num s b ks)) 3=cA 4 b (Tm.rows ks):=rfl;have cS:D.agg [R op,R num,aT s,cA 4 b (Tm.rows ks)]=(Tm.d (.mk op num s b ks)):=rfl;have aE:=avR s;simp only[ia,Tm.op,Tm.num,Tm.name,Tm.a4];simp only[zs,aao,iX,bU,aP,a2,bS,cS,qq,al,dS,QY,xbs,xca,Fv,oT,lF];by_cases aA:deep>64
 .simp[aA]
 by_cases ar:(gm op).1<0;.simp[ar]
 simp only[ar,aA,decide_false,xan,xaz,Cf,dS,lF];simp[Dl];simp at aE;grind
mutual
def c9:Tm->Int->Int->Int×Int
 | .mk op n s b ks,deep,k=>if deep>64 then(17,k+1)else if ia (.mk op n s b ks)≠0 then(ia (.mk op n s b ks),k+1)else if k+1>4096 then(4,k+1)else fm ks (deep+1) (k+1)
def fm:List Tm->Int->Int->Int×Int
 |[],_,k=>(0,k)|t::r,deep,k=>if(c9 t deep k).1≠0 then c9 t deep k else fm r deep (c9 t deep k).2
end
theorem vF(t:Tm)(deep k:Int):c9 t deep k=if deep>64 then(17,k+1)else if ia t≠0 then(ia t,k+1)else if k+1>4096 then(4,k+1)else fm t.a4 (deep+1) (k+1):=by cases t;rw[c9];rfl
def Dm(t:Tm):∀(deep k:Int),k+1<=(c9 t deep k).2/\((c9 t deep k).1=0->(c9 t deep k).2<=4096):=by
 refine Tm.ind (P:=λt=>∀(deep k:Int),k+1<=(c9 t deep k).2/\((c9 t deep k).1=0->(c9 t deep k).2<=4096)) ?_ t;intro t ih deep k;rw[vF];split;.simp
 split;.rename_i h;simp[h]
 split;.simp
 have key:∀(l:List Tm)(deep k:Int),(∀x∈l,∀(deep k:Int),k+1<=(c9 x deep k).2/\((c9 x deep k).1=0->(c9 x deep k).2<=4096))->k<=4096->k<=(fm l deep k).2/\((fm l deep k).1=0->(fm l deep k).2<=4096):=by
  intro l
  induction l with
  |nil=>intro deep k _ h;simp[fm,h]
  |cons a r lO=>
   intro deep k h al;rw[fm];have aa:=h a (by simp) deep k;split
   .rename_i ae;exact⟨by omega,λay=>absurd ay ae⟩
   rename_i ae;simp only[ne_eq,Decidable.not_not]at ae;have ay:=lO deep (c9 a deep k).2 (λx ah=>h x (by simp[ah])) (aa.2 ae);exact⟨by omega,ay.2⟩
 have:=key t.a4 (deep+1) (k+1) ih (by omega);exact this
def adb:∀(n:Nat)(t:Tm)(deep k:Int),t.bp<n->t.cB->0<=deep->deep<=65->0<=k->k<=4096->s7 n [t.d,R deep,R k]=some (.aR [R (c9 t deep k).1,R (c9 t deep k).2])
 |0,t,_,_,h,_,_,_,_,_=>absurd h (xaI _)
 |n+1,t,deep,k,aM,bs,aa,ae,ay,a7=>by
  have a1:=ada n t deep;rw[vF];simp[s7,Rz,lJ (bt:=false) (i:=k) (by omega) (by omega),a1];by_cases aA:64<deep;.simp[aA]
  simp[aA];by_cases hw:ia t=0
  case neg=>simp[hw]
  simp[hw];by_cases an:4096<k+1;.simp[an]
  simp[an];have aq:=dm (f:=Lx (s7 n) n) t.a4 (λi s=>[R deep,R s,R (i:Int),R t.op,R t.num,aT t.name,cA 4 t.nl (Tm.rows t.a4)]) (λr (s:Int)=>if(fm r (deep+1) s).1=0 then(Sum.inl [R (fm r (deep+1) s).2]:List D⊕D)else .inr (.aR [R (fm r (deep+1) s).1,R (fm r (deep+1) s).2])) (λi s=>0<=s/\s<=4096) ?_ ?_ n 0 (k+1) ⟨by omega,by omega⟩ (by have:=t.lI;omega) (xaj _)
  .have bU:(R ((0:Nat):Int))=R 0:=rfl;rw[bU]at aq;rw[aq];simp only[xam,dS];by_cases ar:(fm t.a4 (deep+1) (k+1)).1=0;.simp[ar]
   simp[ar]
  .intro s aE;simp[Lx,fm]
  intro i a s aG aj aE;have hm:=xad aG;have bP:=Tm.jS hm;have bB:=bs.len;have aw:=adb n a (deep+1) s (by omega) (bs.fu hm) (by omega) (by omega) aE.1 aE.2;have iu:=Dm a (deep+1) s;simp[Lx,aj,Tm.hz aG,lJ (bt:=false) (i:=deep) (by omega) (by omega),aw,cr (bt:=false) (i:=i) (by omega),fm];by_cases ar:(c9 a (deep+1) s).1=0
  .left;simp only[ar];exact⟨(c9 a (deep+1) s).2,by simp,by simp,by omega,iu.2 ar⟩
  right;simp[ar]
def Uh(n:Nat)(t:Tm)(aM:t.bp<n)(bs:t.cB):uV n [t.d]=some (R (c9 t 1 0).1):=by have:=adb n t 1 0 aM bs (by omega) (by omega) (by omega) (by omega);simp[uV,aap,this]
def avT(n:Nat)(t:Tm)(deep k w:Int)(aa:0<=k)(ae:k<=4096):∃e,e=(if deep>64 then 17 else if ia t≠0 then ia t else if k+1>4096 then 4 else 0)/\G1 n [t.d,R deep,R k,R w]=some [ax (decide (e=0)),R (k+1),R e]:=by refine⟨_,rfl,?_⟩;have a1:=avS n t;simp[G1,lJ (bt:=false) (i:=k) (by omega) (by omega),a1];by_cases bw:64<deep<;>by_cases bO:ia t=0<;>by_cases b0:4096<k+1<;>simp[bw,bO,b0]
def ade:∀(n:Nat)(t:Tm)(deep k w:Int),t.bp<n->t.cB->0<=deep->deep<=65->0<=k->k<=4096->vb n [t.d,R deep,R k,R w]=some [ax (decide ((c9 t deep k).1=0)),R (c9 t deep k).2,R (c9 t deep k).1]
 |0,t,_,_,_,h,_,_,_,_,_=>absurd h (xaI _)
 |n+1,t,deep,k,w,aM,bs,aa,ae,ay,a7=>by
  obtain⟨e,he,a1⟩:=avT n t deep k w ay a7;rw[vF];simp[vb,Sb,a1];by_cases IG:e=0
  case neg=>simp[IG];grind
  have an:¬deep>64/\ia t=0/\¬k+1>4096:=by grind
  simp[IG,an];have aq:=dm (f:=LH (vb n) n) t.a4 (λi (s:Int×Int)=>[R deep,cA 4 t.nl (Tm.rows t.a4),R t.a4.length,R (i:Int),R s.1,R s.2]) (λr (s:Int×Int)=>if(fm r (deep+1) s.1).1=0 then(Sum.inl [R (fm r (deep+1) s.1).2,R 0]:List D⊕List D)else .inr [ax false,R (fm r (deep+1) s.1).2,R (fm r (deep+1) s.1).1]) (λi s=>0<=s.1/\s.1<=4096/\s.2=0) ?_ ?_ n 0 (k+1,0) ⟨by simp;omega,by simp;omega,rfl⟩ (by have:=t.lI;omega) (xaj _)
  .have bU:(R ((0:Nat):Int))=R 0:=rfl;rw[bU]at aq;rw[aq];simp only[xam,dS];by_cases ar:(fm t.a4 (deep+1) (k+1)).1=0;.simp[ar]
   simp[ar]
  .intro s aE;simp[LH,fm,aE.2.2]
  intro i a s aG aj aE;have hm:=xad aG;have bP:=Tm.jS hm;have bB:=bs.len;have aw:=ade n a (deep+1) s.1 s.2 (by omega) (bs.fu hm) (by omega) (by omega) aE.1 aE.2.1;have iu:=Dm a (deep+1) s.1;simp[LH,aj,Tm.hz aG,lJ (bt:=false) (i:=deep) (by omega) (by omega),aw,cr (bt:=false) (i:=i) (by omega),fm];by_cases ar:(c9 a (deep+1) s.1).1=0
  .left;exact⟨(c9 a (deep+1) s.1).2,0,by simp[ar],by simp[ar],by omega,iu.2 ar,rfl⟩
  right;simp[ar]
def MY(n:Nat)(t:Tm)(aM:t.bp<n)(bs:t.cB):th n [t.d]=some (R (c9 t 1 0).1):=by have:=ade n t 1 0 0 aM bs (by omega) (by omega) (by omega) (by omega);simp[th,aaQ,this]
def avU{α:Type}(A B:List α)(z s:α):(((A++B++[z]).take (A.length+1)++(((A++B++[z]).drop A.length).take (B.length+1)).take (min ((((A++B++[z]).drop A.length).take (B.length+1)).length) B.length)++(A++B++[z]).drop (A.length+1+min ((((A++B++[z]).drop A.length).take (B.length+1)).length) B.length)).set A.length s)=A++s::B:=by
 have aP:(A++B++[z]).drop A.length=B++[z]:=by rw[xaO,List.drop_left]
 have a2:(B++[z]).take (B.length+1)=B++[z]:=xbH (by simp);rw[aP,a2];have bS:min (B++[z]).length B.length=B.length:=by simp
 rw[bS];have cS:(B++[z]).take B.length=B:=List.take_left;have dM:(A++B++[z]).drop (A.length+1+B.length)=[]:=xcd (by simp;omega);rw[cS,dM,xar];obtain⟨w,hw⟩:∃w,(A++B++[z]).take (A.length+1)=A++[w]:=by rw[xaO,List.take_append];cases B with|nil=>exact⟨z,by rw[xbH (by omega)];simp⟩|cons b B=>exact⟨b,by rw[xbH (by omega)];simp⟩
 rw[hw,xaO];simp
def adf{n i:Nat}(h:i<=n):m7 n (some (R (i:Int))) none=some (i,n-i):=by simp[m7,re,R,h]
theorem avV(l:List ByteArray):af (du l)=l.map λs=>[aT s]:=rfl
def adg(n:Nat)(s:ByteArray)(l:List ByteArray)(aE:jU l)(aM:l.length+2<n)(aq:l.length<1000000000):xq n [aT s,du l]=some [du (hA s l)]:=by
 obtain⟨a,b,rfl,ae,ay,a7,bZ,cG⟩:=Ri s aE;have es:=avV (a++b);have key:bq (G2 n) n [aT s,R ((a++b).length:Int),du (a++b)]=some (.inl [aT s,R (a.length:Int),du (a++b)]):=by
  refine mi (λj=>[aT s,R (((a++b).length-j:Nat):Int),du (a++b)]) b.length (by simp) ?_ ?_ (by simp at aM;omega)
  .intro j aI;have bB:(a++b).length=a.length+b.length:=by simp
   obtain⟨m,hm⟩:∃m:Nat,(a++b).length-j=m+1:=⟨(a++b).length-j-1,by omega⟩;have avW:(a++b).length-(j+1)=m:=by omega
   have lr:(a++b)[m]?=b[m-a.length]?:=xaD (by omega);have b5:m-a.length<b.length:=by omega
   have avX:=xab b5;rw[avX]at lr;have ao:=ay _ (xba b5);generalize b[m-a.length]=x at*;have lP:ag false .sub (R ((m+1:Nat):Int)) (R 1)=some (R (m:Int)):=by rw[qt (by omega) (by omega)];congr 2;omega
   have tB:bj (af (du (a++b))).length (R (m:Int))=some m:=by rw[lG,xaa (by rw[es];simp at bB⊢;omega)]
   have fa:(af (du (a++b)))[m]?=some [aT x]:=by rw[es,xai,lr];rfl
   have iu:((m+1:Nat):Int)>0:=by omega
   simp only[hm,avW];simp only[G2,pE,ru,oT,xao iu,dS,uO,xav,lP,tB,fa,iK,xbs,Ln,ao,uP,lF];rfl
  have bB:(a++b).length-b.length=a.length:=by simp
  simp only[bB];by_cases ar:a.length=0
  .have:¬((a.length:Int)>0):=by omega
   simp only[G2,pE,ru,oT,xaw this,dS,uO,xan,xaz,uP,lF,QX];rfl
  obtain⟨m,hm⟩:∃m:Nat,a.length=m+1:=⟨a.length-1,by omega⟩;have b5:m<a.length:=by omega
  have lr:(a++b)[m]?=a[m]?:=xaF b5;rw[xab b5]at lr;have aG:=ae _ (xba b5);generalize a[m]=x at*;have lP:ag false .sub (R ((m+1:Nat):Int)) (R 1)=some (R (m:Int)):=by rw[qt (by omega) (by simp at aq;omega)];congr 2;omega
  have tB:bj (af (du (a++b))).length (R (m:Int))=some m:=by rw[lG,xaa (by rw[es];simp;omega)]
  have fa:(af (du (a++b)))[m]?=some [aT x]:=by rw[es,xai,lr];rfl
  have iu:((m+1:Nat):Int)>0:=by omega
  simp only[hm];simp only[G2,pE,ru,oT,xao iu,dS,uO,xav,lP,tB,fa,iK,xbs,Ln,aG,uP,lF,xan,xaz,QX];rfl
 have mA:D.ak 1 (af (du (a++b)))=du (a++b):=rfl;have adh:(af (du (a++b))).length=(a++b).length:=by rw[es];simp
 by_cases fG:s∈a++b
 .obtain⟨cK,rfl⟩:=a7 fG;rw[Rh aE fG];have Lb:(cK++[s]).length=cK.length+1:=by simp
  have lP:ag false .sub (R ((cK.length+1:Nat):Int)) (R 1)=some (R (cK.length:Int)):=by rw[qt (by omega) (by simp at aq;omega)];congr 2;omega
  have tB:bj ((cK++[s]++b).length) (R (cK.length:Int))=some cK.length:=by rw[lG,xaa (by simp)]
  have fa:(af (du (cK++[s]++b)))[cK.length]?=some [aT s]:=by rw[es];simp
  have iu:((cK.length+1:Nat):Int)>0:=by omega
  rw[Lb]at key;simp only[xq,pE,ru,adh,mA,key,dS,qs,oT,xao iu,uO,xav,lP,tB,fa,iK,xbs,Q2,decide_true,uP,lF]
 rw[cG fG];have FC:=bZ fG;have avY:J (bE (ax (decide ((a.length:Int)>0))) true (J (ag false .sub (R (a.length:Int)) (R 1)) λcL=>J (bj (a++b).length cL) λpL=>J ((af (du (a++b)))[pL]?) λzP=>J (aQ false 1 0 zP) λcR=>J (ag false .eql cR (aT s)) λv30=>some v30)) (λv30=>J (bT (ax (decide ((a.length:Int)>0))) v30 (ax false)) λdc=>some dc)=some (ax false):=by
  by_cases ar:a.length=0
  .have:¬((a.length:Int)>0):=by omega
   simp only[xaw this,uO,xan,xaz,dS,uP]
  obtain⟨m,hm⟩:∃m:Nat,a.length=m+1:=⟨a.length-1,by omega⟩;have b5:m<a.length:=by omega
  have lr:(a++b)[m]?=a[m]?:=xaF b5;rw[xab b5]at lr;have cv:a[m]≠s:=λe=>FC (by rw[<-e];exact xba b5);generalize a[m]=x at*;have lP:ag false .sub (R ((m+1:Nat):Int)) (R 1)=some (R (m:Int)):=by rw[qt (by omega) (by simp at aq;omega)];congr 2;omega
  have tB:bj (a++b).length (R (m:Int))=some m:=by rw[lG,xaa (by simp;omega)]
  have fa:(af (du (a++b)))[m]?=some [aT x]:=by rw[es,xai,lr];rfl
  have iu:((m+1:Nat):Int)>0:=by omega
  rw[hm];simp only[xao iu,uO,xav,lP,dS,tB,fa,iK,xbs,Q2,xaw cv,uP]
 obtain⟨v30,bV,bN⟩:=e5 avY;obtain⟨dc,cC,dK⟩:=e5 bN;cases dK;have eo:cW ((a++b).length+1) 16=true:=gd (by omega) (by omega);have fw:=cr (bt:=false) (i:=a.length) (by simp at aq;omega);have eO:af (du (a++b))++[[aT ⟨#[]⟩]]=(a.map λs=>[aT s])++(b.map λs=>[aT s])++[[aT ⟨#[]⟩]]:=by rw[es];simp
 have avZ:((a.map λs=>[aT s])++(b.map λs=>[aT s])++[[aT ⟨#[]⟩]]:List (List D)).length=a.length+b.length+1:=by simp;omega
 have bw:m7 (a.length+b.length+1) (some (R ((a.length+1:Nat):Int))) none=some (a.length+1,b.length):=by rw[adf (by omega)];congr 2;omega
 have bO:m7 (a.length+b.length+1) (some (R (a.length:Int))) none=some (a.length,b.length+1):=by rw[adf (by omega)];congr 2;omega
 have sU:=avU (a.map λs=>[aT s]) (b.map λs=>[aT s]) [aT ⟨#[]⟩] [aT s];simp only[xaW]at sU;have OY:∀(X:List (List D)) (w:List D),X[a.length]?=some w->cg w 0 [aT s]=[aT s]->(X.set a.length (cg w 0 [aT s]))=X.set a.length [aT s]:=λX w _ h=>by rw[h]
 generalize kB:(((a.map λs=>[aT s])++(b.map λs=>[aT s])++[[aT ⟨#[]⟩]]:List (List D)).take (a.length+1)++((((a.map λs=>[aT s])++(b.map λs=>[aT s])++[[aT ⟨#[]⟩]]:List (List D)).drop a.length).take (b.length+1)).take (min (((((a.map λs=>[aT s])++(b.map λs=>[aT s])++[[aT ⟨#[]⟩]]:List (List D)).drop a.length).take (b.length+1)).length) b.length)++((a.map λs=>[aT s])++(b.map λs=>[aT s])++[[aT ⟨#[]⟩]]:List (List D)).drop (a.length+1+min (((((a.map λs=>[aT s])++(b.map λs=>[aT s])++[[aT ⟨#[]⟩]]:List (List D)).drop a.length).take (b.length+1)).length) b.length))=X at*;have aDh:X.length=a.length+b.length+1:=by have:=congrArg List.length sU;simp at this;omega
 have tB:bj X.length (R (a.length:Int))=some a.length:=by rw[lG,xaa (by omega)]
 have hw:∃x,X[a.length]?=some [x]:=by
  have hm:∀w∈X,∃x,w=[x]:=by
   rw[<-kB];intro w hw;have fG:w∈((a.map λs=>[aT s])++(b.map λs=>[aT s])++[[aT ⟨#[]⟩]]:List (List D)):=by
    rcases xaM.1 hw with hw|hw
    .rcases xaM.1 hw with hw|hw;.exact xbj hw
     exact xbi (xbj (xbj hw))
    exact xbi hw
   rcases xaM.1 fG with fG|fG
   .rcases xaM.1 fG with fG|fG;.obtain⟨x,_,rfl⟩:=xaP.1 fG;exact⟨_,rfl⟩
    obtain⟨x,_,rfl⟩:=xaP.1 fG;exact⟨_,rfl⟩
   simp at fG;exact⟨_,fG⟩
  have b5:a.length<X.length:=by omega
  obtain⟨x,ah⟩:=hm _ (xba b5);exact⟨x,by rw[xab b5,ah]⟩
 obtain⟨x,ah⟩:=hw;have Ui:cg [x] 0 [aT s]=[aT s]:=rfl;have d1:decide (a.length+(b.length+1)<=a.length+b.length+1)=true:=xao (by omega);have d2:decide (a.length+1+b.length<=a.length+b.length+1)=true:=xao (by omega);have qX:bm (aT s)=true:=rfl;have nv:([[aT ⟨#[]⟩]]:List (List D)).length=1:=rfl;simp only[xq,pE,ru,adh,mA,key,dS,qs,oT];rw[bV];simp only[dS,cC,lF,xan,xaz,nv,eo,qq,fw,eO,avZ,bw,bO,d1,d2,kB,tB,qX,ah,Ui,sU];simp[du]
def j9(nl:Bool)(l:List ByteArray):D:=cA 1 nl (l.map λs=>[aT s])
def adi{nl:Bool}{l:List ByteArray}(h:l≠[]):j9 nl l=du l:=by cases l with|nil=>exact absurd rfl h|cons a r=>simp[j9,du,cA]
def nX(nl:Bool)(l:List ByteArray):bJ (j9 nl l)=some (R l.length):=by simp[j9]
def AZ{nl:Bool}{l:List ByteArray}{i:Nat}{s:ByteArray}(h:l[i]?=some s):bh 1 (j9 nl l) (R (i:Int))=some [aT s]:=by unfold j9;rw[Rc];simp[h]
def av0(s:ByteArray)(l:List ByteArray):hA s l≠[]:=by cases l with|nil=>simp[hA]|cons a r=>rw[hA];split<;>(try split)<;>simp
def av1(n:Nat)(nl:Bool)(l:List ByteArray)(s:ByteArray)(aM:l.length<n)(aq:l.length<1000000000):F4 n [j9 nl l,aT s]=some (ax (l.any λx=>decide (x=s))):=by
 have aj:=dm (f:=F3 n) l (λi (_:Unit)=>[j9 nl l,aT s,R (i:Int)]) (λr _=>if r.any (λx=>decide (x=s))=true then(.inr (ax true):List D⊕D)else .inl []) (λ_ _=>True) (λ_ _=>by simp[F3,nX]) ?_ n 0 () trivial (by omega) (xaj _)
 .have bU:(R ((0:Nat):Int))=R 0:=rfl;rw[bU]at aj;simp only[xam]at aj;simp only[F4,aal,aj,dS];by_cases h:l.any (λx=>decide (x=s))=true;.rw[xaa h,h];rfl
  rw[xac h];cases bQ:l.any (λx=>decide (x=s))with|false=>rfl|true=>exact absurd bQ h
 intro i x _ ah aj _;by_cases h:x=s;.right;simp[F3,nX,aj,AZ ah,h]
 left;exact⟨(),by simp[F3,nX,aj,AZ ah,h,cr (bt:=false) (i:=i) (by omega)],by simp only[List.any_cons,xaw h,xbz],trivial⟩
def wf(s:ByteArray):List ByteArray->Bool->List ByteArray->Bool×List ByteArray
 |[],d,o=>(d,o)|x::r,d,o=>if(!d&&blt s x)=true then wf s r true (o++[s,x])else wf s r d (o++[x])
def adj(s:ByteArray):∀(l o:List ByteArray),wf s l true o=(true,o++l)
 |[],o=>by simp[wf]|x::r,o=>by rw[wf];simp[adj s r]
def adk(s:ByteArray):∀(a b o:List ByteArray),(∀x∈a,blt s x=false)->wf s (a++b) false o=wf s b false (o++a)
 |[],b,o,_=>by simp|x::a,b,o,h=>by rw[xbw,wf];have:=h x (by simp);simp[this,adk s a b _ (λy aK=>h y (by simp[aK]))]
def av2(s:ByteArray):∀(b o:List ByteArray),(∀x∈b,blt s x=true)->wf s b false o=(match b with|[]=>(false,o)|_=>(true,o++s::b))
 |[],o,_=>rfl|x::r,o,h=>by rw[wf];have:=h x (by simp);simp[this,adj]
@[simp] theorem aDi (p:List ByteArray) (x:ByteArray):D.ak 1 (af (du p)++[[aT x]])=du (p++[x]):=by simp[du]
@[simp] theorem aDj (p:List ByteArray):(af (du p)).length=p.length:=by simp[du]
@[simp] theorem aDk (p:List ByteArray):D.ak 1 (af (du p))=du p:=rfl
def av3(n:Nat)(nl:Bool)(l:List ByteArray)(s:ByteArray)(aE:jU l)(aM:l.length+2<n)(aq:l.length<1000000000):zn n [j9 nl l,aT s]=some (du (hA s l)):=by
 have fG:=av1 n nl l s (by omega) aq;by_cases hm:s∈l;.have:l.any (λx=>decide (x=s))=true:=xbv.2 ⟨s,hm,by simp⟩;rw[this]at fG;rw[Rh aE hm];simp only[zn,Lu,fG,dS,lF,xav];rw[adi (List.ne_nil_of_mem hm)]
 have FC:l.any (λx=>decide (x=s))=false:=by cases h:l.any (λx=>decide (x=s))with|false=>rfl|true=>obtain⟨x,aa,ae⟩:=xbv.1 h;simp at ae;subst ae;exact absurd aa hm
 rw[FC]at fG;obtain⟨a,b,ka,ae,ay,a7,bZ,cG⟩:=Ri s aE;have hw:wf s l false []=wf s b false a:=by rw[ka,adk s a b _ ae];simp
 have iQ:=dm (f:=Ct n) l (λi (p:Bool×List ByteArray)=>[j9 nl l,aT s,ax p.1,R (i:Int),du p.2]) (λr p=>(.inl [aT s,ax (wf s r p.1 p.2).1,du (wf s r p.1 p.2).2]:List D⊕D)) (λi p=>p.2.length<=i+(if p.1=true then 1 else 0)) (λp _=>by simp[Ct,nX,wf]) ?_ n 0 (false,[]) (by simp) (by omega) (xaj _)
 .have bU:(R ((0:Nat):Int))=R 0:=rfl;have aP:du []= .ak 1 []:=rfl;rw[bU,aP]at iQ;simp only[xam,hw]at iQ;rw[cG hm];have JZ:a.length<=l.length:=by rw[ka];simp
  cases b with|nil=>simp only[wf]at iQ;have eo:cW (a.length+1) 16=true:=gd (by omega) (by omega);simp[zn,Lu,fG,iQ,eo]|cons c r=>have ao:=av2 s (c::r) a ay;simp only at ao;rw[ao]at iQ;simp[zn,Lu,fG,iQ]
 intro i x p ah aj a1;left;have aG:=cr (bt:=false) (i:=i) (by omega);have wY:p.2.length<=i+1:=by split at a1<;>omega
 have fp:cW (p.2.length+1) 16=true:=gd (by omega) (by omega);have fh:cW (p.2.length+1+1) 16=true:=gd (by omega) (by omega);obtain⟨d,o⟩:=p;simp only at a1 fp fh;cases d with
 |true=>
  refine⟨(true,o++[x]),?_,by rw[wf];simp,?_⟩;.simp[Ct,nX,aj,AZ ah,fp,aG]
  simp at a1⊢;omega
 |false=>
  cases ao:blt s x
  .refine⟨(false,o++[x]),?_,by rw[wf];simp[ao],?_⟩;.simp[Ct,nX,aj,AZ ah,fp,aG,Ln,ao,-Q3]
   simp at a1⊢;omega
  refine⟨(true,o++[s]++[x]),?_,by rw[wf];simp[ao],?_⟩;.simp[Ct,nX,aj,AZ ah,fp,fh,aG,Ln,ao,-Q3]
  simp at a1⊢;omega
mutual
def fY(o:Int):Tm->List ByteArray->List ByteArray
 | .mk op _ s _ ks,l=>mT o ks (if op=o then hA s l else l)
def mT(o:Int):List Tm->List ByteArray->List ByteArray
 |[],l=>l|t::r,l=>mT o r (fY o t l)
end
theorem MZ(o:Int)(t:Tm)(l:List ByteArray):fY o t l=mT o t.a4 (if t.op=o then hA t.name l else l):=by cases t;rw[fY];rfl
mutual
def IH(o:Int):∀(t:Tm)(l:List ByteArray),jU l->jU (fY o t l)/\(fY o t l).length<=l.length+t.bp
 | .mk op n s b ks,l,h=>by
  rw[fY];have aa:jU (if op=o then hA s l else l):=by split;exact FJ h;exact h
  have ae:(if op=o then hA s l else l).length<=l.length+1:=by split;exact FK l;omega
  have:=adl o ks _ aa;exact⟨this.1,by simp only[Tm.bp];omega⟩
def adl(o:Int):∀(ks:List Tm)(l:List ByteArray),jU l->jU (mT o ks l)/\(mT o ks l).length<=l.length+Tm.eV ks
 |[],l,h=>⟨h,by simp[mT,Tm.eV]⟩|t::r,l,h=>by rw[mT];have aa:=IH o t l h;have ae:=adl o r _ aa.1;exact⟨ae.1,by simp only[Tm.eV];omega⟩
end
theorem adm{l:List Tm}{i:Nat}{a:Tm}(h:l[i]?=some a):Tm.eV (l.drop i)=1+a.bp+Tm.eV (l.drop (i+1)):=by obtain⟨aa,ae⟩:=xae.1 h;rw[xbo aa,ae];rfl
def av4(nl:Bool)(s:ByteArray)(l:List ByteArray):j9 nl (hA s l)=du (hA s l):=adi (av0 s l)
def Uj(o:Int):∀(n:Nat)(t:Tm)(nl:Bool)(l:List ByteArray),t.bp+l.length+10<n->t.cB->jU l->l.length+t.bp<1000000000->rG n [t.d,R o,j9 nl l]=some (j9 nl (fY o t l))
 |0,t,_,_,h,_,_,_=>absurd h (xaI _)
 |n+1,t,nl,l,aM,bs,aE,ao=>by
  have bB:=bs.len;have av5:=t.lI;show F5 (rG n) n t.d (R o) (j9 nl l)=_;rw[MZ];generalize m9:(if t.op=o then hA t.name l else l)=vG;have aa:jU vG:=by rw[<-m9];split;exact FJ aE;exact aE
  have ae:vG.length<=l.length+1:=by rw[<-m9];split;exact FK l;omega
  have av6:Tm.eV t.a4+2=t.bp:=by cases t;simp[Tm.bp,Tm.a4];omega
  have aq:=dm (f:=Lv (rG n) n) t.a4 (λi (p:List ByteArray)=>[R o,j9 nl p,R (i:Int),R t.op,R t.num,aT t.name,cA 4 t.nl (Tm.rows t.a4)]) (λr p=>(.inl [j9 nl (mT o r p)]:List D⊕D)) (λi p=>jU p/\p.length+Tm.eV (t.a4.drop i)<=vG.length+Tm.eV t.a4) (λp _=>by simp[Lv,mT]) ?_ n 0 vG ⟨aa,by simp⟩ (by omega) (xaj _)
  .have bU:(R ((0:Nat):Int))=R 0:=rfl;rw[bU]at aq;simp only[xam]at aq;by_cases aL:t.op=o;.rw[xaa aL]at m9;have hw:=av3 n nl l t.name aE (by omega) (by omega);rw[m9,<-m9,<-av4 nl,m9]at hw;simp[F5,aL,hw];rw[aL]at aq;rw[aq];rfl
   rw[xac aL]at m9;subst m9;simp[F5,aL,aq]
  intro i a p aG aj a1;have hm:=xad aG;have bP:=Tm.jS hm;have aA:=adm aG;have aw:=Uj o n a nl p (by omega) (bs.fu hm) a1.1 (by omega);have OR:=IH o a p a1.1;left;refine⟨fY o a p,?_,by rw[mT],OR.1,by omega⟩;simp[Lv,aj,Tm.hz aG,aw,cr (bt:=false) (i:=i) (by omega)]
def Uk(n:Nat)(t:Tm)(aM:t.bp+10<n)(bs:t.cB)(ao:t.bp<1000000000):uU n [t.d]=some (.aR [j9 true (fY 3 t []),j9 true (fY 4 t [])]):=by have ay:=Uj 3 n t true [] (by simp;omega) bs trivial (by simp;omega);have a7:=Uj 4 n t true [] (by simp;omega) bs trivial (by simp;omega);have e:j9 true []=cp:=rfl;rw[e]at ay a7;simp[uU,aam,ay,a7]
def av7(n:Nat)(t:Tm)(hx:D)(p q:List ByteArray)(a1:jU p)(bQ:jU q)(aM:p.length+q.length+5<n)(ao:p.length+q.length<1000000000):zQ n [t.d,hx,du p,du q]=some [ax true,du (if t.op=3 then hA t.name p else p),du (if t.op=4 then hA t.name q else q)]:=by
 have dX:=adg n t.name p a1 (by omega) (by omega);have eM:=adg n t.name q bQ (by omega) (by omega);by_cases ay:t.op=3
 .simp[zQ,ay,dX]
 by_cases a7:t.op=4;.simp[zQ,ay,a7,eM]
 simp[zQ,ay,a7]
def adn:∀(n:Nat)(t:Tm)(deep:Int)(p q:List ByteArray),t.bp+p.length+q.length+t.bp+20<n->t.cB->jU p->jU q->0<=deep->deep+t.bp<1000000000->p.length+q.length+t.bp+t.bp<1000000000->vc n [t.d,R deep,du p,du q]=some [ax true,du (fY 3 t p),du (fY 4 t q)]
 |0,t,_,_,_,h,_,_,_,_,_,_=>absurd h (xaI _)
 |n+1,t,deep,p,q,aM,bs,a1,bQ,aDl,FA,ao=>by
  have bB:=bs.len;have av5:=t.lI;have av6:Tm.eV t.a4+2=t.bp:=by cases t;simp[Tm.bp,Tm.a4];omega
  have aa:=av7 n t (R deep) p q a1 bQ (by omega) (by omega);rw[MZ,MZ];generalize ado:(if t.op=3 then hA t.name p else p)=o3 at*;generalize adp:(if t.op=4 then hA t.name q else q)=qG at*;have eQ:jU o3:=by rw[<-ado];split;exact FJ a1;exact a1
  have ez:o3.length<=p.length+1:=by rw[<-ado];split;exact FK p;omega
  have bV:jU qG:=by rw[<-adp];split;exact FJ bQ;exact bQ
  have bN:qG.length<=q.length+1:=by rw[<-adp];split;exact FK q;omega
  have aq:=dm (f:=LI (vc n) n) t.a4 (λi (z:List ByteArray×List ByteArray)=>[R deep,cA 4 t.nl (Tm.rows t.a4),R t.a4.length,R (i:Int),du z.1,du z.2]) (λr z=>(.inl [du (mT 3 r z.1),du (mT 4 r z.2)]:List D⊕List D)) (λi z=>jU z.1/\jU z.2/\z.1.length+Tm.eV (t.a4.drop i)<=o3.length+Tm.eV t.a4/\z.2.length+Tm.eV (t.a4.drop i)<=qG.length+Tm.eV t.a4) (λz _=>by simp[LI,mT]) ?_ n 0 (o3,qG) ⟨eQ,bV,by simp,by simp⟩ (by omega) (xaj _);.have bU:(R ((0:Nat):Int))=R 0:=rfl;rw[bU]at aq;simp only[xam]at aq;simp[vc,Sc,aa,aq]
  intro i a z aG aj bP;obtain⟨k0,qY,adq,aDm⟩:=bP;have hm:=xad aG;have aDn:=Tm.jS hm;have aA:=adm aG;have aw:=adn n a (deep+1) z.1 z.2 (by omega) (bs.fu hm) k0 qY (by omega) (by omega) (by omega);have nH:=IH 3 a z.1 k0;have yy:=IH 4 a z.2 qY;left;refine⟨(fY 3 a z.1,fY 4 a z.2),?_,by simp[mT],nH.1,yy.1,by simp only;omega,by simp only;omega⟩;simp[LI,aj,Tm.hz aG,aw,lJ (bt:=false) (i:=deep) (by omega) (by omega),cr (bt:=false) (i:=i) (by omega)]
def M0(n:Nat)(t:Tm)(aM:t.bp+t.bp+30<n)(bs:t.cB)(ao:t.bp<100000000):rQ n [t.d]=some (.aR [du (fY 3 t []),du (fY 4 t [])]):=by have h:=adn n t 1 [] [] (by simp;omega) bs trivial trivial (by omega) (by omega) (by simp;omega);have e:du []= .ak 1 []:=rfl;have gk:∀l,bm (du l)=true:=λ_=>rfl;rw[e]at h;simp[rQ,aaR,h,gk]
mutual
def M1:Tm->Tm->Bool
 | .mk o n s _ ks,u=>decide (o=u.op)&&decide (n=u.num)&&decide (s=u.name)&&decide (ks.length=u.a4.length)&&A0 ks u.a4
def A0:List Tm->List Tm->Bool
 |a::r,b::q=>M1 a b&&A0 r q|[],_=>true|_::_,[]=>true
end
theorem adr(t u:Tm):M1 t u=(decide (t.op=u.op)&&decide (t.num=u.num)&&decide (t.name=u.name)&&decide (t.a4.length=u.a4.length)&&A0 t.a4 u.a4):=by cases t;rw[M1];rfl
def tC:List bl->Nat->List (Value×D)->List (Value×D)
 |[],_,M=>M|v::r,i,M=>tC r (i+1) (if(gB M v.name).isSome then M else(rf .string M (aT v.name) (R i)).getD [])
def Ul:∀(r:List bl)(i:Nat)(M:List (Value×D)),lK M->lK (tC r i M)/\∀x,gB (tC r i M) x=match gB M x with|some d=>some d|none=>(dg r x).map λj=>R ((i+j:Nat):Int)
 |[],i,M,h=>⟨h,λx=>by simp only[tC,dg,List.findIdx?_nil];cases gB M x<;>rfl⟩
 |v::r,i,M,h=>by
  rw[tC];have e:∀x,dg (v::r) x=if v.name=x then some 0 else(dg r x).map (·+1):=by intro x;simp[dg,xbN]
  by_cases aE:(gB M v.name).isSome
  .rw[xaa aE];obtain⟨aa,ae⟩:=Ul r (i+1) M h;refine⟨aa,λx=>?_⟩;rw[ae x,e x];cases ah:gB M x with
   |some d=>rfl
   |none=>
    have cv:¬v.name=x:=by rintro rfl;simp[ah]at aE
    simp only[cv,xaz,Option.map_map]
    congr 1
    funext j
    simp only[Function.comp]
    congr 2
    omega
  rw[xac aE];obtain⟨ey,eQ,ez,ho,_⟩:=Lm h v.name (R i);rw[eQ,xbk];obtain⟨aa,ae⟩:=Ul r (i+1) ey ez;refine⟨aa,λx=>?_⟩;rw[ae x,ho x,e x];by_cases ah:x=v.name
  .subst ah;have aM:gB M v.name=none:=by simpa using aE
   simp[aM]
  have cv:¬v.name=x:=λh=>ah h.symm;simp only[ah,cv,xaz];cases bG:gB M x with
  |some d=>rfl
  |none=>
   simp only[Option.map_map]
   congr 1
   funext j
   simp only[Function.comp]
   congr 2
   omega
def M3(M:List (Value×D))(vs:List bl):Prop:=lK M/\∀x,gB M x=(dg vs x).map λ(j:Nat)=>R (j:Int)
def Um(n:Nat)(vs:List bl)(aM:vs.length<n)(aq:vs.length<1000000000000):∃M,ve n [aU vs]=some (.mp M)/\M3 M vs:=by
 have ar:lK []:=by intro e he;cases he
 obtain⟨aa,ae⟩:=Ul vs 0 [] ar;refine⟨tC vs 0 [],?_,aa,λx=>by rw[ae x];simp only[gB,xaB]⟩;have aj:=dm (f:=G5 n) vs (λi (M:List (Value×D))=>[aU vs,R vs.length,R (i:Int),.mp M]) (λr M=>(Sum.inl [.mp (tC r (vs.length-r.length) M)]:List D⊕D)) (λi M=>lK M) (λM _=>by simp[G5,tC]) ?_ n 0 [] ar (by omega) (xaj _)
 .have bU:(R ((0:Nat):Int))=R 0:=rfl;rw[bU]at aj;simp[ve,aaU,eA,aj]
 intro i a M aG aj dD;left;have e:vs.length-(a::vs.drop (i+1)).length=i:=by simp;omega
 have dq:vs.length-(vs.drop (i+1)).length=i+1:=by simp;omega
 have ay:=Cl dD (z:= .int .i64 0) (x:=a.name);cases bG:gB M a.name with|some d=>rw[bG]at ay;refine⟨M,by simp[G5,aj,fE aG,ay,cr (bt:=false) (i:=i) (by omega)],?_,dD⟩;rw[e,tC,bG,dq];rfl|none=>rw[bG]at ay;obtain⟨ey,eQ,ez,ho,_⟩:=Lm dD a.name (R i);refine⟨ey,by simp[G5,aj,fE aG,ay,eQ,cr (bt:=false) (i:=i) (by omega)],?_,ez⟩;rw[e,tC,bG,dq];simp only[xce,xan,xaz,eQ,xbk]
def ads(n:Nat)(vs:List bl)(x:ByteArray)(aM:vs.length<n)(aq:vs.length<1000000000000):xc n [aU vs,aT x]=some (R (match dg vs x with|some i=>(i:Int)|none=>-1)):=by
 have aj:=dm (f:=F8 n) vs (λi (_:Unit)=>[aU vs,aT x,R (i:Int)]) (λr _=>match dg r x with|some j=>(Sum.inr (R ((vs.length-r.length+j:Nat):Int)):List D⊕D)|none=> .inl []) (λ_ _=>True) (λ_ _=>by simp[F8,eA,dg]) ?_ n 0 () trivial (by omega) (xaj _);.have bU:(R ((0:Nat):Int))=R 0:=rfl;rw[bU]at aj;simp only[xc,aaq,aj,xam,dS];cases dg vs x<;>simp
 intro i a _ aG aj _;have e:vs.length-(a::vs.drop (i+1)).length=i:=by simp;omega
 have dq:vs.length-(vs.drop (i+1)).length=i+1:=by simp;omega
 have nB:dg (a::vs.drop (i+1)) x=if a.name=x then some 0 else(dg (vs.drop (i+1)) x).map (·+1):=by simp[dg,xbN]
 have ad:a.cells[0]?=some (aT a.name):=rfl;by_cases ah:a.name=x;.right;rw[nB,xaa ah,e];simp[F8,eA,aj,fE aG,ad,ah]
 left;refine⟨(),by simp[F8,eA,aj,fE aG,ad,ah,cr (bt:=false) (i:=i) (by omega)],?_,trivial⟩;rw[nB,xac ah,e,dq];cases dg (vs.drop (i+1)) x with|none=>rfl|some j=>simp;omega
def dE(l:List bl)(t:Tm):List Nat:=(fY 3 t []).filterMap (dg l)
def nm{l:List bl}{t:Tm}:∀k∈dE l t,k<l.length:=by intro k al;obtain⟨x,_,ah⟩:=List.mem_filterMap.1 al;obtain⟨_,_,_,h⟩:=Rl ah;exact h
def Dn(t:Tm):(fY 3 t []).length<=t.bp:=by have:=(IH 3 t [] trivial).2;simpa using this
def M4(l:List bl)(t:Tm):(dE l t).length<=t.bp:=xbM (List.length_filterMap_le _ _) (Dn t)
structure hV(B:Nat)(l:List bl):Prop where
 len:l.length<=B
 e:∀d∈l,d.e.cB/\d.e.bp<=B
 b:B<=1000000
def to(l:List bl)(i:Nat):List Nat:=match l[i]? with|some d=>dE l d.e|none=>[]
def lh{l:List bl}(i:Nat):∀k∈to l i,k<l.length:=by
 unfold to;split;.exact nm
 intro k al;cases al
def Dp{l:List bl}{i:Nat}{d:bl}(h:l[i]?=some d):to l i=dE l d.e:=by simp[to,h]
def II{l:List ByteArray}{i:Nat}{s:ByteArray}(h:l[i]?=some s):bh 1 (du l) (R (i:Int))=some [aT s]:=by simp[du,h]
def IJ(l:List ByteArray):bJ (du l)=some (R l.length):=by simp[du]
def av8(n:Nat)(l:List bl)(t:Tm){B:Nat}(aq:l.length<=B)(bs:t.cB)(aJ:t.bp<=B)(gN:B<=1000000)(aM:2*B+100<n):Gb n [t.d,aU l]=some (c8 (dE l t)):=by
 have ca:=Uk n t (by omega) bs (by omega);have cv:=Dn t;have aj:=dm (f:=F9 n) (fY 3 t []) (λi (s:List Nat)=>[aU l,j9 true (fY 3 t []),R (i:Int),c8 s]) (λr s=>(.inl [c8 (s++r.filterMap (dg l))]:List D⊕D)) (λi s=>s.length<=i) (λs _=>by simp[F9,nX,c8]) ?_ n 0 [] (by simp) (by omega) (xaj _)
 .have bU:(R ((0:Nat):Int))=R 0:=rfl;have aP:c8 []=D.ak 1 []:=rfl;have gr:∀x,D.ak 1 (af (c8 x))=c8 x:=λ_=>rfl;rw[bU,aP]at aj;simp only[xam,xaH]at aj;simp only[Gb,aar,go_sem,ca,aj,gr];rfl
 intro i a s aG aj aE;have ah:=AZ (nl:=true) aG;have fC:=ads n l a (by omega) (by omega);have gr:∀x,D.ak 1 (af (c8 x))=c8 x:=λ_=>rfl;left;cases aA:dg l a with
 |none=>rw[aA]at fC;refine⟨s,?_,by simp[aA],by omega⟩;simp only[F9,go_sem,nX,yT ((i:Int)<((fY 3 t []).length:Int)),ah,iK,fC,yF ((-1:Int)>=0),gr,cr (bt:=false) (i:=i) (by omega)]
 |some k=>
  rw[aA]at fC;have eo:cW (s.length+1) 8=true:=gd (by omega) (by omega);have a2:D.ak 1 (af (c8 s)++[[R (k:Int)]])=c8 (s++[k]):=by simp[c8]
  have bS:(af (c8 s)).length=s.length:=by simp[c8]
  refine⟨s++[k],?_,by simp[aA],by simp;omega⟩;simp only[F9,go_sem,nX,yT ((i:Int)<((fY 3 t []).length:Int)),ah,iK,fC,yT ((k:Int)>=0),gr,a2,bS,xat,xaG,xaB,eo,cr (bt:=false) (i:=i) (by omega)]
def adt(n:Nat)(l:List Nat)(k:Nat)(d:D)(aA:d=c8 l\/(l=[]/\d=cp))(aq:l.length<1000000000)(aM:l.length+5<n):xd n [d,R (k:Int)]=some (ax (decide (k∈l))):=by
 rcases aA with rfl|⟨rfl,rfl⟩
 case inr=>obtain⟨m,rfl⟩:∃m,n=m+1:=⟨n-1,by omega⟩;simp[xd,RA,k7,Cw]
 have aj:=dm (f:=Cw n) l (λi (_:Unit)=>[c8 l,R (k:Int),R (i:Int)]) (λr _=>if k∈r then(.inr (ax true):List D⊕D)else .inl []) (λi s=>True) (λs _=>by simp[Cw,pG]) ?_ n 0 () trivial (by omega) (xaj _);.have bU:(R ((0:Nat):Int))=R 0:=rfl;rw[bU]at aj;simp only[xam]at aj;by_cases h:k∈l<;>simp only[h,xav,xaz]at aj<;>simp[xd,RA,aj,h]
 intro i a s aG aj _;have ah:=uS aG;by_cases adu:a=k
 .right;subst adu;simp[Cw,pG,aj,ah]
 left;have av9:¬((a:Int)=(k:Int)):=by omega
 have awa:¬k=a:=λh=>adu h.symm;refine⟨(),by simp[Cw,pG,aj,ah,av9,cr (bt:=false) (i:=i) (by omega)],by simp[awa],trivial⟩
def awb(n:Nat)(l:List bl){B:Nat}(aq:hV B l)(aM:4*B+200<n):G7 n [aU l]=some (hM (l.map λd=>dE l d.e)):=by
 have bB:=aq.len;have tD:=aq.b;obtain⟨M,gO,lu,IK⟩:=Um n l (by omega) (by omega);have gr:∀x,D.ak 1 (af (c8 x))=c8 x:=λ_=>rfl;have M5:∀x,D.ak 1 (af (hM x))=hM x:=λ_=>rfl;have aj:=dm (f:=LL n) l (λi (s:List (List Nat))=>[.mp M,aU l,R l.length,R (i:Int),hM s]) (λr s=>(.inl [hM (s++r.map λd=>dE l d.e)]:List D⊕D)) (λi s=>s.length=i) (λs _=>by simp[LL,hM]) ?_ n 0 [] rfl (by omega) (xaj _)
 .have bU:(R ((0:Nat):Int))=R 0:=rfl;have aP:hM []=D.ak 1 []:=rfl;rw[bU,aP]at aj;simp only[xam,xaH]at aj;simp only[G7,aaV,go_sem,gO,eA,aj,M5]
 intro i a acc aG aj awc;have hm:=xad aG;have awd:=aq.e a hm;have ca:=M0 n a.e (by omega) awd.1 (by omega);have cv:=Dn a.e;have aI:=dm (f:=G6 n) (fY 3 a.e []) (λj (s:List Nat)=>[.mp M,aU l,R l.length,R (i:Int),du (fY 3 a.e []),R (fY 3 a.e []).length,R (j:Int),hM acc,c8 s]) (λr s=>(.inl [.mp M,aU l,R l.length,R (i:Int),hM acc,c8 (s++r.filterMap (dg l))]:List D⊕(List D⊕(List D⊕(List D⊕D))))) (λj s=>s.length<=j) (λs _=>by simp[G6,c8,hM]) ?_ n 0 [] (by simp) (by omega) (xaj _)
 .have bU:(R ((0:Nat):Int))=R 0:=rfl;have aP:c8 []=D.ak 1 []:=rfl;rw[bU,aP]at aI;simp only[xam,xaH]at aI;have eo:cW (acc.length+1) 24=true:=gd (by omega) (by omega);have a2:D.ak 1 (af (hM acc)++[[c8 (dE l a.e)]])=hM (acc++[dE l a.e]):=by simp[hM]
  have bS:(af (hM acc)).length=acc.length:=by simp[hM]
  have cS:(fY 3 a.e []).filterMap (dg l)=dE l a.e:=rfl;have gk:∀x,bm (c8 x)=true:=λ_=>rfl;rw[cS]at aI;left;refine⟨acc++[dE l a.e],?_,by simp,by simp[awc]⟩;simp only[LL,go_sem,yT ((i:Int)<(l.length:Int)),fE aG,bl.am9,bl.agg,bl.bw,bl.bO,bl.b0,bl.cZ,Tm.FI,ca,IJ,M5,aI,gr,gk,a2,bS,xat,xaG,xaB,eo,cr (bt:=false) (i:=i) (by omega)]
 intro j b s ao aI aE;have ah:=II ao;have gH:=Cl lu (z:= .int .i64 0) (x:=b);have adv:=IK b;left;cases aA:dg l b with
 |none=>rw[adv,aA]at gH;simp only[xbq]at gH;refine⟨s,?_,by simp[aA],by omega⟩;simp only[G6,go_sem,yT ((j:Int)<((fY 3 a.e []).length:Int)),ah,iK,mH,gH,gr,M5,cr (bt:=false) (i:=j) (by omega)]
 |some k=>
  rw[adv,aA]at gH;simp only[xaC]at gH;have eo:cW (s.length+1) 8=true:=gd (by omega) (by omega);have a2:D.ak 1 (af (c8 s)++[[R (k:Int)]])=c8 (s++[k]):=by simp[c8]
  have bS:(af (c8 s)).length=s.length:=by simp[c8]
  refine⟨s++[k],?_,by simp[aA],by simp;omega⟩;simp only[G6,go_sem,yT ((j:Int)<((fY 3 a.e []).length:Int)),ah,iK,mH,gH,gr,M5,a2,bS,xat,xaG,xaB,eo,cr (bt:=false) (i:=j) (by omega)]
def hE(to:Nat->List Nat):Nat->List Nat->List Nat->List Nat
 |0,_,S=>S|n+1,ks,S=>ks.foldl (λS k=>if k∈S then S else hE to n (to k) (S++[k])) S
inductive kb(to:Nat->List Nat):Nat->Nat->Prop where
 |refl (i:Nat):kb to i i
 |step (i j k:Nat) (h:j∈to i) (bD:kb to j k):kb to i k
def kb.trans{to:Nat->List Nat}{i j k:Nat}(h:kb to i j)(bD:kb to j k):kb to i k:=by induction h with|refl=>exact bD|step a b c ka _ ih=>exact .step a b _ ka (ih bD)
def iR(N:Nat)(S:List Nat):Prop:=S.Nodup/\∀x∈S,x<N
def adw:∀(N:Nat)(S:List Nat),S.Nodup->(∀x∈S,x<N)->S.length<=N
 |0,S,_,h=>by cases S with|nil=>simp|cons a r=>exact absurd (h a (by simp)) (xaI _)
 |N+1,S,aM,h=>by
  have aa:=adw N (S.erase N) (aM.erase N) (λx ah=>by
   have ae:=h x (List.mem_of_mem_erase ah);have ay:x≠N:=by rintro rfl;exact aM.not_mem_erase ah
   omega)
  have a7:=List.length_erase (a:=N) (l:=S);split at a7<;>omega
def iR.len{N:Nat}{S:List Nat}(h:iR N S):S.length<=N:=adw N S h.1 h.2
def iR.lt{N k:Nat}{S:List Nat}(h:iR N S)(al:k<N)(aM:k∉S):S.length<N:=by have ae:iR N (S++[k]):=⟨by rw[List.nodup_append];exact⟨h.1,by simp,by intro a aG b ao;simp at ao;subst ao;rintro rfl;exact aM aG⟩,by intro x ah;rcases xaM.1 ah with ah|ah;exact h.2 x ah;simp at ah;omega⟩;have:=ae.len;simp at this;omega
def iR.snoc{N k:Nat}{S:List Nat}(h:iR N S)(al:k<N)(aM:k∉S):iR N (S++[k]):=⟨by rw[List.nodup_append];exact⟨h.1,by simp,by intro a aG b ao;simp at ao;subst ao;rintro rfl;exact aM aG⟩,by intro x ah;rcases xaM.1 ah with ah|ah;exact h.2 x ah;simp at ah;omega⟩
structure adx(to:Nat->List Nat)(N:Nat)(ks S e8:List Nat):Prop where
 inv:iR N e8
 pre:∃T,e8=S++T
 mem:∀k∈ks,k∈e8
 vH:∀x∈e8,x∉S->∀y∈to x,y∈e8
 r3:∀x∈e8,x∈S\/∃k∈ks,kb to k x
def Dq{to:Nat->List Nat}{N:Nat}(kM:∀i,∀k∈to i,k<N):∀(n:Nat)(ks S:List Nat),iR N S->(∀k∈ks,k<N)->N-S.length<n->adx to N ks S (hE to n ks S)
 |0,_,_,_,_,h=>absurd h (xaI _)
 |n+1,ks,S,cI,eI,aM=>by
  rw[hE]
  induction ks generalizing S with
  |nil=>exact⟨cI,⟨[],by simp⟩,by simp,λx ah aM=>absurd ah aM,λx ah=> .inl ah⟩
  |cons k r ih=>
   rw[xbW];by_cases al:k∈S
   .rw[xaa al];have h:=ih S cI (λx ah=>eI x (by simp[ah])) aM;obtain⟨T,bb⟩:=h.pre;refine⟨h.inv,h.pre,?_,h.vH,λx ah=>?_⟩
    .intro x ah;rcases xap.1 ah with rfl|ah
     .rw[bb];simp[al]
     exact h.mem x ah
    rcases h.r3 x ah with aa|⟨j,aa,ae⟩;.exact .inl aa
    exact .inr ⟨j,by simp[aa],ae⟩
   rw[xac al];have o4:=eI k (by simp);have b5:=cI.lt o4 al;have ar:=Dq kM n (to k) (S++[k]) (cI.snoc o4 al) (kM k) (by simp;omega);obtain⟨fD,Dr⟩:=ar.pre;have h:=ih (hE to n (to k) (S++[k])) ar.inv (λx ah=>eI x (by simp[ah])) (by rw[Dr];simp;omega);obtain⟨T,bb⟩:=h.pre;have awe:k∈hE to n (to k) (S++[k]):=by rw[Dr];simp
   refine⟨h.inv,⟨[k]++fD++T,by rw[bb,Dr];simp⟩,?_,?_,?_⟩
   .intro x ah;rcases xap.1 ah with rfl|ah
    .rw[bb];exact xbP _ awe
    exact h.mem x ah
   .intro x ah Un y aK;by_cases ady:x∈hE to n (to k) (S++[k])
    .by_cases M6:x∈S++[k]
     .have awf:x=k:=by
       rcases xaM.1 M6 with h|h;.exact absurd h Un
       simpa using h
      subst awf;rw[bb];exact xbP _ (ar.mem y aK)
     rw[bb];exact xbP _ (ar.vH x ady M6 y aK)
    exact h.vH x ah ady y aK
   intro x ah;rcases h.r3 x ah with aa|⟨j,aa,ae⟩
   .rcases ar.r3 x aa with ay|⟨j,ay,a7⟩
    .rcases xaM.1 ay with ay|ay;.exact .inl ay
     simp at ay;subst ay;exact .inr ⟨x,by simp,.refl x⟩
    exact .inr ⟨k,by simp,.step k j x ay a7⟩
   exact .inr ⟨j,by simp[aa],ae⟩
def Uo{to:Nat->List Nat}{N:Nat}(kM:∀i,∀k∈to i,k<N):∀(n m:Nat)(ks S:List Nat),iR N S->(∀k∈ks,k<N)->N-S.length<n->N-S.length<m->hE to n ks S=hE to m ks S
 |0,_,_,_,_,_,h,_=>absurd h (xaI _)|_+1,0,_,_,_,_,_,h=>absurd h (xaI _)
 |n+1,m+1,ks,S,cI,eI,aM,hm=>by
  rw[hE,hE]
  induction ks generalizing S with
  |nil=>rfl
  |cons k r ih=>
   rw[xbW,xbW];by_cases al:k∈S;.rw[xaa al,xaa al];exact ih S cI (λx ah=>eI x (by simp[ah])) aM hm
   rw[xac al,xac al];have o4:=eI k (by simp);have b5:=cI.lt o4 al;have e:=Uo kM n m (to k) (S++[k]) (cI.snoc o4 al) (kM k) (by simp;omega) (by simp;omega);have ar:=Dq kM n (to k) (S++[k]) (cI.snoc o4 al) (kM k) (by simp;omega);obtain⟨fD,Dr⟩:=ar.pre;rw[<-e];exact ih _ ar.inv (λx ah=>eI x (by simp[ah])) (by rw[Dr];simp;omega) (by rw[Dr];simp;omega)
def kR(l:List bl)(ks:List Nat):List Nat:=hE (to l) (l.length+1) ks []
def xL(l:List bl)(ks:List Nat)(al:∀k∈ks,k<l.length):adx (to l) l.length ks [] (kR l ks):=Dq (λi k al=>lh i k al) _ ks [] ⟨by simp,by simp⟩ al (by simp)
def vI(l:List bl)(ks:List Nat)(al:∀k∈ks,k<l.length)(x:Nat):x∈kR l ks↔∃k∈ks,kb (to l) k x:=by
 have h:=xL l ks al;constructor
 .intro ah;rcases h.r3 x ah with aa|aa
  .cases aa
  exact aa
 rintro⟨k,fF,aw⟩;have g1:∀a b,kb (to l) a b->a∈kR l ks->b∈kR l ks:=by
  intro a b ka
  induction ka with|refl=>exact λh=>h|step i j k lv _ ih=>exact λaj=>ih (h.vH i aj (by simp) j lv)
 exact g1 k x aw (h.mem k fF)
def jw(l:List bl)(i:Nat):Bool:=decide (i∈kR l (to l i))
def Up(l:List bl)(i:Nat):jw l i=true↔∃k∈to l i,kb (to l) k i:=by unfold jw;rw[xaE,vI l _ (lh i)]
def adz{to:Nat->List Nat}:∀(n:Nat)(ks S:List Nat),∃T,hE to n ks S=S++T
 |0,ks,S=>⟨[],by simp[hE]⟩
 |n+1,ks,S=>by
  rw[hE]
  induction ks generalizing S with
  |nil=>exact⟨[],by simp⟩
  |cons k r ih=>
   rw[xbW];split;.exact ih S
   obtain⟨fD,ar⟩:=adz n (to k) (S++[k]);obtain⟨T,bb⟩:=ih (hE to n (to k) (S++[k]));exact⟨[k]++fD++T,by rw[bb,ar];simp⟩
def kS(S:List Nat)(d:D)(s:List Nat):D:=if s.length=S.length then d else c8 s
def Uq(l:List bl){B:Nat}(aq:hV B l):∀(n:Nat)(t:Tm)(S:List Nat)(d:D),d=c8 S\/(S=[]/\d=cp)->t.cB->t.bp<=B->iR l.length S->l.length-S.length+4*B+300<n->qw n [t.d,aU l,d]=some (kS S d (hE (to l) n (dE l t) S))
 |0,_,_,_,_,_,_,_,h=>absurd h (xaI _)
 |n+1,t,S,d,aA,bs,aJ,cI,aM=>by
  have bB:=aq.len;have tD:=aq.b;have awg:=M4 l t;have awh:=av8 n l t bB bs aJ tD (by omega);have awi:∀T,kS S d (S++T)=c8 (S++T)\/(S++T=[]/\kS S d (S++T)=cp):=by
   intro T;unfold kS;split
   .rename_i h;have:T=[]:=by simpa using h
    subst this;rcases aA with rfl|⟨rfl,rfl⟩
    .left;simp
    right;simp
   exact .inl rfl
  have bU:(R ((0:Nat):Int))=R 0:=rfl;have awj:kS S d S=d:=by simp[kS]
  rw[hE];have eP:=dm (f:=Gc (qw n) n) (dE l t) (λi (s:List Nat)=>[aU l,kS S d s,c8 (dE l t),R (i:Int)]) (λr s=>(.inl [kS S d (r.foldl (λS k=>if k∈S then S else hE (to l) n (to l k) (S++[k])) s)]:List D⊕D)) (λi s=>iR l.length s/\∃T,s=S++T) (λs _=>by simp[Gc,pG]) ?_ n 0 S ⟨cI,[],by simp⟩ (by omega) (xaj _)
  .rw[bU,awj]at eP;simp only[xam]at eP;show Ly (qw n) n t.d (aU l) d=_;simp only[Ly,go_sem,awh,eP]
  rintro i k s al aj ⟨aa,T,bb⟩;have nN:=xad al;have o4:=nm k nN;obtain⟨M7,Bu⟩:∃M7,l[k]?=some M7:=⟨l[k],xab o4⟩;have hF:=aq.e M7 (xad Bu);have lQ:=aa.len;have ay:=awi T;rw[<-bb]at ay;have aDo:S.length<=s.length:=by rw[bb];simp
  have M8:=adt n s k (kS S d s) ay (by omega) (by omega);left;by_cases eI:k∈s
  .refine⟨s,?_,?_,aa,T,bb⟩;.simp only[Gc,go_sem,pG,yT ((i:Int)<((dE l t).length:Int)),uS al,iK,M8,xao eI,cr (bt:=false) (i:=i) (by omega)]
   simp only[xbW,xaa eI]
  have b5:=aa.lt o4 eI;have IL:=aa.snoc o4 eI;have a9:=Uq l aq n M7.e (s++[k]) (c8 (s++[k])) (.inl rfl) hF.1 hF.2 IL (by simp;omega);have gl:=Dq (λi k al=>lh i k al) n (to l k) (s++[k]) IL (λx ah=>lh k x ah) (by simp;omega);rw[<-Dp Bu]at a9;obtain⟨Ur,IM⟩:=adz (to:=to l) n (to l k) (s++[k]);have bk:kS (s++[k]) (c8 (s++[k])) (hE (to l) n (to l k) (s++[k]))=c8 (hE (to l) n (to l k) (s++[k])):=by
   unfold kS;split
   .rename_i h;rw[IM]at h⊢;have:Ur=[]:=by simpa using h
    subst this;simp
   rfl
  have b1:kS S d (hE (to l) n (to l k) (s++[k]))=c8 (hE (to l) n (to l k) (s++[k])):=by unfold kS;rw[xac];rw[IM,bb];simp<;>omega
  rw[bk]at a9;obtain⟨q,bV,bN⟩:∃q,ql (kS S d s)=some (q,s.map λ(i:Nat)=>[R (i:Int)])/\(decide (q=1\/(s.map λ(i:Nat)=>[R (i:Int)])=[])&&decide (0<1))=true:=by
   rcases ay with ay|⟨ay,a7⟩;.rw[ay];exact⟨1,rfl,by simp⟩
   rw[a7,ay];exact⟨0,rfl,by simp⟩
  have awk:cW (s.map λ(i:Nat)=>[R (i:Int)]).length 8=true:=gd (by simp;omega) (by simp;omega);have awl:cW ((s.map λ(i:Nat)=>[R (i:Int)]).length+1) 8=true:=gd (by simp;omega) (by simp;omega);have a2:D.ak 1 ((s.map λ(i:Nat)=>[R (i:Int)])++[[R (k:Int)]])=c8 (s++[k]):=by simp[c8]
  refine⟨hE (to l) n (to l k) (s++[k]),?_,?_,gl.inv,T++[k]++Ur,?_⟩;.rw[b1];simp only[Gc,go_sem,pG,yT ((i:Int)<((dE l t).length:Int)),uS al,iK,M8,xaw eI,fE Bu,bl.iy,bV,bN,xaG,awk,xaH,xat,xaB,awl,a2,a9,cr (bt:=false) (i:=i) (by omega)]
  .simp only[xbW,xac eI]
  rw[IM,bb];simp
def awm(l:List bl){B:Nat}(aq:hV B l)(n:Nat)(i:Nat)(aj:i<l.length)(aM:6*B+400<n):Ge n [aU l,R (i:Int)]=some (ax (jw l i)):=by
 have bB:=aq.len;have tD:=aq.b;obtain⟨d,aA⟩:∃d,l[i]?=some d:=⟨l[i],xab aj⟩;have hF:=aq.e d (xad aA);have ao:=Uq l aq n d.e [] cp (.inr ⟨rfl,rfl⟩) hF.1 hF.2 ⟨by simp,by simp⟩ (by simp;omega);have a8:=Uo (λi k al=>lh (l:=l) i k al) n (l.length+1) (dE l d.e) [] ⟨by simp,by simp⟩ nm (by simp;omega) (by simp);have gl:=xL l (dE l d.e) nm;have g1:=gl.inv.len;rw[a8]at ao;have an:hE (to l) (l.length+1) (dE l d.e) []=kR l (dE l d.e):=rfl;rw[an]at ao;have M8:=adt n (kR l (dE l d.e)) i (kS [] cp (kR l (dE l d.e))) (by
  unfold kS;split;.rename_i h;exact .inr ⟨xaJ h,rfl⟩
  exact .inl rfl) (by omega) (by omega)
 simp only[Ge,aas,go_sem,fE aA,bl.iy,ao,M8,jw,Dp aA]
def Us(l:List bl){B:Nat}(aq:hV B l):∀(n:Nat)(i:Nat)(S:List Nat)(M:List (Value×D)),i<l.length->bY M S->iR l.length S->l.length-S.length+2*B+100<n-> ∃ey,rR n [R (i:Int),hM (l.map λd=>dE l d.e),.mp M]=some [D.aR [],hM (l.map λd=>dE l d.e),.mp ey]/\bY ey (hE (to l) n (to l i) S)
 |0,_,_,_,_,_,_,h=>absurd h (xaI _)
 |n+1,i,S,M,aj,dD,cI,aM=>by
  have bB:=aq.len;have tD:=aq.b;obtain⟨d,aA⟩:∃d,l[i]?=some d:=⟨l[i],xab aj⟩;have hF:=aq.e d (xad aA);have awg:=M4 l d.e;have ah:bh 1 (hM (l.map λd=>dE l d.e)) (R (i:Int))=some [c8 (dE l d.e)]:=ana (by simp[aA]);have bU:(R ((0:Nat):Int))=R 0:=rfl;rw[Dp aA,hE];have key:∀(m j:Nat)(s:List Nat)(M:List (Value×D)),bY M s->iR l.length s->S.length<=s.length->(dE l d.e).length-j<m->j<=(dE l d.e).length-> ∃ey,bq (G8 (rR n) n) m [c8 (dE l d.e),R (dE l d.e).length,R (j:Int),hM (l.map λd=>dE l d.e),.mp M]=some (.inl [hM (l.map λd=>dE l d.e),.mp ey])/\bY ey (((dE l d.e).drop j).foldl (λS k=>if k∈S then S else hE (to l) n (to l k) (S++[k])) s):=by
   intro m
   induction m with
   |zero=>intro j s M _ _ _ h _;exact absurd h (xaI _)
   |succ m ih=>
    intro j s M dD aE Ui hm aI;rw[k7];by_cases cD:j<(dE l d.e).length
    .have al:=xab cD;generalize (dE l d.e)[j]=k at al;have nN:=xad al;have o4:=nm k nN;have vJ:(dE l d.e).drop j=k::(dE l d.e).drop (j+1):=by
      obtain⟨bV,bN⟩:=xae.1 al;rw[xbo bV,bN]
     rw[vJ,xbW];have tE:=dD.look (i:=k) (z:= .bool false);by_cases eI:k∈s
     .rw[xaa eI];obtain⟨ey,a9,bk⟩:=ih (j+1) s M dD aE Ui (by omega) cD;refine⟨ey,?_,bk⟩;simp only[G8,go_sem,yT ((j:Int)<((dE l d.e).length:Int)),uS al,iK,tE,xao eI,cr (bt:=false) (i:=j) (by omega),a9]
     rw[xac eI];obtain⟨vK,eQ,ez⟩:=dD.put k;rw[xac eI]at ez;have IL:=aE.snoc o4 eI;have b5:=aE.lt o4 eI;obtain⟨M2,fp,fh⟩:=Us l aq n k (s++[k]) vK o4 ez IL (by simp;omega);have gl:=Dq (λi k al=>lh i k al) n (to l k) (s++[k]) IL (λx ah=>lh k x ah) (by simp;omega);obtain⟨Ur,IM⟩:=gl.pre;obtain⟨ey,a9,bk⟩:=ih (j+1) _ M2 fh gl.inv (by rw[IM];simp;omega) (by omega) cD;refine⟨ey,?_,bk⟩;simp only[G8,go_sem,yT ((j:Int)<((dE l d.e).length:Int)),uS al,iK,tE,xaw eI,eQ,fp,cr (bt:=false) (i:=j) (by omega),a9]
    have:j=(dE l d.e).length:=by omega
    subst this;refine⟨M,?_,by simpa using dD⟩;simp only[G8,go_sem,yF (((dE l d.e).length:Int)<(dE l d.e).length)]
  obtain⟨ey,a9,bk⟩:=key n 0 S M dD cI (xbe _) (by omega) (xaj _);rw[bU]at a9;refine⟨ey,?_,by simpa using bk⟩;show LM (rR n) n _=_;simp only[LM,go_sem,ah,iK,pG,a9]
inductive xM(o:Int)(x:ByteArray):Tm->Prop where
 |here (t:Tm) (h:t.op=o) (bD:t.name=x):xM o x t
 |fu (t k:Tm) (h:k∈t.a4) (bD:xM o x k):xM o x t
def M9{s x:ByteArray}:∀{l:List ByteArray},x∈hA s l↔x=s\/x∈l
 |[]=>by simp[hA]
 |a::r=>by
  rw[hA];split;.rename_i h;subst h;simp
  split;.simp
  rw[xap,M9,xap];constructor
  .rintro(h|h|h);.exact .inr (.inl h)
   .exact .inl h
   exact .inr (.inr h)
  rintro(h|h|h);.exact .inr (.inl h)
  .exact .inl h
  exact .inr (.inr h)
def adA(o:Int)(x:ByteArray)(t:Tm):∀l,x∈fY o t l↔x∈l\/xM o x t:=by
 refine Tm.ind (P:=λt=>∀l,x∈fY o t l↔x∈l\/xM o x t) ?_ t;intro t ih l;have key:∀(ks:List Tm),(∀k∈ks,∀l,x∈fY o k l↔x∈l\/xM o x k)->∀l,x∈mT o ks l↔x∈l\/∃k∈ks,xM o x k:=by
  intro ks
  induction ks with
  |nil=>intro _ l;simp[mT]
  |cons a r lO=>intro h l;rw[mT,lO (λk al=>h k (by simp[al])),h a (by simp)];simp only[xap,exists_eq_or_imp,or_assoc]
 rw[MZ,key t.a4 ih];constructor
 .rintro(h|⟨k,al,h⟩)
  .split at h
   .rename_i aL;rcases M9.1 h with rfl|h
    .exact .inr (.here t aL rfl)
    exact .inl h
   exact .inl h
  exact .inr (.fu t k al h)
 rintro(h|h)
 .left;split;.exact M9.2 (.inr h)
  exact h
 cases h with|here _ aa ae=>left;rw[xaa aa];exact M9.2 (.inl ae.symm)|fu _ k al h=>exact .inr ⟨k,al,h⟩
def Na{l:List bl}{t:Tm}{i:Nat}:i∈dE l t↔∃x,xM 3 x t/\dg l x=some i:=by
 unfold dE;rw[List.mem_filterMap];constructor;.rintro⟨x,aa,ae⟩;exact⟨x,((adA 3 x t []).1 aa).resolve_left (by simp),ae⟩
 rintro⟨x,aa,ae⟩;exact⟨x,(adA 3 x t []).2 (.inr aa),ae⟩
def Ut{l:List bl}{t k:Tm}(al:k∈t.a4):∀i∈dE l k,i∈dE l t:=by intro i aj;obtain⟨x,aa,ae⟩:=Na.1 aj;exact Na.2 ⟨x,.fu t k al aa,ae⟩
def xN(l:List bl)(t:Tm):Bool:=t.op==3&&(dg l t.name).isSome
def kc(l:List bl):Nat->Tm->Tm->Prop
 |0,_,_=>False|h+1,t,X=>(t.op=3/\∃i d,dg l t.name=some i/\l[i]?=some d/\kc l h d.e X)\/(xN l t=false/\∃ks,X= .mk t.op t.num t.name t.nl ks/\ks.length=t.a4.length/\∀(j:Nat)(a b:Tm),t.a4[j]?=some a->ks[j]?=some b->kc l h a b)
def kc.mono{l:List bl}:∀{h bD:Nat}{t X:Tm},h<=bD->kc l h t X->kc l bD t X
 |0,_,_,_,_,H=>H.elim|h+1,0,_,_,hle,_=>absurd hle (by omega)
 |h+1,bD+1,t,X,hle,H=>by
  rcases H with⟨aa,i,d,ae,ay,a7⟩|⟨aa,ks,ae,ay,a7⟩;.exact .inl ⟨aa,i,d,ae,ay,a7.mono (by omega)⟩
  exact .inr ⟨aa,ks,ae,ay,λj a b aG ao=>(a7 j a b aG ao).mono (by omega)⟩
def adB:∀{A B:List Nat},A.Nodup->(∀x∈A,x∈B)->A.length<=B.length
 |[],B,_,_=>by simp
 |a::A,B,aM,h=>by
  have aG:=h a (by simp);have aa:=adB (A:=A) (B:=B.erase a) (List.nodup_cons.1 aM).2 (λx ah=>by
   have cv:x≠a:=by rintro rfl;exact(List.nodup_cons.1 aM).1 ah
   exact(List.mem_erase_of_ne cv).2 (h x (by simp[ah])))
  have ae:=List.length_erase_of_mem aG;have ay:0<B.length:=List.length_pos_of_mem aG;simp;omega
def A1(l:List bl)(i:Nat):Nat:=(kR l (to l i)).length
def awn{l:List bl}{i j:Nat}(aI:j∈to l i)(aw:jw l j=false):A1 l j<A1 l i:=by
 have aj:=xL l (to l i) (lh i);have awo:=xL l (to l j) (lh j);have awp:j∉kR l (to l j):=by
  intro h;have:jw l j=true:=by simp[jw,h]
  rw[aw]at this;cases this
 have lP:∀x∈kR l (to l j)++[j],x∈kR l (to l i):=by
  intro x ah;rcases xaM.1 ah with ah|ah
  .obtain⟨k,aa,ae⟩:=(vI l _ (lh j) x).1 ah;exact(vI l _ (lh i) x).2 ⟨j,aI,.step j k x aa ae⟩
  simp at ah;subst ah;exact aj.mem _ aI
 have:=adB (A:=kR l (to l j)++[j]) (B:=kR l (to l i)) (by rw[List.nodup_append];exact⟨awo.inv.1,by simp,by intro a aG b ao;simp at ao;subst ao;rintro rfl;exact awp aG⟩) lP;simp at this;unfold A1;omega
def Ds(l:List bl)(t:Tm):Prop:=∀x∈kR l (dE l t),jw l x=false
def Uu{α:Type}{P:Nat->Tm->α->Prop}:∀(ks:List Tm),(∀(j:Nat)(a:Tm),ks[j]?=some a->∃b,P j a b)->∃r:List α,r.length=ks.length/\∀(j:Nat)(a:Tm)(b:α),ks[j]?=some a->r[j]?=some b->P j a b
 |[],_=>⟨[],rfl,by intro j a b h;simp at h⟩
 |k::r,h=>by obtain⟨b,ao⟩:=h 0 k rfl;obtain⟨jj,aa,ae⟩:=Uu (P:=λj=>P (j+1)) r (λj a aG=>h (j+1) a (by simpa using aG));refine⟨b::jj,by simp[aa],?_⟩;intro j a c aG an;cases j with|zero=>simp at aG an;subst aG;subst an;exact ao|succ j=>exact ae j a c (by simpa using aG) (by simpa using an)
def awq{l:List bl}{B:Nat}(aq:hV B l):∀(r:Nat)(t:Tm),t.bp<=B->Ds l t->(∀k∈dE l t,A1 l k<r)->∃X,kc l (r*(B+1)+t.bp) t X:=by
 intro r
 induction r with
 |zero=>
  intro t;refine Tm.ind (P:=λt=>t.bp<=B->Ds l t->(∀k∈dE l t,A1 l k<0)->∃X,kc l (0*(B+1)+t.bp) t X) ?_ t;intro t ih aJ Dt al;have h6:dE l t=[]:=by cases h:dE l t with|nil=>rfl|cons a q=>exact absurd (al a (by rw[h];simp)) (xaI _)
  have kJ:xN l t=false:=by cases h:xN l t with|false=>rfl|true=>simp only[xN,xak,xbF,Option.isSome_iff_exists]at h;obtain⟨aa,i,ae⟩:=h;have:i∈dE l t:=Na.2 ⟨_,.here t aa rfl,ae⟩;rw[h6]at this;cases this
  obtain⟨ks,aa,ae⟩:=Uu (P:=λj a b=>kc l (t.bp-1) a b) t.a4 (λj a aG=>by
   have hm:=xad aG;have bP:=Tm.jS hm;have adC:dE l a=[]:=by cases h:dE l a with|nil=>rfl|cons b q=>have:=Ut hm b (by rw[h];simp);rw[h6]at this;cases this
   obtain⟨X,kB⟩:=ih a hm (by omega) (λx ah=>by rw[adC]at ah;simp[kR,hE]at ah) (by rw[adC];simp);exact⟨X,kB.mono (by omega)⟩)
  have bP:=t.lI;refine⟨.mk t.op t.num t.name t.nl ks,?_⟩;have e:0*(B+1)+t.bp=(t.bp-1)+1:=by omega
  rw[e];exact .inr ⟨kJ,ks,rfl,aa,ae⟩
 |succ r lO=>
  intro t;refine Tm.ind (P:=λt=>t.bp<=B->Ds l t->(∀k∈dE l t,A1 l k<r+1)->∃X,kc l ((r+1)*(B+1)+t.bp) t X) ?_ t;intro t ih aJ Dt al;have bP:=t.lI;have e:(r+1)*(B+1)+t.bp=((r+1)*(B+1)+(t.bp-1))+1:=by omega
  cases aM:xN l t with
  |true=>
   simp only[xN,xak,xbF,Option.isSome_iff_exists]at aM;obtain⟨aa,i,ae⟩:=aM;obtain⟨d,ay,a7,bZ⟩:=Rl ae;have aj:i∈dE l t:=Na.2 ⟨_,.here t aa rfl,ae⟩;have kM:=Dp ay;have awr:=aq.e d (xad ay);have g1:=xL l (dE l t) nm;obtain⟨X,kB⟩:=lO d.e awr.2 (λx ah=>Dt x (by
    obtain⟨k,bV,bN⟩:=(vI l _ nm x).1 ah;rw[<-kM]at bV;exact(vI l _ nm x).2 ⟨i,aj,.step i k x bV bN⟩)) (λk dh=>by
    rw[<-kM]at dh;have ra:k∈kR l (dE l t):=(vI l _ nm k).2 ⟨i,aj,.step i k k dh (.refl k)⟩;have:=awn dh (Dt k ra);have:=al i aj;omega)
   refine⟨X,?_⟩;rw[e];exact .inl ⟨aa,i,d,ae,ay,kB.mono (by have:(r+1)*(B+1)=r*(B+1)+(B+1):=Nat.succ_mul _ _;omega)⟩
  |false=>
   obtain⟨ks,aa,ae⟩:=Uu (P:=λj a b=>kc l ((r+1)*(B+1)+(t.bp-1)) a b) t.a4 (λj a aG=>by
    have hm:=xad aG;have aDp:=Tm.jS hm;obtain⟨X,kB⟩:=ih a hm (by omega) (λx ah=>Dt x (by obtain⟨k,bV,bN⟩:=(vI l _ nm x).1 ah;exact(vI l _ nm x).2 ⟨k,Ut hm k bV,bN⟩)) (λk dh=>al k (Ut hm k dh))
    exact⟨X,kB.mono (by omega)⟩)
   refine⟨.mk t.op t.num t.name t.nl ks,?_⟩;rw[e];exact .inr ⟨aM,ks,rfl,aa,ae⟩
def aws(l:List bl)(i:Nat):A1 l i<=l.length:=(xL l (to l i) (lh i)).inv.len
def awt{l:List bl}{B:Nat}(aq:hV B l){t:Tm}(aJ:t.bp<=B)(h:Ds l t):∃X,kc l ((l.length+1)*(B+1)+B) t X:=by obtain⟨X,kB⟩:=awq aq (l.length+1) t aJ h (λk _=>by have:=aws l k;omega);exact⟨X,kB.mono (by omega)⟩
mutual
def eS:Tm->Int->Int->Tm×Int
 | .mk o m s b ks,deep,n=>if ks.isEmpty then(.mk o m s b ks,n+1)else(.mk o m s false (gg ks deep (n+1)).1,(gg ks deep (n+1)).2)
def gg:List Tm->Int->Int->List Tm×Int
 |[],_,n=>([],n)|k::r,deep,n=>if deep<=64/\n<=4096 then((eS k (deep+1) n).1::(gg r deep (eS k (deep+1) n).2).1,(gg r deep (eS k (deep+1) n).2).2)else(fD::(gg r deep n).1,(gg r deep n).2)
end
mutual
def gx:Tm->Tm
 | .mk o m s b ks=> .mk o m s false (nY ks)
def nY:List Tm->List Tm
 |[]=>[]|k::r=>gx k::nY r
end
def adD:∀l:List Tm,(nY l).length=l.length
 |[]=>rfl|k::r=>by simp[nY,adD r]
def Nb:∀(l:List Tm)(d n:Int),(gg l d n).1.length=l.length
 |[],_,_=>rfl|k::r,d,n=>by rw[gg];split<;>simp[Nb r]
def awu(o m:Int)(s:ByteArray)(n:Nat):Int:=if(gm o).1<0 then 11
 else if(m<(if o=1 then-255 else 0))\/m>(if o=1 then 255 else if o=2 then 1 else 0)then 2
 else if(if Dl o then s=⟨#[]⟩\/s.size>24 else s≠⟨#[]⟩)then 12
 else if(n:Int)<(gm o).1\/(n:Int)>(gm o).2 then 3 else 0
theorem adE(o m:Int)(s:ByteArray)(b:Bool)(ks:List Tm):ia (.mk o m s b ks)=awu o m s ks.length:=rfl
def adF{o m:Int}{s:ByteArray}{b b':Bool}{ks ks':List Tm}(h:ks.length=ks'.length):ia (.mk o m s b ks)=ia (.mk o m s b' ks'):=by rw[adE,adE,h]
mutual
def Uv:∀(X:Tm)(deep n:Int),n<=4096->(c9 (eS X deep n).1 deep n).1=(c9 X deep n).1/\((c9 X deep n).1=0->(c9 X deep n).2=(eS X deep n).2/\(c9 (eS X deep n).1 deep n).2=(eS X deep n).2/\M1 (eS X deep n).1 (gx X)=true)
 | .mk o m s b ks,deep,n,aM=>by
  rw[eS];cases ks with
  |nil=>
   simp only[List.isEmpty_nil,xav,true_and];intro h;rw[c9]at h⊢;split at h;.cases h
   split at h;.rename_i ae;exact absurd h ae
   split at h;.cases h
   rename_i aa ae ay;rw[xac aa,xac ae,xac ay];simp[fm,gx,nY,adr,Tm.op,Tm.num,Tm.name,Tm.a4,A0]
  |cons k r=>
   simp only[List.isEmpty_cons,xan,xaz];rw[c9,c9,adF (b':=b) (ks':=k::r) (Nb (k::r) deep (n+1))];by_cases aa:deep>64;.rw[xaa aa,xaa aa];simp
   rw[xac aa,xac aa];by_cases ae:ia (.mk o m s b (k::r))≠0;.rw[xaa ae,xaa ae];exact⟨rfl,λh=>absurd h ae⟩
   rw[xac ae,xac ae];by_cases ay:n+1>4096;.rw[xaa ay,xaa ay];simp
   rw[xac ay,xac ay];obtain⟨a9,bk⟩:=adG (k::r) deep (n+1) (by omega) (by omega);refine⟨a9,λh=>?_⟩;obtain⟨bV,bN,cC⟩:=bk h;refine⟨bV,bN,?_⟩;rw[adr];simp only[gx,Tm.op,Tm.num,Tm.name,Tm.a4,cC,Nb,adD];simp
def adG:∀(ks:List Tm)(deep n:Int),deep<=64->n<=4096->(fm (gg ks deep n).1 (deep+1) n).1=(fm ks (deep+1) n).1/\((fm ks (deep+1) n).1=0->(fm ks (deep+1) n).2=(gg ks deep n).2/\(fm (gg ks deep n).1 (deep+1) n).2=(gg ks deep n).2/\A0 (gg ks deep n).1 (nY ks)=true)
 |[],deep,n,_,_=>by simp[gg,fm,nY,A0]
 |k::r,deep,n,aA,aM=>by
  rw[gg,xaa ⟨aA,aM⟩,fm,fm];obtain⟨a9,bk⟩:=Uv k (deep+1) n aM;have a1:=Dm k (deep+1) n;by_cases h:(c9 k (deep+1) n).1=0
  .obtain⟨bV,bN,cC⟩:=bk h;have bD:=a9.trans h;simp only[h,bD,ne_eq,xbE,xaz,bV,bN];have hle:(eS k (deep+1) n).2<=4096:=by rw[<-bV];exact a1.2 h
   obtain⟨eQ,ez⟩:=adG r deep (eS k (deep+1) n).2 aA hle;refine⟨eQ,λh=>?_⟩;obtain⟨s1,s2,jQ⟩:=ez h;exact⟨s1,s2,by rw[nY,A0,cC,jQ];rfl⟩
  have bD:(c9 (eS k (deep+1) n).1 (deep+1) n).1≠0:=by rw[a9];exact h
  simp only[ne_eq,h,bD,xbY,xav];exact⟨a9,λbA=>bA.elim⟩
end
def Tm.adH(l:List Tm)(t:Tm):Tm.rows (l++[t])=Tm.rows l++[t.cells]:=by simp[Tm.jR]
def awv(o m:Int)(s:ByteArray)(b:Bool)(ks:List Tm):gx (.mk o m s b ks)= .mk o m s false (nY ks):=by rw[gx]
def Nc{α β:Type}{a:List α}{b:List β}{i:Nat}{x:α×β}(h:(a.zip b)[i]?=some x):a[i]?=some x.1/\b[i]?=some x.2:=by rw[List.getElem?_zip_eq_some]at h;exact h
def Uw{α β:Type}{a:List α}{b:List β}(h:b.length=a.length):(a.zip b).map (·.2)=b:=List.map_snd_zip (by omega)
def Ux{l:List bl}{B:Nat}(aq:hV B l):∀(h n:Nat)(t X:Tm)(deep k:Int),kc l h t X->t.cB->t.bp<=B->1<=deep->deep<=65->0<=k->k<=4096->h+2*B+100<n->rI n [t.d,aU l,R deep,R k]=some (.aR [if(c9 X deep k).1=0 then(gx X).d else fD.d,R (c9 X deep k).2,R (c9 X deep k).1])
 |0,_,_,_,_,_,H,_,_,_,_,_,_,_=>H.elim|h+1,0,_,_,_,_,_,_,_,_,_,_,_,aM=>absurd aM (xaI _)
 |h+1,n+1,t,X,deep,k,H,bs,aJ,aa,ae,ay,a7,aM=>by
  have bB:=aq.len;have tD:=aq.b;have fC:=ads n l t.name (by omega) (by omega);have a1:=ada n t deep;have hzero:D.agg [R 0,R 0,aT ⟨#[]⟩,D.val (.slice none 0 0)]=fD.d:=Lp.symm;rcases H with⟨aL,i,d,aj,aA,kB⟩|⟨h6,ks,rfl,eI,A2⟩
  .have hF:=aq.e d (xad aA);have aw:=Ux aq h n d.e X deep k kB hF.1 hF.2 aa ae ay a7 (by omega);simp only[aj]at fC;show rH (rI n) n t.d (aU l) (R deep) (R k)=_;have Du:((3:Int)==3)=true:=rfl;by_cases ar:(c9 X deep k).1=0
   .simp only[ar,xav]at aw⊢;simp only[rH,go_sem,aL,Du,fC,yT ((i:Int)>=0),fE aA,bl.iy,aw]
   simp only[ar,xaz]at aw⊢;simp only[rH,go_sem,aL,Du,fC,yT ((i:Int)>=0),fE aA,bl.iy,aw]
  have hw:ia (.mk t.op t.num t.name t.nl ks)=ia t:=by have:=adF (o:=t.op) (m:=t.num) (s:=t.name) (b:=t.nl) (b':=t.nl) eI;rw[this];cases t;rfl
  have IN:(t.op==3)=false/\True\/(t.op==3)=true/\xc n [aU l,aT t.name]=some (R (-1)):=by
   by_cases ay:t.op=3
   .right;have Uy:dg l t.name=none:=by simpa[xN,ay]using h6
    rw[Uy]at fC;exact⟨by simp[ay],fC⟩
   left;simp[ay]
  have IP:decide ((-1:Int)>=0)=false:=by decide
  show rH (rI n) n t.d (aU l) (R deep) (R k)=_;rw[vF,hw];by_cases bw:64<deep
  .have r4:((17:Int) !=0)=true:=rfl;rcases IN with⟨aE,o5⟩|⟨aE,o5⟩<;>
   simp only[rH,go_sem,aE,o5,IP,lJ (bt:=false) (i:=k) (by omega) (by omega),a1,gt_iff_lt,bw,hzero,r4,show¬((17:Int)=0) by omega]
  by_cases bO:ia t=0
  case neg=>
   have r4:(ia t !=0)=true:=by simpa using bO
   rcases IN with⟨aE,o5⟩|⟨aE,o5⟩<;>
   simp only[rH,go_sem,aE,o5,IP,lJ (bt:=false) (i:=k) (by omega) (by omega),a1,gt_iff_lt,bw,hzero,r4,bO,ne_eq,xbY]
  have nZ:((0:Int) !=0)=false:=rfl;by_cases b0:4096<k+1
  .rcases IN with⟨aE,o5⟩|⟨aE,o5⟩<;>
   simp only[rH,go_sem,aE,o5,IP,lJ (bt:=false) (i:=k) (by omega) (by omega),a1,gt_iff_lt,bw,hzero,bO,nZ,ne_eq,xbE,decide_true,b0,show¬((4:Int)=0) by omega]
  have eP:=dm (f:=Gf (rI n) n) (t.a4.zip ks) (λi (s:Int×List Tm)=>[aU l,R deep,R s.1,R (i:Int),R t.op,R t.num,aT t.name,cA 4 t.nl (Tm.rows t.a4),R 0,R 0,aT ⟨#[]⟩,cp,.ak 4 (Tm.rows s.2)]) (λr (s:Int×List Tm)=>if(fm (r.map (·.2)) (deep+1) s.1).1=0 then(Sum.inl [R (fm (r.map (·.2)) (deep+1) s.1).2,R t.op,R t.num,aT t.name,cA 4 t.nl (Tm.rows t.a4),R 0,R 0,aT ⟨#[]⟩,cp,.ak 4 (Tm.rows (s.2++nY (r.map (·.2))))]:List D⊕D)else .inr (.aR [fD.d,R (fm (r.map (·.2)) (deep+1) s.1).2,R (fm (r.map (·.2)) (deep+1) s.1).1])) (λi s=>0<=s.1/\s.1<=4096/\s.2.length=i) ?_ ?_ n 0 (k+1,[]) ⟨by simp;omega,by simp;omega,rfl⟩ (by have:=t.lI;simp[eI];omega) (xaj _)
  .have bU:(R ((0:Nat):Int))=R 0:=rfl;have qc:Tm.rows []=[]:=rfl;simp only[xam,Uw eI,bU,qc,xaH]at eP;have p8:(Tm.mk t.op t.num t.name t.nl ks).a4=ks:=rfl;have kI:(gx (.mk t.op t.num t.name t.nl ks)).d=D.agg [R t.op,R t.num,aT t.name,.ak 4 (Tm.rows (nY ks))]:=by rw[awv,Tm.jT];simp[cA,Tm.op,Tm.num,Tm.name,Tm.nl,Tm.a4]
   by_cases ar:(fm ks (deep+1) (k+1)).1=0
   .simp only[ar,xav]at eP;rcases IN with⟨aE,o5⟩|⟨aE,o5⟩<;>
    simp only[rH,go_sem,aE,o5,IP,lJ (bt:=false) (i:=k) (by omega) (by omega),a1,gt_iff_lt,bw,hzero,bO,nZ,ne_eq,xbE,decide_false,b0,eP,p8,ar,kI]
   simp only[ar,xaz]at eP;rcases IN with⟨aE,o5⟩|⟨aE,o5⟩<;>
   simp only[rH,go_sem,aE,o5,IP,lJ (bt:=false) (i:=k) (by omega) (by omega),a1,gt_iff_lt,bw,hzero,bO,nZ,ne_eq,xbE,decide_false,b0,eP,p8,ar]
  .intro s _;have e:((t.a4.zip ks).length:Int)=t.a4.length:=by simp[eI]
   simp only[Gf,go_sem,e,yF ((t.a4.length:Int)<t.a4.length),xbf,fm,nY,xar]
  rintro i ⟨a,b⟩ s ka aj ⟨bV,bN,cC⟩;obtain⟨aG,ao⟩:=Nc ka;simp only at aG ao;have hm:=xad aG;have bP:=Tm.jS hm;have bB:=bs.len;have b2:(i:Int)<t.a4.length:=by have:=(xae.1 aG).1;omega
  have aw:=Ux aq h n a b (deep+1) s.1 (A2 i a b aG ao) (bs.fu hm) (by omega) (by omega) (by omega) bV bN (by omega);have iu:=Dm b (deep+1) s.1;have eo:cW (s.2.length+1) 56=true:=gd (by omega) (by omega);by_cases ar:(c9 b (deep+1) s.1).1=0
  .simp only[ar,xav]at aw;left;refine⟨((c9 b (deep+1) s.1).2,s.2++[gx b]),?_,?_,by simp;omega,by simpa using iu.2 ar,by simp[cC]⟩;.have bS:[R (gx b).op,R (gx b).num,aT (gx b).name,cA 4 (gx b).nl (Tm.rows (gx b).a4)]=(gx b).cells:=((gx b).la).symm;simp only[Gf,go_sem,xao b2,Tm.hz aG,lJ (bt:=false) (i:=deep) (by omega) (by omega),aw,nZ,bS,Tm.adH,xat,xaG,xaB,eo,cr (bt:=false) (i:=i) (by omega)]
   simp only[xaA,fm,ar,ne_eq,xbE,xaz,nY,xaO,xbg]
  simp only[ar,xaz]at aw;have r4:((c9 b (deep+1) s.1).1 !=0)=true:=by simpa using ar
  right;simp only[Gf,go_sem,xao b2,Tm.hz aG,lJ (bt:=false) (i:=deep) (by omega) (by omega),aw,r4,hzero,xaA,fm,ne_eq,ar,xbY]
theorem Uz(t:Tm)(deep n:Int):eS t deep n=if t.a4.isEmpty then(t,n+1)else(.mk t.op t.num t.name false (gg t.a4 deep (n+1)).1,(gg t.a4 deep (n+1)).2):=by cases t;rw[eS];rfl
def adI(t:Tm):∀(deep n:Int),n+1<=(eS t deep n).2/\(n<=4096->(eS t deep n).2<=4097):=by
 refine Tm.ind (P:=λt=>∀(deep n:Int),n+1<=(eS t deep n).2/\(n<=4096->(eS t deep n).2<=4097)) ?_ t;intro t ih deep n;have key:∀(ks:List Tm),(∀k∈ks,∀(deep n:Int),n+1<=(eS k deep n).2/\(n<=4096->(eS k deep n).2<=4097))->∀(n:Int),n<=(gg ks deep n).2/\(n<=4097->(gg ks deep n).2<=4097):=by
  intro ks
  induction ks with
  |nil=>intro _ n;simp[gg]
  |cons a r lO=>
   intro h n;have aa:=h a (by simp) (deep+1) n;rw[gg];split
   .have ae:=lO (λk al=>h k (by simp[al])) (eS a (deep+1) n).2;simp only;constructor;.omega
    intro _;exact ae.2 (by omega)
   exact lO (λk al=>h k (by simp[al])) n
 rw[Uz];split;.simp only[Int.le_refl,true_and];omega
 have:=key t.a4 ih (n+1);simp only;constructor;.omega
 intro _;exact this.2 (by omega)
def adJ{l:List bl}{B:Nat}(aq:hV B l){M:List (Value×D)}(dD:M3 M l)(r:List D->Option (List D))(gb:Nat)(deep vL:Int):∀(h n:Nat)(t X:Tm),kc l h t X->t.cB->t.bp<=B->h<n-> ∃(t':Tm)(bD:Nat)(ks:List Tm),bD<h/\t'.cB/\t'.bp<=B/\X= .mk t'.op t'.num t'.name t'.nl ks/\ks.length=t'.a4.length/\(∀(j:Nat)(a b:Tm),t'.a4[j]?=some a->ks[j]?=some b->kc l bD a b)/\bq (Ha r gb) n [R deep,.mp M,aU l,R vL,R t.op,R t.num,aT t.name,cA 4 t.nl (Tm.rows t.a4),R 0,R 0,aT ⟨#[]⟩,cp]=some (.inl [R deep,R vL,R t'.op,R t'.num,aT t'.name,cA 4 t'.nl (Tm.rows t'.a4),R 0,R 0,aT ⟨#[]⟩,cp,.mp M,aU l])
 |0,_,_,_,H,_,_,_=>H.elim|h+1,0,_,_,_,_,_,aM=>absurd aM (xaI _)
 |h+1,n+1,t,X,H,bs,aJ,aM=>by
  have gH:=Cl dD.1 (z:= .int .i64 0) (x:=t.name);rw[dD.2]at gH;rcases H with⟨aL,i,d,aj,aA,kB⟩|⟨h6,ks,rfl,eI,A2⟩
  .have hF:=aq.e d (xad aA);have Du:((3:Int)==3)=true:=rfl;rw[aj]at gH;simp only[xaC]at gH;obtain⟨t',bD,ks,a9,bk,b1,eU,h7,xO,nO⟩:=adJ aq dD r gb deep vL h n d.e X kB hF.1 hF.2 (by omega);refine⟨t',bD,ks,by omega,bk,b1,eU,h7,xO,?_⟩;rw[k7,<-nO];simp only[Ha,go_sem,aL,Du,mH,gH,fE aA,bl.iy]
  refine⟨t,h,ks,by omega,bs,aJ,rfl,eI,A2,?_⟩;rw[k7];by_cases ay:t.op=3
  .have Uy:dg l t.name=none:=by simpa[xN,ay]using h6
   have Du:((3:Int)==3)=true:=rfl;rw[Uy]at gH;simp only[xbq]at gH;simp only[Ha,go_sem,ay,Du,mH,gH]
  have aE:(t.op==3)=false:=by simp[ay]
  simp only[Ha,go_sem,aE]
def adK{s:List Tm}{x:Tm}{i k:Nat}(aj:s.length=i)(al:i<k):(Tm.rows (s++List.replicate (k-i) fD)).set i x.cells=Tm.rows ((s++[x])++List.replicate (k-(i+1)) fD):=by
 obtain⟨m,rfl⟩:∃m,k=i+1+m:=⟨k-(i+1),by omega⟩;have aP:i+1+m-i=m+1:=by omega
 have a2:i+1+m-(i+1)=m:=by omega
 subst aj;rw[aP,a2];simp[Tm.jR,List.replicate_succ]
def aww{s:List Tm}{i k:Nat}(aj:s.length=i)(al:i<k):(Tm.rows (s++List.replicate (k-i) fD))[i]?=some fD.cells:=by
 obtain⟨m,rfl⟩:∃m,k=i+1+m:=⟨k-(i+1),by omega⟩;have aP:i+1+m-i=m+1:=by omega
 subst aj;rw[aP];simp[Tm.jR,List.replicate_succ]
def awx{t:Nat}(h:t<=1000000):nL 56 (R (t:Int)) (R (t:Int))=some t:=by simp only[nL,R];rw[xaa ⟨by omega,by omega,by omega,by omega⟩];simp
def adL{l:List bl}{B:Nat}(aq:hV B l){M:List (Value×D)}(dD:M3 M l):∀(n h:Nat)(t X:Tm)(deep k:Int),kc l h t X->t.cB->t.bp<=B->1<=deep->deep<=65->0<=k->k<=4096->h+2*B+100<n->ti n [t.d,R deep,.mp M,aU l,R k]=some [(eS X deep k).1.d,.mp M,aU l,R (eS X deep k).2]
 |0,_,_,_,_,_,_,_,_,_,_,_,_,aM=>absurd aM (xaI _)
 |n+1,h,t0,X,deep,k,H,awy,awz,aa,ae,ay,a7,aM=>by
  have bB:=aq.len;have tD:=aq.b;obtain⟨t,bD,ks,a9,bs,aJ,rfl,eI,A2,nO⟩:=adJ aq dD (ti n) n deep k h n t0 X H awy awz (by omega);have p8:(Tm.mk t.op t.num t.name t.nl ks).a4=ks:=rfl;have adM:∀(b:Bool)(r:List Tm),(Tm.mk t.op t.num t.name b r).d=D.agg [R t.op,R t.num,aT t.name,cA 4 b (Tm.rows r)]:=λb r=>by rw[Tm.jT];rfl
  have m8:=t.lI;have bU:(R ((0:Nat):Int))=R 0:=rfl;show Hb (ti n) n _=_;rw[Uz,p8];cases dh:t.a4 with
  |nil=>
   have awA:ks=[]:=by rw[dh]at eI;exact xaJ eI
   subst awA;rw[dh]at nO;have nZ:((((Tm.rows []).length:Nat):Int)==0)=true:=rfl;simp only[Hb,go_sem,nO,lJ (bt:=false) (i:=k) (by omega) (by omega),List.isEmpty_nil,adM];simp
  |cons ad iY=>
   have cv:¬ks.isEmpty=true:=by cases ks with|nil=>rw[dh]at eI;simp at eI|cons _ _=>simp
   have awB:((t.a4.length:Int)==0)=false:=by rw[dh];simp;omega
   rw[xac cv];show _=some [(Tm.mk t.op t.num t.name false (gg ks deep (k+1)).1).d,.mp M,aU l,R (gg ks deep (k+1)).2];clear dh;have eP:=dm (f:=CQ (ti n) n) (t.a4.zip ks) (λi (s:Int×List Tm)=>[R deep,cA 4 t.nl (Tm.rows t.a4),R t.a4.length,R (i:Int),R s.1,R t.op,R t.num,aT t.name,cA 4 t.nl (Tm.rows t.a4),R 0,R 0,aT ⟨#[]⟩,cp,.ak 4 (Tm.rows (s.2++List.replicate (t.a4.length-i) fD)),.mp M,aU l]) (λr (s:Int×List Tm)=>(Sum.inl [R t.op,R t.num,aT t.name,cA 4 t.nl (Tm.rows t.a4),R 0,R 0,aT ⟨#[]⟩,cp,.ak 4 (Tm.rows (s.2++(gg (r.map (·.2)) deep s.1).1)),.mp M,aU l,R (gg (r.map (·.2)) deep s.1).2]:List D⊕List D)) (λi s=>0<=s.1/\s.1<=4097/\s.2.length=i) ?_ ?_ n 0 (k+1,[]) ⟨by simp;omega,by simp;omega,rfl⟩ (by simp[eI];omega) (xaj _)
   .have qc:Tm.rows (List.replicate t.a4.length fD)=List.replicate t.a4.length [R 0,R 0,aT ⟨#[]⟩,D.val (.slice none 0 0)]:=by
     rw[Tm.jR,List.map_replicate];rfl
    simp only[xam,Uw eI,bU,xaH,Nat.sub_zero,qc]at eP;have IQ:=awx (t:=t.a4.length) (by omega);simp only[Hb,go_sem,nO,lJ (bt:=false) (i:=k) (by omega) (by omega),awB,IQ,eP,adM,amK]
   .intro s aE;have e:(t.a4.zip ks).length=t.a4.length:=by simp[eI]
    simp only[e,CQ,go_sem,yF ((t.a4.length:Int)<t.a4.length),xbf,gg,Nat.sub_self,List.replicate_zero,xar]
   rintro i ⟨a,b⟩ s ka aj ⟨bV,bN,cC⟩;obtain⟨aG,ao⟩:=Nc ka;simp only at aG ao;have hm:=xad aG;have bP:=Tm.jS hm;have UA:=(xae.1 aG).1;have b2:(i:Int)<t.a4.length:=by omega
   left;by_cases an:deep<=64/\s.1<=4096
   .have aw:=adL aq dD n bD a b (deep+1) s.1 (A2 i a b aG ao) (bs.fu hm) (by omega) (by omega) (by omega) bV an.2 (by omega);have iu:=adI b (deep+1) s.1;have eD:bj (s.2++List.replicate (t.a4.length-i) fD).length (R (i:Int))=some i:=by
     rw[lG,xaa];simp;omega
    have g1:cg fD.cells 0 [R (eS b (deep+1) s.1).1.op,R (eS b (deep+1) s.1).1.num,aT (eS b (deep+1) s.1).1.name,cA 4 (eS b (deep+1) s.1).1.nl (Tm.rows (eS b (deep+1) s.1).1.a4)]=(eS b (deep+1) s.1).1.cells:=by rw[Tm.la (eS b (deep+1) s.1).1];rfl
    refine⟨((eS b (deep+1) s.1).2,s.2++[(eS b (deep+1) s.1).1]),?_,?_,by simp;omega,by simpa using iu.2 an.2,by simp[cC]⟩;.simp only[CQ,go_sem,xao b2,Tm.hz aG,xao an.1,xao an.2,lJ (bt:=false) (i:=deep) (by omega) (by omega),aw,eD,aww cC UA,g1,adK cC UA,cr (bt:=false) (i:=i) (by omega)]
    simp only[xaA,gg,xaa an,xaO,xbg]
   refine⟨(s.1,s.2++[fD]),?_,?_,by simpa using bV,by simpa using bN,by simp[cC]⟩
   .have aDq:=adK (x:=fD) cC UA;have bb:Tm.rows (s.2++List.replicate (t.a4.length-i) fD)=Tm.rows (s.2++[fD]++List.replicate (t.a4.length-(i+1)) fD):=by
     obtain⟨m,hm⟩:∃m,t.a4.length=i+1+m:=⟨t.a4.length-(i+1),by omega⟩;have aP:i+1+m-i=m+1:=by omega
     have a2:i+1+m-(i+1)=m:=by omega
     rw[hm,aP,a2];simp[List.replicate_succ]
    by_cases yZ:deep<=64;.have q6:¬s.1<=4096:=λh=>an ⟨yZ,h⟩;simp only[CQ,go_sem,xao b2,Tm.hz aG,xao yZ,xaw q6,bb,cr (bt:=false) (i:=i) (by omega)]
    simp only[CQ,go_sem,xao b2,Tm.hz aG,xaw yZ,bb,cr (bt:=false) (i:=i) (by omega),xbQ]
   simp only[xaA,gg,xac an,xaO,xbg]
def A3(l:List bl)(S:List Nat):Prop:=∀x∈S,∀y∈to l x,y∈S
def A3.r3{l:List bl}{S:List Nat}(h:A3 l S){a b:Nat}(aw:kb (to l) a b)(aG:a∈S):b∈S:=by induction aw with|refl=>exact aG|step i j k lv _ ih=>exact ih (h i aG j lv)
def adN(l:List bl)(i n:Nat)(S:List Nat)(aa:iR l.length S)(ae:A3 l S)(aM:l.length<n):iR l.length (hE (to l) n (to l i) S)/\A3 l (hE (to l) n (to l i) S)/\∀x,x∈hE (to l) n (to l i) S↔x∈S\/∃k∈to l i,kb (to l) k x:=by
 have h:=Dq (λi k al=>lh i k al) n (to l i) S aa (λx ah=>lh i x ah) (by omega);obtain⟨T,bb⟩:=h.pre;have an:A3 l (hE (to l) n (to l i) S):=by
  intro x ah y aK;by_cases aE:x∈S;.rw[bb];simp[ae x aE y aK]
  exact h.vH x ah aE y aK
 refine⟨h.inv,an,λx=>⟨h.r3 x,?_⟩⟩;rintro(ah|⟨k,al,aw⟩);.rw[bb];simp[ah]
 exact an.r3 aw (h.mem k al)
def adO(l:List bl){B:Nat}(aq:hV B l)(n:Nat)(aM:3*B+200<n)(fr:List Nat)(qd:∀i∈fr,i<l.length)(kI:fr.length<1000000000):∀(m j:Nat)(S:List Nat)(M:List (Value×D)),bY M S->iR l.length S->A3 l S->fr.length-j<m->j<=fr.length-> ∃ey np,bq (LN n) m [c8 fr,R fr.length,R (j:Int),.mp M,hM (l.map λd=>dE l d.e)]=some (.inl [.mp ey])/\bY ey np/\iR l.length np/\∀x,x∈np↔x∈S\/∃i∈fr.drop j,∃k∈to l i,kb (to l) k x
 |0,_,_,_,_,_,_,h,_=>absurd h (xaI _)
 |m+1,j,S,M,dD,cI,ch,hm,aI=>by
  have bB:=aq.len;rw[k7];by_cases cD:j<fr.length
  .have al:=xab cD;generalize fr[j]=i at al;have aj:=qd i (xad al);have vJ:fr.drop j=i::fr.drop (j+1):=by
    obtain⟨bV,bN⟩:=xae.1 al;rw[xbo bV,bN]
   have lQ:=cI.len;obtain⟨vK,fp,fh⟩:=Us l aq n i S M aj dD cI (by omega);obtain⟨bw,bO,b0⟩:=adN l i n S cI ch (by omega);obtain⟨ey,np,a9,bk,b1,eU⟩:=adO l aq n aM fr qd kI m (j+1) _ vK fh bw bO (by omega) cD;refine⟨ey,np,?_,bk,b1,λx=>?_⟩;.simp only[LN,go_sem,yT ((j:Int)<(fr.length:Int)),uS al,iK,fp,cr (bt:=false) (i:=j) (by omega),a9]
   rw[eU,b0,vJ];simp only[xap,exists_eq_or_imp,or_assoc]
  have:j=fr.length:=by omega
  subst this;refine⟨M,S,?_,dD,cI,λx=>by simp⟩;simp only[LN,go_sem,yF ((fr.length:Int)<fr.length)]
def adP(l:List bl){B:Nat}(aq:hV B l)(n:Nat)(aM:3*B+200<n)(fr:List Nat)(qd:∀i∈fr,i<l.length)(kI:fr.length<1000000000):∀(m j:Nat)(S:List Nat)(M:List (Value×D)),bY M S->iR l.length S->A3 l S->fr.length-j<m->j<=fr.length-> ∃ey np,bq (LO n) m [c8 fr,R fr.length,R (j:Int),.mp M,hM (l.map λd=>dE l d.e)]=some (.inl [.mp ey])/\bY ey np/\iR l.length np/\∀x,x∈np↔x∈S\/∃i∈fr.drop j,∃k∈to l i,kb (to l) k x
 |0,_,_,_,_,_,_,h,_=>absurd h (xaI _)
 |m+1,j,S,M,dD,cI,ch,hm,aI=>by
  have bB:=aq.len;rw[k7];by_cases cD:j<fr.length
  .have al:=xab cD;generalize fr[j]=i at al;have aj:=qd i (xad al);have vJ:fr.drop j=i::fr.drop (j+1):=by
    obtain⟨bV,bN⟩:=xae.1 al;rw[xbo bV,bN]
   have lQ:=cI.len;obtain⟨vK,fp,fh⟩:=Us l aq n i S M aj dD cI (by omega);obtain⟨bw,bO,b0⟩:=adN l i n S cI ch (by omega);obtain⟨ey,np,a9,bk,b1,eU⟩:=adP l aq n aM fr qd kI m (j+1) _ vK fh bw bO (by omega) cD;refine⟨ey,np,?_,bk,b1,λx=>?_⟩;.simp only[LO,go_sem,yT ((j:Int)<(fr.length:Int)),uS al,iK,fp,cr (bt:=false) (i:=j) (by omega),a9]
   rw[eU,b0,vJ];simp only[xap,exists_eq_or_imp,or_assoc]
  have:j=fr.length:=by omega
  subst this;refine⟨M,S,?_,dD,cI,λx=>by simp⟩;simp only[LO,go_sem,yF ((fr.length:Int)<fr.length)]
theorem UB(l:List bl):bm (aU l)=true:=rfl
theorem adQ(l:List (List Nat)):bm (hM l)=true:=rfl
def bY.Dv{M:List (Value×D)}{S:List Nat}(h:bY M S):True:=trivial
def awC(l:List bl){B:Nat}(aq:hV B l)(n:Nat)(aM:3*B+200<n)(fr:List Nat)(qd:∀i∈fr,i<l.length)(kI:fr.length<n)(UC:fr.length<1000000000): ∃M S,G9 n [hM (l.map λd=>dE l d.e),c8 fr]=some [.mp M]/\bY M S/\∀x,x∈S↔∃i∈fr,∃k∈to l i,kb (to l) k x:=by have bU:(R ((0:Nat):Int))=R 0:=rfl;obtain⟨M,S,a9,bk,b1,eU⟩:=adO l aq n aM fr qd UC n 0 [] [] bY.nil ⟨by simp,by simp⟩ (by intro x ah;cases ah) (by omega) (xaj _);refine⟨M,S,?_,bk,λx=>by rw[eU];simp⟩;rw[bU]at a9;simp only[G9,go_sem,adQ,pG,a9]
def awD(l:List bl){B:Nat}(aq:hV B l)(n:Nat)(aM:3*B+200<n)(fr:List Nat)(qd:∀i∈fr,i<l.length)(kI:fr.length<n)(UC:fr.length<1000000000): ∃M S,CP n [hM (l.map λd=>dE l d.e),c8 fr]=some (.mp M)/\bY M S/\∀x,x∈S↔∃i∈fr,∃k∈to l i,kb (to l) k x:=by have bU:(R ((0:Nat):Int))=R 0:=rfl;obtain⟨M,S,a9,bk,b1,eU⟩:=adP l aq n aM fr qd UC n 0 [] [] bY.nil ⟨by simp,by simp⟩ (by intro x ah;cases ah) (by omega) (xaj _);refine⟨M,S,?_,bk,λx=>by rw[eU];simp⟩;rw[bU]at a9;simp only[CP,aaW,go_sem,adQ,pG,a9]
def awE(l:List bl){B:Nat}(aq:hV B l)(n:Nat)(aM:3*B+200<n)(i:Nat)(aj:i<l.length): ∃M,CP n [hM (l.map λd=>dE l d.e),D.ak 1 [[R (i:Int)]]]=some (.mp M)/\kr (.int .i64) (.bool false) false M (R (i:Int))=some (ax (jw l i)):=by
 obtain⟨M,S,a9,bk,b1⟩:=awD l aq n aM [i] (by simpa using aj) (by simp;omega) (by simp);refine⟨M,a9,?_⟩;rw[bk.look (z:= .bool false)];have:(i∈S)↔jw l i=true:=by rw[b1,Up];simp
 congr 2
 by_cases h:i∈S;.rw[this.1 h];simp[h]
 have bD:jw l i=false:=by cases ae:jw l i with|false=>rfl|true=>exact absurd (this.2 ae) h
 rw[bD];simp[h]
def r5(l:List bl)(t:Tm):Bool:=(kR l (dE l t)).all λx=>!jw l x
def awF(l:List bl)(t:Tm):r5 l t=true↔Ds l t:=by simp[r5,Ds]
def awG(n:Nat)(l:List bl){M:List (Value×D)}(dD:M3 M l)(N t:D)(k9:List ByteArray)(a b c d e f g h:D)(aa:k9.length<n)(ae:k9.length<100000000):bq (CR n) n [aU l,.mp M,N,du k9,R k9.length,R 0,a,b,c,d,e,f,g,h,D.ak 1 []]=some (.inl [aU l,N,a,b,c,d,e,f,g,h,c8 (k9.filterMap (dg l))]):=by
 have bU:(R ((0:Nat):Int))=R 0:=rfl;have aP:c8 []=D.ak 1 []:=rfl;have gr:∀x,D.ak 1 (af (c8 x))=c8 x:=λ_=>rfl;have aI:=dm (f:=CR n) k9 (λj (s:List Nat)=>[aU l,.mp M,N,du k9,R k9.length,R (j:Int),a,b,c,d,e,f,g,h,c8 s]) (λr s=>(.inl [aU l,N,a,b,c,d,e,f,g,h,c8 (s++r.filterMap (dg l))]:List D⊕D)) (λj s=>s.length<=j) ?_ ?_ n 0 [] (by simp) (by omega) (xaj _)
 .rw[bU,aP]at aI;simpa using aI
 .intro s _;simp only[CR,go_sem,yF ((k9.length:Int)<k9.length),gr,List.filterMap_nil,xar]
 intro j b' s ao aI aE;have ah:=II ao;have gH:=Cl dD.1 (z:= .int .i64 0) (x:=b');rw[dD.2]at gH;left;cases aA:dg l b' with
 |none=>rw[aA]at gH;simp only[xbq]at gH;refine⟨s,?_,by simp[aA],by omega⟩;simp only[CR,go_sem,yT ((j:Int)<(k9.length:Int)),ah,iK,mH,gH,gr,cr (bt:=false) (i:=j) (by omega)]
 |some k=>
  rw[aA]at gH;simp only[xaC]at gH;have eo:cW (s.length+1) 8=true:=gd (by omega) (by omega);have a2:D.ak 1 (af (c8 s)++[[R (k:Int)]])=c8 (s++[k]):=by simp[c8]
  have bS:(af (c8 s)).length=s.length:=by simp[c8]
  refine⟨s++[k],?_,by simp[aA],by simp;omega⟩;simp only[CR,go_sem,yT ((j:Int)<(k9.length:Int)),ah,iK,mH,gH,gr,a2,bS,xat,xaG,xaB,eo,cr (bt:=false) (i:=j) (by omega)]
def adR(n:Nat)(fr:List Nat)(L N a b c d e f g h:D)(ae:fr.length<100000000):∀(m j:Nat)(S:List Nat)(M:List (Value×D)),bY M S->fr.length-j<m->j<=fr.length-> ∃ey np,bq (LP n) m [L,N,c8 fr,R fr.length,R (j:Int),a,b,c,d,e,f,g,h,.mp M]=some (.inl [L,N,a,b,c,d,e,f,g,h,.mp ey])/\bY ey np/\∀x,x∈np↔x∈S\/x∈fr.drop j
 |0,_,_,_,_,h,_=>absurd h (xaI _)
 |m+1,j,S,M,dD,hm,aI=>by
  rw[k7];by_cases cD:j<fr.length
  .have al:=xab cD;generalize fr[j]=i at al;have vJ:fr.drop j=i::fr.drop (j+1):=by
    obtain⟨bV,bN⟩:=xae.1 al;rw[xbo bV,bN]
   obtain⟨vK,eQ,ez⟩:=dD.put i;obtain⟨ey,np,a9,bk,b1⟩:=adR n fr L N a b c d e f g h ae m (j+1) _ vK ez (by omega) cD;refine⟨ey,np,?_,bk,λx=>?_⟩;.simp only[LP,go_sem,yT ((j:Int)<(fr.length:Int)),uS al,iK,eQ,cr (bt:=false) (i:=j) (by omega),a9]
   rw[b1,vJ,xap];by_cases aj:i∈S
   .rw[xaa aj];constructor
    .rintro(h|h);.exact .inl h
     exact .inr (.inr h)
    rintro(h|rfl|h);.exact .inl h
    .exact .inl aj
    exact .inr h
   rw[xac aj];simp only[xaM,List.mem_singleton,or_assoc]
  have:j=fr.length:=by omega
  subst this;refine⟨M,S,?_,dD,λx=>by simp⟩;simp only[LP,go_sem,yF ((fr.length:Int)<fr.length)]
def awH(n:Nat)(l:List bl){B:Nat}(aq:hV B l)(aM:3*B+200<n){M:List (Value×D)}{S:List Nat}(dD:bY M S)(a b c d e f g h:D):bq (zY n) n [aU l,hM (l.map λd=>dE l d.e),R l.length,R 0,a,b,c,d,e,f,g,h,.mp M]=some (if(List.range l.length).all (λi=>!(decide (i∈S)&&jw l i))then .inl [aU l,a,b,c,d,e,f,g,h]else .inr (.aR [fD.d,R 14])):=by
 have bB:=aq.len;have tD:=aq.b;have bU:(R ((0:Nat):Int))=R 0:=rfl;have hzero:D.agg [R 0,R 0,aT ⟨#[]⟩,D.val (.slice none 0 0)]=fD.d:=Lp.symm;have aI:=dm (f:=zY n) (List.range l.length) (λj (s:Unit)=>[aU l,hM (l.map λd=>dE l d.e),R l.length,R (j:Int),a,b,c,d,e,f,g,h,.mp M]) (λr s=>(if r.all (λi=>!(decide (i∈S)&&jw l i))then .inl [aU l,a,b,c,d,e,f,g,h]else .inr (.aR [fD.d,R 14]):List D⊕D)) (λj s=>True) ?_ ?_ n 0 () trivial (by simp;omega) (xaj _)
 .rw[bU]at aI;simpa using aI
 .intro s _;rw[xbD];simp only[zY,go_sem,yF ((l.length:Int)<l.length),xbT]
 intro j b' s ao aI aE;rw[xbD]at aI;have IS:b'=j:=by rw[xbS aI]at ao;exact(xaR ao).symm
 subst IS;have gH:=dD.look (i:=b') (z:= .bool false);obtain⟨M2,fp,fh⟩:=awE l aq n aM b' aI;have gr:mH (D.mp M2)=some M2:=rfl;by_cases cI:b'∈S
 .by_cases aw:jw l b'=true;.right;rw[aw]at fh;simp only[zY,go_sem,yT ((b':Int)<(l.length:Int)),gH,xao cI,fp,gr,fh,hzero,xaV,aw,xbQ]
  have mC:jw l b'=false:=by simpa using aw
  left;rw[mC]at fh;refine⟨(),?_,by simp only[xaV,mC,Bool.and_false,xbU,xbm],trivial⟩;simp only[zY,go_sem,yT ((b':Int)<(l.length:Int)),gH,xao cI,fp,gr,fh,cr (bt:=false) (i:=b') (by omega)]
 left;refine⟨(),?_,by simp only[xaV,xaw cI,xbQ,xbU,xbm],trivial⟩;have aP:∀(x:Option D)(f:D->Option (List D⊕(List D⊕D))),J (bE (ax false) true x) (λv=>J (bT (ax false) v (ax false)) f)=f (ax false):=λ_ _=>rfl;simp only[zY,go_sem,yT ((b':Int)<(l.length:Int)),gH,xaw cI,aP,cr (bt:=false) (i:=b') (by omega)]
inductive r6(C:Nat):Tm->Prop where
 |mk (o m:Int) (s:ByteArray) (b:Bool) (ks:List Tm) (aq:ks.length<=C) (al:∀k∈ks,r6 C k):r6 C (.mk o m s b ks)
def kc.ok{l:List bl}{B:Nat}(aq:hV B l):∀{h:Nat}{t X:Tm},kc l h t X->t.cB->t.bp<=B->X.cB/\r6 B X
 |0,_,_,H,_,_=>H.elim
 |h+1,t,X,H,bs,aJ=>by
  rcases H with⟨aL,i,d,aj,aA,kB⟩|⟨h6,ks,rfl,eI,A2⟩;.have hF:=aq.e d (xad aA);exact kB.ok aq hF.1 hF.2
  have key:∀k∈ks,k.cB/\r6 B k:=by intro k al;obtain⟨j,aI⟩:=xaK.1 al;have cD:=(xae.1 aI).1;have aG:t.a4[j]?=some (t.a4[j]'(by omega)):=xab (by omega);have hm:=xad aG;have bP:=Tm.jS hm;exact(A2 j _ k aG aI).ok aq (bs.fu hm) (by omega)
  have m8:=t.lI;have bB:=bs.len;obtain⟨eQ,ez,ho⟩:(-9223372036854775808<=t.op/\t.op<=9223372036854775807)/\(-9223372036854775808<=t.num/\t.num<=9223372036854775807)/\t.name.size<=140737488355328:=by cases bs with|mk o n s b ks aL aM aE aq al=>exact⟨aL,aM,aE⟩
  exact⟨.mk _ _ _ _ _ eQ ez ho (by omega) λk al=>(key k al).1,.mk _ _ _ _ _ (by omega) λk al=>(key k al).2⟩
def r6.fu{C:Nat}{t k:Tm}(h:r6 C t)(al:k∈t.a4):r6 C k:=by cases h with|mk o m s b ks aq fF=>exact fF k al
def r6.len{C:Nat}{t:Tm}(h:r6 C t):t.a4.length<=C:=by cases h;assumption
theorem Tm.A4(t:Tm):t.bp=2+Tm.eV t.a4:=by cases t;rw[Tm.bp];rfl
def awI(C:Nat)(X:Tm):∀(deep n:Int),X.cB->r6 C X->(eS X deep n).1.cB/\((eS X deep n).1.bp:Int)<=(2+3*(C:Int))*((eS X deep n).2-n):=by
 refine Tm.ind (P:=λX=>∀(deep n:Int),X.cB->r6 C X->(eS X deep n).1.cB/\((eS X deep n).1.bp:Int)<=(2+3*(C:Int))*((eS X deep n).2-n)) ?_ X;intro t ih deep n bs hw;generalize hj:(2+3*(C:Int))=K at*;have key:∀(ks:List Tm),(∀k∈ks,∀(deep n:Int),(eS k deep n).1.cB/\((eS k deep n).1.bp:Int)<=K*((eS k deep n).2-n))->∀(n:Int),(∀k∈(gg ks deep n).1,k.cB)/\(Tm.eV (gg ks deep n).1:Int)<=K*((gg ks deep n).2-n)+3*(ks.length:Int):=by
  intro ks
  induction ks with
  |nil=>intro _ n;simp[gg,Tm.eV]
  |cons a r lO=>
   intro h n;have aa:=h a (by simp) (deep+1) n;rw[gg];split
   .have ae:=lO (λk al=>h k (by simp[al])) (eS a (deep+1) n).2;refine⟨?_,?_⟩
    .intro k al;rcases xap.1 al with rfl|al
     .exact aa.1
     exact ae.1 k al
    have e:K*((gg r deep (eS a (deep+1) n).2).2-n)=K*((eS a (deep+1) n).2-n)+K*((gg r deep (eS a (deep+1) n).2).2-(eS a (deep+1) n).2):=by rw[<-Int.mul_add];congr 1;omega
    simp only[Tm.eV,xat];rw[e];omega
   have ae:=lO (λk al=>h k (by simp[al])) n;refine⟨?_,?_⟩
   .intro k al;rcases xap.1 al with rfl|al
    .exact Rj
    exact ae.1 k al
   have e:fD.bp=2:=rfl;simp only[Tm.eV,xat,e];omega
 rw[Uz];split
 .rename_i he;have:t.a4=[]:=by simpa using he
  have aP:t.bp=2:=by rw[Tm.A4,this];rfl
  refine⟨bs,?_⟩;simp only[aP];have a2:K*(n+1-n)=K:=by rw[show n+1-n=(1:Int) by omega];exact Int.mul_one K
  rw[a2];omega
 obtain⟨cE,eb⟩:=key t.a4 (λk al deep n=>ih k al deep n (bs.fu al) (hw.fu al)) (n+1);have bB:=bs.len;have adS:=hw.len;obtain⟨eQ,ez,ho⟩:(-9223372036854775808<=t.op/\t.op<=9223372036854775807)/\(-9223372036854775808<=t.num/\t.num<=9223372036854775807)/\t.name.size<=140737488355328:=by cases bs with|mk o n s b ks aL aM aE aq al=>exact⟨aL,aM,aE⟩
 refine⟨.mk _ _ _ _ _ eQ ez ho (by rw[Nb];omega) cE,?_⟩;rw[Tm.A4];have e:K*((gg t.a4 deep (n+1)).2-n)=K+K*((gg t.a4 deep (n+1)).2-(n+1)):=by
  have:(gg t.a4 deep (n+1)).2-n=1+((gg t.a4 deep (n+1)).2-(n+1)):=by omega
  rw[this,Int.mul_add,Int.mul_one]
 show((2+Tm.eV (gg t.a4 deep (n+1)).1:Nat):Int)<=_;rw[e];omega
def adT{l:List bl}{B h:Nat}(aq:hV B l){t X:Tm}(H:kc l h t X)(bs:t.cB)(aJ:t.bp<=B):(eS X 1 0).1.cB/\(eS X 1 0).1.bp<=8194+12291*B:=by obtain⟨aa,ae⟩:=H.ok aq bs aJ;obtain⟨ay,a7⟩:=awI B X 1 0 aa ae;refine⟨ay,?_⟩;have a1:=adI X 1 0;have wY:=a1.2 (by omega);have hm:(2+3*(B:Int))*((eS X 1 0).2-0)<=(2+3*(B:Int))*4097:=Int.mul_le_mul_of_nonneg_left (by omega) (by omega);omega
def awJ{l:List bl}{B:Nat}(aq:hV B l)(n h:Nat)(t X:Tm)(H:kc l h t X)(bs:t.cB)(aJ:t.bp<=B)(aM:h+2*B+200<n):Hc n [t.d,aU l]=some (eS X 1 0).1.d:=by have bB:=aq.len;have tD:=aq.b;obtain⟨M,gO,lu⟩:=Um n l (by omega) (by omega);have aw:=adL aq lu n h t X 1 0 H bs aJ (by omega) (by omega) (by omega) (by omega) (by omega);have gk:bm (D.mp M)=true:=rfl;simp only[Hc,aaX,go_sem,UB,gO,gk,aw]
def UD{l:List bl}{B:Nat}(aq:hV B l)(n:Nat)(t:Tm)(bs:t.cB)(aJ:t.bp<=B)(aM:20000*B+20000<n):((c9 t 1 0).1≠0->mq n [t.d,aU l]=some (.aR [fD.d,R (c9 t 1 0).1]))/\((c9 t 1 0).1=0->r5 l t=false->mq n [t.d,aU l]=some (.aR [fD.d,R 14]))/\(∀h X,(c9 t 1 0).1=0->r5 l t=true->kc l h t X->h+2*B+200<n->mq n [t.d,aU l]=some (.aR [if(c9 (eS X 1 0).1 1 0).1=0 then(eS X 1 0).1.d else fD.d,R (c9 (eS X 1 0).1 1 0).1])):=by
 have bB:=aq.len;have tD:=aq.b;have hzero:D.agg [R 0,R 0,aT ⟨#[]⟩,D.val (.slice none 0 0)]=fD.d:=Lp.symm;have ch:=MY n t (by omega) bs;obtain⟨M,gO,lu⟩:=Um n l (by omega) (by omega);have b9:=awb n l aq (by omega);have ca:=M0 n t (by omega) bs (by omega);have cv:=Dn t;have hd:=awG n l lu (hM (l.map λd=>dE l d.e)) fD.d (fY 3 t []) (R t.op) (R t.num) (aT t.name) (cA 4 t.nl (Tm.rows t.a4)) (R 0) (R 0) (aT ⟨#[]⟩) cp (by omega) (by omega);have cS:(fY 3 t []).filterMap (dg l)=dE l t:=rfl;rw[cS]at hd;have tE:=M4 l t;obtain⟨vK,awK,fp,fh,j5⟩:=awC l aq n (by omega) (dE l t) nm (by omega) (by omega);obtain⟨M2,adU,s1,s2,jQ⟩:=adR n (dE l t) (aU l) (hM (l.map λd=>dE l d.e)) (R t.op) (R t.num) (aT t.name) (cA 4 t.nl (Tm.rows t.a4)) (R 0) (R 0) (aT ⟨#[]⟩) cp (by omega) n 0 awK vK fh (by omega) (xaj _);have adV:∀x,x∈adU↔x∈kR l (dE l t):=by
  intro x;rw[jQ,j5,vI l _ nm,xam];constructor
  .rintro(⟨i,aj,k,al,aw⟩|h);.exact⟨i,aj,.step i k x al aw⟩
   exact⟨x,h,.refl x⟩
  rintro⟨i,aj,aw⟩;cases aw with|refl=>exact .inr aj|step _ k _ al aw=>exact .inl ⟨i,aj,k,al,aw⟩
 have xP:=awH n l aq (by omega) s2 (R t.op) (R t.num) (aT t.name) (cA 4 t.nl (Tm.rows t.a4)) (R 0) (R 0) (aT ⟨#[]⟩) cp;have gq:(List.range l.length).all (λi=>!(decide (i∈adU)&&jw l i))=r5 l t:=by
  rw[Bool.eq_iff_iff];simp only[r5,xas,xbI,Bool.not_eq_true',Bool.and_eq_false_imp,xaE];constructor;.intro h x ah;exact h x ((xL l _ nm).inv.2 x ah) ((adV x).2 ah)
  intro h x ah M6;exact h x ((adV x).1 M6)
 rw[gq]at xP;have bU:(R ((0:Nat):Int))=R 0:=rfl;rw[bU]at s1;have gr:∀x,D.ak 1 (af (c8 x))=c8 x:=λ_=>rfl;have nZ:((0:Int) !=0)=false:=rfl;have dM:∀x,(af (c8 x)).length=x.length:=λx=>by simp[c8]
 refine⟨λar=>?_,λar aw=>?_,λh X ar aw H JY=>?_⟩
 .have r4:((c9 t 1 0).1 !=0)=true:=by simpa using ar
  simp only[mq,Hd,go_sem,ch,r4,hzero]
 .rw[aw]at xP;simp only[xan,xaz]at xP;simp only[mq,Hd,go_sem,ch,ar,nZ,gO,b9,ca,IJ,hd,gr,dM,fp,pG,s1,eA,xP]
 rw[aw]at xP;simp only[xav]at xP;have fC:=awJ aq n h t X H bs aJ JY;obtain⟨f1,f2⟩:=adT aq H bs aJ;have UE:=MY n (eS X 1 0).1 (by omega) f1;by_cases ay:(c9 (eS X 1 0).1 1 0).1=0
 .rw[ay]at UE;simp only[mq,Hd,go_sem,ch,ar,nZ,gO,b9,ca,IJ,hd,gr,dM,fp,pG,s1,eA,xP,fC,UE,ay]
 have r4:((c9 (eS X 1 0).1 1 0).1 !=0)=true:=by simpa using ay
 simp only[mq,Hd,go_sem,ch,ar,nZ,gO,b9,ca,IJ,hd,gr,dM,fp,pG,s1,eA,xP,fC,UE,ay,r4,hzero]
def UF{l:List bl}{B:Nat}(aq:hV B l)(n:Nat)(t:Tm)(bs:t.cB)(aJ:t.bp<=B)(aM:20000*B+20000<n):((c9 t 1 0).1≠0->mm n [t.d,aU l]=some (.aR [fD.d,R (c9 t 1 0).1]))/\((c9 t 1 0).1=0->r5 l t=false->mm n [t.d,aU l]=some (.aR [fD.d,R 14]))/\(∀h X,(c9 t 1 0).1=0->r5 l t=true->kc l h t X->h+2*B+200<n->mm n [t.d,aU l]=some (.aR [if(c9 X 1 0).1=0 then(gx X).d else fD.d,R (c9 X 1 0).1])):=by
 have bB:=aq.len;have tD:=aq.b;have hzero:D.agg [R 0,R 0,aT ⟨#[]⟩,D.val (.slice none 0 0)]=fD.d:=Lp.symm;have ch:=Uh n t (by omega) bs;have tE:=M4 l t;have ao:=Uq l aq n t [] cp (.inr ⟨rfl,rfl⟩) bs aJ ⟨by simp,by simp⟩ (by simp;omega);have awL:hE (to l) n (dE l t) []=kR l (dE l t):=Uo (λi k al=>lh i k al) n _ (dE l t) [] ⟨by simp,by simp⟩ nm (by simp;omega) (by simp);rw[awL]at ao;have hr:=xL l (dE l t) nm;have g1:=hr.inv.len;have bU:(R ((0:Nat):Int))=R 0:=rfl;have nZ:((0:Int) !=0)=false:=rfl;generalize J4:kR l (dE l t)=C at*;have UG:bJ (kS [] cp C)=some (R C.length):=by
  unfold kS;split;.rename_i h;rw[h];rfl
  exact pG C
 have adW:∀(i x:Nat),C[i]?=some x->bh 1 (kS [] cp C) (R (i:Int))=some [R (x:Int)]:=by
  intro i x ah;unfold kS;split;.rename_i h;have:C=[]:=xaJ h;subst this;simp at ah
  exact uS ah
 have iQ:=dm (f:=Gg n) C (λi (s:Unit)=>[aU l,kS [] cp C,R (i:Int),R t.op,R t.num,aT t.name,cA 4 t.nl (Tm.rows t.a4),R 0,R 0,aT ⟨#[]⟩,cp]) (λr s=>(if r.all (λx=>!jw l x)then .inl [aU l,R t.op,R t.num,aT t.name,cA 4 t.nl (Tm.rows t.a4),R 0,R 0,aT ⟨#[]⟩,cp]else .inr (.aR [fD.d,R 14]):List D⊕D)) (λi s=>True) ?_ ?_ n 0 () trivial (by omega) (xaj _)
 .rw[bU,xam]at iQ;have Dt:C.all (λx=>!jw l x)=r5 l t:=by rw[r5,J4]
  rw[Dt]at iQ;refine⟨λar=>?_,λar aw=>?_,λh X ar aw H JY=>?_⟩
  .have r4:((c9 t 1 0).1 !=0)=true:=by simpa using ar
   simp only[mm,Gh,go_sem,ch,r4,hzero]
  .rw[aw]at iQ;simp only[xan,xaz]at iQ;simp only[mm,Gh,go_sem,ch,ar,nZ,ao,iQ]
  rw[aw]at iQ;simp only[xav]at iQ;have a1:=Ux aq h n t X 1 0 H bs aJ (by omega) (by omega) (by omega) (by omega) (by omega);by_cases ay:(c9 X 1 0).1=0
  .simp only[ay,xav]at a1;simp only[mm,Gh,go_sem,ch,ar,nZ,ao,iQ,a1,ay]
  simp only[ay,xaz]at a1;simp only[mm,Gh,go_sem,ch,ar,nZ,ao,iQ,a1,ay]
 .intro s _;simp only[Gg,go_sem,UG,yF ((C.length:Int)<C.length),xbT]
 intro i x s ah aj aE;have Dw:=xad ah;have aw:=awm l aq n x (hr.inv.2 x Dw) (by omega);cases xQ:jw l x with
 |true=>right;rw[xQ]at aw;simp only[Gg,go_sem,UG,yT ((i:Int)<(C.length:Int)),adW i x ah,iK,aw,hzero,xaV,xQ,xbQ]
 |false=>left;rw[xQ]at aw;refine⟨(),?_,by simp only[xaV,xQ,xbU,xbm],trivial⟩;simp only[Gg,go_sem,UG,yT ((i:Int)<(C.length:Int)),adW i x ah,iK,aw,cr (bt:=false) (i:=i) (by omega)]
mutual
def kC:Tm->Tm
 | .mk o m s b ks=> .mk o m s (b&&ks.isEmpty) (xR ks)
def xR:List Tm->List Tm
 |[]=>[]|k::r=>kC k::xR r
end
def adX:∀l:List Tm,xR l=l.map kC
 |[]=>rfl|k::r=>by rw[xR,adX r];rfl
theorem IT(t:Tm):kC t= .mk t.op t.num t.name (t.nl&&t.a4.isEmpty) (t.a4.map kC):=by cases t;rw[kC,adX];rfl
mutual
def adY:∀(X:Tm)(deep n:Int),n<=4096->(c9 X deep n).1=0->(eS X deep n).1=kC X
 | .mk o m s b ks,deep,n,aM=>by
  intro h;rw[eS,kC];cases ks with
  |nil=>simp[xR]
  |cons k r=>
   simp only[List.isEmpty_cons,xan,xaz,Bool.and_false];rw[c9]at h;by_cases aa:deep>64;.rw[xaa aa]at h;cases h
   rw[xac aa]at h;by_cases ae:ia (.mk o m s b (k::r))≠0;.rw[xaa ae]at h;exact absurd h ae
   rw[xac ae]at h;by_cases ay:n+1>4096;.rw[xaa ay]at h;cases h
   rw[xac ay]at h;rw[adZ (k::r) deep (n+1) (by omega) (by omega) h]
def adZ:∀(ks:List Tm)(deep n:Int),deep<=64->n<=4096->(fm ks (deep+1) n).1=0->(gg ks deep n).1=xR ks
 |[],deep,n,_,_=>by simp[gg,xR]
 |k::r,deep,n,aA,aM=>by
  intro h;rw[gg,xaa ⟨aA,aM⟩,xR];rw[fm]at h;obtain⟨a9,bk⟩:=Uv k (deep+1) n aM;by_cases ar:(c9 k (deep+1) n).1=0;.simp only[ar,ne_eq,xbE,xaz]at h;obtain⟨bV,bN,cC⟩:=bk ar;have a1:=(Dm k (deep+1) n).2 ar;rw[bV]at h a1;rw[adY k (deep+1) n aM ar,adZ r deep _ aA a1 h]
  simp only[ne_eq,ar,xbY,xav]at h
end
def UH(t:Tm):(kC t).bp=t.bp:=by
 refine Tm.ind (P:=λt=>(kC t).bp=t.bp) ?_ t;intro t ih;have key:∀l:List Tm,(∀k∈l,(kC k).bp=k.bp)->Tm.eV (l.map kC)=Tm.eV l:=by
  intro l
  induction l with
  |nil=>intro _;rfl
  |cons a r lO=>intro h;simp only[xaA,Tm.eV];rw[h a (by simp),lO λk al=>h k (by simp[al])]
 rw[Tm.A4,Tm.A4 t,IT];show 2+Tm.eV (t.a4.map kC)=_;rw[key _ ih]
def ad0:∀(ks:List Tm),(∀k∈ks,∀(deep n:Int),(c9 k deep n).1=0->(k.bp:Int)+1<=3*((c9 k deep n).2-n))->∀(deep n:Int),(fm ks deep n).1=0->(Tm.eV ks:Int)<=3*((fm ks deep n).2-n)
 |[],_,deep,n,_=>by simp[fm,Tm.eV]
 |k::r,al,deep,n,h=>by
  rw[fm]at h⊢;by_cases ar:(c9 k deep n).1=0;.simp only[ar,ne_eq,xbE,xaz]at h⊢;have aa:=al k (by simp) deep n ar;have ae:=ad0 r (λk fF=>al k (by simp[fF])) deep _ h;simp only[Tm.eV];omega
  simp only[ne_eq,ar,xbY,xav]at h
def awM(t:Tm):∀(deep n:Int),(c9 t deep n).1=0->(t.bp:Int)+1<=3*((c9 t deep n).2-n):=by
 refine Tm.ind (P:=λt=>∀(deep n:Int),(c9 t deep n).1=0->(t.bp:Int)+1<=3*((c9 t deep n).2-n)) ?_ t;intro t ih deep n h;rw[vF]at h⊢;by_cases aa:deep>64;.rw[xaa aa]at h;cases h
 rw[xac aa]at h⊢;by_cases ae:ia t≠0;.rw[xaa ae]at h;exact absurd h ae
 rw[xac ae]at h⊢;by_cases ay:n+1>4096;.rw[xaa ay]at h;cases h
 rw[xac ay]at h⊢;have:=ad0 t.a4 ih (deep+1) (n+1) h;rw[Tm.A4];omega
def mU(op:Int):Int:=if op=1 then 0 else if op=3\/op=4\/op=5\/op=9\/op=13 then 2 else if op=2\/op=6\/op=7\/op=8\/op=10\/op=11\/op=12 then 1 else-1
def awN(n:Nat)(op:Int):G3 n [R op]=some (R (mU op)):=by
 rcases Ll op with rfl|rfl|rfl|rfl|rfl|rfl|rfl|rfl|rfl|rfl|rfl|rfl|rfl|rfl|rfl|rfl|rfl|rfl|h
 case inr.inr.inr.inr.inr.inr.inr.inr.inr.inr.inr.inr.inr.inr.inr.inr.inr.inr=>
  have e:∀k:Int,1<=k->k<=18->(op==k)=false:=λk aa ae=>by simp;omega
  have a2:mU op=-1:=by unfold mU;repeat(first|rw[xac (by omega)]|rw[xaa (by omega)])
  simp[G3,aaS,e,a2]
 all_goals rfl
def awO(n:Nat)(op:Int):CD n [R op]=some (R (mU op)):=by
 rcases Ll op with rfl|rfl|rfl|rfl|rfl|rfl|rfl|rfl|rfl|rfl|rfl|rfl|rfl|rfl|rfl|rfl|rfl|rfl|h
 case inr.inr.inr.inr.inr.inr.inr.inr.inr.inr.inr.inr.inr.inr.inr.inr.inr.inr=>
  have e:∀k:Int,1<=k->k<=18->(op==k)=false:=λk aa ae=>by simp;omega
  have a2:mU op=-1:=by unfold mU;repeat(first|rw[xac (by omega)]|rw[xaa (by omega)])
  simp[CD,aay,e,a2]
 all_goals rfl
def Dx(t:Tm):Int:=if(c9 t 1 0).1≠0 then(c9 t 1 0).1 else if 0<(fY 4 t []).length then 24 else 0
def xS(t:Tm):Bool:=t.op==0&&(t.num==0&&(decide (t.name=⟨#[]⟩)&&decide (t.a4.length=0)))
def mu(f:Fm):Int:=if mU f.op<0 then 11 else if f.op=1/\Dx f.e≠0 then Dx f.e
 else if(f.a4.length:Int)≠mU f.op\/(f.op≠1/\xS f.e=false)then 3 else 0
def awP(n:Nat)(f:Fm)(aM:2*f.e.bp+40<n)(bs:f.cB)(ao:f.e.bp<100000000):zT n [f.d]=some (R (if f.op≠1 then 0 else Dx f.e)):=by
 have aa:=MY n f.e (by omega) bs.e;have ae:=M0 n f.e (by omega) bs.e ao;by_cases aL:f.op=1
 case neg=>simp[zT,LJ,aL]
 unfold Dx;by_cases an:(c9 f.e 1 0).1=0
 .have cS:bJ (du (fY 4 f.e []))=some (R (fY 4 f.e []).length):=by simp[du]
  by_cases a7:0<(fY 4 f.e []).length<;>simp[zT,LJ,aL,aa,an,ae,cS,a7]
 simp[zT,LJ,aL,aa,an]
def awQ(n:Nat)(t:Tm):GC n [t.d]=some (ax (xS t)):=by unfold xS;simp[GC,aaz];by_cases aa:t.op=0<;>by_cases ae:t.num=0<;>by_cases ay:t.name=⟨#[]⟩<;>by_cases a7:t.a4=[]<;>simp[aa,ae,ay,a7]
def awR(n:Nat)(f:Fm)(aM:2*f.e.bp+40<n)(bs:f.cB)(ao:f.e.bp<100000000):u5 n [f.d]=some (R (mu f)):=by
 have aa:=Uh n f.e (by omega) bs.e;have ae:=Uk n f.e (by omega) bs.e (by omega);have al:=awO n f.op;have bP:=awQ n f.e;have cS:bJ (j9 true (fY 4 f.e []))=some (R (fY 4 f.e []).length):=nX _ _;unfold mu;by_cases ar:mU f.op<0
 .simp[u5,CE,al,ar]
 by_cases aL:f.op=1
 .unfold Dx;have cE:mU 1=0:=rfl;rw[aL,cE]at al;by_cases an:(c9 f.e 1 0).1=0
  .by_cases a7:0<(fY 4 f.e []).length;.simp[u5,CE,al,aL,aa,an,ae,cS,a7,cE]
   simp[u5,CE,al,aL,aa,an,ae,cS,a7,cE];by_cases bZ:f.a4=[]<;>simp[bZ]
  simp[u5,CE,al,aL,aa,an,cE]
 simp[u5,CE,al,ar,aL,bP];by_cases bZ:(f.a4.length:Int)=mU f.op;.cases cG:xS f.e<;>simp[bZ,cG]
 simp[bZ]
mutual
def ic:Fm->Int->Int->Int×Int
 | .mk o t b ks,deep,k=>if deep>64 then(17,k+1)else if mu (.mk o t b ks)≠0 then(mu (.mk o t b ks),k+1)else if k+1>4096 then(4,k+1)else kT ks (deep+1) (k+1)
def kT:List Fm->Int->Int->Int×Int
 |[],_,k=>(0,k)|t::r,deep,k=>if(ic t deep k).1≠0 then ic t deep k else kT r deep (ic t deep k).2
end
theorem IU(t:Fm)(deep k:Int):ic t deep k=if deep>64 then(17,k+1)else if mu t≠0 then(mu t,k+1)else if k+1>4096 then(4,k+1)else kT t.a4 (deep+1) (k+1):=by cases t;rw[ic];rfl
mutual
def lR:Fm->Int->Int->Int×Int
 | .mk o t b ks,deep,k=>if deep>64 then(17,k)else if mu (.mk o t b ks)≠0 then(mu (.mk o t b ks),k)else if k+1>4096 then(4,k+1)else n0 ks (deep+1) (k+1)
def n0:List Fm->Int->Int->Int×Int
 |[],_,k=>(0,k)|t::r,deep,k=>if(lR t deep k).1≠0 then lR t deep k else n0 r deep (lR t deep k).2
end
theorem ad1(t:Fm)(deep k:Int):lR t deep k=if deep>64 then(17,k)else if mu t≠0 then(mu t,k)else if k+1>4096 then(4,k+1)else n0 t.a4 (deep+1) (k+1):=by cases t;rw[lR];rfl
def ad2(t:Fm):∀deep k,(lR t deep k).1=(ic t deep k).1/\((lR t deep k).1=0->(lR t deep k).2=(ic t deep k).2):=by
 refine Fm.ind (P:=λt=>∀deep k,(lR t deep k).1=(ic t deep k).1/\((lR t deep k).1=0->(lR t deep k).2=(ic t deep k).2)) ?_ t;intro t ih deep k;rw[ad1,IU];split;.simp
 split;.rename_i h;simp[h]
 split;.simp
 have key:∀(l:List Fm),(∀x∈l,∀deep k,(lR x deep k).1=(ic x deep k).1/\((lR x deep k).1=0->(lR x deep k).2=(ic x deep k).2))->∀deep k,(n0 l deep k).1=(kT l deep k).1/\((n0 l deep k).1=0->(n0 l deep k).2=(kT l deep k).2):=by
  intro l
  induction l with
  |nil=>intro _ deep k;simp[n0,kT]
  |cons a r lO=>
   intro h deep k;rw[n0,kT];have aa:=h a (by simp) deep k;by_cases ae:(ic a deep k).1=0
   .have ay:=aa.1.trans ae;have a7:=aa.2 ay;simp only[ae,ay,ne_eq,xbE,xaz,a7];exact lO (λx ah=>h x (by simp[ah])) deep _
   have ay:(lR a deep k).1≠0:=by rw[aa.1];exact ae
   simp only[ne_eq,ae,ay,xbY,xav];exact⟨aa.1,λh=>h.elim⟩
 exact key t.a4 ih _ _
def ad3(t:Fm):∀(deep k:Int),k+1<=(ic t deep k).2/\((ic t deep k).1=0->(ic t deep k).2<=4096):=by
 refine Fm.ind (P:=λt=>∀(deep k:Int),k+1<=(ic t deep k).2/\((ic t deep k).1=0->(ic t deep k).2<=4096)) ?_ t;intro t ih deep k;rw[IU];split;.simp
 split;.rename_i h;simp[h]
 split;.simp
 have key:∀(l:List Fm)(deep k:Int),(∀x∈l,∀(deep k:Int),k+1<=(ic x deep k).2/\((ic x deep k).1=0->(ic x deep k).2<=4096))->k<=4096->k<=(kT l deep k).2/\((kT l deep k).1=0->(kT l deep k).2<=4096):=by
  intro l
  induction l with
  |nil=>intro deep k _ h;simp[kT,h]
  |cons a r lO=>
   intro deep k h al;rw[kT];have aa:=h a (by simp) deep k;split
   .rename_i ae;exact⟨by omega,λay=>absurd ay ae⟩
   rename_i ae;simp only[ne_eq,Decidable.not_not]at ae;have ay:=lO deep (ic a deep k).2 (λx ah=>h x (by simp[ah])) (aa.2 ae);exact⟨by omega,ay.2⟩
 exact key t.a4 (deep+1) (k+1) ih (by omega)
def ad4:∀(n:Nat)(t:Fm)(deep k:Int),2*t.bp+40<n->t.cB->t.bp<100000000->0<=deep->deep<=65->0<=k->k<=4096->ta n [t.d,R deep,R k]=some (.aR [R (lR t deep k).1,R (lR t deep k).2])
 |0,t,_,_,h,_,_,_,_,_,_=>absurd h (xaI _)
 |n+1,t,deep,k,aM,bs,ao,aa,ae,ay,a7=>by
  have UI:=t.FM;have a1:=awR n t (by omega) bs (by omega);rw[ad1];simp[ta,RZ,lJ (bt:=false) (i:=k) (by omega) (by omega),a1];by_cases aA:64<deep
  .simp[aA]
  simp[aA];by_cases hw:mu t=0
  case neg=>simp[hw]
  simp[hw];by_cases an:4096<k+1;.simp[an]
  simp[an];have aq:=dm (f:=LB (ta n) n) t.a4 (λi s=>[R deep,R s,R (i:Int),R t.op,R t.e.op,R t.e.num,aT t.e.name,cA 4 t.e.nl (Tm.rows t.e.a4),cA 6 t.nl (Fm.rows t.a4)]) (λr (s:Int)=>if(n0 r (deep+1) s).1=0 then(Sum.inl [R (n0 r (deep+1) s).2]:List D⊕D)else .inr (.aR [R (n0 r (deep+1) s).1,R (n0 r (deep+1) s).2])) (λi s=>0<=s/\s<=4096) ?_ ?_ n 0 (k+1) ⟨by omega,by omega⟩ (by have:=t.lI;omega) (xaj _)
  .have bU:(R ((0:Nat):Int))=R 0:=rfl;rw[bU]at aq;rw[aq];simp only[xam,dS];by_cases ar:(n0 t.a4 (deep+1) (k+1)).1=0;.simp[ar]
   simp[ar]
  .intro s aE;simp[LB,n0]
  intro i a s aG aj aE;have hm:=xad aG;have bP:=Fm.jS hm;have bB:=bs.len;have aw:=ad4 n a (deep+1) s (by omega) (bs.fu hm) (by omega) (by omega) (by omega) aE.1 aE.2;have iu:=ad3 a (deep+1) s;have UJ:=ad2 a (deep+1) s;simp[LB,aj,Fm.hz aG,lJ (bt:=false) (i:=deep) (by omega) (by omega),aw,cr (bt:=false) (i:=i) (by omega),n0];by_cases ar:(lR a (deep+1) s).1=0
  .left;simp only[ar];have bZ:=UJ.2 ar;have cG:=UJ.1▸ar;refine⟨(lR a (deep+1) s).2,by simp,by simp,by omega,by rw[bZ];exact iu.2 (by rw[<-UJ.1];exact ar)⟩
  right;simp[ar]
def lj(f:Fm):Int:=(ic f 1 0).1
def UK(n:Nat)(f:Fm)(aM:2*f.bp+50<n)(bs:f.cB)(ao:f.bp<100000000):zE n [f.d]=some (R (lj f)):=by have:=ad4 n f 1 0 (by omega) bs ao (by omega) (by omega) (by omega) (by omega);have e:=(ad2 f 1 0).1;simp[zE,aaA,this,e,lj]
def awS(n:Nat)(f:Fm)(deep k w:Int)(aM:2*f.bp+40<n)(bs:f.cB)(ao:f.bp<100000000)(aa:0<=k)(ae:k<=4096):∃e,e=(if deep>64 then 17 else if mu f≠0 then mu f else if k+1>4096 then 4 else w)/\G4 n [f.d,R deep,R k,R w]=some [ax (decide (e=0)),R (k+1),R e]:=by
 refine⟨_,rfl,?_⟩;have UI:=f.FM;have a1:=awP n f (by omega) bs (by omega);have al:=awN n f.op;have bB:bJ (cA 6 f.nl (Fm.rows f.a4))=some (R f.a4.length):=by simp
 have awT:(f.e.op==0&&(f.e.num==0&&(decide (f.e.name=⟨#[]⟩)&&decide (f.e.a4.length=0))))=xS f.e:=rfl;have m9:((f.e.a4.length:Int)==0)=decide (f.e.a4.length=0):=by by_cases h:f.e.a4.length=0<;>simp[h]
 unfold mu;simp only[G4,go_sem,Tm.Ck,lJ (bt:=false) (i:=k) (by omega) (by omega),a1,al,m9,Bool.and_assoc,awT];have hw:(w==0)=decide (w=0):=by by_cases h:w=0<;>simp[h]
 generalize xS f.e=nC;by_cases bw:64<deep;.simp[bw]
 by_cases bO:mU f.op<0;.simp[bw,bO]
 by_cases b0:f.op=1
 .have cE:mU 1=0:=rfl;by_cases cZ:Dx f.e=0;.by_cases dd:f.a4=[]<;>by_cases de:4096<k+1<;>simp[bw,bO,b0,cZ,dd,de,cE,hw]
  simp[bw,bO,b0,cZ,cE]
 by_cases dd:(f.a4.length:Int)=mU f.op<;>by_cases de:4096<k+1<;>cases nC<;>simp[bw,bO,b0,dd,de,hw]
def ad5:∀(n:Nat)(t:Fm)(deep k:Int),2*t.bp+45<n->t.cB->t.bp<100000000->0<=deep->deep<=65->0<=k->k<=4096->vd n [t.d,R deep,R k,R 0]=some [ax (decide ((ic t deep k).1=0)),R (ic t deep k).2,R (ic t deep k).1]
 |0,t,_,_,h,_,_,_,_,_,_=>absurd h (xaI _)
 |n+1,t,deep,k,aM,bs,ao,aa,ae,ay,a7=>by
  obtain⟨e,he,a1⟩:=awS n t deep k 0 (by omega) bs ao ay a7;rw[IU];simp only[vd,Sd,go_sem,a1];by_cases IG:e=0
  case neg=>simp[IG];grind
  have an:¬deep>64/\mu t=0/\¬k+1>4096:=by grind
  simp[IG,an];have aq:=dm (f:=LK (vd n) n) t.a4 (λi (s:Int)=>[R deep,cA 6 t.nl (Fm.rows t.a4),R t.a4.length,R (i:Int),R s,R 0]) (λr (s:Int)=>if(kT r (deep+1) s).1=0 then(Sum.inl [R (kT r (deep+1) s).2,R 0]:List D⊕List D)else .inr [ax false,R (kT r (deep+1) s).2,R (kT r (deep+1) s).1]) (λi s=>0<=s/\s<=4096) ?_ ?_ n 0 (k+1) ⟨by omega,by omega⟩ (by have:=t.lI;omega) (xaj _)
  .have bU:(R ((0:Nat):Int))=R 0:=rfl;rw[bU]at aq;rw[aq];simp only[xam,dS];by_cases ar:(kT t.a4 (deep+1) (k+1)).1=0;.simp[ar]
   simp[ar]
  .intro s aE;simp[LK,kT]
  intro i a s aG aj aE;have hm:=xad aG;have bP:=Fm.jS hm;have bB:=bs.len;have aw:=ad5 n a (deep+1) s (by omega) (bs.fu hm) (by omega) (by omega) (by omega) aE.1 aE.2;have iu:=ad3 a (deep+1) s;simp[LK,aj,Fm.hz aG,lJ (bt:=false) (i:=deep) (by omega) (by omega),aw,cr (bt:=false) (i:=i) (by omega),kT];by_cases ar:(ic a (deep+1) s).1=0
  .left;exact⟨(ic a (deep+1) s).2,by simp[ar],by simp[ar],by omega,iu.2 ar⟩
  right;simp[ar]
def UL(n:Nat)(f:Fm)(aM:2*f.bp+50<n)(bs:f.cB)(ao:f.bp<100000000):zV n [f.d]=some (R (lj f)):=by have:=ad5 n f 1 0 (by omega) bs ao (by omega) (by omega) (by omega) (by omega);simp[zV,aaT,this,lj]
def qH(t:Fm):Prop:=∃deep k,(ic t deep k).1=0
def qH.one{t:Fm}(h:qH t):mu t=0:=by
 obtain⟨d,k,h⟩:=h;rw[IU]at h;split at h;.cases h
 split at h;.rename_i ae;exact absurd h ae
 rename_i ae;simpa using ae
def awU{l:List Fm}{d k:Int}(h:(kT l d k).1=0):∀x∈l,qH x:=by
 induction l generalizing k with
 |nil=>intro x ah;cases ah
 |cons a r ih=>
  intro x ah;rw[kT]at h;by_cases ae:(ic a d k).1=0
  .simp only[ae,ne_eq,xbE,xaz]at h;rcases xap.1 ah with rfl|ah
   .exact⟨d,k,ae⟩
   exact ih h x ah
  simp only[ne_eq,ae,xbY,xav]at h
def qH.fu{t k:Fm}(h:qH t)(al:k∈t.a4):qH k:=by
 obtain⟨d,n,h⟩:=h;rw[IU]at h;split at h;.cases h
 split at h;.rename_i ae;exact absurd h ae
 split at h;.cases h
 exact awU h k al
def qH.len{t:Fm}(h:qH t):(t.a4.length:Int)=mU t.op/\¬mU t.op<0:=by
 have aa:=h.one;unfold mu at aa;split at aa;.cases aa
 rename_i ae;refine⟨?_,ae⟩;split at aa;.rename_i ay;exact absurd aa ay.2
 split at aa;.cases aa
 rename_i a7;simp only[not_or,Decidable.not_not,ne_eq]at a7;exact a7.1
def T.tF(t:Tm):[R t.op,R t.num,aT t.name,cA 4 t.nl (Tm.rows t.a4)]=t.cells:=(Tm.la t).symm
def F.ad6(t:Fm):[R t.op,R t.e.op,R t.e.num,aT t.e.name,cA 4 t.e.nl (Tm.rows t.e.a4),cA 6 t.nl (Fm.rows t.a4)]=t.cells:=(Fm.la t).symm
def adH(s:List Fm)(p:Fm):Fm.rows (s++[p])=Fm.rows s++[p.cells]:=by simp[Fm.jR]
theorem T.o6(t:Tm):D.agg t.cells=t.d:=rfl
theorem F.o6(t:Fm):D.agg t.cells=t.d:=rfl
structure Y where
 b:Bool
 lo:Int
 aj:Int
deriving DecidableEq
def Y.cells(y:Y):List D:=[ax y.b,R y.lo,R y.aj]
def Y.d(y:Y):D:= .agg [ax y.b,R y.lo,R y.aj]
def fo:Y:=⟨false,0,0⟩
def jf:Y:=⟨true,0,0⟩
def Y.kU(y:Y):Prop:=(y.b=true->y.lo=0/\y.aj=0)/\-1048576<=y.lo/\y.lo<=y.aj/\y.aj<=1048576
@[simp] theorem Y.nd (y:Y):a6 3 y.d=true:=rfl
@[simp] theorem Y.aY (y:Y):ab y.d 0=ax y.b:=rfl
@[simp] theorem Y.bw (y:Y):ab y.d 1=R y.lo:=rfl
@[simp] theorem Y.bO (y:Y):ab y.d 2=R y.aj:=rfl
@[simp] theorem Y.FI (y:Y):D.agg [ax y.b,R y.lo,R y.aj]=y.d:=rfl
@[simp high] theorem Y.aQ (y:Y):Go.Am.aQ true 3 0 y.cells=some y.d:=rfl
@[simp] theorem Y.gI (y:Y):y.cells[0]?=some (ax y.b):=rfl
@[simp] theorem Y.iy (y:Y):y.cells[1]?=some (R y.lo):=rfl
@[simp] theorem Y.amN (y:Y):y.cells[2]?=some (R y.aj):=rfl
@[simp] theorem Y.flat (y:Y):y.d.flat=true:=rfl
@[simp] theorem aDr (y:Y) (e:Int):(D.aR [y.d,R e]).flat=true:=rfl
def g8(lo aj:Int):Y×Int:=if lo< -1048576\/aj>1048576\/lo>aj\/aj-lo>4096 then(fo,2)else(⟨false,lo,aj⟩,0)
def Dy{lo aj:Int}(h:(g8 lo aj).2=0):(g8 lo aj).1.kU:=by
 unfold g8 at*;split at h;.cases h
 rename_i an;rw[xac an];exact⟨by simp,by simp;omega,by simp;omega,by simp;omega⟩
theorem ad7(lo aj:Int):(D.aR [(g8 lo aj).1.d,R (g8 lo aj).2])=if lo< -1048576\/aj>1048576\/lo>aj\/aj-lo>4096 then D.aR [.agg [ax false,R 0,R 0],R 2]else D.aR [.agg [ax false,R lo,R aj],R 0]:=by unfold g8;split<;>rfl
def vM(n:Nat)(lo aj:Int):rT n [R lo,R aj]=some (.aR [(g8 lo aj).1.d,R (g8 lo aj).2]):=by rw[ad7];have a7:-1048576<=lo->aj<=1048576->lo<=aj->IntKind.i64.wrap (aj-lo)=aj-lo:=λ_ _ _=>wrap64 _ (by omega) (by omega);simp[rT,aaZ,Q1,-Rf,-QW];grind
def IV(n:Nat)(lo aj:Int):qx n [R lo,R aj]=some (.aR [(g8 lo aj).1.d,R (g8 lo aj).2]):=by
 have hw:IntKind.i64.wrap (-1048576)=-1048576:=by decide
 rw[ad7];have a7:-1048576<=lo->aj<=1048576->lo<=aj->IntKind.i64.wrap (aj-lo)=aj-lo:=λ_ _ _=>wrap64 _ (by omega) (by omega);simp[qx,aat,Q1,hw,-Rf,-QW];grind
def gQ(l:List Y):D:= .ak 3 (l.map Y.cells)
def IW{l:List Y}{i:Nat}{y:Y}(h:l[i]?=some y):bh 3 (gQ l) (R (i:Int))=some y.cells:=by simp[gQ,h]
def awV(n:Nat)(l:List Y)(aM:l.length<n)(aq:l.length<1000000000):Hg n [gQ l]=some (.aR [(if l.all Y.b then jf else fo).d,R (if l.all Y.b then 0 else 13)]):=by
 have aj:=dm (f:=Hf n) l (λi (s:Unit)=>[gQ l,R l.length,R (i:Int),ax false,R 0,R 0]) (λr _=>if r.all Y.b then(Sum.inl [ax false,R 0,R 0]:List D⊕D)else .inr (.aR [fo.d,R 13])) (λ_ _=>True) (λ_ _=>by simp[Hf]) ?_ n 0 () trivial (by omega) (xaj _)
 .have bU:(R ((0:Nat):Int))=R 0:=rfl;rw[bU]at aj;have bB:bJ (gQ l)=some (R l.length):=by simp[gQ]
  simp only[Hg,aa0,bB,dS,aj,xam];by_cases h:l.all Y.b=true;.simp only[h,xav,qs];rfl
  simp only[h,xan,xaz,Fu]
 intro i a _ aG aj _;have:=IW aG;cases ao:a.b
 .right;simp[Hf,aj,this,cr (bt:=false) (i:=i) (by omega),ao];rfl
 left;exact⟨(),by simp[Hf,aj,this,cr (bt:=false) (i:=i) (by omega),ao],by simp[ao],trivial⟩
def awW(n:Nat)(l:List Y)(aM:l.length<n)(aq:l.length<1000000000):Gk n [gQ l]=some (ax (l.all Y.b)):=by
 have bB:bJ (gQ l)=some (R l.length):=by simp[gQ]
 have aj:=dm (f:=Gj n) l (λi (s:Unit)=>[gQ l,R (i:Int)]) (λr _=>if r.all Y.b then(Sum.inl []:List D⊕D)else .inr (ax false)) (λ_ _=>True) (λ_ _=>by simp[Gj,bB]) ?_ n 0 () trivial (by omega) (xaj _)
 .have bU:(R ((0:Nat):Int))=R 0:=rfl;rw[bU]at aj;simp only[Gk,aav,dS,aj,xam];by_cases h:l.all Y.b=true;.simp only[h,xav,qs,dS]
  simp only[h,xan,xaz,Fu,dS]
 intro i a _ aG aj _;have:=IW aG;cases ao:a.b
 .right;simp[Gj,bB,aj,this,cr (bt:=false) (i:=i) (by omega),ao]
 left;exact⟨(),by simp[Gj,bB,aj,this,cr (bt:=false) (i:=i) (by omega),ao],by simp[ao],trivial⟩
def lk(a b:Int):Int:=if b<a then b else a
def fR(a b:Int):Int:=if b>a then b else a
def Nd(a b:Int):kq true [R a,R b]=some (R (fR a b)):=Re a b
def UM(a b:Int):kq false [R a,R b]=some (R (lk a b)):=ZM a b
theorem awX(a b c d:Int):kq true [R a,R b,R c,R d]=some (R (fR (fR (fR a b) c) d)):=rfl
theorem awY(a b c d:Int):kq false [R a,R b,R c,R d]=some (R (lk (lk (lk a b) c) d)):=rfl
def xT{x y:Int}(ah:-1048576<=x/\x<=1048576)(aK:-1048576<=y/\y<=1048576):-1099511627776<=x*y/\x*y<=1099511627776:=by
 have aa:x.natAbs<=1048576:=by omega
 have ae:y.natAbs<=1048576:=by omega
 have ay:(x*y).natAbs<=1048576*1048576:=by rw[Int.natAbs_mul];exact Nat.mul_le_mul aa ae
 omega
def Dz(a b:Y):Int:=lk (lk (lk (a.lo*b.lo) (a.lo*b.aj)) (a.aj*b.lo)) (a.aj*b.aj)
def DA(a b:Y):Int:=fR (fR (fR (a.lo*b.lo) (a.lo*b.aj)) (a.aj*b.lo)) (a.aj*b.aj)
def o7(op:Int)(a b:Y):Y×Int:=if op=15 then g8 (a.lo-b.aj) (a.aj-b.lo)else if op=14 then g8 (a.lo+b.lo) (a.aj+b.aj)else g8 (Dz a b) (DA a b)
def awZ(n:Nat)(op:Int)(a b:Y)(aG:a.kU)(ao:b.kU):z1 n [R op,a.d,b.d]=some (.aR [(o7 op a b).1.d,R (o7 op a b).2]):=by
 obtain⟨_,au,ba,cx⟩:=aG;obtain⟨_,fO,h5,kN⟩:=ao;have nH:IntKind.i64.wrap (-b.aj)=-b.aj:=wrap64 _ (by omega) (by omega);have yy:IntKind.i64.wrap (-b.lo)=-b.lo:=wrap64 _ (by omega) (by omega);by_cases aa:op=15
 .subst aa;have aP:a.lo+-b.aj=a.lo-b.aj:=by omega
  have a2:a.aj+-b.lo=a.aj-b.lo:=by omega
  simp(disch:=omega) [z1,LQ,o7,nH,yy,eZ,vM,aP,a2]
 by_cases ae:op=14;.subst ae;simp(disch:=omega) [z1,LQ,o7,eZ,vM]
 have gO:=xT (x:=a.lo) (y:=b.lo) (by omega) (by omega);have lu:=xT (x:=a.lo) (y:=b.aj) (by omega) (by omega);have IK:=xT (x:=a.aj) (y:=b.lo) (by omega) (by omega);have aw0:=xT (x:=a.aj) (y:=b.aj) (by omega) (by omega);simp(disch:=omega) [z1,LQ,o7,aa,ae,w6,vM,awX,awY,Dz,DA]
def aw1(n:Nat)(a b:Y)(aM:6<=n)(aG:a.kU)(ao:b.kU):Gm n [a.d,b.d]=some (.aR [R (Dz a b),R (DA a b)]):=by
 obtain⟨_,au,ba,cx⟩:=aG;obtain⟨_,fO,h5,kN⟩:=ao;have gO:=xT (x:=a.lo) (y:=b.lo) (by omega) (by omega);have lu:=xT (x:=a.lo) (y:=b.aj) (by omega) (by omega);have IK:=xT (x:=a.aj) (y:=b.lo) (by omega) (by omega);have aw0:=xT (x:=a.aj) (y:=b.aj) (by omega) (by omega);obtain⟨k,rfl⟩:∃k,n=k+4:=⟨n-4,by omega⟩;have o3:bj 4 (R 0)=some 0:=rfl;have eQ:bj 4 (R 1)=some 1:=rfl;have ez:bj 4 (R 2)=some 2:=rfl;have ho:bj 4 (R 3)=some 3:=rfl;unfold Dz DA;simp(disch:=omega) [Gm,aaw,w6,o3];generalize a.lo*b.lo=w at*;generalize a.lo*b.aj=x at*;generalize a.aj*b.lo=y at*;generalize a.aj*b.aj=z at*;have aDs:lk w x=lk w x:=rfl;have step:∀(p q:Int)(i j:Int)(r:Int),i+1=j->(bj 4 (R i)=some i.toNat)->i<4->0<=i->([[R w],[R x],[R y],[R z]]:List (List D))[i.toNat]?=some [R r]->Lz (k+4) [R p,R q,R i,.ak 1 [[R w],[R x],[R y],[R z]]]=some (.inl [R (lk p r),R (fR q r),R j,.ak 1 [[R w],[R x],[R y],[R z]]]):=by intro p q i j r ar aa ae ay a7;subst ar;simp(disch:=omega) [Lz,aa,ae,a7,Nd,UM,eZ]
 rw[k7,step w w 1 2 x rfl rfl (by omega) (by omega) rfl];simp only[dS];rw[k7,step _ _ 2 3 y rfl rfl (by omega) (by omega) rfl];simp only[dS];rw[k7,step _ _ 3 4 z rfl rfl (by omega) (by omega) rfl];simp only[dS];rw[k7];simp[Lz]
def Valid(t:Tm):Prop:=∃deep k:Int,(c9 t deep k).1=0
def Valid.Nf{t:Tm}(h:Valid t):ia t=0:=by
 obtain⟨deep,k,h⟩:=h;rw[vF]at h;split at h;.cases h
 split at h;.assumption
 rename_i an;simpa using an
def ad8:∀(l:List Tm)(deep k:Int),(fm l deep k).1=0->∀x∈l,Valid x
 |[],_,_,_,x,ah=>by cases ah
 |a::r,deep,k,h,x,ah=>by
  rw[fm]at h;split at h;.rename_i an;exact absurd h an
  rename_i an;rcases xap.1 ah with rfl|ah
  .exact⟨deep,k,by simpa using an⟩
  exact ad8 r deep _ h x ah
def Valid.fu{t x:Tm}(h:Valid t)(ah:x∈t.a4):Valid x:=by
 have hw:=h.Nf;obtain⟨deep,k,h⟩:=h;rw[vF]at h;split at h;.cases h
 split at h;.rename_i an;exact absurd hw an
 split at h;.cases h
 exact ad8 _ _ _ h x ah
def Valid.op{t:Tm}(h:Valid t):1<=t.op/\t.op<=18:=by
 have hw:=h.Nf;unfold ia at hw;split at hw;.cases hw
 rename_i an;unfold gm at an;refine xaY λaM=>?_;simp only[show¬(t.op=1\/t.op=2\/t.op=3\/t.op=4) by omega,show¬t.op=5 by omega,show¬(t.op=6\/t.op=7) by omega,show¬t.op=18 by omega,show(t.op<1\/t.op>18) by omega,xav,xaz]at an;exact an (by decide)
def ad9{t:Tm}(hw:ia t=0):¬(gm t.op).1<0/\¬((t.num<(if t.op=1 then-255 else 0))\/t.num>(if t.op=1 then 255 else if t.op=2 then 1 else 0))/\ ¬(if Dl t.op then t.name=⟨#[]⟩\/t.name.size>24 else t.name≠⟨#[]⟩)/\¬((t.a4.length:Int)<(gm t.op).1\/(t.a4.length:Int)>(gm t.op).2):=by
 unfold ia at hw;by_cases aa:(gm t.op).1<0;.rw[xaa aa]at hw;cases hw
 rw[xac aa]at hw;by_cases ae:(t.num<(if t.op=1 then-255 else 0))\/t.num>(if t.op=1 then 255 else if t.op=2 then 1 else 0);.rw[xaa ae]at hw;cases hw
 rw[xac ae]at hw;by_cases ay:(if Dl t.op then t.name=⟨#[]⟩\/t.name.size>24 else t.name≠⟨#[]⟩);.rw[xaa ay]at hw;cases hw
 rw[xac ay]at hw;by_cases a7:((t.a4.length:Int)<(gm t.op).1\/(t.a4.length:Int)>(gm t.op).2);.rw[xaa a7]at hw;cases hw
 exact⟨aa,ae,ay,a7⟩
def Valid.len{t:Tm}(h:Valid t):(gm t.op).1<=t.a4.length/\(t.a4.length:Int)<=(gm t.op).2:=by have:=(ad9 h.Nf).2.2.2;omega
def Valid.num{t:Tm}(h:Valid t):-255<=t.num/\t.num<=255/\(t.op≠1->0<=t.num/\t.num<=1)/\(t.op≠1->t.op≠2->t.num=0):=by
 have ae:=(ad9 h.Nf).2.1;by_cases bw:t.op=1;.simp only[bw,xav]at ae;exact⟨by omega,by omega,by omega,by omega⟩
 by_cases bO:t.op=2;.simp only[bw,bO,xav,xaz]at ae;exact⟨by omega,by omega,by omega,by omega⟩
 simp only[bw,bO,xaz]at ae;exact⟨by omega,by omega,by omega,by omega⟩
def gR(t:Tm)(l:List Y):Y×Int:=if 5<=t.op/\t.op<=9 then if l.all Y.b then(jf,0)else(fo,13)
 else match l with
  |[a,b,c]=>if(!a.b||(b.b !=c.b))then(fo,13)else if b.b then(jf,0)else g8 (lk b.lo c.lo) (fR b.aj c.aj)
  |[a,b]=>if t.op=10\/t.op=11 then if a.b !=b.b then(fo,13)else(jf,0)
   else if(a.b||b.b)then(fo,13)
   else if t.op=12\/t.op=13 then(jf,0)
   else if t.op=17 then(match t.a4[1]? with
    |some k=>if k.op≠1\/k.num<1 then(fo,2)else g8 0 (k.num-1)
    |none=>(fo,0))
   else o7 t.op a b
  |_=>(fo,0)
theorem vN{α:Type}{l:List α}(h:l.length=3):∃a b c,l=[a,b,c]:=by match l,h with|[a,b,c],_=>exact⟨a,b,c,rfl⟩
theorem qI{α:Type}{l:List α}(h:l.length=2):∃a b,l=[a,b]:=by match l,h with|[a,b],_=>exact⟨a,b,rfl⟩
theorem A5{op:Int}(h:op=18):gm op=(3,3):=by subst h;rfl
def xU{op:Int}(h:8<=op/\op<=17):gm op=(2,2):=by unfold gm;rw[xac (by omega),xac (by omega),xac (by omega),xac (by omega),xac (by omega)]
def aea{l:List Tm}{b:Bool}{t:Tm}(h:l[1]?=some t):bh 4 (cA 4 b (Tm.rows l)) (R 1)=some t.cells:=Tm.hz (i:=1) h
def Ng{l:List Y}{y:Y}(h:l[0]?=some y):bh 3 (gQ l) (R 0)=some y.cells:=IW (i:=0) h
def Nh{l:List Y}{y:Y}(h:l[1]?=some y):bh 3 (gQ l) (R 1)=some y.cells:=IW (i:=1) h
def aeb{l:List Y}{y:Y}(h:l[2]?=some y):bh 3 (gQ l) (R 2)=some y.cells:=IW (i:=2) h
set_option maxHeartbeats 1000000 in
def aw2(n:Nat)(t:Tm)(l:List Y)(aN:Valid t)(b5:l.length=t.a4.length)(dW:5<=t.op)(bG:∀y∈l,y.kU)(aM:100<n):zz n [t.d,gQ l]=some (.aR [(gR t l).1.d,R (gR t l).2]):=by
 have r7:=aN.op;have bB:=aN.len;have aY:=Tm.pF t;have b0:=Tm.rz t;have dt:=Tm.nd t;have iS:D.agg [ax false,R 0,R 0]=fo.d:=rfl;have kV:D.agg [ax true,R 0,R 0]=jf.d:=rfl;have al:=xU (op:=t.op);have vO:=A5 (op:=t.op);have aw3:l.length<=64:=by
  have:(gm t.op).2<=64:=by unfold gm;repeat(first|split|decide)
  omega
 have aJ:=awW n l (by omega) (by omega);by_cases aa:t.op<=9
 .have e:gR t l=if l.all Y.b then(jf,0)else(fo,13):=by unfold gR;rw[xaa ⟨dW,aa⟩]
  rw[e];have an:t.op=5\/t.op=6\/t.op=7\/t.op=8\/t.op=9:=by omega
  generalize t.op=op at*;generalize l.all Y.b=q at*;rcases an with rfl|rfl|rfl|rfl|rfl<;>simp[zz,LA,dt,aY,aJ,iS,kV]<;>cases q<;>simp
 by_cases ae:t.op=18;.rw[vO ae]at bB;obtain⟨a,b,c,rfl⟩:=vN (l:=l) (by simp at bB;omega);have fJ:=Ng (l:=[a,b,c]) rfl;have a9:=Nh (l:=[a,b,c]) rfl;have bk:=aeb (l:=[a,b,c]) rfl;unfold gR;generalize gQ [a,b,c]=L at*;rw[xac (by omega)];simp[zz,LA,dt,aY,ae,fJ,a9,bk,iS,kV,IV,Nd,UM];cases a.b<;>cases b.b<;>cases c.b<;>(try simp)
 have ay:10<=t.op/\t.op<=17:=by omega
 rw[al (by omega)]at bB;obtain⟨a,b,rfl⟩:=qI (l:=l) (by simp at bB;omega);have fJ:=Ng (l:=[a,b]) rfl;have a9:=Nh (l:=[a,b]) rfl;have A6:=bG a (by simp);have qJ:=bG b (by simp);have a1:=aw1 n a b (by omega) A6 qJ;obtain⟨_,au,ba,cx⟩:=A6;obtain⟨_,fO,h5,kN⟩:=qJ;unfold gR;generalize gQ [a,b]=L at*;rw[xac (by omega)];obtain⟨BV,cE,eI⟩:=qI (l:=t.a4) (by simp at bB;omega);have UN:=aea (l:=t.a4) (b:=t.nl) (t:=cE) (by rw[eI];rfl);have aw4:=(aN.fu (x:=cE) (by rw[eI];simp)).num;have s1:IntKind.i64.wrap (cE.num-1)=cE.num-1:=wrap64 _ (by omega) (by omega);have f5:ag false .sub (R cE.num) (R 1)=some (R (cE.num-1)):=qt (by omega) (by omega);have f1:ag false .add (R a.lo) (R b.lo)=some (R (a.lo+b.lo)):=eZ (by omega) (by omega);have f2:ag false .add (R a.aj) (R b.aj)=some (R (a.aj+b.aj)):=eZ (by omega) (by omega);have f3:ag false .sub (R a.lo) (R b.aj)=some (R (a.lo-b.aj)):=qt (by omega) (by omega);have f4:ag false .sub (R a.aj) (R b.lo)=some (R (a.aj-b.lo)):=qt (by omega) (by omega);have an:t.op=10\/t.op=11\/t.op=12\/t.op=13\/t.op=14\/t.op=15\/t.op=16\/t.op=17:=by omega
 have bV:(t.a4[1]?)=some cE:=by rw[eI];rfl
 generalize t.op=op at*;have aw5:∀x y:Int,g8 x y=g8 x y:=λ_ _=>rfl;rcases an with rfl|rfl|rfl|rfl|rfl|rfl|rfl|rfl<;>
  cases dB:a.b<;>cases gN:b.b<;>simp[zz,LA,dt,aY,b0,fJ,a9,UN,bV,iS,kV,IV,o7,f1,f2,f3,f4,f5,a1,dB,gN]
 all_goals (by_cases k0:cE.op=1<;>by_cases qY:cE.num<1<;>simp[k0,qY])
set_option maxHeartbeats 2000000 in
def aw6(n:Nat)(aw7 M:D)(t:Tm)(nx:Bool)(l:List Y)(aN:Valid t)(b5:l.length=t.a4.length)(dW:5<=t.op)(bG:∀y∈l,y.kU)(aM:100<n):o1 n [aw7,M,t.d,ax nx,gQ l]=some (.aR [(gR t l).1.d,R (gR t l).2]):=by
 have r7:=aN.op;have bB:=aN.len;have aY:=Tm.pF t;have b0:=Tm.rz t;have dt:=Tm.nd t;have iS:D.agg [ax false,R 0,R 0]=fo.d:=rfl;have kV:D.agg [ax true,R 0,R 0]=jf.d:=rfl;have al:=xU (op:=t.op);have vO:=A5 (op:=t.op);have aw3:l.length<=64:=by
  have:(gm t.op).2<=64:=by unfold gm;repeat(first|split|decide)
  omega
 have aJ:=awV n l (by omega) (by omega);by_cases aa:t.op<=9
 .have e:gR t l=if l.all Y.b then(jf,0)else(fo,13):=by unfold gR;rw[xaa ⟨dW,aa⟩]
  rw[e];have an:t.op=5\/t.op=6\/t.op=7\/t.op=8\/t.op=9:=by omega
  generalize t.op=op at*;generalize l.all Y.b=q at*;rcases an with rfl|rfl|rfl|rfl|rfl<;>simp[o1,tj,dt,aY,aJ,iS,kV]<;>cases q<;>simp
 by_cases ae:t.op=18;.rw[vO ae]at bB;obtain⟨a,b,c,rfl⟩:=vN (l:=l) (by simp at bB;omega);have fJ:=Ng (l:=[a,b,c]) rfl;have a9:=Nh (l:=[a,b,c]) rfl;have bk:=aeb (l:=[a,b,c]) rfl;have qJ:=(bG b (by simp)).1;unfold gR;generalize gQ [a,b,c]=L at*;rw[xac (by omega)];simp[o1,tj,dt,aY,ae,fJ,a9,bk,iS,kV,vM,Nd,UM];obtain⟨nC,aDt,aDu⟩:=b;cases a.b<;>cases nC<;>cases c.b<;>simp at qJ⊢;obtain⟨rfl,rfl⟩:=qJ;rfl
 have ay:10<=t.op/\t.op<=17:=by omega
 rw[al (by omega)]at bB;obtain⟨a,b,rfl⟩:=qI (l:=l) (by simp at bB;omega);have fJ:=Ng (l:=[a,b]) rfl;have a9:=Nh (l:=[a,b]) rfl;have A6:=bG a (by simp);have qJ:=bG b (by simp);have a1:=λop=>awZ n op a b A6 qJ;obtain⟨_,au,ba,cx⟩:=A6;obtain⟨_,fO,h5,kN⟩:=qJ;unfold gR;generalize gQ [a,b]=L at*;rw[xac (by omega)];obtain⟨BV,cE,eI⟩:=qI (l:=t.a4) (by simp at bB;omega);have UN:=aea (l:=t.a4) (b:=t.nl) (t:=cE) (by rw[eI];rfl);have aw4:=(aN.fu (x:=cE) (by rw[eI];simp)).num;have s1:IntKind.i64.wrap (cE.num-1)=cE.num-1:=wrap64 _ (by omega) (by omega);have f5:ag false .sub (R cE.num) (R 1)=some (R (cE.num-1)):=qt (by omega) (by omega);have f1:ag false .add (R a.lo) (R b.lo)=some (R (a.lo+b.lo)):=eZ (by omega) (by omega);have f2:ag false .add (R a.aj) (R b.aj)=some (R (a.aj+b.aj)):=eZ (by omega) (by omega);have f3:ag false .sub (R a.lo) (R b.aj)=some (R (a.lo-b.aj)):=qt (by omega) (by omega);have f4:ag false .sub (R a.aj) (R b.lo)=some (R (a.aj-b.lo)):=qt (by omega) (by omega);have an:t.op=10\/t.op=11\/t.op=12\/t.op=13\/t.op=14\/t.op=15\/t.op=16\/t.op=17:=by omega
 have bV:(t.a4[1]?)=some cE:=by rw[eI];rfl
 generalize t.op=op at*;have aw5:∀x y:Int,g8 x y=g8 x y:=λ_ _=>rfl;rcases an with rfl|rfl|rfl|rfl|rfl|rfl|rfl|rfl<;>
  cases dB:a.b<;>cases gN:b.b<;>simp[o1,tj,dt,aY,b0,fJ,a9,UN,bV,iS,kV,vM,a1,f1,f2,f3,f4,f5,dB,gN]
 all_goals (by_cases k0:cE.op=1<;>by_cases qY:cE.num<1<;>simp[k0,qY])
def eh(vs:List V)(x:ByteArray):Option Nat:=vs.findIdx? (λv=>decide (v.name=x))
def xV{vs:List V}{x:ByteArray}{i:Nat}(h:eh vs x=some i):∃v,vs[i]?=some v/\v.name=x/\i<vs.length:=by obtain⟨aa,ae,_⟩:=xbn.1 h;exact⟨_,xab aa,by simpa using ae,aa⟩
theorem V.vP(v:V):v.cells[0]?=some (aT v.name)/\v.cells[1]?=some (ax v.bool)/\v.cells[2]?=some (R v.lo)/\v.cells[3]?=some (R v.aj):=⟨rfl,rfl,rfl,rfl⟩
def gS{l:List V}{i:Nat}{v:V}(h:l[i]?=some v):bh 4 (bd l) (R (i:Int))=some v.cells:=by simp[bd,h]
def eT(l:List V):bJ (bd l)=some (R l.length):=by simp[bd]
theorem V.aw8(v:V):aQ true 4 0 v.cells=some v.d/\a6 4 v.d=true/\ab v.d 0=aT v.name:=⟨rfl,rfl,rfl⟩
def tG:List V->Nat->List (Value×D)->List (Value×D)
 |[],_,M=>M|v::r,i,M=>tG r (i+1) (if(gB M v.name).isSome then M else(rf .string M (aT v.name) (R i)).getD [])
def UO:∀(r:List V)(i:Nat)(M:List (Value×D)),lK M->lK (tG r i M)/\∀x,gB (tG r i M) x=match gB M x with|some d=>some d|none=>(eh r x).map λj=>R ((i+j:Nat):Int)
 |[],i,M,h=>⟨h,λx=>by simp only[tG,eh,List.findIdx?_nil];cases gB M x<;>rfl⟩
 |v::r,i,M,h=>by
  rw[tG];have e:∀x,eh (v::r) x=if v.name=x then some 0 else(eh r x).map (·+1):=by intro x;simp[eh,xbN]
  by_cases aE:(gB M v.name).isSome
  .rw[xaa aE];obtain⟨aa,ae⟩:=UO r (i+1) M h;refine⟨aa,λx=>?_⟩;rw[ae x,e x];cases ah:gB M x with
   |some d=>rfl
   |none=>
    have cv:¬v.name=x:=by rintro rfl;simp[ah]at aE
    simp only[cv,xaz,Option.map_map]
    congr 1
    funext j
    simp only[Function.comp]
    congr 2
    omega
  rw[xac aE];obtain⟨ey,eQ,ez,ho,_⟩:=Lm h v.name (R i);rw[eQ,xbk];obtain⟨aa,ae⟩:=UO r (i+1) ey ez;refine⟨aa,λx=>?_⟩;rw[ae x,ho x,e x];by_cases ah:x=v.name
  .subst ah;have aM:gB M v.name=none:=by simpa using aE
   simp[aM]
  have cv:¬v.name=x:=λh=>ah h.symm;simp only[ah,cv,xaz];cases bG:gB M x with
  |some d=>rfl
  |none=>
   simp only[Option.map_map]
   congr 1
   funext j
   simp only[Function.comp]
   congr 2
   omega
def Ni(M:List (Value×D))(vs:List V):Prop:=lK M/\∀x,gB M x=(eh vs x).map λ(j:Nat)=>R (j:Int)
def aec(n:Nat)(vs:List V)(aM:vs.length<n)(aq:vs.length<1000000000000):∃M,zZ n [bd vs]=some (.mp M)/\Ni M vs:=by
 have ar:lK []:=by intro e he;cases he
 obtain⟨aa,ae⟩:=UO vs 0 [] ar;refine⟨tG vs 0 [],?_,aa,λx=>by rw[ae x];simp only[gB,xaB]⟩;have aj:=dm (f:=He n) vs (λi (M:List (Value×D))=>[bd vs,R vs.length,R (i:Int),.mp M]) (λr M=>(Sum.inl [.mp (tG r (vs.length-r.length) M)]:List D⊕D)) (λi M=>lK M) (λM _=>by simp[He,tG]) ?_ n 0 [] ar (by omega) (xaj _)
 .have bU:(R ((0:Nat):Int))=R 0:=rfl;rw[bU]at aj;simp[zZ,aaY,eT,aj]
 intro i a M aG aj dD;left;have e:vs.length-(a::vs.drop (i+1)).length=i:=by simp;omega
 have dq:vs.length-(vs.drop (i+1)).length=i+1:=by simp;omega
 have ay:=Cl dD (z:= .int .i64 0) (x:=a.name);have ac:=a.aw8;cases bG:gB M a.name with|some d=>rw[bG]at ay;refine⟨M,by simp[He,aj,gS aG,ac,ay,cr (bt:=false) (i:=i) (by omega)],?_,dD⟩;rw[e,tG,bG,dq];rfl|none=>rw[bG]at ay;obtain⟨ey,eQ,ez,ho,_⟩:=Lm dD a.name (R i);refine⟨ey,by simp[He,aj,gS aG,ac,ay,eQ,cr (bt:=false) (i:=i) (by omega)],?_,ez⟩;rw[e,tG,bG,dq];simp only[xce,xan,xaz,eQ,xbk]
def UP(n:Nat)(vs:List V)(x:ByteArray)(aM:vs.length<n)(aq:vs.length<1000000000000):uX n [bd vs,aT x]=some (R (match eh vs x with|some i=>(i:Int)|none=>-1)):=by
 have aj:=dm (f:=Gi n) vs (λi (_:Unit)=>[bd vs,aT x,R (i:Int)]) (λr _=>match eh r x with|some j=>(Sum.inr (R ((vs.length-r.length+j:Nat):Int)):List D⊕D)|none=> .inl []) (λ_ _=>True) (λ_ _=>by simp[Gi,eT,eh]) ?_ n 0 () trivial (by omega) (xaj _);.have bU:(R ((0:Nat):Int))=R 0:=rfl;rw[bU]at aj;simp only[uX,aau,aj,xam,dS];cases eh vs x<;>simp
 intro i a _ aG aj _;have e:vs.length-(a::vs.drop (i+1)).length=i:=by simp;omega
 have dq:vs.length-(vs.drop (i+1)).length=i+1:=by simp;omega
 have nB:eh (a::vs.drop (i+1)) x=if a.name=x then some 0 else(eh (vs.drop (i+1)) x).map (·+1):=by simp[eh,xbN]
 have ac:=a.vP;by_cases ah:a.name=x;.right;rw[nB,xaa ah,e];simp[Gi,eT,aj,gS aG,ac,ah]
 left;refine⟨(),by simp[Gi,eT,aj,gS aG,ac,ah,cr (bt:=false) (i:=i) (by omega)],?_,trivial⟩;rw[nB,xac ah,e,dq];cases eh (vs.drop (i+1)) x with|none=>rfl|some j=>simp;omega
def kD(vs:List V)(nx:Bool)(t:Tm):Y×Int:=if t.op=1 then g8 t.num t.num else if t.op=2 then(jf,0)
 else match eh vs t.name with
  |none=>(fo,12)
  |some i=>if t.op=4/\nx=false then(fo,24)else match vs[i]? with
   |some v=>if v.bool then(jf,0)else g8 v.lo v.aj
   |none=>(fo,12)
mutual
def dQ(vs:List V)(nx:Bool):Tm->Y×Int
 | .mk o n s b ks=>if o<=4 then kD vs nx (.mk o n s b ks)else if(ed vs nx ks).2≠0 then(fo,(ed vs nx ks).2)else gR (.mk o n s b ks) (ed vs nx ks).1
def ed(vs:List V)(nx:Bool):List Tm->List Y×Int
 |[]=>([],0)|t::r=>if(dQ vs nx t).2≠0 then([],(dQ vs nx t).2)else if(ed vs nx r).2≠0 then([],(ed vs nx r).2)else((dQ vs nx t).1::(ed vs nx r).1,0)
end
theorem n1(vs:List V)(nx:Bool)(t:Tm):dQ vs nx t=if t.op<=4 then kD vs nx t else if(ed vs nx t.a4).2≠0 then(fo,(ed vs nx t.a4).2)else gR t (ed vs nx t.a4).1:=by cases t;rw[dQ];rfl
def UQ:jf.kU:=⟨by simp[jf],by simp[jf],by simp[jf],by simp[jf]⟩
def aw9{vs:List V}{nx:Bool}{t:Tm}(h:(kD vs nx t).2=0):(kD vs nx t).1.kU:=by
 unfold kD at*;by_cases aa:t.op=1;.rw[xaa aa]at*;exact Dy h
 rw[xac aa]at*;by_cases ae:t.op=2;.rw[xaa ae];exact UQ
 rw[xac ae]at*;cases aj:eh vs t.name with
 |none=>simp[aj]at h
 |some i=>
  simp only[aj]at h⊢;by_cases ay:t.op=4/\nx=false;.simp[ay]at h
  rw[xac ay]at*;cases aN:vs[i]? with
  |none=>simp[aN]at h
  |some v=>
   simp only[aN]at h⊢;by_cases ao:v.bool=true;.rw[xaa ao];exact UQ
   rw[xac ao]at*;exact Dy h
def axa{op:Int}{a b:Y}(h:(o7 op a b).2=0):(o7 op a b).1.kU:=by
 unfold o7 at*;split at h;.rename_i aa;rw[xaa aa];exact Dy h
 rename_i aa;split at h;.rename_i ae;rw[xac aa,xaa ae];exact Dy h
 rename_i ae;rw[xac aa,xac ae];exact Dy h
def tH{c:Prop}[Decidable c]{x y:Y×Int}(ah:x.2=0->x.1.kU\/x.1=fo)(aK:y.2=0->y.1.kU\/y.1=fo):(if c then x else y).2=0->(if c then x else y).1.kU\/(if c then x else y).1=fo:=by
 split;.exact ah
 exact aK
def axb{t:Tm}{l:List Y}:(gR t l).2=0->(gR t l).1.kU\/(gR t l).1=fo:=by
 have z:∀e:Int,((fo,e):Y×Int).2=0->((fo,e):Y×Int).1.kU\/((fo,e):Y×Int).1=fo:=λ_ _=> .inr rfl;have y:((jf,0):Y×Int).2=0->((jf,0):Y×Int).1.kU\/((jf,0):Y×Int).1=fo:=λ_=> .inl UQ;have sp:∀a b:Int,(g8 a b).2=0->(g8 a b).1.kU\/(g8 a b).1=fo:=λa b h=> .inl (Dy h);unfold gR;refine tH (tH y (z _)) ?_;split
 .exact tH (z _) (tH y (sp _ _))
 .refine tH (tH (z _) y) (tH (z _) (tH y (tH ?_ (λh=> .inl (axa h)))));split;.exact tH (z _) (sp _ _)
  exact z _
 exact z _
def axc:fo.kU:=⟨by simp[fo],by simp[fo],by simp[fo],by simp[fo]⟩
def axd(vs:List V)(nx:Bool)(t:Tm)(h:(dQ vs nx t).2=0):(dQ vs nx t).1.kU:=by
 rw[n1]at*;split at h;.rename_i an;rw[xaa an];exact aw9 h
 rename_i an;rw[xac an];split at h;.rename_i bD;exact absurd h bD
 rename_i bD;rw[xac bD];rcases axb h with aa|aa
 .exact aa
 rw[aa];exact axc
def DB(vs:List V)(nx:Bool):∀(l:List Tm),(ed vs nx l).2=0->(ed vs nx l).1.length=l.length/\∀y∈(ed vs nx l).1,y.kU
 |[],_=>⟨rfl,by intro y aK;cases aK⟩
 |t::r,h=>by
  rw[ed]at*;by_cases aa:(dQ vs nx t).2=0
  case neg=>rw[xaa aa]at h;exact absurd h aa
  rw[xac (by simpa using aa)]at*;by_cases ae:(ed vs nx r).2=0
  case neg=>rw[xaa ae]at h;exact absurd h ae
  rw[xac (by simpa using ae)];obtain⟨a9,bk⟩:=DB vs nx r ae;refine⟨by simp[a9],λy aK=>?_⟩;rcases xap.1 aK with rfl|aK
  .exact axd vs nx t aa
  exact bk y aK
def axe(n:Nat)(vs:List V)(M:List (Value×D))(t:Tm)(nx:Bool)(L:D)(dD:Ni M vs)(a7:t.op<=4)(aa:1<=t.op):o1 n [bd vs,.mp M,t.d,ax nx,L]=some (.aR [(kD vs nx t).1.d,R (kD vs nx t).2]):=by
 have aY:=Tm.pF t;have bw:=Tm.sZ t;have bO:=Tm.s3 t;have dt:=Tm.nd t;have iS:D.agg [ax false,R 0,R 0]=fo.d:=rfl;have kV:D.agg [ax true,R 0,R 0]=jf.d:=rfl;have aq:=Cl dD.1 (z:= .int .i64 0) (x:=t.name);rw[dD.2]at aq;unfold kD;have an:t.op=1\/t.op=2\/t.op=3\/t.op=4:=by omega
 have sR:mH (.mp M)=some M:=rfl;generalize t.op=op at*;rcases an with rfl|rfl|rfl|rfl
 .simp[o1,tj,dt,aY,bw,iS,kV,vM]
 .simp[o1,tj,dt,aY,bw,iS,kV,vM]
 .cases aj:eh vs t.name with|none=>rw[aj]at aq;simp[o1,tj,dt,aY,bw,bO,iS,kV,sR,aq]|some i=>rw[aj]at aq;obtain⟨v,v1,v2,rn⟩:=xV aj;simp[o1,tj,dt,aY,bw,bO,iS,kV,sR,aq,v1,gS v1,v.vP,vM];cases v.bool<;>simp
 cases aj:eh vs t.name with|none=>rw[aj]at aq;simp[o1,tj,dt,aY,bw,bO,iS,kV,sR,aq]|some i=>rw[aj]at aq;obtain⟨v,v1,v2,rn⟩:=xV aj;simp[o1,tj,dt,aY,bw,bO,iS,kV,sR,aq,v1,gS v1,v.vP,vM];cases v.bool<;>cases nx<;>simp
def Valid.leaf{t:Tm}(h:Valid t)(a7:t.op<=4):t.a4=[]:=by
 have aa:=h.op;have ae:=h.len;have:gm t.op=(0,0):=by unfold gm;rw[xaa (by omega)]
 rw[this]at ae;exact xaJ (by have:=ae.2;simp only at this;omega)
def Valid.DC{t:Tm}(h:Valid t):t.a4.length<=64:=by
 have ae:=h.len;have:(gm t.op).2<=64:=by unfold gm;repeat(first|split|decide)
 omega
def aed{a b:Nat}(h:a+b<=1000):cW (a+b) 24=true:=gd (by omega) (by omega)
def aee(vs:List V)(M:List (Value×D))(nx:Bool)(dD:Ni M vs):∀(n:Nat)(t:Tm),t.bp+200<n->t.cB->Valid t->rU n [bd vs,.mp M,t.d,ax nx]=some (.aR [(dQ vs nx t).1.d,R (dQ vs nx t).2])
 |0,t,h,_,_=>absurd h (xaI _)
 |n+1,t,aM,bs,aN=>by
  rw[n1];have iS:D.agg [ax false,R 0,R 0]=fo.d:=rfl;have xW:=aN.DC;have aq:=dm (f:=CS (rU n) n) t.a4 (λi (s:List Y)=>[bd vs,.mp M,ax nx,cA 4 t.nl (Tm.rows t.a4),R t.a4.length,R (i:Int),R t.op,R t.num,aT t.name,cA 4 t.nl (Tm.rows t.a4),ax false,R 0,R 0,gQ s]) (λr s=>if(ed vs nx r).2=0 then(Sum.inl [bd vs,.mp M,ax nx,R t.op,R t.num,aT t.name,cA 4 t.nl (Tm.rows t.a4),ax false,R 0,R 0,gQ (s++(ed vs nx r).1)]:List D⊕D)else .inr (.aR [fo.d,R (ed vs nx r).2])) (λi s=>s.length=i) ?_ ?_ n 0 [] rfl (by omega) (xaj _)
  .have bU:(R ((0:Nat):Int))=R 0:=rfl;have aP:gQ []= .ak 3 []:=rfl;rw[bU,aP]at aq;simp only[rU,Sl,Tm.nd,Tm.pF,Tm.sZ,Tm.s3,Tm.rz,qq,ZL,Tm.Ck,dS,aq,xam,xaH];by_cases ar:(ed vs nx t.a4).2=0
   .obtain⟨a9,bk⟩:=DB vs nx t.a4 ar;have a2:∀l:List Y,D.ak 3 (af (gQ l))=gQ l:=λ_=>rfl;have axf:=λa7=>axe n vs M t nx (gQ (ed vs nx t.a4).1) dD a7 aN.op.1;have UR:=λbZ=>aw6 n (bd vs) (.mp M) t nx _ aN a9 bZ bk (by omega);by_cases a7:t.op<=4
    .simp[ar,a2,axf a7,a7]
    simp[ar,a2,UR (by omega),a7]
   have a7:¬t.op<=4:=λa7=>ar (by rw[aN.leaf a7];rfl);simp[ar,a7]
  .intro s aE;simp[CS,ed,gQ]
  intro i a s aG aj aE;have hm:=xad aG;have bP:=Tm.jS hm;have aw:=aee vs M nx dD n a (by omega) (bs.fu hm) (aN.fu hm);have eo:cW (s.length+1) 24=true:=aed (by omega);have EG:CS (rU n) n [bd vs,.mp M,ax nx,cA 4 t.nl (Tm.rows t.a4),R t.a4.length,R (i:Int),R t.op,R t.num,aT t.name,cA 4 t.nl (Tm.rows t.a4),ax false,R 0,R 0,gQ s]=
    if(dQ vs nx a).2=0 then some (.inl [bd vs,.mp M,ax nx,cA 4 t.nl (Tm.rows t.a4),R t.a4.length,R ((i+1:Nat):Int),R t.op,R t.num,aT t.name,cA 4 t.nl (Tm.rows t.a4),ax false,R 0,R 0,gQ (s++[(dQ vs nx a).1])])
    else some (.inr (.inr (.aR [fo.d,R (dQ vs nx a).2]))):=by
   by_cases ar:(dQ vs nx a).2=0;.simp[CS,aj,Tm.hz aG,aw,ar,cr (bt:=false) (i:=i) (by omega),gQ,eo];simp[Y.cells]
   .simp[CS,aj,Tm.hz aG,aw,ar,iS]
  rw[EG];simp only[ed];by_cases ar:(dQ vs nx a).2=0
  .left;refine⟨s++[(dQ vs nx a).1],by simp[ar],?_,by simp[aE]⟩;by_cases aa:(ed vs nx (t.a4.drop (i+1))).2=0;.simp[ar,aa]
   simp[ar,aa]
  right;simp[ar]
def aef(vs:List V)(nx:Bool)(mw:vs.length<1000000000000):∀(n:Nat)(t:Tm),t.bp+200+vs.length<n->t.cB->Valid t->mP n [bd vs,t.d,ax nx]=some (.aR [(dQ vs nx t).1.d,R (dQ vs nx t).2])
 |0,t,h,_,_=>absurd h (xaI _)
 |n+1,t,aM,bs,aN=>by
  rw[n1];have iS:D.agg [ax false,R 0,R 0]=fo.d:=rfl;have kV:D.agg [ax true,R 0,R 0]=jf.d:=rfl;have xW:=aN.DC;have dW:=aN.op;by_cases a7:t.op<=4
  .rw[xaa a7];have aY:=Tm.pF t;have bw:=Tm.sZ t;have bO:=Tm.s3 t;have b0:=Tm.rz t;have dt:=Tm.nd t;unfold kD;have ah:=UP n vs t.name (by omega) mw;have an:t.op=1\/t.op=2\/t.op=3\/t.op=4:=by omega
   generalize t.op=op at*;rcases an with rfl|rfl|rfl|rfl
   .simp[mP,u3,dt,aY,bw,iS,kV,IV]
   .simp[mP,u3,dt,aY,bw,iS,kV]
   .cases aj:eh vs t.name with
    |none=>rw[aj]at ah;simp[mP,u3,dt,aY,bw,bO,b0,iS,kV,ah]
    |some i=>
     rw[aj]at ah;obtain⟨v,v1,v2,rn⟩:=xV aj;have kJ:¬((i:Int)<0):=by omega
     simp[mP,u3,dt,aY,bw,bO,b0,iS,kV,ah,kJ,v1,gS v1,v.vP,IV];cases v.bool<;>simp
   cases aj:eh vs t.name with
   |none=>rw[aj]at ah;simp[mP,u3,dt,aY,bw,bO,b0,iS,kV,ah]
   |some i=>
    rw[aj]at ah;obtain⟨v,v1,v2,rn⟩:=xV aj;have kJ:¬((i:Int)<0):=by omega
    simp[mP,u3,dt,aY,bw,bO,b0,iS,kV,ah,kJ,v1,gS v1,v.vP,IV];cases v.bool<;>cases nx<;>simp
  rw[xac a7];have aq:=dm (f:=CA (mP n) n) t.a4 (λi (s:List Y)=>[bd vs,ax nx,R (i:Int),R t.op,R t.num,aT t.name,cA 4 t.nl (Tm.rows t.a4),ax false,R 0,R 0,gQ s]) (λr s=>if(ed vs nx r).2=0 then(Sum.inl [R t.op,R t.num,aT t.name,cA 4 t.nl (Tm.rows t.a4),ax false,R 0,R 0,gQ (s++(ed vs nx r).1)]:List D⊕D)else .inr (.aR [fo.d,R (ed vs nx r).2])) (λi s=>s.length=i) ?_ ?_ n 0 [] rfl (by omega) (xaj _)
  .have bU:(R ((0:Nat):Int))=R 0:=rfl;have aP:gQ []= .ak 3 []:=rfl;rw[bU,aP]at aq;have fO:(t.op==1)=false:=by simp;omega
   have h5:(t.op==2)=false:=by simp;omega
   have kN:(t.op==3)=false:=by simp;omega
   have qK:(t.op==4)=false:=by simp;omega
   simp only[mP,u3,Tm.nd,Tm.pF,Tm.sZ,Tm.s3,Tm.rz,qq,Cf,fO,h5,kN,qK,lF,xan,xaz,dS,qs,pE,ru,aq,xam,xaH];by_cases ar:(ed vs nx t.a4).2=0;.obtain⟨a9,bk⟩:=DB vs nx t.a4 ar;have a2:∀l:List Y,D.ak 3 (af (gQ l))=gQ l:=λ_=>rfl;have UR:=aw2 n t _ aN a9 (by omega) bk (by omega);simp[ar,a2,UR]
   simp[ar]
  .intro s aE;simp[CA,ed,gQ]
  intro i a s aG aj aE;have hm:=xad aG;have bP:=Tm.jS hm;have aw:=aef vs nx mw n a (by omega) (bs.fu hm) (aN.fu hm);have eo:cW (s.length+1) 24=true:=aed (by omega);have EG:CA (mP n) n [bd vs,ax nx,R (i:Int),R t.op,R t.num,aT t.name,cA 4 t.nl (Tm.rows t.a4),ax false,R 0,R 0,gQ s]=
    if(dQ vs nx a).2=0 then some (.inl [bd vs,ax nx,R ((i+1:Nat):Int),R t.op,R t.num,aT t.name,cA 4 t.nl (Tm.rows t.a4),ax false,R 0,R 0,gQ (s++[(dQ vs nx a).1])])
    else some (.inr (.inr (.aR [fo.d,R (dQ vs nx a).2]))):=by
   by_cases ar:(dQ vs nx a).2=0;.simp[CA,aj,Tm.hz aG,aw,ar,cr (bt:=false) (i:=i) (by omega),gQ,eo];simp[Y.cells]
   .simp[CA,aj,Tm.hz aG,aw,ar,iS]
  rw[EG];simp only[ed];by_cases ar:(dQ vs nx a).2=0
  .left;refine⟨s++[(dQ vs nx a).1],by simp[ar],?_,by simp[aE]⟩;by_cases aa:(ed vs nx (t.a4.drop (i+1))).2=0;.simp[ar,aa]
   simp[ar,aa]
  right;simp[ar]
def jI(vs:List V)(nx:Bool)(t:Tm):Y×Int:=if(c9 t 1 0).1≠0 then(fo,(c9 t 1 0).1)else dQ vs nx t
def aeg(n:Nat)(vs:List V)(t:Tm)(nx:Bool)(aM:t.bp+200+vs.length<n)(bs:t.cB)(mw:vs.length<1000000000000):xt n [bd vs,t.d,ax nx]=some (.aR [(jI vs nx t).1.d,R (jI vs nx t).2]):=by
 have an:=MY n t (by omega) bs;obtain⟨M,gO,lu⟩:=aec n vs (by omega) mw;have iS:D.agg [ax false,R 0,R 0]=fo.d:=rfl;unfold jI;by_cases ar:(c9 t 1 0).1=0
 .have aJ:=aee vs M nx lu n t (by omega) bs ⟨1,0,ar⟩;simp[xt,Sm,an,ar,gO,aJ]
 simp[xt,Sm,an,ar,iS]
def aeh(n:Nat)(vs:List V)(t:Tm)(nx:Bool)(aM:t.bp+200+vs.length<n)(bs:t.cB)(mw:vs.length<1000000000000):xk n [bd vs,t.d,ax nx]=some (.aR [(jI vs nx t).1.d,R (jI vs nx t).2]):=by
 have an:=Uh n t (by omega) bs;have iS:D.agg [ax false,R 0,R 0]=fo.d:=rfl;unfold jI;by_cases ar:(c9 t 1 0).1=0
 .have aJ:=aef vs nx mw n t (by omega) bs ⟨1,0,ar⟩;simp[xk,RU,an,ar,aJ]
 simp[xk,RU,an,ar,iS]
end Go.Am
