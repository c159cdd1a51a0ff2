/- The laws, on data. No condition. -/
import Derived.Test.YthnecpgodmolaaaGreatDoorEngD
import Derived.Test.YthnecpgodmolaaaGreatDoorCode
import Derived.Test.YthnecpgodmolaaaGreatDoorEngS
set_option linter.all false
set_option linter.unnecessarySimpa false
namespace Go.Am
def hk(op:Int):Int×Int:=if op=1\/op=2\/op=3\/op=4 then(0,0)else if op=5 then(1,1)else if op=6\/op=7 then(1,64)else if op=18 then(3,3)else if op<1\/op>18 then(-1,-1)else(2,2)
def Dy(op:Int):Bool:=op==3||op==4
def iu(t:Tm):Int:=if(hk t.op).1<0 then 11
 else if(t.num<(if t.op=1 then-255 else 0))\/t.num>(if t.op=1 then 255 else if t.op=2 then 1 else 0)then 2
 else if(if Dy t.op then t.name=⟨#[]⟩\/t.name.size>24 else t.name≠⟨#[]⟩)then 12
 else if(t.aU.length:Int)<(hk t.op).1\/(t.aU.length:Int)>(hk t.op).2 then 3 else 0
def asS(n:Nat)(op:Int):Gp n [J op]=some (.aZ [J (hk op).1,J (hk op).2]):=by
 rcases LJ op with rfl|rfl|rfl|rfl|rfl|rfl|rfl|rfl|rfl|rfl|rfl|rfl|rfl|rfl|rfl|rfl|rfl|rfl|h
 case inr.inr.inr.inr.inr.inr.inr.inr.inr.inr.inr.inr.inr.inr.inr.inr.inr.inr=>
  have e:∀k:Int,1<=k->k<=18->(op==k)=false:=λk ab af=>by simp;omega
  have aX:hk op=(-1,-1):=by unfold hk;repeat(first|rw[xac (by omega)]|rw[xad (by omega)])
  simp[Gp,Z5,e,aX]
 all_goals rfl
def asT(n:Nat)(op:Int):CZ n [J op]=some (.aZ [J (hk op).1,J (hk op).2]):=by
 rcases LJ op with rfl|rfl|rfl|rfl|rfl|rfl|rfl|rfl|rfl|rfl|rfl|rfl|rfl|rfl|rfl|rfl|rfl|rfl|h
 case inr.inr.inr.inr.inr.inr.inr.inr.inr.inr.inr.inr.inr.inr.inr.inr.inr.inr=>
  have e:∀k:Int,1<=k->k<=18->(op==k)=false:=λk ab af=>by simp;omega
  have aX:hk op=(-1,-1):=by unfold hk;repeat(first|rw[xac (by omega)]|rw[xad (by omega)])
  rcases h with h|h;.simp[CZ,Td,e,aX,h]
  have:¬op<1:=by omega
  simp[CZ,Td,e,aX,h,this]
 all_goals rfl
def asU(s:ByteArray):decide (s=⟨#[]⟩)=decide ((s.size:Int)<1):=by
 have:s=⟨#[]⟩↔(s.size:Int)<1:=by
  constructor;.rintro rfl;decide
  intro h;have:s.size=0:=by omega
  cases s with|mk a=>congr;exact xbk this
 simp[this]
def asV(n:Nat)(t:Tm):Gq n [t.d]=some (J (iu t)):=by
 cases t with|mk op num s b ks=>
 have ak:=asS n op;have jH:a6 4 (Tm.d (.mk op num s b ks))=true:=Tm.oY _;have bE:ad (Tm.d (.mk op num s b ks)) 0=J op:=rfl;have aO:ad (Tm.d (.mk op num s b ks)) 1=J num:=rfl;have aX:ad (Tm.d (.mk op num s b ks)) 2=aC s:=rfl;have bQ:ad (Tm.d (.mk op num s b ks)) 3=cr 4 b (Tm.rows ks):=rfl;generalize Tm.d (.mk op num s b ks)=x at*;simp only[iu,Tm.op,Tm.num,Tm.name,Tm.aU];simp only[Gq,Z6,jH,bE,aO,aX,bQ,s3,ak,eN,RD,xbs,xcc,FK,l8];by_cases ar:(hk op).1<0
 .simp[ar]
 simp only[ar,xbF,xas,xaD,BN,eN,l8];simp[Dy];grind
def acK(n:Nat)(t:Tm)(deep:Int):zT n [t.d,J deep]=some (J (if deep>64 then 17 else iu t)):=by
 cases t with|mk op num s b ks=>
 have ak:=asT n op;have jH:a6 4 (Tm.d (.mk op num s b ks))=true:=Tm.oY _;have bE:ad (Tm.d (.mk op num s b ks)) 0=J op:=rfl;have aO:ad (Tm.d (.mk op num s b ks)) 1=J num:=rfl;have aX:ad (Tm.d (.mk op num s b ks)) 2=aC s:=rfl;have bQ:ad (Tm.d (.mk op num s b ks)) 3=cr 4 b (Tm.rows ks):=rfl;have cO:D.agg [J op,J num,aC s,cr 4 b (Tm.rows ks)]=(Tm.d (.mk op num s b ks)):=rfl;have aG:=asU s;simp only[iu,Tm.op,Tm.num,Tm.name,Tm.aU];simp only[zT,aa0,jH,bE,aO,aX,bQ,cO,s3,ak,eN,RD,xbs,xcc,FK,oW,l8];by_cases ay:deep>64
 .simp[ay]
 by_cases ar:(hk op).1<0;.simp[ar]
 simp only[ar,ay,xbF,xas,xaD,BN,eN,l8];simp[Dy];simp at aG;grind
mutual
def db:Tm->Int->Int->Int×Int
 | .mk op n s b ks,deep,k=>if deep>64 then(17,k+1)else if iu (.mk op n s b ks)≠0 then(iu (.mk op n s b ks),k+1)else if k+1>4096 then(4,k+1)else fH ks (deep+1) (k+1)
def fH:List Tm->Int->Int->Int×Int
 |[],_,k=>(0,k)|t::r,deep,k=>if(db t deep k).1≠0 then db t deep k else fH r deep (db t deep k).2
end
theorem vu(t:Tm)(deep k:Int):db t deep k=if deep>64 then(17,k+1)else if iu t≠0 then(iu t,k+1)else if k+1>4096 then(4,k+1)else fH t.aU (deep+1) (k+1):=by cases t;rw[db];rfl
def Dz(t:Tm):∀(deep k:Int),k+1<=(db t deep k).2/\((db t deep k).1=0->(db t deep k).2<=4096):=by
 refine Tm.ind (P:=λt=>∀(deep k:Int),k+1<=(db t deep k).2/\((db t deep k).1=0->(db t deep k).2<=4096)) ?_ t;intro t ih deep k;rw[vu];split;.simp
 split;.rename_i h;simp[h]
 split;.simp
 have key:∀(l:List Tm)(deep k:Int),(∀x∈l,∀(deep k:Int),k+1<=(db x deep k).2/\((db x deep k).1=0->(db x deep k).2<=4096))->k<=4096->k<=(fH l deep k).2/\((fH l deep k).1=0->(fH l deep k).2<=4096):=by
  intro l
  induction l with
  |nil=>intro deep k _ h;simp[fH,h]
  |cons a r mb=>
   intro deep k h ak;rw[fH];have ab:=h a (by simp) deep k;split
   .rename_i af;exact⟨by omega,λaw=>absurd aw af⟩
   rename_i af;simp only[ne_eq,Decidable.not_not]at af;have aw:=mb deep (db a deep k).2 (λx ag=>h x (by simp[ag])) (ab.2 af);exact⟨by omega,aw.2⟩
 have:=key t.aU (deep+1) (k+1) ih (by omega);exact this
def acL:∀(n:Nat)(t:Tm)(deep k:Int),t.bl<n->t.cc->0<=deep->deep<=65->0<=k->k<=4096->tC n [t.d,J deep,J k]=some (.aZ [J (db t deep k).1,J (db t deep k).2])
 |0,t,_,_,h,_,_,_,_,_=>absurd h (xay _)
 |n+1,t,deep,k,aN,bm,ab,af,aw,a4=>by
  have aT:=acK n t deep;rw[vu];simp[tC,Te,l9 (bt:=false) (i:=k) (by omega) (by omega),aT];by_cases ay:64<deep;.simp[ay]
  simp[ay];by_cases hw:iu t=0
  case neg=>simp[hw]
  simp[hw];by_cases an:4096<k+1;.simp[an]
  simp[an];have aq:=dJ (f:=MV (tC n) n) t.aU (λi s=>[J deep,J s,J (i:Int),J t.op,J t.num,aC t.name,cr 4 t.nl (Tm.rows t.aU)]) (λr (s:Int)=>if(fH r (deep+1) s).1=0 then(Sum.inl [J (fH r (deep+1) s).2]:List D⊕D)else .inr (.aZ [J (fH r (deep+1) s).1,J (fH r (deep+1) s).2])) (λi s=>0<=s/\s<=4096) ?_ ?_ n 0 (k+1) ⟨by omega,by omega⟩ (by have:=t.j6;omega) (xai _)
  .have bE:(J ((0:Nat):Int))=J 0:=rfl;rw[bE]at aq;rw[aq];simp only[xao,eN];by_cases ar:(fH t.aU (deep+1) (k+1)).1=0;.simp[ar]
   simp[ar]
  .intro s aG;simp[MV,fH]
  intro i a s aE ah aG;have hm:=xab aE;have bn:=Tm.ja hm;have b2:=bm.len;have av:=acL n a (deep+1) s (by omega) (bm.gl hm) (by omega) (by omega) aG.1 aG.2;have jD:=Dz a (deep+1) s;simp[MV,ah,Tm.gN aE,l9 (bt:=false) (i:=deep) (by omega) (by omega),av,b0 (bt:=false) (i:=i) (by omega),fH];by_cases ar:(db a (deep+1) s).1=0
  .left;simp only[ar];exact⟨(db a (deep+1) s).2,by simp,by simp,by omega,jD.2 ar⟩
  right;simp[ar]
def TZ(n:Nat)(t:Tm)(aN:t.bl<n)(bm:t.cc):vn n [t.d]=some (J (db t 1 0).1):=by have:=acL n t 1 0 aN bm (by omega) (by omega) (by omega) (by omega);simp[vn,aa1,this]
def asW(n:Nat)(t:Tm)(deep k w:Int)(ab:0<=k)(af:k<=4096):∃e,e=(if deep>64 then 17 else if iu t≠0 then iu t else if k+1>4096 then 4 else 0)/\Gr n [t.d,J deep,J k,J w]=some [ax (decide (e=0)),J (k+1),J e]:=by refine⟨_,rfl,?_⟩;have aT:=asV n t;simp[Gr,l9 (bt:=false) (i:=k) (by omega) (by omega),aT];by_cases bU:64<deep<;>by_cases bY:iu t=0<;>by_cases cv:4096<k+1<;>simp[bU,bY,cv]
def acM:∀(n:Nat)(t:Tm)(deep k w:Int),t.bl<n->t.cc->0<=deep->deep<=65->0<=k->k<=4096->uX n [t.d,J deep,J k,J w]=some [ax (decide ((db t deep k).1=0)),J (db t deep k).2,J (db t deep k).1]
 |0,t,_,_,_,h,_,_,_,_,_=>absurd h (xay _)
 |n+1,t,deep,k,w,aN,bm,ab,af,aw,a4=>by
  obtain⟨e,he,aT⟩:=asW n t deep k w aw a4;rw[vu];simp[uX,R7,aT];by_cases IE:e=0
  case neg=>simp[IE];grind
  have an:¬deep>64/\iu t=0/\¬k+1>4096:=by grind
  simp[IE,an];have aq:=dJ (f:=LY (uX n) n) t.aU (λi (s:Int×Int)=>[J deep,cr 4 t.nl (Tm.rows t.aU),J t.aU.length,J (i:Int),J s.1,J s.2]) (λr (s:Int×Int)=>if(fH r (deep+1) s.1).1=0 then(Sum.inl [J (fH r (deep+1) s.1).2,J 0]:List D⊕List D)else .inr [ax false,J (fH r (deep+1) s.1).2,J (fH r (deep+1) s.1).1]) (λi s=>0<=s.1/\s.1<=4096/\s.2=0) ?_ ?_ n 0 (k+1,0) ⟨by simp;omega,by simp;omega,rfl⟩ (by have:=t.j6;omega) (xai _)
  .have bE:(J ((0:Nat):Int))=J 0:=rfl;rw[bE]at aq;rw[aq];simp only[xao,eN];by_cases ar:(fH t.aU (deep+1) (k+1)).1=0;.simp[ar]
   simp[ar]
  .intro s aG;simp[LY,fH,aG.2.2]
  intro i a s aE ah aG;have hm:=xab aE;have bn:=Tm.ja hm;have b2:=bm.len;have av:=acM n a (deep+1) s.1 s.2 (by omega) (bm.gl hm) (by omega) (by omega) aG.1 aG.2.1;have jD:=Dz a (deep+1) s.1;simp[LY,ah,Tm.gN aE,l9 (bt:=false) (i:=deep) (by omega) (by omega),av,b0 (bt:=false) (i:=i) (by omega),fH];by_cases ar:(db a (deep+1) s.1).1=0
  .left;exact⟨(db a (deep+1) s.1).2,0,by simp[ar],by simp[ar],by omega,jD.2 ar,rfl⟩
  right;simp[ar]
def Ng(n:Nat)(t:Tm)(aN:t.bl<n)(bm:t.cc):ti n [t.d]=some (J (db t 1 0).1):=by have:=acM n t 1 0 0 aN bm (by omega) (by omega) (by omega) (by omega);simp[ti,Z7,this]
def asX{α:Type}(A B:List α)(z s:α):(((A++B++[z]).take (A.length+1)++(((A++B++[z]).drop A.length).take (B.length+1)).take (min ((((A++B++[z]).drop A.length).take (B.length+1)).length) B.length)++(A++B++[z]).drop (A.length+1+min ((((A++B++[z]).drop A.length).take (B.length+1)).length) B.length)).set A.length s)=A++s::B:=by
 have aO:(A++B++[z]).drop A.length=B++[z]:=by rw[xaT,List.drop_left]
 have aX:(B++[z]).take (B.length+1)=B++[z]:=xbK (by simp);rw[aO,aX];have bQ:min (B++[z]).length B.length=B.length:=by simp
 rw[bQ];have cO:(B++[z]).take B.length=B:=List.take_left;have eb:(A++B++[z]).drop (A.length+1+B.length)=[]:=xch (by simp;omega);rw[cO,eb,xaG];obtain⟨w,hw⟩:∃w,(A++B++[z]).take (A.length+1)=A++[w]:=by rw[xaT,List.take_append];cases B with|nil=>exact⟨z,by rw[xbK (by omega)];simp⟩|cons b B=>exact⟨b,by rw[xbK (by omega)];simp⟩
 rw[hw,xaT];simp
def acN{n i:Nat}(h:i<=n):pE n (some (J (i:Int))) none=some (i,n-i):=by simp[pE,sS,J,h]
theorem asY(l:List ByteArray):au (bu l)=l.map λs=>[aC s]:=rfl
def acO(n:Nat)(s:ByteArray)(l:List ByteArray)(aG:hP l)(aN:l.length+2<n)(aq:l.length<1000000000):w2 n [aC s,bu l]=some [bu (hQ s l)]:=by
 obtain⟨a,b,rfl,af,aw,a4,b6,cP⟩:=RU s aG;have es:=asY (a++b);have key:bq (Gs n) n [aC s,J ((a++b).length:Int),bu (a++b)]=some (.inl [aC s,J (a.length:Int),bu (a++b)]):=by
  refine nt (λj=>[aC s,J (((a++b).length-j:Nat):Int),bu (a++b)]) b.length (by simp) ?_ ?_ (by simp at aN;omega)
  .intro j aP;have b2:(a++b).length=a.length+b.length:=by simp
   obtain⟨m,hm⟩:∃m:Nat,(a++b).length-j=m+1:=⟨(a++b).length-j-1,by omega⟩;have T0:(a++b).length-(j+1)=m:=by omega
   have lZ:(a++b)[m]?=b[m-a.length]?:=xaH (by omega);have cu:m-a.length<b.length:=by omega
   have asZ:=xaa cu;rw[asZ]at lZ;have aj:=aw _ (xaX cu);generalize b[m-a.length]=x at*;have m8:ai false .sub (J ((m+1:Nat):Int)) (J 1)=some (J (m:Int)):=by rw[mD (by omega) (by omega)];congr 2;omega
   have vv:cj (au (bu (a++b))).length (J (m:Int))=some m:=by rw[oV,xad (by rw[es];simp at b2⊢;omega)]
   have e9:(au (bu (a++b)))[m]?=some [aC x]:=by rw[es,xaj,lZ];rfl
   have jD:((m+1:Nat):Int)>0:=by omega
   simp only[hm,T0];simp only[Gs,n5,pM,oW,xaw jD,eN,en,xaC,m8,vv,e9,iN,xbs,LK,aj,ee,l8];rfl
  have b2:(a++b).length-b.length=a.length:=by simp
  simp only[b2];by_cases ar:a.length=0
  .have:¬((a.length:Int)>0):=by omega
   simp only[Gs,n5,pM,oW,xaF this,eN,en,xas,xaD,ee,l8,RB];rfl
  obtain⟨m,hm⟩:∃m:Nat,a.length=m+1:=⟨a.length-1,by omega⟩;have cu:m<a.length:=by omega
  have lZ:(a++b)[m]?=a[m]?:=xaJ cu;rw[xaa cu]at lZ;have aE:=af _ (xaX cu);generalize a[m]=x at*;have m8:ai false .sub (J ((m+1:Nat):Int)) (J 1)=some (J (m:Int)):=by rw[mD (by omega) (by simp at aq;omega)];congr 2;omega
  have vv:cj (au (bu (a++b))).length (J (m:Int))=some m:=by rw[oV,xad (by rw[es];simp;omega)]
  have e9:(au (bu (a++b)))[m]?=some [aC x]:=by rw[es,xaj,lZ];rfl
  have jD:((m+1:Nat):Int)>0:=by omega
  simp only[hm];simp only[Gs,n5,pM,oW,xaw jD,eN,en,xaC,m8,vv,e9,iN,xbs,LK,aE,ee,l8,xas,xaD,RB];rfl
 have mR:D.az 1 (au (bu (a++b)))=bu (a++b):=rfl;have acP:(au (bu (a++b))).length=(a++b).length:=by rw[es];simp
 by_cases fK:s∈a++b
 .obtain⟨cB,rfl⟩:=a4 fK;rw[RT aG fK];have fz:(cB++[s]).length=cB.length+1:=by simp
  have m8:ai false .sub (J ((cB.length+1:Nat):Int)) (J 1)=some (J (cB.length:Int)):=by rw[mD (by omega) (by simp at aq;omega)];congr 2;omega
  have vv:cj ((cB++[s]++b).length) (J (cB.length:Int))=some cB.length:=by rw[oV,xad (by simp)]
  have e9:(au (bu (cB++[s]++b)))[cB.length]?=some [aC s]:=by rw[es];simp
  have jD:((cB.length+1:Nat):Int)>0:=by omega
  rw[fz]at key;simp only[w2,n5,pM,acP,mR,key,eN,qw,oW,xaw jD,en,xaC,m8,vv,e9,iN,xbs,RG,xbg,ee,l8]
 rw[cP fK];have FO:=b6 fK;have as0:aa (bL (ax (decide ((a.length:Int)>0))) true (aa (ai false .sub (J (a.length:Int)) (J 1)) λcN=>aa (cj (a++b).length cN) λth=>aa ((au (bu (a++b)))[th]?) λy9=>aa (a5 false 1 0 y9) λdK=>aa (ai false .eql dK (aC s)) λv30=>some v30)) (λv30=>aa (bV (ax (decide ((a.length:Int)>0))) v30 (ax false)) λeI=>some eI)=some (ax false):=by
  by_cases ar:a.length=0
  .have:¬((a.length:Int)>0):=by omega
   simp only[xaF this,en,xas,xaD,eN,ee]
  obtain⟨m,hm⟩:∃m:Nat,a.length=m+1:=⟨a.length-1,by omega⟩;have cu:m<a.length:=by omega
  have lZ:(a++b)[m]?=a[m]?:=xaJ cu;rw[xaa cu]at lZ;have cK:a[m]≠s:=λe=>FO (by rw[<-e];exact xaX cu);generalize a[m]=x at*;have m8:ai false .sub (J ((m+1:Nat):Int)) (J 1)=some (J (m:Int)):=by rw[mD (by omega) (by simp at aq;omega)];congr 2;omega
  have vv:cj (a++b).length (J (m:Int))=some m:=by rw[oV,xad (by simp;omega)]
  have e9:(au (bu (a++b)))[m]?=some [aC x]:=by rw[es,xaj,lZ];rfl
  have jD:((m+1:Nat):Int)>0:=by omega
  rw[hm];simp only[xaw jD,en,xaC,m8,eN,vv,e9,iN,xbs,RG,xaF cK,ee]
 obtain⟨v30,bz,bA⟩:=fx as0;obtain⟨eI,cx,eo⟩:=fx bA;cases eo;have ej:dc ((a++b).length+1) 16=true:=gG (by omega) (by omega);have ha:=b0 (bt:=false) (i:=a.length) (by simp at aq;omega);have kj:au (bu (a++b))++[[aC ⟨#[]⟩]]=(a.map λs=>[aC s])++(b.map λs=>[aC s])++[[aC ⟨#[]⟩]]:=by rw[es];simp
 have as1:((a.map λs=>[aC s])++(b.map λs=>[aC s])++[[aC ⟨#[]⟩]]:List (List D)).length=a.length+b.length+1:=by simp;omega
 have bU:pE (a.length+b.length+1) (some (J ((a.length+1:Nat):Int))) none=some (a.length+1,b.length):=by rw[acN (by omega)];congr 2;omega
 have bY:pE (a.length+b.length+1) (some (J (a.length:Int))) none=some (a.length,b.length+1):=by rw[acN (by omega)];congr 2;omega
 have Lw:=asX (a.map λs=>[aC s]) (b.map λs=>[aC s]) [aC ⟨#[]⟩] [aC s];simp only[xaS]at Lw;have PB:∀(X:List (List D)) (w:List D),X[a.length]?=some w->dH w 0 [aC s]=[aC s]->(X.set a.length (dH w 0 [aC s]))=X.set a.length [aC s]:=λX w _ h=>by rw[h]
 generalize kd:(((a.map λs=>[aC s])++(b.map λs=>[aC s])++[[aC ⟨#[]⟩]]:List (List D)).take (a.length+1)++((((a.map λs=>[aC s])++(b.map λs=>[aC s])++[[aC ⟨#[]⟩]]:List (List D)).drop a.length).take (b.length+1)).take (min (((((a.map λs=>[aC s])++(b.map λs=>[aC s])++[[aC ⟨#[]⟩]]:List (List D)).drop a.length).take (b.length+1)).length) b.length)++((a.map λs=>[aC s])++(b.map λs=>[aC s])++[[aC ⟨#[]⟩]]:List (List D)).drop (a.length+1+min (((((a.map λs=>[aC s])++(b.map λs=>[aC s])++[[aC ⟨#[]⟩]]:List (List D)).drop a.length).take (b.length+1)).length) b.length))=X at*;have aA8:X.length=a.length+b.length+1:=by have:=congrArg List.length Lw;simp at this;omega
 have vv:cj X.length (J (a.length:Int))=some a.length:=by rw[oV,xad (by omega)]
 have hw:∃x,X[a.length]?=some [x]:=by
  have hm:∀w∈X,∃x,w=[x]:=by
   rw[<-kd];intro w hw;have fK:w∈((a.map λs=>[aC s])++(b.map λs=>[aC s])++[[aC ⟨#[]⟩]]:List (List D)):=by
    rcases xak.1 hw with hw|hw
    .rcases xak.1 hw with hw|hw;.exact xbo hw
     exact xbt (xbo (xbo hw))
    exact xbt hw
   rcases xak.1 fK with fK|fK
   .rcases xak.1 fK with fK|fK;.obtain⟨x,_,rfl⟩:=xap.1 fK;exact⟨_,rfl⟩
    obtain⟨x,_,rfl⟩:=xap.1 fK;exact⟨_,rfl⟩
   simp at fK;exact⟨_,fK⟩
  have cu:a.length<X.length:=by omega
  obtain⟨x,ag⟩:=hm _ (xaX cu);exact⟨x,by rw[xaa cu,ag]⟩
 obtain⟨x,ag⟩:=hw;have T1:dH [x] 0 [aC s]=[aC s]:=rfl;have d1:decide (a.length+(b.length+1)<=a.length+b.length+1)=true:=xaw (by omega);have d2:decide (a.length+1+b.length<=a.length+b.length+1)=true:=xaw (by omega);have q4:bJ (aC s)=true:=rfl;have nO:([[aC ⟨#[]⟩]]:List (List D)).length=1:=rfl;simp only[w2,n5,pM,acP,mR,key,eN,qw,oW];rw[bz];simp only[eN,cx,l8,xas,xaD,nO,ej,s3,ha,kj,as1,bU,bY,d1,d2,kd,vv,q4,ag,T1,Lw];simp[bu]
def gq(nl:Bool)(l:List ByteArray):D:=cr 1 nl (l.map λs=>[aC s])
def Al(l:List ByteArray):gq false l=bu l:=by simp[gq,bu,cr]
def acQ{nl:Bool}{l:List ByteArray}(h:l≠[]):gq nl l=bu l:=by cases l with|nil=>exact absurd rfl h|cons a r=>simp[gq,bu,cr]
def js(nl:Bool)(l:List ByteArray):bD (gq nl l)=some (J l.length):=by simp[gq]
def o7{nl:Bool}{l:List ByteArray}{i:Nat}{s:ByteArray}(h:l[i]?=some s):bo 1 (gq nl l) (J (i:Int))=some [aC s]:=by unfold gq;rw[FR];simp[h]
def as2(s:ByteArray)(l:List ByteArray):hQ s l≠[]:=by cases l with|nil=>simp[hQ]|cons a r=>rw[hQ];split<;>(try split)<;>simp
def as3(n:Nat)(nl:Bool)(l:List ByteArray)(s:ByteArray)(aN:l.length<n)(aq:l.length<1000000000):HV n [gq nl l,aC s]=some (ax (l.any λx=>decide (x=s))):=by
 have ah:=dJ (f:=HU n) l (λi (_:Unit)=>[gq nl l,aC s,J (i:Int)]) (λr _=>if r.any (λx=>decide (x=s))=true then(.inr (ax true):List D⊕D)else .inl []) (λ_ _=>True) (λ_ _=>by simp[HU,js]) ?_ n 0 () trivial (by omega) (xai _)
 .have bE:(J ((0:Nat):Int))=J 0:=rfl;rw[bE]at ah;simp only[xao]at ah;simp only[HV,aaW,ah,eN];by_cases h:l.any (λx=>decide (x=s))=true;.rw[xad h,h];rfl
  rw[xac h];cases bj:l.any (λx=>decide (x=s))with|false=>rfl|true=>exact absurd bj h
 intro i x _ ag ah _;by_cases h:x=s;.right;simp[HU,js,ah,o7 ag,h]
 left;exact⟨(),by simp[HU,js,ah,o7 ag,h,b0 (bt:=false) (i:=i) (by omega)],by simp only[List.any_cons,xaF h,xbU],trivial⟩
def wf(s:ByteArray):List ByteArray->Bool->List ByteArray->Bool×List ByteArray
 |[],d,o=>(d,o)|x::r,d,o=>if(!d&&blt s x)=true then wf s r true (o++[s,x])else wf s r d (o++[x])
def acR(s:ByteArray):∀(l o:List ByteArray),wf s l true o=(true,o++l)
 |[],o=>by simp[wf]|x::r,o=>by rw[wf];simp[acR s r]
def acS(s:ByteArray):∀(a b o:List ByteArray),(∀x∈a,blt s x=false)->wf s (a++b) false o=wf s b false (o++a)
 |[],b,o,_=>by simp|x::a,b,o,h=>by rw[xcg,wf];have:=h x (by simp);simp[this,acS s a b _ (λy aJ=>h y (by simp[aJ]))]
def as4(s:ByteArray):∀(b o:List ByteArray),(∀x∈b,blt s x=true)->wf s b false o=(match b with|[]=>(false,o)|_=>(true,o++s::b))
 |[],o,_=>rfl|x::r,o,h=>by rw[wf];have:=h x (by simp);simp[this,acR]
@[simp] theorem DA (p:List ByteArray) (x:ByteArray):D.az 1 (au (bu p)++[[aC x]])=bu (p++[x]):=by simp[bu]
@[simp] theorem aA9 (p:List ByteArray):(au (bu p)).length=p.length:=by simp[bu]
@[simp] theorem aBa (p:List ByteArray):D.az 1 (au (bu p))=bu p:=rfl
def as5(n:Nat)(nl:Bool)(l:List ByteArray)(s:ByteArray)(aG:hP l)(aN:l.length+2<n)(aq:l.length<1000000000):zQ n [gq nl l,aC s]=some (bu (hQ s l)):=by
 have fK:=as3 n nl l s (by omega) aq;by_cases hm:s∈l;.have:l.any (λx=>decide (x=s))=true:=xbr.2 ⟨s,hm,by simp⟩;rw[this]at fK;rw[RT aG hm];simp only[zQ,MS,fK,eN,l8,xaC];rw[acQ (List.ne_nil_of_mem hm)]
 have FO:l.any (λx=>decide (x=s))=false:=by cases h:l.any (λx=>decide (x=s))with|false=>rfl|true=>obtain⟨x,ab,af⟩:=xbr.1 h;simp at af;subst af;exact absurd ab hm
 rw[FO]at fK;obtain⟨a,b,fE,af,aw,a4,b6,cP⟩:=RU s aG;have hw:wf s l false []=wf s b false a:=by rw[fE,acS s a b _ af];simp
 have nB:=dJ (f:=CY n) l (λi (p:Bool×List ByteArray)=>[gq nl l,aC s,ax p.1,J (i:Int),bu p.2]) (λr p=>(.inl [aC s,ax (wf s r p.1 p.2).1,bu (wf s r p.1 p.2).2]:List D⊕D)) (λi p=>p.2.length<=i+(if p.1=true then 1 else 0)) (λp _=>by simp[CY,js,wf]) ?_ n 0 (false,[]) (by simp) (by omega) (xai _)
 .have bE:(J ((0:Nat):Int))=J 0:=rfl;have aO:bu []= .az 1 []:=rfl;rw[bE,aO]at nB;simp only[xao,hw]at nB;rw[cP hm];have Kn:a.length<=l.length:=by rw[fE];simp
  cases b with|nil=>simp only[wf]at nB;have ej:dc (a.length+1) 16=true:=gG (by omega) (by omega);simp[zQ,MS,fK,nB,ej]|cons c r=>have aj:=as4 s (c::r) a aw;simp only at aj;rw[aj]at nB;simp[zQ,MS,fK,nB]
 intro i x p ag ah aT;left;have aE:=b0 (bt:=false) (i:=i) (by omega);have oS:p.2.length<=i+1:=by split at aT<;>omega
 have e4:dc (p.2.length+1) 16=true:=gG (by omega) (by omega);have eh:dc (p.2.length+1+1) 16=true:=gG (by omega) (by omega);obtain⟨d,o⟩:=p;simp only at aT e4 eh;cases d with
 |true=>
  refine⟨(true,o++[x]),?_,by rw[wf];simp,?_⟩;.simp[CY,js,ah,o7 ag,e4,aE]
  simp at aT⊢;omega
 |false=>
  cases aj:blt s x
  .refine⟨(false,o++[x]),?_,by rw[wf];simp[aj],?_⟩;.simp[CY,js,ah,o7 ag,e4,aE,LK,aj,-RH]
   simp at aT⊢;omega
  refine⟨(true,o++[s]++[x]),?_,by rw[wf];simp[aj],?_⟩;.simp[CY,js,ah,o7 ag,e4,eh,aE,LK,aj,-RH]
  simp at aT⊢;omega
mutual
def dQ(o:Int):Tm->List ByteArray->List ByteArray
 | .mk op _ s _ ks,l=>ke o ks (if op=o then hQ s l else l)
def ke(o:Int):List Tm->List ByteArray->List ByteArray
 |[],l=>l|t::r,l=>ke o r (dQ o t l)
end
theorem An(o:Int)(t:Tm)(l:List ByteArray):dQ o t l=ke o t.aU (if t.op=o then hQ t.name l else l):=by cases t;rw[dQ];rfl
mutual
def pZ(o:Int):∀(t:Tm)(l:List ByteArray),hP l->hP (dQ o t l)/\(dQ o t l).length<=l.length+t.bl
 | .mk op n s b ks,l,h=>by
  rw[dQ];have ab:hP (if op=o then hQ s l else l):=by split;exact FV h;exact h
  have af:(if op=o then hQ s l else l).length<=l.length+1:=by split;exact FW l;omega
  have:=acT o ks _ ab;exact⟨this.1,by simp only[Tm.bl];omega⟩
def acT(o:Int):∀(ks:List Tm)(l:List ByteArray),hP l->hP (ke o ks l)/\(ke o ks l).length<=l.length+Tm.dP ks
 |[],l,h=>⟨h,by simp[ke,Tm.dP]⟩|t::r,l,h=>by rw[ke];have ab:=pZ o t l h;have af:=acT o r _ ab.1;exact⟨af.1,by simp only[Tm.dP];omega⟩
end
theorem acU{l:List Tm}{i:Nat}{a:Tm}(h:l[i]?=some a):Tm.dP (l.drop i)=1+a.bl+Tm.dP (l.drop (i+1)):=by obtain⟨ab,af⟩:=xae.1 h;rw[xbc ab,af];rfl
def as6(nl:Bool)(s:ByteArray)(l:List ByteArray):gq nl (hQ s l)=bu (hQ s l):=acQ (as2 s l)
def T2(o:Int):∀(n:Nat)(t:Tm)(nl:Bool)(l:List ByteArray),t.bl+l.length+10<n->t.cc->hP l->l.length+t.bl<1000000000->rW n [t.d,J o,gq nl l]=some (gq nl (dQ o t l))
 |0,t,_,_,h,_,_,_=>absurd h (xay _)
 |n+1,t,nl,l,aN,bm,aG,aj=>by
  have b2:=bm.len;have Nh:=t.j6;show HW (rW n) n t.d (J o) (gq nl l)=_;rw[An];generalize k8:(if t.op=o then hQ t.name l else l)=xo;have ab:hP xo:=by rw[<-k8];split;exact FV aG;exact aG
  have af:xo.length<=l.length+1:=by rw[<-k8];split;exact FW l;omega
  have as7:Tm.dP t.aU+2=t.bl:=by cases t;simp[Tm.bl,Tm.aU];omega
  have aq:=dJ (f:=MT (rW n) n) t.aU (λi (p:List ByteArray)=>[J o,gq nl p,J (i:Int),J t.op,J t.num,aC t.name,cr 4 t.nl (Tm.rows t.aU)]) (λr p=>(.inl [gq nl (ke o r p)]:List D⊕D)) (λi p=>hP p/\p.length+Tm.dP (t.aU.drop i)<=xo.length+Tm.dP t.aU) (λp _=>by simp[MT,ke]) ?_ n 0 xo ⟨ab,by simp⟩ (by omega) (xai _)
  .have bE:(J ((0:Nat):Int))=J 0:=rfl;rw[bE]at aq;simp only[xao]at aq;by_cases aF:t.op=o;.rw[xad aF]at k8;have hw:=as5 n nl l t.name aG (by omega) (by omega);rw[k8,<-k8,<-as6 nl,k8]at hw;simp[HW,aF,hw];rw[aF]at aq;rw[aq];rfl
   rw[xac aF]at k8;subst k8;simp[HW,aF,aq]
  intro i a p aE ah aT;have hm:=xab aE;have bn:=Tm.ja hm;have ay:=acU aE;have av:=T2 o n a nl p (by omega) (bm.gl hm) aT.1 (by omega);have as8:=pZ o a p aT.1;left;refine⟨dQ o a p,?_,by rw[ke],as8.1,by omega⟩;simp[MT,ah,Tm.gN aE,av,b0 (bt:=false) (i:=i) (by omega)]
def Ni(n:Nat)(t:Tm)(aN:t.bl+10<n)(bm:t.cc)(aj:t.bl<1000000000):rX n [t.d]=some (.aZ [gq true (dQ 3 t []),gq true (dQ 4 t [])]):=by have aw:=T2 3 n t true [] (by simp;omega) bm trivial (by simp;omega);have a4:=T2 4 n t true [] (by simp;omega) bm trivial (by simp;omega);have e:gq true []=eU:=rfl;rw[e]at aw a4;simp[rX,aaX,aw,a4]
def as9(n:Nat)(t:Tm)(fA:D)(p q:List ByteArray)(aT:hP p)(bj:hP q)(aN:p.length+q.length+5<n)(aj:p.length+q.length<1000000000):za n [t.d,fA,bu p,bu q]=some [ax true,bu (if t.op=3 then hQ t.name p else p),bu (if t.op=4 then hQ t.name q else q)]:=by
 have fs:=acO n t.name p aT (by omega) (by omega);have gp:=acO n t.name q bj (by omega) (by omega);by_cases aw:t.op=3
 .simp[za,aw,fs]
 by_cases a4:t.op=4;.simp[za,aw,a4,gp]
 simp[za,aw,a4]
def T3:∀(n:Nat)(t:Tm)(deep:Int)(p q:List ByteArray),t.bl+p.length+q.length+t.bl+20<n->t.cc->hP p->hP q->0<=deep->deep+t.bl<1000000000->p.length+q.length+t.bl+t.bl<1000000000->rN n [t.d,J deep,bu p,bu q]=some [ax true,bu (dQ 3 t p),bu (dQ 4 t q)]
 |0,t,_,_,_,h,_,_,_,_,_,_=>absurd h (xay _)
 |n+1,t,deep,p,q,aN,bm,aT,bj,aBb,FN,aj=>by
  have b2:=bm.len;have Nh:=t.j6;have as7:Tm.dP t.aU+2=t.bl:=by cases t;simp[Tm.bl,Tm.aU];omega
  have ab:=as9 n t (J deep) p q aT bj (by omega) (by omega);rw[An,An];generalize acV:(if t.op=3 then hQ t.name p else p)=DB at*;generalize acW:(if t.op=4 then hQ t.name q else q)=xp at*;have dy:hP DB:=by rw[<-acV];split;exact FV aT;exact aT
  have dg:DB.length<=p.length+1:=by rw[<-acV];split;exact FW p;omega
  have bz:hP xp:=by rw[<-acW];split;exact FV bj;exact bj
  have bA:xp.length<=q.length+1:=by rw[<-acW];split;exact FW q;omega
  have aq:=dJ (f:=LZ (rN n) n) t.aU (λi (z:List ByteArray×List ByteArray)=>[J deep,cr 4 t.nl (Tm.rows t.aU),J t.aU.length,J (i:Int),bu z.1,bu z.2]) (λr z=>(.inl [bu (ke 3 r z.1),bu (ke 4 r z.2)]:List D⊕List D)) (λi z=>hP z.1/\hP z.2/\z.1.length+Tm.dP (t.aU.drop i)<=DB.length+Tm.dP t.aU/\z.2.length+Tm.dP (t.aU.drop i)<=xp.length+Tm.dP t.aU) (λz _=>by simp[LZ,ke]) ?_ n 0 (DB,xp) ⟨dy,bz,by simp,by simp⟩ (by omega) (xai _);.have bE:(J ((0:Nat):Int))=J 0:=rfl;rw[bE]at aq;simp only[xao]at aq;simp[rN,R8,ab,aq]
  intro i a z aE ah bn;obtain⟨ic,pq,Nj,Nk⟩:=bn;have hm:=xab aE;have aBc:=Tm.ja hm;have ay:=acU aE;have av:=T3 n a (deep+1) z.1 z.2 (by omega) (bm.gl hm) ic pq (by omega) (by omega) (by omega);have mu:=pZ 3 a z.1 ic;have rb:=pZ 4 a z.2 pq;left;refine⟨(dQ 3 a z.1,dQ 4 a z.2),?_,by simp[ke],mu.1,rb.1,by simp only;omega,by simp only;omega⟩;simp[LZ,ah,Tm.gN aE,av,l9 (bt:=false) (i:=deep) (by omega) (by omega),b0 (bt:=false) (i:=i) (by omega)]
def Nl(n:Nat)(t:Tm)(aN:t.bl+t.bl+30<n)(bm:t.cc)(aj:t.bl<100000000):rO n [t.d]=some (.aZ [bu (dQ 3 t []),bu (dQ 4 t [])]):=by have h:=T3 n t 1 [] [] (by simp;omega) bm trivial trivial (by omega) (by omega) (by simp;omega);have e:bu []= .az 1 []:=rfl;have g7:∀l,bJ (bu l)=true:=λ_=>rfl;rw[e]at h;simp[rO,Z8,h,g7]
mutual
def eV:Tm->Tm->Bool
 | .mk o n s _ ks,u=>decide (o=u.op)&&decide (n=u.num)&&decide (s=u.name)&&decide (ks.length=u.aU.length)&&lf ks u.aU
def lf:List Tm->List Tm->Bool
 |a::r,b::q=>eV a b&&lf r q|[],_=>true|_::_,[]=>true
end
theorem DC(t u:Tm):eV t u=(decide (t.op=u.op)&&decide (t.num=u.num)&&decide (t.name=u.name)&&decide (t.aU.length=u.aU.length)&&lf t.aU u.aU):=by cases t;rw[eV];rfl
def acX(t u:Tm):(t.op=u.op/\t.num=u.num/\t.name=u.name/\t.aU.length=u.aU.length)\/(eV t u=false/\¬(t.op=u.op/\t.num=u.num/\t.name=u.name/\t.aU.length=u.aU.length)):=by
 by_cases h:t.op=u.op/\t.num=u.num/\t.name=u.name/\t.aU.length=u.aU.length;.exact .inl h
 refine .inr ⟨?_,h⟩;rw[DC];by_cases ab:t.op=u.op
 .by_cases af:t.num=u.num
  .by_cases aw:t.name=u.name;.have a4:¬t.aU.length=u.aU.length:=λa4=>h ⟨ab,af,aw,a4⟩;simp[a4]
   simp[aw]
  simp[af]
 simp[ab]
mutual
def T4:∀t:Tm,eV t t=true
 | .mk o n s b ks=>by rw[eV];simp[Tm.op,Tm.num,Tm.name,Tm.aU,acY ks]
def acY:∀l:List Tm,lf l l=true
 |[]=>rfl|a::r=>by rw[lf,T4 a,acY r];rfl
end
def tJ:List a8->Nat->List (Value×D)->List (Value×D)
 |[],_,M=>M|v::r,i,M=>tJ r (i+1) (if(gH M v.name).isSome then M else(nr .string M (aC v.name) (J i)).getD [])
def T5:∀(r:List a8)(i:Nat)(M:List (Value×D)),lJ M->lJ (tJ r i M)/\∀x,gH (tJ r i M) x=match gH M x with|some d=>some d|none=>(da r x).map λj=>J ((i+j:Nat):Int)
 |[],i,M,h=>⟨h,λx=>by simp only[tJ,da,List.findIdx?_nil];cases gH M x<;>rfl⟩
 |v::r,i,M,h=>by
  rw[tJ];have e:∀x,da (v::r) x=if v.name=x then some 0 else(da r x).map (·+1):=by intro x;simp[da,xbX]
  by_cases aG:(gH M v.name).isSome
  .rw[xad aG];obtain⟨ab,af⟩:=T5 r (i+1) M h;refine⟨ab,λx=>?_⟩;rw[af x,e x];cases ag:gH M x with
   |some d=>rfl
   |none=>
    have cK:¬v.name=x:=by rintro rfl;simp[ag]at aG
    simp only[cK,xaD,Option.map_map]
    congr 1
    funext j
    simp only[Function.comp]
    congr 2
    omega
  rw[xac aG];obtain⟨cY,dy,dg,eW,_⟩:=BW h v.name (J i);rw[dy,xbe];obtain⟨ab,af⟩:=T5 r (i+1) cY dg;refine⟨ab,λx=>?_⟩;rw[af x,eW x,e x];by_cases ag:x=v.name
  .subst ag;have aN:gH M v.name=none:=by simpa using aG
   simp[aN]
  have cK:¬v.name=x:=λh=>ag h.symm;simp only[ag,cK,xaD];cases b5:gH M x with
  |some d=>rfl
  |none=>
   simp only[Option.map_map]
   congr 1
   funext j
   simp only[Function.comp]
   congr 2
   omega
def Nm(M:List (Value×D))(vs:List a8):Prop:=lJ M/\∀x,gH M x=(da vs x).map λ(j:Nat)=>J (j:Int)
def T6(n:Nat)(vs:List a8)(aN:vs.length<n)(aq:vs.length<1000000000000):∃M,uY n [aR vs]=some (.mp M)/\Nm M vs:=by
 have ar:lJ []:=by intro e he;cases he
 obtain⟨ab,af⟩:=T5 vs 0 [] ar;refine⟨tJ vs 0 [],?_,ab,λx=>by rw[af x];simp only[gH,xax]⟩;have ah:=dJ (f:=Gv n) vs (λi (M:List (Value×D))=>[aR vs,J vs.length,J (i:Int),.mp M]) (λr M=>(Sum.inl [.mp (tJ r (vs.length-r.length) M)]:List D⊕D)) (λi M=>lJ M) (λM _=>by simp[Gv,tJ]) ?_ n 0 [] ar (by omega) (xai _)
 .have bE:(J ((0:Nat):Int))=J 0:=rfl;rw[bE]at ah;simp[uY,aaa,ef,ah]
 intro i a M aE ah dV;left;have e:vs.length-(a::vs.drop (i+1)).length=i:=by simp;omega
 have dv:vs.length-(vs.drop (i+1)).length=i+1:=by simp;omega
 have aw:=yQ dV (z:= .int .i64 0) (x:=a.name);cases b5:gH M a.name with|some d=>rw[b5]at aw;refine⟨M,by simp[Gv,ah,fo aE,aw,b0 (bt:=false) (i:=i) (by omega)],?_,dV⟩;rw[e,tJ,b5,dv];rfl|none=>rw[b5]at aw;obtain⟨cY,dy,dg,eW,_⟩:=BW dV a.name (J i);refine⟨cY,by simp[Gv,ah,fo aE,aw,dy,b0 (bt:=false) (i:=i) (by omega)],?_,dg⟩;rw[e,tJ,b5,dv];simp only[Option.isSome_none,xas,xaD,dy,xbe]
def acZ(n:Nat)(vs:List a8)(x:ByteArray)(aN:vs.length<n)(aq:vs.length<1000000000000):xd n [aR vs,aC x]=some (J (match da vs x with|some i=>(i:Int)|none=>-1)):=by
 have ah:=dJ (f:=HZ n) vs (λi (_:Unit)=>[aR vs,aC x,J (i:Int)]) (λr _=>match da r x with|some j=>(Sum.inr (J ((vs.length-r.length+j:Nat):Int)):List D⊕D)|none=> .inl []) (λ_ _=>True) (λ_ _=>by simp[HZ,ef,da]) ?_ n 0 () trivial (by omega) (xai _);.have bE:(J ((0:Nat):Int))=J 0:=rfl;rw[bE]at ah;simp only[xd,aa2,ah,xao,eN];cases da vs x<;>simp
 intro i a _ aE ah _;have e:vs.length-(a::vs.drop (i+1)).length=i:=by simp;omega
 have dv:vs.length-(vs.drop (i+1)).length=i+1:=by simp;omega
 have nQ:da (a::vs.drop (i+1)) x=if a.name=x then some 0 else(da (vs.drop (i+1)) x).map (·+1):=by simp[da,xbX]
 have ae:a.cells[0]?=some (aC a.name):=rfl;by_cases ag:a.name=x;.right;rw[nQ,xad ag,e];simp[HZ,ef,ah,fo aE,ae,ag]
 left;refine⟨(),by simp[HZ,ef,ah,fo aE,ae,ag,b0 (bt:=false) (i:=i) (by omega)],?_,trivial⟩;rw[nQ,xac ag,e,dv];cases da (vs.drop (i+1)) x with|none=>rfl|some j=>simp;omega
def dB(l:List a8)(t:Tm):List Nat:=(dQ 3 t []).filterMap (da l)
def nC{l:List a8}{t:Tm}:∀k∈dB l t,k<l.length:=by intro k ak;obtain⟨x,_,ag⟩:=List.mem_filterMap.1 ak;obtain⟨_,_,_,h⟩:=RX ag;exact h
def DD(t:Tm):(dQ 3 t []).length<=t.bl:=by have:=(pZ 3 t [] trivial).2;simpa using this
def Nn(l:List a8)(t:Tm):(dB l t).length<=t.bl:=xbh (List.length_filterMap_le _ _) (DD t)
structure h6(B:Nat)(l:List a8):Prop where
 len:l.length<=B
 e:∀d∈l,d.e.cc/\d.e.bl<=B
 b:B<=1000000
def to(l:List a8)(i:Nat):List Nat:=match l[i]? with|some d=>dB l d.e|none=>[]
def lM{l:List a8}(i:Nat):∀k∈to l i,k<l.length:=by
 unfold to;split;.exact nC
 intro k ak;cases ak
def DE{l:List a8}{i:Nat}{d:a8}(h:l[i]?=some d):to l i=dB l d.e:=by simp[to,h]
def lg{l:List ByteArray}{i:Nat}{s:ByteArray}(h:l[i]?=some s):bo 1 (bu l) (J (i:Int))=some [aC s]:=by simp[bu,h]
def iO(l:List ByteArray):bD (bu l)=some (J l.length):=by simp[bu]
def ata(n:Nat)(l:List a8)(t:Tm){B:Nat}(aq:l.length<=B)(bm:t.cc)(aL:t.bl<=B)(gL:B<=1000000)(aN:2*B+100<n):H2 n [t.d,aR l]=some (de (dB l t)):=by
 have bX:=Ni n t (by omega) bm (by omega);have cK:=DD t;have ah:=dJ (f:=H0 n) (dQ 3 t []) (λi (s:List Nat)=>[aR l,gq true (dQ 3 t []),J (i:Int),de s]) (λr s=>(.inl [de (s++r.filterMap (da l))]:List D⊕D)) (λi s=>s.length<=i) (λs _=>by simp[H0,js,de]) ?_ n 0 [] (by simp) (by omega) (xai _)
 .have bE:(J ((0:Nat):Int))=J 0:=rfl;have aO:de []=D.az 1 []:=rfl;have c5:∀x,D.az 1 (au (de x))=de x:=λ_=>rfl;rw[bE,aO]at ah;simp only[xao,xaK]at ah;simp only[H2,aa3,go_sem,bX,ah,c5];rfl
 intro i a s aE ah aG;have ag:=o7 (nl:=true) aE;have iC:=acZ n l a (by omega) (by omega);have c5:∀x,D.az 1 (au (de x))=de x:=λ_=>rfl;left;cases ay:da l a with
 |none=>rw[ay]at iC;refine⟨s,?_,by simp[ay],by omega⟩;simp only[H0,go_sem,js,yT ((i:Int)<((dQ 3 t []).length:Int)),ag,iN,iC,yF ((-1:Int)>=0),c5,b0 (bt:=false) (i:=i) (by omega)]
 |some k=>
  rw[ay]at iC;have ej:dc (s.length+1) 8=true:=gG (by omega) (by omega);have aX:D.az 1 (au (de s)++[[J (k:Int)]])=de (s++[k]):=by simp[de]
  have bQ:(au (de s)).length=s.length:=by simp[de]
  refine⟨s++[k],?_,by simp[ay],by simp;omega⟩;simp only[H0,go_sem,js,yT ((i:Int)<((dQ 3 t []).length:Int)),ag,iN,iC,yT ((k:Int)>=0),c5,aX,bQ,xar,xav,xax,ej,b0 (bt:=false) (i:=i) (by omega)]
def ac0(n:Nat)(l:List Nat)(k:Nat)(d:D)(ay:d=de l\/(l=[]/\d=eU))(aq:l.length<1000000000)(aN:l.length+5<n):xe n [d,J (k:Int)]=some (ax (decide (k∈l))):=by
 rcases ay with rfl|⟨rfl,rfl⟩
 case inr=>obtain⟨m,rfl⟩:∃m,n=m+1:=⟨n-1,by omega⟩;simp[xe,Tf,jP,C0]
 have ah:=dJ (f:=C0 n) l (λi (_:Unit)=>[de l,J (k:Int),J (i:Int)]) (λr _=>if k∈r then(.inr (ax true):List D⊕D)else .inl []) (λi s=>True) (λs _=>by simp[C0,pO]) ?_ n 0 () trivial (by omega) (xai _);.have bE:(J ((0:Nat):Int))=J 0:=rfl;rw[bE]at ah;simp only[xao]at ah;by_cases h:k∈l<;>simp only[h,xaC,xaD]at ah<;>simp[xe,Tf,ah,h]
 intro i a s aE ah _;have ag:=uS aE;by_cases ac1:a=k
 .right;subst ac1;simp[C0,pO,ah,ag]
 left;have atb:¬((a:Int)=(k:Int)):=by omega
 have atc:¬k=a:=λh=>ac1 h.symm;refine⟨(),by simp[C0,pO,ah,ag,atb,b0 (bt:=false) (i:=i) (by omega)],by simp[atc],trivial⟩
def atd(n:Nat)(l:List a8){B:Nat}(aq:h6 B l)(aN:4*B+200<n):Gy n [aR l]=some (h3 (l.map λd=>dB l d.e)):=by
 have b2:=aq.len;have tK:=aq.b;obtain⟨M,gM,kI,vw⟩:=T6 n l (by omega) (by omega);have c5:∀x,D.az 1 (au (de x))=de x:=λ_=>rfl;have No:∀x,D.az 1 (au (h3 x))=h3 x:=λ_=>rfl;have ah:=dJ (f:=L1 n) l (λi (s:List (List Nat))=>[.mp M,aR l,J l.length,J (i:Int),h3 s]) (λr s=>(.inl [h3 (s++r.map λd=>dB l d.e)]:List D⊕D)) (λi s=>s.length=i) (λs _=>by simp[L1,h3]) ?_ n 0 [] rfl (by omega) (xai _)
 .have bE:(J ((0:Nat):Int))=J 0:=rfl;have aO:h3 []=D.az 1 []:=rfl;rw[bE,aO]at ah;simp only[xao,xaK]at ah;simp only[Gy,aab,go_sem,gM,ef,ah,No]
 intro i a acc aE ah ate;have hm:=xab aE;have atf:=aq.e a hm;have bX:=Nl n a.e (by omega) atf.1 (by omega);have cK:=DD a.e;have aP:=dJ (f:=Gw n) (dQ 3 a.e []) (λj (s:List Nat)=>[.mp M,aR l,J l.length,J (i:Int),bu (dQ 3 a.e []),J (dQ 3 a.e []).length,J (j:Int),h3 acc,de s]) (λr s=>(.inl [.mp M,aR l,J l.length,J (i:Int),h3 acc,de (s++r.filterMap (da l))]:List D⊕(List D⊕(List D⊕(List D⊕D))))) (λj s=>s.length<=j) (λs _=>by simp[Gw,de,h3]) ?_ n 0 [] (by simp) (by omega) (xai _)
 .have bE:(J ((0:Nat):Int))=J 0:=rfl;have aO:de []=D.az 1 []:=rfl;rw[bE,aO]at aP;simp only[xao,xaK]at aP;have ej:dc (acc.length+1) 24=true:=gG (by omega) (by omega);have aX:D.az 1 (au (h3 acc)++[[de (dB l a.e)]])=h3 (acc++[dB l a.e]):=by simp[h3]
  have bQ:(au (h3 acc)).length=acc.length:=by simp[h3]
  have cO:(dQ 3 a.e []).filterMap (da l)=dB l a.e:=rfl;have g7:∀x,bJ (de x)=true:=λ_=>rfl;rw[cO]at aP;left;refine⟨acc++[dB l a.e],?_,by simp,by simp[ate]⟩;simp only[L1,go_sem,yT ((i:Int)<(l.length:Int)),fo aE,a8.BZ,a8.agg,a8.bU,a8.bY,a8.cv,a8.dm,Tm.FU,bX,iO,No,aP,c5,g7,aX,bQ,xar,xav,xax,ej,b0 (bt:=false) (i:=i) (by omega)]
 intro j b s aj aP aG;have ag:=lg aj;have hG:=yQ kI (z:= .int .i64 0) (x:=b);have ac2:=vw b;left;cases ay:da l b with
 |none=>rw[ac2,ay]at hG;simp only[xbp]at hG;refine⟨s,?_,by simp[ay],by omega⟩;simp only[Gw,go_sem,yT ((j:Int)<((dQ 3 a.e []).length:Int)),ag,iN,lG,hG,c5,No,b0 (bt:=false) (i:=j) (by omega)]
 |some k=>
  rw[ac2,ay]at hG;simp only[xaP]at hG;have ej:dc (s.length+1) 8=true:=gG (by omega) (by omega);have aX:D.az 1 (au (de s)++[[J (k:Int)]])=de (s++[k]):=by simp[de]
  have bQ:(au (de s)).length=s.length:=by simp[de]
  refine⟨s++[k],?_,by simp[ay],by simp;omega⟩;simp only[Gw,go_sem,yT ((j:Int)<((dQ 3 a.e []).length:Int)),ag,iN,lG,hG,c5,No,aX,bQ,xar,xav,xax,ej,b0 (bt:=false) (i:=j) (by omega)]
def hR(to:Nat->List Nat):Nat->List Nat->List Nat->List Nat
 |0,_,S=>S|n+1,ks,S=>ks.foldl (λS k=>if k∈S then S else hR to n (to k) (S++[k])) S
inductive kp(to:Nat->List Nat):Nat->Nat->Prop where
 |refl (i:Nat):kp to i i
 |step (i j k:Nat) (h:j∈to i) (bx:kp to j k):kp to i k
def kp.trans{to:Nat->List Nat}{i j k:Nat}(h:kp to i j)(bx:kp to j k):kp to i k:=by induction h with|refl=>exact bx|step a b c fE _ ih=>exact .step a b _ fE (ih bx)
def iP(N:Nat)(S:List Nat):Prop:=S.Nodup/\∀x∈S,x<N
def ac3:∀(N:Nat)(S:List Nat),S.Nodup->(∀x∈S,x<N)->S.length<=N
 |0,S,_,h=>by cases S with|nil=>simp|cons a r=>exact absurd (h a (by simp)) (xay _)
 |N+1,S,aN,h=>by
  have ab:=ac3 N (S.erase N) (aN.erase N) (λx ag=>by
   have af:=h x (List.mem_of_mem_erase ag);have aw:x≠N:=by rintro rfl;exact aN.not_mem_erase ag
   omega)
  have a4:=List.length_erase (a:=N) (l:=S);split at a4<;>omega
def iP.len{N:Nat}{S:List Nat}(h:iP N S):S.length<=N:=ac3 N S h.1 h.2
def iP.lt{N k:Nat}{S:List Nat}(h:iP N S)(ak:k<N)(aN:k∉S):S.length<N:=by have af:iP N (S++[k]):=⟨by rw[List.nodup_append];exact⟨h.1,by simp,by intro a aE b aj;simp at aj;subst aj;rintro rfl;exact aN aE⟩,by intro x ag;rcases xak.1 ag with ag|ag;exact h.2 x ag;simp at ag;omega⟩;have:=af.len;simp at this;omega
def iP.snoc{N k:Nat}{S:List Nat}(h:iP N S)(ak:k<N)(aN:k∉S):iP N (S++[k]):=⟨by rw[List.nodup_append];exact⟨h.1,by simp,by intro a aE b aj;simp at aj;subst aj;rintro rfl;exact aN aE⟩,by intro x ag;rcases xak.1 ag with ag|ag;exact h.2 x ag;simp at ag;omega⟩
structure ac4(to:Nat->List Nat)(N:Nat)(ks S R:List Nat):Prop where
 inv:iP N R
 pre:∃T,R=S++T
 mem:∀k∈ks,k∈R
 vx:∀x∈R,x∉S->∀y∈to x,y∈R
 r4:∀x∈R,x∈S\/∃k∈ks,kp to k x
def DF{to:Nat->List Nat}{N:Nat}(k6:∀i,∀k∈to i,k<N):∀(n:Nat)(ks S:List Nat),iP N S->(∀k∈ks,k<N)->N-S.length<n->ac4 to N ks S (hR to n ks S)
 |0,_,_,_,_,h=>absurd h (xay _)
 |n+1,ks,S,ec,eP,aN=>by
  rw[hR]
  induction ks generalizing S with
  |nil=>exact⟨ec,⟨[],by simp⟩,by simp,λx ag aN=>absurd ag aN,λx ag=> .inl ag⟩
  |cons k r ih=>
   rw[xbx];by_cases ak:k∈S
   .rw[xad ak];have h:=ih S ec (λx ag=>eP x (by simp[ag])) aN;obtain⟨T,bf⟩:=h.pre;refine⟨h.inv,h.pre,?_,h.vx,λx ag=>?_⟩
    .intro x ag;rcases xal.1 ag with rfl|ag
     .rw[bf];simp[ak]
     exact h.mem x ag
    rcases h.r4 x ag with ab|⟨j,ab,af⟩;.exact .inl ab
    exact .inr ⟨j,by simp[ab],af⟩
   rw[xac ak];have o8:=eP k (by simp);have cu:=ec.lt o8 ak;have ar:=DF k6 n (to k) (S++[k]) (ec.snoc o8 ak) (k6 k) (by simp;omega);obtain⟨fQ,DG⟩:=ar.pre;have h:=ih (hR to n (to k) (S++[k])) ar.inv (λx ag=>eP x (by simp[ag])) (by rw[DG];simp;omega);obtain⟨T,bf⟩:=h.pre;have atg:k∈hR to n (to k) (S++[k]):=by rw[DG];simp
   refine⟨h.inv,⟨[k]++fQ++T,by rw[bf,DG];simp⟩,?_,?_,?_⟩
   .intro x ag;rcases xal.1 ag with rfl|ag
    .rw[bf];exact xbQ _ atg
    exact h.mem x ag
   .intro x ag T7 y aJ;by_cases xq:x∈hR to n (to k) (S++[k])
    .by_cases DH:x∈S++[k]
     .have ath:x=k:=by
       rcases xak.1 DH with h|h;.exact absurd h T7
       simpa using h
      subst ath;rw[bf];exact xbQ _ (ar.mem y aJ)
     rw[bf];exact xbQ _ (ar.vx x xq DH y aJ)
    exact h.vx x ag xq y aJ
   intro x ag;rcases h.r4 x ag with ab|⟨j,ab,af⟩
   .rcases ar.r4 x ab with aw|⟨j,aw,a4⟩
    .rcases xak.1 aw with aw|aw;.exact .inl aw
     simp at aw;subst aw;exact .inr ⟨x,by simp,.refl x⟩
    exact .inr ⟨k,by simp,.step k j x aw a4⟩
   exact .inr ⟨j,by simp[ab],af⟩
def T8{to:Nat->List Nat}{N:Nat}(k6:∀i,∀k∈to i,k<N):∀(n m:Nat)(ks S:List Nat),iP N S->(∀k∈ks,k<N)->N-S.length<n->N-S.length<m->hR to n ks S=hR to m ks S
 |0,_,_,_,_,_,h,_=>absurd h (xay _)|_+1,0,_,_,_,_,_,h=>absurd h (xay _)
 |n+1,m+1,ks,S,ec,eP,aN,hm=>by
  rw[hR,hR]
  induction ks generalizing S with
  |nil=>rfl
  |cons k r ih=>
   rw[xbx,xbx];by_cases ak:k∈S;.rw[xad ak,xad ak];exact ih S ec (λx ag=>eP x (by simp[ag])) aN hm
   rw[xac ak,xac ak];have o8:=eP k (by simp);have cu:=ec.lt o8 ak;have e:=T8 k6 n m (to k) (S++[k]) (ec.snoc o8 ak) (k6 k) (by simp;omega) (by simp;omega);have ar:=DF k6 n (to k) (S++[k]) (ec.snoc o8 ak) (k6 k) (by simp;omega);obtain⟨fQ,DG⟩:=ar.pre;rw[<-e];exact ih _ ar.inv (λx ag=>eP x (by simp[ag])) (by rw[DG];simp;omega) (by rw[DG];simp;omega)
def lh(l:List a8)(ks:List Nat):List Nat:=hR (to l) (l.length+1) ks []
def xr(l:List a8)(ks:List Nat)(ak:∀k∈ks,k<l.length):ac4 (to l) l.length ks [] (lh l ks):=DF (λi k ak=>lM i k ak) _ ks [] ⟨by simp,by simp⟩ ak (by simp)
def vy(l:List a8)(ks:List Nat)(ak:∀k∈ks,k<l.length)(x:Nat):x∈lh l ks↔∃k∈ks,kp (to l) k x:=by
 have h:=xr l ks ak;constructor
 .intro ag;rcases h.r4 x ag with ab|ab
  .cases ab
  exact ab
 rintro⟨k,fU,av⟩;have gY:∀a b,kp (to l) a b->a∈lh l ks->b∈lh l ks:=by
  intro a b fE
  induction fE with|refl=>exact λh=>h|step i j k gS _ ih=>exact λah=>ih (h.vx i ah (by simp) j gS)
 exact gY k x av (h.mem k fU)
def jt(l:List a8)(i:Nat):Bool:=decide (i∈lh l (to l i))
def T9(l:List a8)(i:Nat):jt l i=true↔∃k∈to l i,kp (to l) k i:=by unfold jt;rw[xaE,vy l _ (lM i)]
def ac5{to:Nat->List Nat}:∀(n:Nat)(ks S:List Nat),∃T,hR to n ks S=S++T
 |0,ks,S=>⟨[],by simp[hR]⟩
 |n+1,ks,S=>by
  rw[hR]
  induction ks generalizing S with
  |nil=>exact⟨[],by simp⟩
  |cons k r ih=>
   rw[xbx];split;.exact ih S
   obtain⟨fQ,ar⟩:=ac5 n (to k) (S++[k]);obtain⟨T,bf⟩:=ih (hR to n (to k) (S++[k]));exact⟨[k]++fQ++T,by rw[bf,ar];simp⟩
def lj(S:List Nat)(d:D)(s:List Nat):D:=if s.length=S.length then d else de s
def Ua(l:List a8){B:Nat}(aq:h6 B l):∀(n:Nat)(t:Tm)(S:List Nat)(d:D),d=de S\/(S=[]/\d=eU)->t.cc->t.bl<=B->iP l.length S->l.length-S.length+4*B+300<n->qF n [t.d,aR l,d]=some (lj S d (hR (to l) n (dB l t) S))
 |0,_,_,_,_,_,_,_,h=>absurd h (xay _)
 |n+1,t,S,d,ay,bm,aL,ec,aN=>by
  have b2:=aq.len;have tK:=aq.b;have DI:=Nn l t;have ati:=ata n l t b2 bm aL tK (by omega);have atj:∀T,lj S d (S++T)=de (S++T)\/(S++T=[]/\lj S d (S++T)=eU):=by
   intro T;unfold lj;split
   .rename_i h;have:T=[]:=by simpa using h
    subst this;rcases ay with rfl|⟨rfl,rfl⟩
    .left;simp
    right;simp
   exact .inl rfl
  have bE:(J ((0:Nat):Int))=J 0:=rfl;have atk:lj S d S=d:=by simp[lj]
  rw[hR];have dE:=dJ (f:=H3 (qF n) n) (dB l t) (λi (s:List Nat)=>[aR l,lj S d s,de (dB l t),J (i:Int)]) (λr s=>(.inl [lj S d (r.foldl (λS k=>if k∈S then S else hR (to l) n (to l k) (S++[k])) s)]:List D⊕D)) (λi s=>iP l.length s/\∃T,s=S++T) (λs _=>by simp[H3,pO]) ?_ n 0 S ⟨ec,[],by simp⟩ (by omega) (xai _)
  .rw[bE,atk]at dE;simp only[xao]at dE;show MW (qF n) n t.d (aR l) d=_;simp only[MW,go_sem,ati,dE]
  rintro i k s ak ah ⟨ab,T,bf⟩;have FA:=xab ak;have o8:=nC k FA;obtain⟨Np,A3⟩:∃Np,l[k]?=some Np:=⟨l[k],xaa o8⟩;have ig:=aq.e Np (xab A3);have gr:=ab.len;have aw:=atj T;rw[<-bf]at aw;have aBd:S.length<=s.length:=by rw[bf];simp
  have Nq:=ac0 n s k (lj S d s) aw (by omega) (by omega);left;by_cases eP:k∈s
  .refine⟨s,?_,?_,ab,T,bf⟩;.simp only[H3,go_sem,pO,yT ((i:Int)<((dB l t).length:Int)),uS ak,iN,Nq,xaw eP,b0 (bt:=false) (i:=i) (by omega)]
   simp only[xbx,xad eP]
  have cu:=ab.lt o8 eP;have IF:=ab.snoc o8 eP;have aW:=Ua l aq n Np.e (s++[k]) (de (s++[k])) (.inl rfl) ig.1 ig.2 IF (by simp;omega);have lH:=DF (λi k ak=>lM i k ak) n (to l k) (s++[k]) IF (λx ag=>lM k x ag) (by simp;omega);rw[<-DE A3]at aW;obtain⟨Ub,IG⟩:=ac5 (to:=to l) n (to l k) (s++[k]);have a2:lj (s++[k]) (de (s++[k])) (hR (to l) n (to l k) (s++[k]))=de (hR (to l) n (to l k) (s++[k])):=by
   unfold lj;split
   .rename_i h;rw[IG]at h⊢;have:Ub=[]:=by simpa using h
    subst this;simp
   rfl
  have bb:lj S d (hR (to l) n (to l k) (s++[k]))=de (hR (to l) n (to l k) (s++[k])):=by unfold lj;rw[xac];rw[IG,bf];simp<;>omega
  rw[a2]at aW;obtain⟨q,bz,bA⟩:∃q,k4 (lj S d s)=some (q,s.map λ(i:Nat)=>[J (i:Int)])/\(decide (q=1\/(s.map λ(i:Nat)=>[J (i:Int)])=[])&&decide (0<1))=true:=by
   rcases aw with aw|⟨aw,a4⟩;.rw[aw];exact⟨1,rfl,by simp⟩
   rw[a4,aw];exact⟨0,rfl,by simp⟩
  have atl:dc (s.map λ(i:Nat)=>[J (i:Int)]).length 8=true:=gG (by simp;omega) (by simp;omega);have IH:dc ((s.map λ(i:Nat)=>[J (i:Int)]).length+1) 8=true:=gG (by simp;omega) (by simp;omega);have aX:D.az 1 ((s.map λ(i:Nat)=>[J (i:Int)])++[[J (k:Int)]])=de (s++[k]):=by simp[de]
  refine⟨hR (to l) n (to l k) (s++[k]),?_,?_,lH.inv,T++[k]++Ub,?_⟩;.rw[bb];simp only[H3,go_sem,pO,yT ((i:Int)<((dB l t).length:Int)),uS ak,iN,Nq,xaF eP,fo A3,a8.hx,bz,bA,xav,atl,xaK,xar,xax,IH,aX,aW,b0 (bt:=false) (i:=i) (by omega)]
  .simp only[xbx,xac eP]
  rw[IG,bf];simp
def atm(l:List a8){B:Nat}(aq:h6 B l)(n:Nat)(i:Nat)(ah:i<l.length)(aN:6*B+400<n):H5 n [aR l,J (i:Int)]=some (ax (jt l i)):=by
 have b2:=aq.len;have tK:=aq.b;obtain⟨d,ay⟩:∃d,l[i]?=some d:=⟨l[i],xaa ah⟩;have ig:=aq.e d (xab ay);have aj:=Ua l aq n d.e [] eU (.inr ⟨rfl,rfl⟩) ig.1 ig.2 ⟨by simp,by simp⟩ (by simp;omega);have ba:=T8 (λi k ak=>lM (l:=l) i k ak) n (l.length+1) (dB l d.e) [] ⟨by simp,by simp⟩ nC (by simp;omega) (by simp);have lH:=xr l (dB l d.e) nC;have gY:=lH.inv.len;rw[ba]at aj;have an:hR (to l) (l.length+1) (dB l d.e) []=lh l (dB l d.e):=rfl;rw[an]at aj;have Nq:=ac0 n (lh l (dB l d.e)) i (lj [] eU (lh l (dB l d.e))) (by
  unfold lj;split;.rename_i h;exact .inr ⟨xaI h,rfl⟩
  exact .inl rfl) (by omega) (by omega)
 simp only[H5,aa4,go_sem,fo ay,a8.hx,aj,Nq,jt,DE ay]
def Uc(l:List a8){B:Nat}(aq:h6 B l):∀(n:Nat)(i:Nat)(S:List Nat)(M:List (Value×D)),i<l.length->jQ M S->iP l.length S->l.length-S.length+2*B+100<n-> ∃cY,rP n [J (i:Int),h3 (l.map λd=>dB l d.e),.mp M]=some [D.aZ [],h3 (l.map λd=>dB l d.e),.mp cY]/\jQ cY (hR (to l) n (to l i) S)
 |0,_,_,_,_,_,_,h=>absurd h (xay _)
 |n+1,i,S,M,ah,dV,ec,aN=>by
  have b2:=aq.len;have tK:=aq.b;obtain⟨d,ay⟩:∃d,l[i]?=some d:=⟨l[i],xaa ah⟩;have ig:=aq.e d (xab ay);have DI:=Nn l d.e;have ag:bo 1 (h3 (l.map λd=>dB l d.e)) (J (i:Int))=some [de (dB l d.e)]:=amn (by simp[ay]);have bE:(J ((0:Nat):Int))=J 0:=rfl;rw[DE ay,hR];have key:∀(m j:Nat)(s:List Nat)(M:List (Value×D)),jQ M s->iP l.length s->S.length<=s.length->(dB l d.e).length-j<m->j<=(dB l d.e).length-> ∃cY,bq (Gz (rP n) n) m [de (dB l d.e),J (dB l d.e).length,J (j:Int),h3 (l.map λd=>dB l d.e),.mp M]=some (.inl [h3 (l.map λd=>dB l d.e),.mp cY])/\jQ cY (((dB l d.e).drop j).foldl (λS k=>if k∈S then S else hR (to l) n (to l k) (S++[k])) s):=by
   intro m
   induction m with
   |zero=>intro j s M _ _ _ h _;exact absurd h (xay _)
   |succ m ih=>
    intro j s M dV aG T1 hm aP;rw[jP];by_cases cJ:j<(dB l d.e).length
    .have ak:=xaa cJ;generalize (dB l d.e)[j]=k at ak;have FA:=xab ak;have o8:=nC k FA;have p0:(dB l d.e).drop j=k::(dB l d.e).drop (j+1):=by
      obtain⟨bz,bA⟩:=xae.1 ak;rw[xbc bz,bA]
     rw[p0,xbx];have Nr:=dV.look (i:=k) (z:= .bool false);by_cases eP:k∈s
     .rw[xad eP];obtain⟨cY,aW,a2⟩:=ih (j+1) s M dV aG T1 (by omega) cJ;refine⟨cY,?_,a2⟩;simp only[Gz,go_sem,yT ((j:Int)<((dB l d.e).length:Int)),uS ak,iN,Nr,xaw eP,b0 (bt:=false) (i:=j) (by omega),aW]
     rw[xac eP];obtain⟨vz,dy,dg⟩:=dV.put k;rw[xac eP]at dg;have IF:=aG.snoc o8 eP;have cu:=aG.lt o8 eP;obtain⟨M2,e4,eh⟩:=Uc l aq n k (s++[k]) vz o8 dg IF (by simp;omega);have lH:=DF (λi k ak=>lM i k ak) n (to l k) (s++[k]) IF (λx ag=>lM k x ag) (by simp;omega);obtain⟨Ub,IG⟩:=lH.pre;obtain⟨cY,aW,a2⟩:=ih (j+1) _ M2 eh lH.inv (by rw[IG];simp;omega) (by omega) cJ;refine⟨cY,?_,a2⟩;simp only[Gz,go_sem,yT ((j:Int)<((dB l d.e).length:Int)),uS ak,iN,Nr,xaF eP,dy,e4,b0 (bt:=false) (i:=j) (by omega),aW]
    have:j=(dB l d.e).length:=by omega
    subst this;refine⟨M,?_,by simpa using dV⟩;simp only[Gz,go_sem,yF (((dB l d.e).length:Int)<(dB l d.e).length)]
  obtain⟨cY,aW,a2⟩:=key n 0 S M dV ec (xan _) (by omega) (xai _);rw[bE]at aW;refine⟨cY,?_,by simpa using a2⟩;show L2 (rP n) n _=_;simp only[L2,go_sem,ag,iN,pO,aW]
inductive oe(o:Int)(x:ByteArray):Tm->Prop where
 |here (t:Tm) (h:t.op=o) (bx:t.name=x):oe o x t
 |gl (t k:Tm) (h:k∈t.aU) (bx:oe o x k):oe o x t
def Ns{s x:ByteArray}:∀{l:List ByteArray},x∈hQ s l↔x=s\/x∈l
 |[]=>by simp[hQ]
 |a::r=>by
  rw[hQ];split;.rename_i h;subst h;simp
  split;.simp
  rw[xal,Ns,xal];constructor
  .rintro(h|h|h);.exact .inr (.inl h)
   .exact .inl h
   exact .inr (.inr h)
  rintro(h|h|h);.exact .inr (.inl h)
  .exact .inl h
  exact .inr (.inr h)
def Nt(o:Int)(x:ByteArray)(t:Tm):∀l,x∈dQ o t l↔x∈l\/oe o x t:=by
 refine Tm.ind (P:=λt=>∀l,x∈dQ o t l↔x∈l\/oe o x t) ?_ t;intro t ih l;have key:∀(ks:List Tm),(∀k∈ks,∀l,x∈dQ o k l↔x∈l\/oe o x k)->∀l,x∈ke o ks l↔x∈l\/∃k∈ks,oe o x k:=by
  intro ks
  induction ks with
  |nil=>intro _ l;simp[ke]
  |cons a r mb=>intro h l;rw[ke,mb (λk ak=>h k (by simp[ak])),h a (by simp)];simp only[xal,exists_eq_or_imp,or_assoc]
 rw[An,key t.aU ih];constructor
 .rintro(h|⟨k,ak,h⟩)
  .split at h
   .rename_i aF;rcases Ns.1 h with rfl|h
    .exact .inr (.here t aF rfl)
    exact .inl h
   exact .inl h
  exact .inr (.gl t k ak h)
 rintro(h|h)
 .left;split;.exact Ns.2 (.inr h)
  exact h
 cases h with|here _ ab af=>left;rw[xad ab];exact Ns.2 (.inl af.symm)|gl _ k ak h=>exact .inr ⟨k,ak,h⟩
def II{l:List a8}{t:Tm}{i:Nat}:i∈dB l t↔∃x,oe 3 x t/\da l x=some i:=by
 unfold dB;rw[List.mem_filterMap];constructor;.rintro⟨x,ab,af⟩;exact⟨x,((Nt 3 x t []).1 ab).resolve_left (by simp),af⟩
 rintro⟨x,ab,af⟩;exact⟨x,(Nt 3 x t []).2 (.inr ab),af⟩
def Ud{l:List a8}{t k:Tm}(ak:k∈t.aU):∀i∈dB l k,i∈dB l t:=by intro i ah;obtain⟨x,ab,af⟩:=II.1 ah;exact II.2 ⟨x,.gl t k ak ab,af⟩
def r5(l:List a8)(t:Tm):Bool:=t.op==3&&(da l t.name).isSome
def ju(l:List a8):Nat->Tm->Tm->Prop
 |0,_,_=>False|h+1,t,X=>(t.op=3/\∃i d,da l t.name=some i/\l[i]?=some d/\ju l h d.e X)\/(r5 l t=false/\∃ks,X= .mk t.op t.num t.name t.nl ks/\ks.length=t.aU.length/\∀(j:Nat)(a b:Tm),t.aU[j]?=some a->ks[j]?=some b->ju l h a b)
def ju.mono{l:List a8}:∀{h bx:Nat}{t X:Tm},h<=bx->ju l h t X->ju l bx t X
 |0,_,_,_,_,H=>H.elim|h+1,0,_,_,hle,_=>absurd hle (by omega)
 |h+1,bx+1,t,X,hle,H=>by
  rcases H with⟨ab,i,d,af,aw,a4⟩|⟨ab,ks,af,aw,a4⟩;.exact .inl ⟨ab,i,d,af,aw,a4.mono (by omega)⟩
  exact .inr ⟨ab,ks,af,aw,λj a b aE aj=>(a4 j a b aE aj).mono (by omega)⟩
def ac6:∀{A B:List Nat},A.Nodup->(∀x∈A,x∈B)->A.length<=B.length
 |[],B,_,_=>by simp
 |a::A,B,aN,h=>by
  have aE:=h a (by simp);have ab:=ac6 (A:=A) (B:=B.erase a) (List.nodup_cons.1 aN).2 (λx ag=>by
   have cK:x≠a:=by rintro rfl;exact(List.nodup_cons.1 aN).1 ag
   exact(List.mem_erase_of_ne cK).2 (h x (by simp[ag])))
  have af:=List.length_erase_of_mem aE;have aw:0<B.length:=List.length_pos_of_mem aE;simp;omega
def Ao(l:List a8)(i:Nat):Nat:=(lh l (to l i)).length
def atn{l:List a8}{i j:Nat}(aP:j∈to l i)(av:jt l j=false):Ao l j<Ao l i:=by
 have ah:=xr l (to l i) (lM i);have ato:=xr l (to l j) (lM j);have atp:j∉lh l (to l j):=by
  intro h;have:jt l j=true:=by simp[jt,h]
  rw[av]at this;cases this
 have m8:∀x∈lh l (to l j)++[j],x∈lh l (to l i):=by
  intro x ag;rcases xak.1 ag with ag|ag
  .obtain⟨k,ab,af⟩:=(vy l _ (lM j) x).1 ag;exact(vy l _ (lM i) x).2 ⟨j,aP,.step j k x ab af⟩
  simp at ag;subst ag;exact ah.mem _ aP
 have:=ac6 (A:=lh l (to l j)++[j]) (B:=lh l (to l i)) (by rw[List.nodup_append];exact⟨ato.inv.1,by simp,by intro a aE b aj;simp at aj;subst aj;rintro rfl;exact atp aE⟩) m8;simp at this;unfold Ao;omega
def DJ(l:List a8)(t:Tm):Prop:=∀x∈lh l (dB l t),jt l x=false
def Ue{α:Type}{P:Nat->Tm->α->Prop}:∀(ks:List Tm),(∀(j:Nat)(a:Tm),ks[j]?=some a->∃b,P j a b)->∃r:List α,r.length=ks.length/\∀(j:Nat)(a:Tm)(b:α),ks[j]?=some a->r[j]?=some b->P j a b
 |[],_=>⟨[],rfl,by intro j a b h;simp at h⟩
 |k::r,h=>by obtain⟨b,aj⟩:=h 0 k rfl;obtain⟨kl,ab,af⟩:=Ue (P:=λj=>P (j+1)) r (λj a aE=>h (j+1) a (by simpa using aE));refine⟨b::kl,by simp[ab],?_⟩;intro j a c aE an;cases j with|zero=>simp at aE an;subst aE;subst an;exact aj|succ j=>exact af j a c (by simpa using aE) (by simpa using an)
def atq{l:List a8}{B:Nat}(aq:h6 B l):∀(r:Nat)(t:Tm),t.bl<=B->DJ l t->(∀k∈dB l t,Ao l k<r)->∃X,ju l (r*(B+1)+t.bl) t X:=by
 intro r
 induction r with
 |zero=>
  intro t;refine Tm.ind (P:=λt=>t.bl<=B->DJ l t->(∀k∈dB l t,Ao l k<0)->∃X,ju l (0*(B+1)+t.bl) t X) ?_ t;intro t ih aL DK ak;have iq:dB l t=[]:=by cases h:dB l t with|nil=>rfl|cons a q=>exact absurd (ak a (by rw[h];simp)) (xay _)
  have k0:r5 l t=false:=by cases h:r5 l t with|false=>rfl|true=>simp only[r5,xam,xbH,Option.isSome_iff_exists]at h;obtain⟨ab,i,af⟩:=h;have:i∈dB l t:=II.2 ⟨_,.here t ab rfl,af⟩;rw[iq]at this;cases this
  obtain⟨ks,ab,af⟩:=Ue (P:=λj a b=>ju l (t.bl-1) a b) t.aU (λj a aE=>by
   have hm:=xab aE;have bn:=Tm.ja hm;have ac7:dB l a=[]:=by cases h:dB l a with|nil=>rfl|cons b q=>have:=Ud hm b (by rw[h];simp);rw[iq]at this;cases this
   obtain⟨X,kd⟩:=ih a hm (by omega) (λx ag=>by rw[ac7]at ag;simp[lh,hR]at ag) (by rw[ac7];simp);exact⟨X,kd.mono (by omega)⟩)
  have bn:=t.j6;refine⟨.mk t.op t.num t.name t.nl ks,?_⟩;have e:0*(B+1)+t.bl=(t.bl-1)+1:=by omega
  rw[e];exact .inr ⟨k0,ks,rfl,ab,af⟩
 |succ r mb=>
  intro t;refine Tm.ind (P:=λt=>t.bl<=B->DJ l t->(∀k∈dB l t,Ao l k<r+1)->∃X,ju l ((r+1)*(B+1)+t.bl) t X) ?_ t;intro t ih aL DK ak;have bn:=t.j6;have e:(r+1)*(B+1)+t.bl=((r+1)*(B+1)+(t.bl-1))+1:=by omega
  cases aN:r5 l t with
  |true=>
   simp only[r5,xam,xbH,Option.isSome_iff_exists]at aN;obtain⟨ab,i,af⟩:=aN;obtain⟨d,aw,a4,b6⟩:=RX af;have ah:i∈dB l t:=II.2 ⟨_,.here t ab rfl,af⟩;have k6:=DE aw;have atr:=aq.e d (xab aw);have gY:=xr l (dB l t) nC;obtain⟨X,kd⟩:=mb d.e atr.2 (λx ag=>DK x (by
    obtain⟨k,bz,bA⟩:=(vy l _ nC x).1 ag;rw[<-k6]at bz;exact(vy l _ nC x).2 ⟨i,ah,.step i k x bz bA⟩)) (λk dj=>by
    rw[<-k6]at dj;have rh:k∈lh l (dB l t):=(vy l _ nC k).2 ⟨i,ah,.step i k k dj (.refl k)⟩;have:=atn dj (DK k rh);have:=ak i ah;omega)
   refine⟨X,?_⟩;rw[e];exact .inl ⟨ab,i,d,af,aw,kd.mono (by have:(r+1)*(B+1)=r*(B+1)+(B+1):=Nat.succ_mul _ _;omega)⟩
  |false=>
   obtain⟨ks,ab,af⟩:=Ue (P:=λj a b=>ju l ((r+1)*(B+1)+(t.bl-1)) a b) t.aU (λj a aE=>by
    have hm:=xab aE;have aBe:=Tm.ja hm;obtain⟨X,kd⟩:=ih a hm (by omega) (λx ag=>DK x (by obtain⟨k,bz,bA⟩:=(vy l _ nC x).1 ag;exact(vy l _ nC x).2 ⟨k,Ud hm k bz,bA⟩)) (λk dj=>ak k (Ud hm k dj))
    exact⟨X,kd.mono (by omega)⟩)
   refine⟨.mk t.op t.num t.name t.nl ks,?_⟩;rw[e];exact .inr ⟨aN,ks,rfl,ab,af⟩
def ats(l:List a8)(i:Nat):Ao l i<=l.length:=(xr l (to l i) (lM i)).inv.len
def att{l:List a8}{B:Nat}(aq:h6 B l){t:Tm}(aL:t.bl<=B)(h:DJ l t):∃X,ju l ((l.length+1)*(B+1)+B) t X:=by obtain⟨X,kd⟩:=atq aq (l.length+1) t aL h (λk _=>by have:=ats l k;omega);exact⟨X,kd.mono (by omega)⟩
mutual
def e1:Tm->Int->Int->Tm×Int
 | .mk o m s b ks,deep,n=>if ks.isEmpty then(.mk o m s b ks,n+1)else(.mk o m s false (gu ks deep (n+1)).1,(gu ks deep (n+1)).2)
def gu:List Tm->Int->Int->List Tm×Int
 |[],_,n=>([],n)|k::r,deep,n=>if deep<=64/\n<=4096 then((e1 k (deep+1) n).1::(gu r deep (e1 k (deep+1) n).2).1,(gu r deep (e1 k (deep+1) n).2).2)else(fQ::(gu r deep n).1,(gu r deep n).2)
end
mutual
def gW:Tm->Tm
 | .mk o m s b ks=> .mk o m s false (og ks)
def og:List Tm->List Tm
 |[]=>[]|k::r=>gW k::og r
end
def ac8:∀l:List Tm,(og l).length=l.length
 |[]=>rfl|k::r=>by simp[og,ac8 r]
def Nu:∀(l:List Tm)(d n:Int),(gu l d n).1.length=l.length
 |[],_,_=>rfl|k::r,d,n=>by rw[gu];split<;>simp[Nu r]
def atu(o m:Int)(s:ByteArray)(n:Nat):Int:=if(hk o).1<0 then 11
 else if(m<(if o=1 then-255 else 0))\/m>(if o=1 then 255 else if o=2 then 1 else 0)then 2
 else if(if Dy o then s=⟨#[]⟩\/s.size>24 else s≠⟨#[]⟩)then 12
 else if(n:Int)<(hk o).1\/(n:Int)>(hk o).2 then 3 else 0
theorem ac9(o m:Int)(s:ByteArray)(b:Bool)(ks:List Tm):iu (.mk o m s b ks)=atu o m s ks.length:=rfl
def ada{o m:Int}{s:ByteArray}{b b':Bool}{ks ks':List Tm}(h:ks.length=ks'.length):iu (.mk o m s b ks)=iu (.mk o m s b' ks'):=by rw[ac9,ac9,h]
mutual
def Nv:∀(X:Tm)(deep n:Int),n<=4096->(db (e1 X deep n).1 deep n).1=(db X deep n).1/\((db X deep n).1=0->(db X deep n).2=(e1 X deep n).2/\(db (e1 X deep n).1 deep n).2=(e1 X deep n).2/\eV (e1 X deep n).1 (gW X)=true)
 | .mk o m s b ks,deep,n,aN=>by
  rw[e1];cases ks with
  |nil=>
   simp only[List.isEmpty_nil,xaC,true_and];intro h;rw[db]at h⊢;split at h;.cases h
   split at h;.rename_i af;exact absurd h af
   split at h;.cases h
   rename_i ab af aw;rw[xac ab,xac af,xac aw];simp[fH,gW,og,DC,Tm.op,Tm.num,Tm.name,Tm.aU,lf]
  |cons k r=>
   simp only[List.isEmpty_cons,xas,xaD];rw[db,db,ada (b':=b) (ks':=k::r) (Nu (k::r) deep (n+1))];by_cases ab:deep>64;.rw[xad ab,xad ab];simp
   rw[xac ab,xac ab];by_cases af:iu (.mk o m s b (k::r))≠0;.rw[xad af,xad af];exact⟨rfl,λh=>absurd h af⟩
   rw[xac af,xac af];by_cases aw:n+1>4096;.rw[xad aw,xad aw];simp
   rw[xac aw,xac aw];obtain⟨aW,a2⟩:=adb (k::r) deep (n+1) (by omega) (by omega);refine⟨aW,λh=>?_⟩;obtain⟨bz,bA,cx⟩:=a2 h;refine⟨bz,bA,?_⟩;rw[DC];simp only[gW,Tm.op,Tm.num,Tm.name,Tm.aU,cx,Nu,ac8];simp
def adb:∀(ks:List Tm)(deep n:Int),deep<=64->n<=4096->(fH (gu ks deep n).1 (deep+1) n).1=(fH ks (deep+1) n).1/\((fH ks (deep+1) n).1=0->(fH ks (deep+1) n).2=(gu ks deep n).2/\(fH (gu ks deep n).1 (deep+1) n).2=(gu ks deep n).2/\lf (gu ks deep n).1 (og ks)=true)
 |[],deep,n,_,_=>by simp[gu,fH,og,lf]
 |k::r,deep,n,ay,aN=>by
  rw[gu,xad ⟨ay,aN⟩,fH,fH];obtain⟨aW,a2⟩:=Nv k (deep+1) n aN;have aT:=Dz k (deep+1) n;by_cases h:(db k (deep+1) n).1=0
  .obtain⟨bz,bA,cx⟩:=a2 h;have bx:=aW.trans h;simp only[h,bx,ne_eq,xbC,xaD,bz,bA];have hle:(e1 k (deep+1) n).2<=4096:=by rw[<-bz];exact aT.2 h
   obtain⟨dy,dg⟩:=adb r deep (e1 k (deep+1) n).2 ay hle;refine⟨dy,λh=>?_⟩;obtain⟨s1,s2,gT⟩:=dg h;exact⟨s1,s2,by rw[og,lf,cx,gT];rfl⟩
  have bx:(db (e1 k (deep+1) n).1 (deep+1) n).1≠0:=by rw[aW];exact h
  simp only[ne_eq,h,bx,xcb,xaC];exact⟨aW,λbO=>bO.elim⟩
end
def Tm.ade(l:List Tm)(t:Tm):Tm.rows (l++[t])=Tm.rows l++[t.cells]:=by simp[Tm.mF]
def atv(o m:Int)(s:ByteArray)(b:Bool)(ks:List Tm):gW (.mk o m s b ks)= .mk o m s false (og ks):=by rw[gW]
def Nw{α β:Type}{a:List α}{b:List β}{i:Nat}{x:α×β}(h:(a.zip b)[i]?=some x):a[i]?=some x.1/\b[i]?=some x.2:=by rw[List.getElem?_zip_eq_some]at h;exact h
def Uf{α β:Type}{a:List α}{b:List β}(h:b.length=a.length):(a.zip b).map (·.2)=b:=List.map_snd_zip (by omega)
def Ug{l:List a8}{B:Nat}(aq:h6 B l):∀(h n:Nat)(t X:Tm)(deep k:Int),ju l h t X->t.cc->t.bl<=B->1<=deep->deep<=65->0<=k->k<=4096->h+2*B+100<n->rZ n [t.d,aR l,J deep,J k]=some (.aZ [if(db X deep k).1=0 then(gW X).d else fQ.d,J (db X deep k).2,J (db X deep k).1])
 |0,_,_,_,_,_,H,_,_,_,_,_,_,_=>H.elim|h+1,0,_,_,_,_,_,_,_,_,_,_,_,aN=>absurd aN (xay _)
 |h+1,n+1,t,X,deep,k,H,bm,aL,ab,af,aw,a4,aN=>by
  have b2:=aq.len;have tK:=aq.b;have iC:=acZ n l t.name (by omega) (by omega);have aT:=acK n t deep;have hzero:D.agg [J 0,J 0,aC ⟨#[]⟩,D.val (.slice none 0 0)]=fQ.d:=LN.symm;rcases H with⟨aF,i,d,ah,ay,kd⟩|⟨iq,ks,rfl,eP,Ap⟩
  .have ig:=aq.e d (xab ay);have av:=Ug aq h n d.e X deep k kd ig.1 ig.2 ab af aw a4 (by omega);simp only[ah]at iC;show rY (rZ n) n t.d (aR l) (J deep) (J k)=_;have DL:((3:Int)==3)=true:=rfl;by_cases ar:(db X deep k).1=0
   .simp only[ar,xaC]at av⊢;simp only[rY,go_sem,aF,DL,iC,yT ((i:Int)>=0),fo ay,a8.hx,av]
   simp only[ar,xaD]at av⊢;simp only[rY,go_sem,aF,DL,iC,yT ((i:Int)>=0),fo ay,a8.hx,av]
  have hw:iu (.mk t.op t.num t.name t.nl ks)=iu t:=by have:=ada (o:=t.op) (m:=t.num) (s:=t.name) (b:=t.nl) (b':=t.nl) eP;rw[this];cases t;rfl
  have IJ:(t.op==3)=false/\True\/(t.op==3)=true/\xd n [aR l,aC t.name]=some (J (-1)):=by
   by_cases aw:t.op=3
   .right;have Uh:da l t.name=none:=by simpa[r5,aw]using iq
    rw[Uh]at iC;exact⟨by simp[aw],iC⟩
   left;simp[aw]
  have IK:decide ((-1:Int)>=0)=false:=by decide
  show rY (rZ n) n t.d (aR l) (J deep) (J k)=_;rw[vu,hw];by_cases bU:64<deep
  .have r6:((17:Int) !=0)=true:=rfl;rcases IJ with⟨aG,o9⟩|⟨aG,o9⟩<;>
   simp only[rY,go_sem,aG,o9,IK,l9 (bt:=false) (i:=k) (by omega) (by omega),aT,gt_iff_lt,bU,hzero,r6,show¬((17:Int)=0) by omega]
  by_cases bY:iu t=0
  case neg=>
   have r6:(iu t !=0)=true:=by simpa using bY
   rcases IJ with⟨aG,o9⟩|⟨aG,o9⟩<;>
   simp only[rY,go_sem,aG,o9,IK,l9 (bt:=false) (i:=k) (by omega) (by omega),aT,gt_iff_lt,bU,hzero,r6,bY,ne_eq,xcb]
  have p1:((0:Int) !=0)=false:=rfl;by_cases cv:4096<k+1
  .rcases IJ with⟨aG,o9⟩|⟨aG,o9⟩<;>
   simp only[rY,go_sem,aG,o9,IK,l9 (bt:=false) (i:=k) (by omega) (by omega),aT,gt_iff_lt,bU,hzero,bY,p1,ne_eq,xbC,xbg,cv,show¬((4:Int)=0) by omega]
  have dE:=dJ (f:=H6 (rZ n) n) (t.aU.zip ks) (λi (s:Int×List Tm)=>[aR l,J deep,J s.1,J (i:Int),J t.op,J t.num,aC t.name,cr 4 t.nl (Tm.rows t.aU),J 0,J 0,aC ⟨#[]⟩,eU,.az 4 (Tm.rows s.2)]) (λr (s:Int×List Tm)=>if(fH (r.map (·.2)) (deep+1) s.1).1=0 then(Sum.inl [J (fH (r.map (·.2)) (deep+1) s.1).2,J t.op,J t.num,aC t.name,cr 4 t.nl (Tm.rows t.aU),J 0,J 0,aC ⟨#[]⟩,eU,.az 4 (Tm.rows (s.2++og (r.map (·.2))))]:List D⊕D)else .inr (.aZ [fQ.d,J (fH (r.map (·.2)) (deep+1) s.1).2,J (fH (r.map (·.2)) (deep+1) s.1).1])) (λi s=>0<=s.1/\s.1<=4096/\s.2.length=i) ?_ ?_ n 0 (k+1,[]) ⟨by simp;omega,by simp;omega,rfl⟩ (by have:=t.j6;simp[eP];omega) (xai _)
  .have bE:(J ((0:Nat):Int))=J 0:=rfl;have nm:Tm.rows []=[]:=rfl;simp only[xao,Uf eP,bE,nm,xaK]at dE;have oD:(Tm.mk t.op t.num t.name t.nl ks).aU=ks:=rfl;have mo:(gW (.mk t.op t.num t.name t.nl ks)).d=D.agg [J t.op,J t.num,aC t.name,.az 4 (Tm.rows (og ks))]:=by rw[atv,Tm.j7];simp[cr,Tm.op,Tm.num,Tm.name,Tm.nl,Tm.aU]
   by_cases ar:(fH ks (deep+1) (k+1)).1=0
   .simp only[ar,xaC]at dE;rcases IJ with⟨aG,o9⟩|⟨aG,o9⟩<;>
    simp only[rY,go_sem,aG,o9,IK,l9 (bt:=false) (i:=k) (by omega) (by omega),aT,gt_iff_lt,bU,hzero,bY,p1,ne_eq,xbC,xbF,cv,dE,oD,ar,mo]
   simp only[ar,xaD]at dE;rcases IJ with⟨aG,o9⟩|⟨aG,o9⟩<;>
   simp only[rY,go_sem,aG,o9,IK,l9 (bt:=false) (i:=k) (by omega) (by omega),aT,gt_iff_lt,bU,hzero,bY,p1,ne_eq,xbC,xbF,cv,dE,oD,ar]
  .intro s _;have e:((t.aU.zip ks).length:Int)=t.aU.length:=by simp[eP]
   simp only[H6,go_sem,e,yF ((t.aU.length:Int)<t.aU.length),xbn,fH,og,xaG]
  rintro i ⟨a,b⟩ s fE ah ⟨bz,bA,cx⟩;obtain⟨aE,aj⟩:=Nw fE;simp only at aE aj;have hm:=xab aE;have bn:=Tm.ja hm;have b2:=bm.len;have ck:(i:Int)<t.aU.length:=by have:=(xae.1 aE).1;omega
  have av:=Ug aq h n a b (deep+1) s.1 (Ap i a b aE aj) (bm.gl hm) (by omega) (by omega) (by omega) bz bA (by omega);have jD:=Dz b (deep+1) s.1;have ej:dc (s.2.length+1) 56=true:=gG (by omega) (by omega);by_cases ar:(db b (deep+1) s.1).1=0
  .simp only[ar,xaC]at av;left;refine⟨((db b (deep+1) s.1).2,s.2++[gW b]),?_,?_,by simp;omega,by simpa using jD.2 ar,by simp[cx]⟩;.have bQ:[J (gW b).op,J (gW b).num,aC (gW b).name,cr 4 (gW b).nl (Tm.rows (gW b).aU)]=(gW b).cells:=((gW b).nu).symm;simp only[H6,go_sem,xaw ck,Tm.gN aE,l9 (bt:=false) (i:=deep) (by omega) (by omega),av,p1,bQ,Tm.ade,xar,xav,xax,ej,b0 (bt:=false) (i:=i) (by omega)]
   simp only[xaz,fH,ar,ne_eq,xbC,xaD,og,xaT,xbl]
  simp only[ar,xaD]at av;have r6:((db b (deep+1) s.1).1 !=0)=true:=by simpa using ar
  right;simp only[H6,go_sem,xaw ck,Tm.gN aE,l9 (bt:=false) (i:=deep) (by omega) (by omega),av,r6,hzero,xaz,fH,ne_eq,ar,xcb]
theorem Ui(t:Tm)(deep n:Int):e1 t deep n=if t.aU.isEmpty then(t,n+1)else(.mk t.op t.num t.name false (gu t.aU deep (n+1)).1,(gu t.aU deep (n+1)).2):=by cases t;rw[e1];rfl
def adf(t:Tm):∀(deep n:Int),n+1<=(e1 t deep n).2/\(n<=4096->(e1 t deep n).2<=4097):=by
 refine Tm.ind (P:=λt=>∀(deep n:Int),n+1<=(e1 t deep n).2/\(n<=4096->(e1 t deep n).2<=4097)) ?_ t;intro t ih deep n;have key:∀(ks:List Tm),(∀k∈ks,∀(deep n:Int),n+1<=(e1 k deep n).2/\(n<=4096->(e1 k deep n).2<=4097))->∀(n:Int),n<=(gu ks deep n).2/\(n<=4097->(gu ks deep n).2<=4097):=by
  intro ks
  induction ks with
  |nil=>intro _ n;simp[gu]
  |cons a r mb=>
   intro h n;have ab:=h a (by simp) (deep+1) n;rw[gu];split
   .have af:=mb (λk ak=>h k (by simp[ak])) (e1 a (deep+1) n).2;simp only;constructor;.omega
    intro _;exact af.2 (by omega)
   exact mb (λk ak=>h k (by simp[ak])) n
 rw[Ui];split;.simp only[Int.le_refl,true_and];omega
 have:=key t.aU ih (n+1);simp only;constructor;.omega
 intro _;exact this.2 (by omega)
def adg{l:List a8}{B:Nat}(aq:h6 B l){M:List (Value×D)}(dV:Nm M l)(r:List D->Option (List D))(fX:Nat)(deep vA:Int):∀(h n:Nat)(t X:Tm),ju l h t X->t.cc->t.bl<=B->h<n-> ∃(t':Tm)(bx:Nat)(ks:List Tm),bx<h/\t'.cc/\t'.bl<=B/\X= .mk t'.op t'.num t'.name t'.nl ks/\ks.length=t'.aU.length/\(∀(j:Nat)(a b:Tm),t'.aU[j]?=some a->ks[j]?=some b->ju l bx a b)/\bq (GC r fX) n [J deep,.mp M,aR l,J vA,J t.op,J t.num,aC t.name,cr 4 t.nl (Tm.rows t.aU),J 0,J 0,aC ⟨#[]⟩,eU]=some (.inl [J deep,J vA,J t'.op,J t'.num,aC t'.name,cr 4 t'.nl (Tm.rows t'.aU),J 0,J 0,aC ⟨#[]⟩,eU,.mp M,aR l])
 |0,_,_,_,H,_,_,_=>H.elim|h+1,0,_,_,_,_,_,aN=>absurd aN (xay _)
 |h+1,n+1,t,X,H,bm,aL,aN=>by
  have hG:=yQ dV.1 (z:= .int .i64 0) (x:=t.name);rw[dV.2]at hG;rcases H with⟨aF,i,d,ah,ay,kd⟩|⟨iq,ks,rfl,eP,Ap⟩
  .have ig:=aq.e d (xab ay);have DL:((3:Int)==3)=true:=rfl;rw[ah]at hG;simp only[xaP]at hG;obtain⟨t',bx,ks,aW,a2,bb,cX,iD,Nx,ry⟩:=adg aq dV r fX deep vA h n d.e X kd ig.1 ig.2 (by omega);refine⟨t',bx,ks,by omega,a2,bb,cX,iD,Nx,?_⟩;rw[jP,<-ry];simp only[GC,go_sem,aF,DL,lG,hG,fo ay,a8.hx]
  refine⟨t,h,ks,by omega,bm,aL,rfl,eP,Ap,?_⟩;rw[jP];by_cases aw:t.op=3
  .have Uh:da l t.name=none:=by simpa[r5,aw]using iq
   have DL:((3:Int)==3)=true:=rfl;rw[Uh]at hG;simp only[xbp]at hG;simp only[GC,go_sem,aw,DL,lG,hG]
  have aG:(t.op==3)=false:=by simp[aw]
  simp only[GC,go_sem,aG]
def adh{s:List Tm}{x:Tm}{i k:Nat}(ah:s.length=i)(ak:i<k):(Tm.rows (s++List.replicate (k-i) fQ)).set i x.cells=Tm.rows ((s++[x])++List.replicate (k-(i+1)) fQ):=by
 obtain⟨m,rfl⟩:∃m,k=i+1+m:=⟨k-(i+1),by omega⟩;have aO:i+1+m-i=m+1:=by omega
 have aX:i+1+m-(i+1)=m:=by omega
 subst ah;rw[aO,aX];simp[Tm.mF,List.replicate_succ]
def atw{s:List Tm}{i k:Nat}(ah:s.length=i)(ak:i<k):(Tm.rows (s++List.replicate (k-i) fQ))[i]?=some fQ.cells:=by
 obtain⟨m,rfl⟩:∃m,k=i+1+m:=⟨k-(i+1),by omega⟩;have aO:i+1+m-i=m+1:=by omega
 subst ah;rw[aO];simp[Tm.mF,List.replicate_succ]
def atx{t:Nat}(h:t<=1000000):rl 56 (J (t:Int)) (J (t:Int))=some t:=by simp only[rl,J];rw[xad ⟨by omega,by omega,by omega,by omega⟩];simp
def adi{l:List a8}{B:Nat}(aq:h6 B l){M:List (Value×D)}(dV:Nm M l):∀(n h:Nat)(t X:Tm)(deep k:Int),ju l h t X->t.cc->t.bl<=B->1<=deep->deep<=65->0<=k->k<=4096->h+2*B+100<n->tj n [t.d,J deep,.mp M,aR l,J k]=some [(e1 X deep k).1.d,.mp M,aR l,J (e1 X deep k).2]
 |0,_,_,_,_,_,_,_,_,_,_,_,_,aN=>absurd aN (xay _)
 |n+1,h,t0,X,deep,k,H,aty,atz,ab,af,aw,a4,aN=>by
  have b2:=aq.len;have tK:=aq.b;obtain⟨t,bx,ks,aW,bm,aL,rfl,eP,Ap,ry⟩:=adg aq dV (tj n) n deep k h n t0 X H aty atz (by omega);have oD:(Tm.mk t.op t.num t.name t.nl ks).aU=ks:=rfl;have Uj:∀(b:Bool)(r:List Tm),(Tm.mk t.op t.num t.name b r).d=D.agg [J t.op,J t.num,aC t.name,cr 4 b (Tm.rows r)]:=λb r=>by rw[Tm.j7];rfl
  have oO:=t.j6;have bE:(J ((0:Nat):Int))=J 0:=rfl;show GD (tj n) n _=_;rw[Ui,oD];cases dj:t.aU with
  |nil=>
   have atA:ks=[]:=by rw[dj]at eP;exact xaI eP
   subst atA;rw[dj]at ry;have p1:((((Tm.rows []).length:Nat):Int)==0)=true:=rfl;simp only[GD,go_sem,ry,l9 (bt:=false) (i:=k) (by omega) (by omega),List.isEmpty_nil,Uj];simp
  |cons ae jI=>
   have cK:¬ks.isEmpty=true:=by cases ks with|nil=>rw[dj]at eP;simp at eP|cons _ _=>simp
   have atB:((t.aU.length:Int)==0)=false:=by rw[dj];simp;omega
   rw[xac cK];show _=some [(Tm.mk t.op t.num t.name false (gu ks deep (k+1)).1).d,.mp M,aR l,J (gu ks deep (k+1)).2];clear dj;have dE:=dJ (f:=Cd (tj n) n) (t.aU.zip ks) (λi (s:Int×List Tm)=>[J deep,cr 4 t.nl (Tm.rows t.aU),J t.aU.length,J (i:Int),J s.1,J t.op,J t.num,aC t.name,cr 4 t.nl (Tm.rows t.aU),J 0,J 0,aC ⟨#[]⟩,eU,.az 4 (Tm.rows (s.2++List.replicate (t.aU.length-i) fQ)),.mp M,aR l]) (λr (s:Int×List Tm)=>(Sum.inl [J t.op,J t.num,aC t.name,cr 4 t.nl (Tm.rows t.aU),J 0,J 0,aC ⟨#[]⟩,eU,.az 4 (Tm.rows (s.2++(gu (r.map (·.2)) deep s.1).1)),.mp M,aR l,J (gu (r.map (·.2)) deep s.1).2]:List D⊕List D)) (λi s=>0<=s.1/\s.1<=4097/\s.2.length=i) ?_ ?_ n 0 (k+1,[]) ⟨by simp;omega,by simp;omega,rfl⟩ (by simp[eP];omega) (xai _)
   .have nm:Tm.rows (List.replicate t.aU.length fQ)=List.replicate t.aU.length [J 0,J 0,aC ⟨#[]⟩,D.val (.slice none 0 0)]:=by
     rw[Tm.mF,List.map_replicate];rfl
    simp only[xao,Uf eP,bE,xaK,Nat.sub_zero,nm]at dE;have IL:=atx (t:=t.aU.length) (by omega);simp only[GD,go_sem,ry,l9 (bt:=false) (i:=k) (by omega) (by omega),atB,IL,dE,Uj,BT]
   .intro s aG;have e:(t.aU.zip ks).length=t.aU.length:=by simp[eP]
    simp only[e,Cd,go_sem,yF ((t.aU.length:Int)<t.aU.length),xbn,gu,xbZ,List.replicate_zero,xaG]
   rintro i ⟨a,b⟩ s fE ah ⟨bz,bA,cx⟩;obtain⟨aE,aj⟩:=Nw fE;simp only at aE aj;have hm:=xab aE;have bn:=Tm.ja hm;have Uk:=(xae.1 aE).1;have ck:(i:Int)<t.aU.length:=by omega
   left;by_cases an:deep<=64/\s.1<=4096
   .have av:=adi aq dV n bx a b (deep+1) s.1 (Ap i a b aE aj) (bm.gl hm) (by omega) (by omega) (by omega) bz an.2 (by omega);have jD:=adf b (deep+1) s.1;have ga:cj (s.2++List.replicate (t.aU.length-i) fQ).length (J (i:Int))=some i:=by
     rw[oV,xad];simp;omega
    have gY:dH fQ.cells 0 [J (e1 b (deep+1) s.1).1.op,J (e1 b (deep+1) s.1).1.num,aC (e1 b (deep+1) s.1).1.name,cr 4 (e1 b (deep+1) s.1).1.nl (Tm.rows (e1 b (deep+1) s.1).1.aU)]=(e1 b (deep+1) s.1).1.cells:=by rw[Tm.nu (e1 b (deep+1) s.1).1];rfl
    refine⟨((e1 b (deep+1) s.1).2,s.2++[(e1 b (deep+1) s.1).1]),?_,?_,by simp;omega,by simpa using jD.2 an.2,by simp[cx]⟩;.simp only[Cd,go_sem,xaw ck,Tm.gN aE,xaw an.1,xaw an.2,l9 (bt:=false) (i:=deep) (by omega) (by omega),av,ga,atw cx Uk,gY,adh cx Uk,b0 (bt:=false) (i:=i) (by omega)]
    simp only[xaz,gu,xad an,xaT,xbl]
   refine⟨(s.1,s.2++[fQ]),?_,?_,by simpa using bz,by simpa using bA,by simp[cx]⟩
   .have aBf:=adh (x:=fQ) cx Uk;have bf:Tm.rows (s.2++List.replicate (t.aU.length-i) fQ)=Tm.rows (s.2++[fQ]++List.replicate (t.aU.length-(i+1)) fQ):=by
     obtain⟨m,hm⟩:∃m,t.aU.length=i+1+m:=⟨t.aU.length-(i+1),by omega⟩;have aO:i+1+m-i=m+1:=by omega
     have aX:i+1+m-(i+1)=m:=by omega
     rw[hm,aO,aX];simp[List.replicate_succ]
    by_cases Fo:deep<=64;.have pt:¬s.1<=4096:=λh=>an ⟨Fo,h⟩;simp only[Cd,go_sem,xaw ck,Tm.gN aE,xaw Fo,xaF pt,bf,b0 (bt:=false) (i:=i) (by omega)]
    simp only[Cd,go_sem,xaw ck,Tm.gN aE,xaF Fo,bf,b0 (bt:=false) (i:=i) (by omega),xbq]
   simp only[xaz,gu,xac an,xaT,xbl]
def Aq(l:List a8)(S:List Nat):Prop:=∀x∈S,∀y∈to l x,y∈S
def Aq.r4{l:List a8}{S:List Nat}(h:Aq l S){a b:Nat}(av:kp (to l) a b)(aE:a∈S):b∈S:=by induction av with|refl=>exact aE|step i j k gS _ ih=>exact ih (h i aE j gS)
def adj(l:List a8)(i n:Nat)(S:List Nat)(ab:iP l.length S)(af:Aq l S)(aN:l.length<n):iP l.length (hR (to l) n (to l i) S)/\Aq l (hR (to l) n (to l i) S)/\∀x,x∈hR (to l) n (to l i) S↔x∈S\/∃k∈to l i,kp (to l) k x:=by
 have h:=DF (λi k ak=>lM i k ak) n (to l i) S ab (λx ag=>lM i x ag) (by omega);obtain⟨T,bf⟩:=h.pre;have an:Aq l (hR (to l) n (to l i) S):=by
  intro x ag y aJ;by_cases aG:x∈S;.rw[bf];simp[af x aG y aJ]
  exact h.vx x ag aG y aJ
 refine⟨h.inv,an,λx=>⟨h.r4 x,?_⟩⟩;rintro(ag|⟨k,ak,av⟩);.rw[bf];simp[ag]
 exact an.r4 av (h.mem k ak)
def adk(l:List a8){B:Nat}(aq:h6 B l)(n:Nat)(aN:3*B+200<n)(fr:List Nat)(qk:∀i∈fr,i<l.length)(mo:fr.length<1000000000):∀(m j:Nat)(S:List Nat)(M:List (Value×D)),jQ M S->iP l.length S->Aq l S->fr.length-j<m->j<=fr.length-> ∃cY nD,bq (L3 n) m [de fr,J fr.length,J (j:Int),.mp M,h3 (l.map λd=>dB l d.e)]=some (.inl [.mp cY])/\jQ cY nD/\iP l.length nD/\∀x,x∈nD↔x∈S\/∃i∈fr.drop j,∃k∈to l i,kp (to l) k x
 |0,_,_,_,_,_,_,h,_=>absurd h (xay _)
 |m+1,j,S,M,dV,ec,cf,hm,aP=>by
  have b2:=aq.len;rw[jP];by_cases cJ:j<fr.length
  .have ak:=xaa cJ;generalize fr[j]=i at ak;have ah:=qk i (xab ak);have p0:fr.drop j=i::fr.drop (j+1):=by
    obtain⟨bz,bA⟩:=xae.1 ak;rw[xbc bz,bA]
   have gr:=ec.len;obtain⟨vz,e4,eh⟩:=Uc l aq n i S M ah dV ec (by omega);obtain⟨bU,bY,cv⟩:=adj l i n S ec cf (by omega);obtain⟨cY,nD,aW,a2,bb,cX⟩:=adk l aq n aN fr qk mo m (j+1) _ vz eh bU bY (by omega) cJ;refine⟨cY,nD,?_,a2,bb,λx=>?_⟩;.simp only[L3,go_sem,yT ((j:Int)<(fr.length:Int)),uS ak,iN,e4,b0 (bt:=false) (i:=j) (by omega),aW]
   rw[cX,cv,p0];simp only[xal,exists_eq_or_imp,or_assoc]
  have:j=fr.length:=by omega
  subst this;refine⟨M,S,?_,dV,ec,λx=>by simp⟩;simp only[L3,go_sem,yF ((fr.length:Int)<fr.length)]
def adl(l:List a8){B:Nat}(aq:h6 B l)(n:Nat)(aN:3*B+200<n)(fr:List Nat)(qk:∀i∈fr,i<l.length)(mo:fr.length<1000000000):∀(m j:Nat)(S:List Nat)(M:List (Value×D)),jQ M S->iP l.length S->Aq l S->fr.length-j<m->j<=fr.length-> ∃cY nD,bq (L4 n) m [de fr,J fr.length,J (j:Int),.mp M,h3 (l.map λd=>dB l d.e)]=some (.inl [.mp cY])/\jQ cY nD/\iP l.length nD/\∀x,x∈nD↔x∈S\/∃i∈fr.drop j,∃k∈to l i,kp (to l) k x
 |0,_,_,_,_,_,_,h,_=>absurd h (xay _)
 |m+1,j,S,M,dV,ec,cf,hm,aP=>by
  have b2:=aq.len;rw[jP];by_cases cJ:j<fr.length
  .have ak:=xaa cJ;generalize fr[j]=i at ak;have ah:=qk i (xab ak);have p0:fr.drop j=i::fr.drop (j+1):=by
    obtain⟨bz,bA⟩:=xae.1 ak;rw[xbc bz,bA]
   have gr:=ec.len;obtain⟨vz,e4,eh⟩:=Uc l aq n i S M ah dV ec (by omega);obtain⟨bU,bY,cv⟩:=adj l i n S ec cf (by omega);obtain⟨cY,nD,aW,a2,bb,cX⟩:=adl l aq n aN fr qk mo m (j+1) _ vz eh bU bY (by omega) cJ;refine⟨cY,nD,?_,a2,bb,λx=>?_⟩;.simp only[L4,go_sem,yT ((j:Int)<(fr.length:Int)),uS ak,iN,e4,b0 (bt:=false) (i:=j) (by omega),aW]
   rw[cX,cv,p0];simp only[xal,exists_eq_or_imp,or_assoc]
  have:j=fr.length:=by omega
  subst this;refine⟨M,S,?_,dV,ec,λx=>by simp⟩;simp only[L4,go_sem,yF ((fr.length:Int)<fr.length)]
theorem Ul(l:List a8):bJ (aR l)=true:=rfl
theorem adm(l:List (List Nat)):bJ (h3 l)=true:=rfl
def atC(l:List a8){B:Nat}(aq:h6 B l)(n:Nat)(aN:3*B+200<n)(fr:List Nat)(qk:∀i∈fr,i<l.length)(mo:fr.length<n)(Um:fr.length<1000000000): ∃M S,GB n [h3 (l.map λd=>dB l d.e),de fr]=some [.mp M]/\jQ M S/\∀x,x∈S↔∃i∈fr,∃k∈to l i,kp (to l) k x:=by have bE:(J ((0:Nat):Int))=J 0:=rfl;obtain⟨M,S,aW,a2,bb,cX⟩:=adk l aq n aN fr qk Um n 0 [] [] jQ.nil ⟨by simp,by simp⟩ (by intro x ag;cases ag) (by omega) (xai _);refine⟨M,S,?_,a2,λx=>by rw[cX];simp⟩;rw[bE]at aW;simp only[GB,go_sem,adm,pO,aW]
def atD(l:List a8){B:Nat}(aq:h6 B l)(n:Nat)(aN:3*B+200<n)(fr:List Nat)(qk:∀i∈fr,i<l.length)(mo:fr.length<n)(Um:fr.length<1000000000): ∃M S,Cc n [h3 (l.map λd=>dB l d.e),de fr]=some (.mp M)/\jQ M S/\∀x,x∈S↔∃i∈fr,∃k∈to l i,kp (to l) k x:=by have bE:(J ((0:Nat):Int))=J 0:=rfl;obtain⟨M,S,aW,a2,bb,cX⟩:=adl l aq n aN fr qk Um n 0 [] [] jQ.nil ⟨by simp,by simp⟩ (by intro x ag;cases ag) (by omega) (xai _);refine⟨M,S,?_,a2,λx=>by rw[cX];simp⟩;rw[bE]at aW;simp only[Cc,aac,go_sem,adm,pO,aW]
def atE(l:List a8){B:Nat}(aq:h6 B l)(n:Nat)(aN:3*B+200<n)(i:Nat)(ah:i<l.length): ∃M,Cc n [h3 (l.map λd=>dB l d.e),D.az 1 [[J (i:Int)]]]=some (.mp M)/\j3 (.int .i64) (.bool false) false M (J (i:Int))=some (ax (jt l i)):=by
 obtain⟨M,S,aW,a2,bb⟩:=atD l aq n aN [i] (by simpa using ah) (by simp;omega) (by simp);refine⟨M,aW,?_⟩;rw[a2.look (z:= .bool false)];have:(i∈S)↔jt l i=true:=by rw[bb,T9];simp
 congr 2
 by_cases h:i∈S;.rw[this.1 h];simp[h]
 have bx:jt l i=false:=by cases af:jt l i with|false=>rfl|true=>exact absurd (this.2 af) h
 rw[bx];simp[h]
def p2(l:List a8)(t:Tm):Bool:=(lh l (dB l t)).all λx=>!jt l x
def atF(l:List a8)(t:Tm):p2 l t=true↔DJ l t:=by simp[p2,DJ]
def atG(n:Nat)(l:List a8){M:List (Value×D)}(dV:Nm M l)(N t:D)(n6:List ByteArray)(a b c d e f g h:D)(ab:n6.length<n)(af:n6.length<100000000):bq (Ce n) n [aR l,.mp M,N,bu n6,J n6.length,J 0,a,b,c,d,e,f,g,h,D.az 1 []]=some (.inl [aR l,N,a,b,c,d,e,f,g,h,de (n6.filterMap (da l))]):=by
 have bE:(J ((0:Nat):Int))=J 0:=rfl;have aO:de []=D.az 1 []:=rfl;have c5:∀x,D.az 1 (au (de x))=de x:=λ_=>rfl;have aP:=dJ (f:=Ce n) n6 (λj (s:List Nat)=>[aR l,.mp M,N,bu n6,J n6.length,J (j:Int),a,b,c,d,e,f,g,h,de s]) (λr s=>(.inl [aR l,N,a,b,c,d,e,f,g,h,de (s++r.filterMap (da l))]:List D⊕D)) (λj s=>s.length<=j) ?_ ?_ n 0 [] (by simp) (by omega) (xai _)
 .rw[bE,aO]at aP;simpa using aP
 .intro s _;simp only[Ce,go_sem,yF ((n6.length:Int)<n6.length),c5,List.filterMap_nil,xaG]
 intro j b' s aj aP aG;have ag:=lg aj;have hG:=yQ dV.1 (z:= .int .i64 0) (x:=b');rw[dV.2]at hG;left;cases ay:da l b' with
 |none=>rw[ay]at hG;simp only[xbp]at hG;refine⟨s,?_,by simp[ay],by omega⟩;simp only[Ce,go_sem,yT ((j:Int)<(n6.length:Int)),ag,iN,lG,hG,c5,b0 (bt:=false) (i:=j) (by omega)]
 |some k=>
  rw[ay]at hG;simp only[xaP]at hG;have ej:dc (s.length+1) 8=true:=gG (by omega) (by omega);have aX:D.az 1 (au (de s)++[[J (k:Int)]])=de (s++[k]):=by simp[de]
  have bQ:(au (de s)).length=s.length:=by simp[de]
  refine⟨s++[k],?_,by simp[ay],by simp;omega⟩;simp only[Ce,go_sem,yT ((j:Int)<(n6.length:Int)),ag,iN,lG,hG,c5,aX,bQ,xar,xav,xax,ej,b0 (bt:=false) (i:=j) (by omega)]
def adn(n:Nat)(fr:List Nat)(L N a b c d e f g h:D)(af:fr.length<100000000):∀(m j:Nat)(S:List Nat)(M:List (Value×D)),jQ M S->fr.length-j<m->j<=fr.length-> ∃cY nD,bq (L5 n) m [L,N,de fr,J fr.length,J (j:Int),a,b,c,d,e,f,g,h,.mp M]=some (.inl [L,N,a,b,c,d,e,f,g,h,.mp cY])/\jQ cY nD/\∀x,x∈nD↔x∈S\/x∈fr.drop j
 |0,_,_,_,_,h,_=>absurd h (xay _)
 |m+1,j,S,M,dV,hm,aP=>by
  rw[jP];by_cases cJ:j<fr.length
  .have ak:=xaa cJ;generalize fr[j]=i at ak;have p0:fr.drop j=i::fr.drop (j+1):=by
    obtain⟨bz,bA⟩:=xae.1 ak;rw[xbc bz,bA]
   obtain⟨vz,dy,dg⟩:=dV.put i;obtain⟨cY,nD,aW,a2,bb⟩:=adn n fr L N a b c d e f g h af m (j+1) _ vz dg (by omega) cJ;refine⟨cY,nD,?_,a2,λx=>?_⟩;.simp only[L5,go_sem,yT ((j:Int)<(fr.length:Int)),uS ak,iN,dy,b0 (bt:=false) (i:=j) (by omega),aW]
   rw[bb,p0,xal];by_cases ah:i∈S
   .rw[xad ah];constructor
    .rintro(h|h);.exact .inl h
     exact .inr (.inr h)
    rintro(h|rfl|h);.exact .inl h
    .exact .inl ah
    exact .inr h
   rw[xac ah];simp only[xak,List.mem_singleton,or_assoc]
  have:j=fr.length:=by omega
  subst this;refine⟨M,S,?_,dV,λx=>by simp⟩;simp only[L5,go_sem,yF ((fr.length:Int)<fr.length)]
def atH(n:Nat)(l:List a8){B:Nat}(aq:h6 B l)(aN:3*B+200<n){M:List (Value×D)}{S:List Nat}(dV:jQ M S)(a b c d e f g h:D):bq (zg n) n [aR l,h3 (l.map λd=>dB l d.e),J l.length,J 0,a,b,c,d,e,f,g,h,.mp M]=some (if(List.range l.length).all (λi=>!(decide (i∈S)&&jt l i))then .inl [aR l,a,b,c,d,e,f,g,h]else .inr (.aZ [fQ.d,J 14])):=by
 have b2:=aq.len;have tK:=aq.b;have bE:(J ((0:Nat):Int))=J 0:=rfl;have hzero:D.agg [J 0,J 0,aC ⟨#[]⟩,D.val (.slice none 0 0)]=fQ.d:=LN.symm;have aP:=dJ (f:=zg n) (List.range l.length) (λj (s:Unit)=>[aR l,h3 (l.map λd=>dB l d.e),J l.length,J (j:Int),a,b,c,d,e,f,g,h,.mp M]) (λr s=>(if r.all (λi=>!(decide (i∈S)&&jt l i))then .inl [aR l,a,b,c,d,e,f,g,h]else .inr (.aZ [fQ.d,J 14]):List D⊕D)) (λj s=>True) ?_ ?_ n 0 () trivial (by simp;omega) (xai _)
 .rw[bE]at aP;simpa using aP
 .intro s _;rw[List.length_range];simp only[zg,go_sem,yF ((l.length:Int)<l.length),List.all_nil]
 intro j b' s aj aP aG;rw[List.length_range]at aP;have IM:b'=j:=by rw[xbS aP]at aj;exact(xaV aj).symm
 subst IM;have hG:=dV.look (i:=b') (z:= .bool false);obtain⟨M2,e4,eh⟩:=atE l aq n aN b' aP;have c5:lG (D.mp M2)=some M2:=rfl;by_cases ec:b'∈S
 .by_cases av:jt l b'=true;.right;rw[av]at eh;simp only[zg,go_sem,yT ((b':Int)<(l.length:Int)),hG,xaw ec,e4,c5,eh,hzero,xbP,av,xbq]
  have nU:jt l b'=false:=by simpa using av
  left;rw[nU]at eh;refine⟨(),?_,by simp only[xbP,nU,Bool.and_false,Bool.not_false,xbD],trivial⟩;simp only[zg,go_sem,yT ((b':Int)<(l.length:Int)),hG,xaw ec,e4,c5,eh,b0 (bt:=false) (i:=b') (by omega)]
 left;refine⟨(),?_,by simp only[xbP,xaF ec,xbq,Bool.not_false,xbD],trivial⟩;have aO:∀(x:Option D)(f:D->Option (List D⊕(List D⊕D))),aa (bL (ax false) true x) (λv=>aa (bV (ax false) v (ax false)) f)=f (ax false):=λ_ _=>rfl;simp only[zg,go_sem,yT ((b':Int)<(l.length:Int)),hG,xaF ec,aO,b0 (bt:=false) (i:=b') (by omega)]
inductive r7(C:Nat):Tm->Prop where
 |mk (o m:Int) (s:ByteArray) (b:Bool) (ks:List Tm) (aq:ks.length<=C) (ak:∀k∈ks,r7 C k):r7 C (.mk o m s b ks)
def ju.ok{l:List a8}{B:Nat}(aq:h6 B l):∀{h:Nat}{t X:Tm},ju l h t X->t.cc->t.bl<=B->X.cc/\r7 B X
 |0,_,_,H,_,_=>H.elim
 |h+1,t,X,H,bm,aL=>by
  rcases H with⟨aF,i,d,ah,ay,kd⟩|⟨iq,ks,rfl,eP,Ap⟩;.have ig:=aq.e d (xab ay);exact kd.ok aq ig.1 ig.2
  have key:∀k∈ks,k.cc/\r7 B k:=by intro k ak;obtain⟨j,aP⟩:=xaL.1 ak;have cJ:=(xae.1 aP).1;have aE:t.aU[j]?=some (t.aU[j]'(by omega)):=xaa (by omega);have hm:=xab aE;have bn:=Tm.ja hm;exact(Ap j _ k aE aP).ok aq (bm.gl hm) (by omega)
  have oO:=t.j6;have b2:=bm.len;obtain⟨dy,dg,eW⟩:(-9223372036854775808<=t.op/\t.op<=9223372036854775807)/\(-9223372036854775808<=t.num/\t.num<=9223372036854775807)/\t.name.size<=140737488355328:=by cases bm with|mk o n s b ks aF aN aG aq ak=>exact⟨aF,aN,aG⟩
  exact⟨.mk _ _ _ _ _ dy dg eW (by omega) λk ak=>(key k ak).1,.mk _ _ _ _ _ (by omega) λk ak=>(key k ak).2⟩
def r7.gl{C:Nat}{t k:Tm}(h:r7 C t)(ak:k∈t.aU):r7 C k:=by cases h with|mk o m s b ks aq fU=>exact fU k ak
def r7.len{C:Nat}{t:Tm}(h:r7 C t):t.aU.length<=C:=by cases h;assumption
theorem Tm.Ar(t:Tm):t.bl=2+Tm.dP t.aU:=by cases t;rw[Tm.bl];rfl
def atI(C:Nat)(X:Tm):∀(deep n:Int),X.cc->r7 C X->(e1 X deep n).1.cc/\((e1 X deep n).1.bl:Int)<=(2+3*(C:Int))*((e1 X deep n).2-n):=by
 refine Tm.ind (P:=λX=>∀(deep n:Int),X.cc->r7 C X->(e1 X deep n).1.cc/\((e1 X deep n).1.bl:Int)<=(2+3*(C:Int))*((e1 X deep n).2-n)) ?_ X;intro t ih deep n bm hw;generalize ed:(2+3*(C:Int))=K at*;have key:∀(ks:List Tm),(∀k∈ks,∀(deep n:Int),(e1 k deep n).1.cc/\((e1 k deep n).1.bl:Int)<=K*((e1 k deep n).2-n))->∀(n:Int),(∀k∈(gu ks deep n).1,k.cc)/\(Tm.dP (gu ks deep n).1:Int)<=K*((gu ks deep n).2-n)+3*(ks.length:Int):=by
  intro ks
  induction ks with
  |nil=>intro _ n;simp[gu,Tm.dP]
  |cons a r mb=>
   intro h n;have ab:=h a (by simp) (deep+1) n;rw[gu];split
   .have af:=mb (λk ak=>h k (by simp[ak])) (e1 a (deep+1) n).2;refine⟨?_,?_⟩
    .intro k ak;rcases xal.1 ak with rfl|ak
     .exact ab.1
     exact af.1 k ak
    have e:K*((gu r deep (e1 a (deep+1) n).2).2-n)=K*((e1 a (deep+1) n).2-n)+K*((gu r deep (e1 a (deep+1) n).2).2-(e1 a (deep+1) n).2):=by rw[<-Int.mul_add];congr 1;omega
    simp only[Tm.dP,xar];rw[e];omega
   have af:=mb (λk ak=>h k (by simp[ak])) n;refine⟨?_,?_⟩
   .intro k ak;rcases xal.1 ak with rfl|ak
    .exact RV
    exact af.1 k ak
   have e:fQ.bl=2:=rfl;simp only[Tm.dP,xar,e];omega
 rw[Ui];split
 .rename_i he;have:t.aU=[]:=by simpa using he
  have aO:t.bl=2:=by rw[Tm.Ar,this];rfl
  refine⟨bm,?_⟩;simp only[aO];have aX:K*(n+1-n)=K:=by rw[show n+1-n=(1:Int) by omega];exact Int.mul_one K
  rw[aX];omega
 obtain⟨cD,dN⟩:=key t.aU (λk ak deep n=>ih k ak deep n (bm.gl ak) (hw.gl ak)) (n+1);have b2:=bm.len;have aBg:=hw.len;obtain⟨dy,dg,eW⟩:(-9223372036854775808<=t.op/\t.op<=9223372036854775807)/\(-9223372036854775808<=t.num/\t.num<=9223372036854775807)/\t.name.size<=140737488355328:=by cases bm with|mk o n s b ks aF aN aG aq ak=>exact⟨aF,aN,aG⟩
 refine⟨.mk _ _ _ _ _ dy dg eW (by rw[Nu];omega) cD,?_⟩;rw[Tm.Ar];have e:K*((gu t.aU deep (n+1)).2-n)=K+K*((gu t.aU deep (n+1)).2-(n+1)):=by
  have:(gu t.aU deep (n+1)).2-n=1+((gu t.aU deep (n+1)).2-(n+1)):=by omega
  rw[this,Int.mul_add,Int.mul_one]
 show((2+Tm.dP (gu t.aU deep (n+1)).1:Nat):Int)<=_;rw[e];omega
def ado{l:List a8}{B h:Nat}(aq:h6 B l){t X:Tm}(H:ju l h t X)(bm:t.cc)(aL:t.bl<=B):(e1 X 1 0).1.cc/\(e1 X 1 0).1.bl<=8194+12291*B:=by obtain⟨ab,af⟩:=H.ok aq bm aL;obtain⟨aw,a4⟩:=atI B X 1 0 ab af;refine⟨aw,?_⟩;have aT:=adf X 1 0;have oS:=aT.2 (by omega);have hm:(2+3*(B:Int))*((e1 X 1 0).2-0)<=(2+3*(B:Int))*4097:=Int.mul_le_mul_of_nonneg_left (by omega) (by omega);omega
def atJ{l:List a8}{B:Nat}(aq:h6 B l)(n h:Nat)(t X:Tm)(H:ju l h t X)(bm:t.cc)(aL:t.bl<=B)(aN:h+2*B+200<n):GF n [t.d,aR l]=some (e1 X 1 0).1.d:=by have b2:=aq.len;have tK:=aq.b;obtain⟨M,gM,kI⟩:=T6 n l (by omega) (by omega);have av:=adi aq kI n h t X 1 0 H bm aL (by omega) (by omega) (by omega) (by omega) (by omega);have g7:bJ (D.mp M)=true:=rfl;simp only[GF,aad,go_sem,Ul,gM,g7,av]
def Ny{l:List a8}{B:Nat}(aq:h6 B l)(n:Nat)(t:Tm)(bm:t.cc)(aL:t.bl<=B)(aN:20000*B+20000<n):((db t 1 0).1≠0->mG n [t.d,aR l]=some (.aZ [fQ.d,J (db t 1 0).1]))/\((db t 1 0).1=0->p2 l t=false->mG n [t.d,aR l]=some (.aZ [fQ.d,J 14]))/\(∀h X,(db t 1 0).1=0->p2 l t=true->ju l h t X->h+2*B+200<n->mG n [t.d,aR l]=some (.aZ [if(db (e1 X 1 0).1 1 0).1=0 then(e1 X 1 0).1.d else fQ.d,J (db (e1 X 1 0).1 1 0).1])):=by
 have b2:=aq.len;have tK:=aq.b;have hzero:D.agg [J 0,J 0,aC ⟨#[]⟩,D.val (.slice none 0 0)]=fQ.d:=LN.symm;have cf:=Ng n t (by omega) bm;obtain⟨M,gM,kI⟩:=T6 n l (by omega) (by omega);have bR:=atd n l aq (by omega);have bX:=Nl n t (by omega) bm (by omega);have cK:=DD t;have h1:=atG n l kI (h3 (l.map λd=>dB l d.e)) fQ.d (dQ 3 t []) (J t.op) (J t.num) (aC t.name) (cr 4 t.nl (Tm.rows t.aU)) (J 0) (J 0) (aC ⟨#[]⟩) eU (by omega) (by omega);have cO:(dQ 3 t []).filterMap (da l)=dB l t:=rfl;rw[cO]at h1;have Nr:=Nn l t;obtain⟨vz,atK,e4,eh,jL⟩:=atC l aq n (by omega) (dB l t) nC (by omega) (by omega);obtain⟨M2,adp,s1,s2,gT⟩:=adn n (dB l t) (aR l) (h3 (l.map λd=>dB l d.e)) (J t.op) (J t.num) (aC t.name) (cr 4 t.nl (Tm.rows t.aU)) (J 0) (J 0) (aC ⟨#[]⟩) eU (by omega) n 0 atK vz eh (by omega) (xai _);have adq:∀x,x∈adp↔x∈lh l (dB l t):=by
  intro x;rw[gT,jL,vy l _ nC,xao];constructor
  .rintro(⟨i,ah,k,ak,av⟩|h);.exact⟨i,ah,.step i k x ak av⟩
   exact⟨x,h,.refl x⟩
  rintro⟨i,ah,av⟩;cases av with|refl=>exact .inr ah|step _ k _ ak av=>exact .inl ⟨i,ah,k,ak,av⟩
 have xt:=atH n l aq (by omega) s2 (J t.op) (J t.num) (aC t.name) (cr 4 t.nl (Tm.rows t.aU)) (J 0) (J 0) (aC ⟨#[]⟩) eU;have gw:(List.range l.length).all (λi=>!(decide (i∈adp)&&jt l i))=p2 l t:=by
  rw[Bool.eq_iff_iff];simp only[p2,xaA,xbW,xca,Bool.and_eq_false_imp,xaE];constructor;.intro h x ag;exact h x ((xr l _ nC).inv.2 x ag) ((adq x).2 ag)
  intro h x ag DH;exact h x ((adq x).1 DH)
 rw[gw]at xt;have bE:(J ((0:Nat):Int))=J 0:=rfl;rw[bE]at s1;have c5:∀x,D.az 1 (au (de x))=de x:=λ_=>rfl;have p1:((0:Int) !=0)=false:=rfl;have eb:∀x,(au (de x)).length=x.length:=λx=>by simp[de]
 refine⟨λar=>?_,λar av=>?_,λh X ar av H A7=>?_⟩
 .have r6:((db t 1 0).1 !=0)=true:=by simpa using ar
  simp only[mG,GG,go_sem,cf,r6,hzero]
 .rw[av]at xt;simp only[xas,xaD]at xt;simp only[mG,GG,go_sem,cf,ar,p1,gM,bR,bX,iO,h1,c5,eb,e4,pO,s1,ef,xt]
 rw[av]at xt;simp only[xaC]at xt;have iC:=atJ aq n h t X H bm aL A7;obtain⟨f1,f2⟩:=ado aq H bm aL;have Un:=Ng n (e1 X 1 0).1 (by omega) f1;by_cases aw:(db (e1 X 1 0).1 1 0).1=0
 .rw[aw]at Un;simp only[mG,GG,go_sem,cf,ar,p1,gM,bR,bX,iO,h1,c5,eb,e4,pO,s1,ef,xt,iC,Un,aw]
 have r6:((db (e1 X 1 0).1 1 0).1 !=0)=true:=by simpa using aw
 simp only[mG,GG,go_sem,cf,ar,p1,gM,bR,bX,iO,h1,c5,eb,e4,pO,s1,ef,xt,iC,Un,aw,r6,hzero]
def Uo{l:List a8}{B:Nat}(aq:h6 B l)(n:Nat)(t:Tm)(bm:t.cc)(aL:t.bl<=B)(aN:20000*B+20000<n):((db t 1 0).1≠0->mH n [t.d,aR l]=some (.aZ [fQ.d,J (db t 1 0).1]))/\((db t 1 0).1=0->p2 l t=false->mH n [t.d,aR l]=some (.aZ [fQ.d,J 14]))/\(∀h X,(db t 1 0).1=0->p2 l t=true->ju l h t X->h+2*B+200<n->mH n [t.d,aR l]=some (.aZ [if(db X 1 0).1=0 then(gW X).d else fQ.d,J (db X 1 0).1])):=by
 have b2:=aq.len;have tK:=aq.b;have hzero:D.agg [J 0,J 0,aC ⟨#[]⟩,D.val (.slice none 0 0)]=fQ.d:=LN.symm;have cf:=TZ n t (by omega) bm;have Nr:=Nn l t;have aj:=Ua l aq n t [] eU (.inr ⟨rfl,rfl⟩) bm aL ⟨by simp,by simp⟩ (by simp;omega);have atL:hR (to l) n (dB l t) []=lh l (dB l t):=T8 (λi k ak=>lM i k ak) n _ (dB l t) [] ⟨by simp,by simp⟩ nC (by simp;omega) (by simp);rw[atL]at aj;have hK:=xr l (dB l t) nC;have gY:=hK.inv.len;have bE:(J ((0:Nat):Int))=J 0:=rfl;have p1:((0:Int) !=0)=false:=rfl;generalize PQ:lh l (dB l t)=C at*;have Up:bD (lj [] eU C)=some (J C.length):=by
  unfold lj;split;.rename_i h;rw[h];rfl
  exact pO C
 have adr:∀(i x:Nat),C[i]?=some x->bo 1 (lj [] eU C) (J (i:Int))=some [J (x:Int)]:=by
  intro i x ag;unfold lj;split;.rename_i h;have:C=[]:=xaI h;subst this;simp at ag
  exact uS ag
 have nB:=dJ (f:=H8 n) C (λi (s:Unit)=>[aR l,lj [] eU C,J (i:Int),J t.op,J t.num,aC t.name,cr 4 t.nl (Tm.rows t.aU),J 0,J 0,aC ⟨#[]⟩,eU]) (λr s=>(if r.all (λx=>!jt l x)then .inl [aR l,J t.op,J t.num,aC t.name,cr 4 t.nl (Tm.rows t.aU),J 0,J 0,aC ⟨#[]⟩,eU]else .inr (.aZ [fQ.d,J 14]):List D⊕D)) (λi s=>True) ?_ ?_ n 0 () trivial (by omega) (xai _)
 .rw[bE,xao]at nB;have DK:C.all (λx=>!jt l x)=p2 l t:=by rw[p2,PQ]
  rw[DK]at nB;refine⟨λar=>?_,λar av=>?_,λh X ar av H A7=>?_⟩
  .have r6:((db t 1 0).1 !=0)=true:=by simpa using ar
   simp only[mH,H9,go_sem,cf,r6,hzero]
  .rw[av]at nB;simp only[xas,xaD]at nB;simp only[mH,H9,go_sem,cf,ar,p1,aj,nB]
  rw[av]at nB;simp only[xaC]at nB;have aT:=Ug aq h n t X 1 0 H bm aL (by omega) (by omega) (by omega) (by omega) (by omega);by_cases aw:(db X 1 0).1=0
  .simp only[aw,xaC]at aT;simp only[mH,H9,go_sem,cf,ar,p1,aj,nB,aT,aw]
  simp only[aw,xaD]at aT;simp only[mH,H9,go_sem,cf,ar,p1,aj,nB,aT,aw]
 .intro s _;simp only[H8,go_sem,Up,yF ((C.length:Int)<C.length),List.all_nil]
 intro i x s ag ah aG;have atM:=xab ag;have av:=atm l aq n x (hK.inv.2 x atM) (by omega);cases Nz:jt l x with
 |true=>right;rw[Nz]at av;simp only[H8,go_sem,Up,yT ((i:Int)<(C.length:Int)),adr i x ag,iN,av,hzero,xbP,Nz,xbq]
 |false=>left;rw[Nz]at av;refine⟨(),?_,by simp only[xbP,Nz,Bool.not_false,xbD],trivial⟩;simp only[H8,go_sem,Up,yT ((i:Int)<(C.length:Int)),adr i x ag,iN,av,b0 (bt:=false) (i:=i) (by omega)]
mutual
def jv:Tm->Tm
 | .mk o m s b ks=> .mk o m s (b&&ks.isEmpty) (xu ks)
def xu:List Tm->List Tm
 |[]=>[]|k::r=>jv k::xu r
end
def ads:∀l:List Tm,xu l=l.map jv
 |[]=>rfl|k::r=>by rw[xu,ads r];rfl
theorem IN(t:Tm):jv t= .mk t.op t.num t.name (t.nl&&t.aU.isEmpty) (t.aU.map jv):=by cases t;rw[jv,ads];rfl
mutual
def adt:∀(X:Tm)(deep n:Int),n<=4096->(db X deep n).1=0->(e1 X deep n).1=jv X
 | .mk o m s b ks,deep,n,aN=>by
  intro h;rw[e1,jv];cases ks with
  |nil=>simp[xu]
  |cons k r=>
   simp only[List.isEmpty_cons,xas,xaD,Bool.and_false];rw[db]at h;by_cases ab:deep>64;.rw[xad ab]at h;cases h
   rw[xac ab]at h;by_cases af:iu (.mk o m s b (k::r))≠0;.rw[xad af]at h;exact absurd h af
   rw[xac af]at h;by_cases aw:n+1>4096;.rw[xad aw]at h;cases h
   rw[xac aw]at h;rw[adu (k::r) deep (n+1) (by omega) (by omega) h]
def adu:∀(ks:List Tm)(deep n:Int),deep<=64->n<=4096->(fH ks (deep+1) n).1=0->(gu ks deep n).1=xu ks
 |[],deep,n,_,_=>by simp[gu,xu]
 |k::r,deep,n,ay,aN=>by
  intro h;rw[gu,xad ⟨ay,aN⟩,xu];rw[fH]at h;obtain⟨aW,a2⟩:=Nv k (deep+1) n aN;by_cases ar:(db k (deep+1) n).1=0;.simp only[ar,ne_eq,xbC,xaD]at h;obtain⟨bz,bA,cx⟩:=a2 ar;have aT:=(Dz k (deep+1) n).2 ar;rw[bz]at h aT;rw[adt k (deep+1) n aN ar,adu r deep _ ay aT h]
  simp only[ne_eq,ar,xcb,xaC]at h
end
def Uq(t:Tm):(jv t).bl=t.bl:=by
 refine Tm.ind (P:=λt=>(jv t).bl=t.bl) ?_ t;intro t ih;have key:∀l:List Tm,(∀k∈l,(jv k).bl=k.bl)->Tm.dP (l.map jv)=Tm.dP l:=by
  intro l
  induction l with
  |nil=>intro _;rfl
  |cons a r mb=>intro h;simp only[xaz,Tm.dP];rw[h a (by simp),mb λk ak=>h k (by simp[ak])]
 rw[Tm.Ar,Tm.Ar t,IN];show 2+Tm.dP (t.aU.map jv)=_;rw[key _ ih]
def atN{l:List a8}(t:Tm):(∀x,oe 3 x t->da l x=none)->ju l t.bl t t:=by
 refine Tm.ind (P:=λt=>(∀x,oe 3 x t->da l x=none)->ju l t.bl t t) ?_ t;intro t ih h;have bn:=t.j6;have e:t.bl=(t.bl-1)+1:=by omega
 rw[e];have aN:r5 l t=false:=by
  by_cases aw:t.op=3;.simp[r5,aw,h _ (.here t aw rfl)]
  simp[r5,aw]
 refine .inr ⟨aN,t.aU,by cases t;rfl,rfl,?_⟩;intro j a b aE aj;rw[aE]at aj;cases aj;have hm:=xab aE;have aBh:=Tm.ja hm;exact(ih a hm λx ag=>h x (.gl t a hm ag)).mono (by omega)
def atO{l:List a8}{t:Tm}(h:∀x,oe 3 x t->da l x=none):dB l t=[]:=by cases ak:dB l t with|nil=>rfl|cons i r=>obtain⟨x,ab,af⟩:=II.1 (show i∈dB l t by rw[ak];simp);rw[h x ab]at af;cases af
def adv:∀(ks:List Tm),(∀k∈ks,∀(deep n:Int),(db k deep n).1=0->(k.bl:Int)+1<=3*((db k deep n).2-n))->∀(deep n:Int),(fH ks deep n).1=0->(Tm.dP ks:Int)<=3*((fH ks deep n).2-n)
 |[],_,deep,n,_=>by simp[fH,Tm.dP]
 |k::r,ak,deep,n,h=>by
  rw[fH]at h⊢;by_cases ar:(db k deep n).1=0;.simp only[ar,ne_eq,xbC,xaD]at h⊢;have ab:=ak k (by simp) deep n ar;have af:=adv r (λk fU=>ak k (by simp[fU])) deep _ h;simp only[Tm.dP];omega
  simp only[ne_eq,ar,xcb,xaC]at h
def atP(t:Tm):∀(deep n:Int),(db t deep n).1=0->(t.bl:Int)+1<=3*((db t deep n).2-n):=by
 refine Tm.ind (P:=λt=>∀(deep n:Int),(db t deep n).1=0->(t.bl:Int)+1<=3*((db t deep n).2-n)) ?_ t;intro t ih deep n h;rw[vu]at h⊢;by_cases ab:deep>64;.rw[xad ab]at h;cases h
 rw[xac ab]at h⊢;by_cases af:iu t≠0;.rw[xad af]at h;exact absurd h af
 rw[xac af]at h⊢;by_cases aw:n+1>4096;.rw[xad aw]at h;cases h
 rw[xac aw]at h⊢;have:=adv t.aU ih (deep+1) (n+1) h;rw[Tm.Ar];omega
def m9(op:Int):Int:=if op=1 then 0 else if op=3\/op=4\/op=5\/op=9\/op=13 then 2 else if op=2\/op=6\/op=7\/op=8\/op=10\/op=11\/op=12 then 1 else-1
def atQ(n:Nat)(op:Int):Gt n [J op]=some (J (m9 op)):=by
 rcases LJ op with rfl|rfl|rfl|rfl|rfl|rfl|rfl|rfl|rfl|rfl|rfl|rfl|rfl|rfl|rfl|rfl|rfl|rfl|h
 case inr.inr.inr.inr.inr.inr.inr.inr.inr.inr.inr.inr.inr.inr.inr.inr.inr.inr=>
  have e:∀k:Int,1<=k->k<=18->(op==k)=false:=λk ab af=>by simp;omega
  have aX:m9 op=-1:=by unfold m9;repeat(first|rw[xac (by omega)]|rw[xad (by omega)])
  simp[Gt,Z9,e,aX]
 all_goals rfl
def atS(n:Nat)(op:Int):C7 n [J op]=some (J (m9 op)):=by
 rcases LJ op with rfl|rfl|rfl|rfl|rfl|rfl|rfl|rfl|rfl|rfl|rfl|rfl|rfl|rfl|rfl|rfl|rfl|rfl|h
 case inr.inr.inr.inr.inr.inr.inr.inr.inr.inr.inr.inr.inr.inr.inr.inr.inr.inr=>
  have e:∀k:Int,1<=k->k<=18->(op==k)=false:=λk ab af=>by simp;omega
  have aX:m9 op=-1:=by unfold m9;repeat(first|rw[xac (by omega)]|rw[xad (by omega)])
  simp[C7,abd,e,aX]
 all_goals rfl
def DM(t:Tm):Int:=if(db t 1 0).1≠0 then(db t 1 0).1 else if 0<(dQ 4 t []).length then 24 else 0
def vB(t:Tm):Bool:=t.op==0&&(t.num==0&&(decide (t.name=⟨#[]⟩)&&decide (t.aU.length=0)))
def mI(f:Fm):Int:=if m9 f.op<0 then 11 else if f.op=1/\DM f.e≠0 then DM f.e
 else if(f.aU.length:Int)≠m9 f.op\/(f.op≠1/\vB f.e=false)then 3 else 0
def atT(n:Nat)(f:Fm)(aN:2*f.e.bl+40<n)(bm:f.cc)(aj:f.e.bl<100000000):zd n [f.d]=some (J (if f.op≠1 then 0 else DM f.e)):=by
 have ab:=Ng n f.e (by omega) bm.e;have af:=Nl n f.e (by omega) bm.e aj;by_cases aF:f.op=1
 case neg=>simp[zd,L0,aF]
 unfold DM;by_cases an:(db f.e 1 0).1=0
 .have cO:bD (bu (dQ 4 f.e []))=some (J (dQ 4 f.e []).length):=by simp[bu]
  by_cases a4:0<(dQ 4 f.e []).length<;>simp[zd,L0,aF,ab,an,af,cO,a4]
 simp[zd,L0,aF,ab,an]
def atU(n:Nat)(t:Tm):Ip n [t.d]=some (ax (vB t)):=by unfold vB;simp[Ip,abe];by_cases ab:t.op=0<;>by_cases af:t.num=0<;>by_cases aw:t.name=⟨#[]⟩<;>by_cases a4:t.aU=[]<;>simp[ab,af,aw,a4]
def atV(n:Nat)(f:Fm)(aN:2*f.e.bl+40<n)(bm:f.cc)(aj:f.e.bl<100000000):vq n [f.d]=some (J (mI f)):=by
 have ab:=TZ n f.e (by omega) bm.e;have af:=Ni n f.e (by omega) bm.e (by omega);have ak:=atS n f.op;have bn:=atU n f.e;have cO:bD (gq true (dQ 4 f.e []))=some (J (dQ 4 f.e []).length):=js _ _;unfold mI;by_cases ar:m9 f.op<0
 .simp[vq,C8,ak,ar]
 by_cases aF:f.op=1
 .unfold DM;have cD:m9 1=0:=rfl;rw[aF,cD]at ak;by_cases an:(db f.e 1 0).1=0
  .by_cases a4:0<(dQ 4 f.e []).length;.simp[vq,C8,ak,aF,ab,an,af,cO,a4,cD]
   simp[vq,C8,ak,aF,ab,an,af,cO,a4,cD];by_cases b6:f.aU=[]<;>simp[b6]
  simp[vq,C8,ak,aF,ab,an,cD]
 simp[vq,C8,ak,ar,aF,bn];by_cases b6:(f.aU.length:Int)=m9 f.op;.cases cP:vB f.e<;>simp[b6,cP]
 simp[b6]
mutual
def iv:Fm->Int->Int->Int×Int
 | .mk o t b ks,deep,k=>if deep>64 then(17,k+1)else if mI (.mk o t b ks)≠0 then(mI (.mk o t b ks),k+1)else if k+1>4096 then(4,k+1)else lk ks (deep+1) (k+1)
def lk:List Fm->Int->Int->Int×Int
 |[],_,k=>(0,k)|t::r,deep,k=>if(iv t deep k).1≠0 then iv t deep k else lk r deep (iv t deep k).2
end
theorem IP(t:Fm)(deep k:Int):iv t deep k=if deep>64 then(17,k+1)else if mI t≠0 then(mI t,k+1)else if k+1>4096 then(4,k+1)else lk t.aU (deep+1) (k+1):=by cases t;rw[iv];rfl
mutual
def mc:Fm->Int->Int->Int×Int
 | .mk o t b ks,deep,k=>if deep>64 then(17,k)else if mI (.mk o t b ks)≠0 then(mI (.mk o t b ks),k)else if k+1>4096 then(4,k+1)else oh ks (deep+1) (k+1)
def oh:List Fm->Int->Int->Int×Int
 |[],_,k=>(0,k)|t::r,deep,k=>if(mc t deep k).1≠0 then mc t deep k else oh r deep (mc t deep k).2
end
theorem adw(t:Fm)(deep k:Int):mc t deep k=if deep>64 then(17,k)else if mI t≠0 then(mI t,k)else if k+1>4096 then(4,k+1)else oh t.aU (deep+1) (k+1):=by cases t;rw[mc];rfl
def adx(t:Fm):∀deep k,(mc t deep k).1=(iv t deep k).1/\((mc t deep k).1=0->(mc t deep k).2=(iv t deep k).2):=by
 refine Fm.ind (P:=λt=>∀deep k,(mc t deep k).1=(iv t deep k).1/\((mc t deep k).1=0->(mc t deep k).2=(iv t deep k).2)) ?_ t;intro t ih deep k;rw[adw,IP];split;.simp
 split;.rename_i h;simp[h]
 split;.simp
 have key:∀(l:List Fm),(∀x∈l,∀deep k,(mc x deep k).1=(iv x deep k).1/\((mc x deep k).1=0->(mc x deep k).2=(iv x deep k).2))->∀deep k,(oh l deep k).1=(lk l deep k).1/\((oh l deep k).1=0->(oh l deep k).2=(lk l deep k).2):=by
  intro l
  induction l with
  |nil=>intro _ deep k;simp[oh,lk]
  |cons a r mb=>
   intro h deep k;rw[oh,lk];have ab:=h a (by simp) deep k;by_cases af:(iv a deep k).1=0
   .have aw:=ab.1.trans af;have a4:=ab.2 aw;simp only[af,aw,ne_eq,xbC,xaD,a4];exact mb (λx ag=>h x (by simp[ag])) deep _
   have aw:(mc a deep k).1≠0:=by rw[ab.1];exact af
   simp only[ne_eq,af,aw,xcb,xaC];exact⟨ab.1,λh=>h.elim⟩
 exact key t.aU ih _ _
def ady(t:Fm):∀(deep k:Int),k+1<=(iv t deep k).2/\((iv t deep k).1=0->(iv t deep k).2<=4096):=by
 refine Fm.ind (P:=λt=>∀(deep k:Int),k+1<=(iv t deep k).2/\((iv t deep k).1=0->(iv t deep k).2<=4096)) ?_ t;intro t ih deep k;rw[IP];split;.simp
 split;.rename_i h;simp[h]
 split;.simp
 have key:∀(l:List Fm)(deep k:Int),(∀x∈l,∀(deep k:Int),k+1<=(iv x deep k).2/\((iv x deep k).1=0->(iv x deep k).2<=4096))->k<=4096->k<=(lk l deep k).2/\((lk l deep k).1=0->(lk l deep k).2<=4096):=by
  intro l
  induction l with
  |nil=>intro deep k _ h;simp[lk,h]
  |cons a r mb=>
   intro deep k h ak;rw[lk];have ab:=h a (by simp) deep k;split
   .rename_i af;exact⟨by omega,λaw=>absurd aw af⟩
   rename_i af;simp only[ne_eq,Decidable.not_not]at af;have aw:=mb deep (iv a deep k).2 (λx ag=>h x (by simp[ag])) (ab.2 af);exact⟨by omega,aw.2⟩
 exact key t.aU (deep+1) (k+1) ih (by omega)
def adz:∀(n:Nat)(t:Fm)(deep k:Int),2*t.bl+40<n->t.cc->t.bl<100000000->0<=deep->deep<=65->0<=k->k<=4096->tE n [t.d,J deep,J k]=some (.aZ [J (mc t deep k).1,J (mc t deep k).2])
 |0,t,_,_,h,_,_,_,_,_,_=>absurd h (xay _)
 |n+1,t,deep,k,aN,bm,aj,ab,af,aw,a4=>by
  have IQ:=t.yS;have aT:=atV n t (by omega) bm (by omega);rw[adw];simp[tE,Tv,l9 (bt:=false) (i:=k) (by omega) (by omega),aT];by_cases ay:64<deep
  .simp[ay]
  simp[ay];by_cases hw:mI t=0
  case neg=>simp[hw]
  simp[hw];by_cases an:4096<k+1;.simp[an]
  simp[an];have aq:=dJ (f:=MZ (tE n) n) t.aU (λi s=>[J deep,J s,J (i:Int),J t.op,J t.e.op,J t.e.num,aC t.e.name,cr 4 t.e.nl (Tm.rows t.e.aU),cr 6 t.nl (Fm.rows t.aU)]) (λr (s:Int)=>if(oh r (deep+1) s).1=0 then(Sum.inl [J (oh r (deep+1) s).2]:List D⊕D)else .inr (.aZ [J (oh r (deep+1) s).1,J (oh r (deep+1) s).2])) (λi s=>0<=s/\s<=4096) ?_ ?_ n 0 (k+1) ⟨by omega,by omega⟩ (by have:=t.j6;omega) (xai _)
  .have bE:(J ((0:Nat):Int))=J 0:=rfl;rw[bE]at aq;rw[aq];simp only[xao,eN];by_cases ar:(oh t.aU (deep+1) (k+1)).1=0;.simp[ar]
   simp[ar]
  .intro s aG;simp[MZ,oh]
  intro i a s aE ah aG;have hm:=xab aE;have bn:=Fm.ja hm;have b2:=bm.len;have av:=adz n a (deep+1) s (by omega) (bm.gl hm) (by omega) (by omega) (by omega) aG.1 aG.2;have jD:=ady a (deep+1) s;have Ur:=adx a (deep+1) s;simp[MZ,ah,Fm.gN aE,l9 (bt:=false) (i:=deep) (by omega) (by omega),av,b0 (bt:=false) (i:=i) (by omega),oh];by_cases ar:(mc a (deep+1) s).1=0
  .left;simp only[ar];have b6:=Ur.2 ar;have cP:=Ur.1▸ar;refine⟨(mc a (deep+1) s).2,by simp,by simp,by omega,by rw[b6];exact jD.2 (by rw[<-Ur.1];exact ar)⟩
  right;simp[ar]
def lN(f:Fm):Int:=(iv f 1 0).1
def Us(n:Nat)(f:Fm)(aN:2*f.bl+50<n)(bm:f.cc)(aj:f.bl<100000000):z0 n [f.d]=some (J (lN f)):=by have:=adz n f 1 0 (by omega) bm aj (by omega) (by omega) (by omega) (by omega);have e:=(adx f 1 0).1;simp[z0,abf,this,e,lN]
def atW(n:Nat)(f:Fm)(deep k w:Int)(aN:2*f.bl+40<n)(bm:f.cc)(aj:f.bl<100000000)(ab:0<=k)(af:k<=4096):∃e,e=(if deep>64 then 17 else if mI f≠0 then mI f else if k+1>4096 then 4 else w)/\Gu n [f.d,J deep,J k,J w]=some [ax (decide (e=0)),J (k+1),J e]:=by
 refine⟨_,rfl,?_⟩;have IQ:=f.yS;have aT:=atT n f (by omega) bm (by omega);have ak:=atQ n f.op;have b2:bD (cr 6 f.nl (Fm.rows f.aU))=some (J f.aU.length):=by simp
 have atX:(f.e.op==0&&(f.e.num==0&&(decide (f.e.name=⟨#[]⟩)&&decide (f.e.aU.length=0))))=vB f.e:=rfl;have k8:((f.e.aU.length:Int)==0)=decide (f.e.aU.length=0):=by by_cases h:f.e.aU.length=0<;>simp[h]
 unfold mI;simp only[Gu,go_sem,Tm.BU,l9 (bt:=false) (i:=k) (by omega) (by omega),aT,ak,k8,Bool.and_assoc,atX];have hw:(w==0)=decide (w=0):=by by_cases h:w=0<;>simp[h]
 generalize vB f.e=gZ;by_cases bU:64<deep;.simp[bU]
 by_cases bY:m9 f.op<0;.simp[bU,bY]
 by_cases cv:f.op=1
 .have cD:m9 1=0:=rfl;by_cases dm:DM f.e=0;.by_cases eu:f.aU=[]<;>by_cases ew:4096<k+1<;>simp[bU,bY,cv,dm,eu,ew,cD,hw]
  simp[bU,bY,cv,dm,cD]
 by_cases eu:(f.aU.length:Int)=m9 f.op<;>by_cases ew:4096<k+1<;>cases gZ<;>simp[bU,bY,cv,eu,ew,hw]
def adA:∀(n:Nat)(t:Fm)(deep k:Int),2*t.bl+45<n->t.cc->t.bl<100000000->0<=deep->deep<=65->0<=k->k<=4096->vr n [t.d,J deep,J k,J 0]=some [ax (decide ((iv t deep k).1=0)),J (iv t deep k).2,J (iv t deep k).1]
 |0,t,_,_,h,_,_,_,_,_,_=>absurd h (xay _)
 |n+1,t,deep,k,aN,bm,aj,ab,af,aw,a4=>by
  obtain⟨e,he,aT⟩:=atW n t deep k 0 (by omega) bm aj aw a4;rw[IP];simp only[vr,TF,go_sem,aT];by_cases IE:e=0
  case neg=>simp[IE];grind
  have an:¬deep>64/\mI t=0/\¬k+1>4096:=by grind
  simp[IE,an];have aq:=dJ (f:=M7 (vr n) n) t.aU (λi (s:Int)=>[J deep,cr 6 t.nl (Fm.rows t.aU),J t.aU.length,J (i:Int),J s,J 0]) (λr (s:Int)=>if(lk r (deep+1) s).1=0 then(Sum.inl [J (lk r (deep+1) s).2,J 0]:List D⊕List D)else .inr [ax false,J (lk r (deep+1) s).2,J (lk r (deep+1) s).1]) (λi s=>0<=s/\s<=4096) ?_ ?_ n 0 (k+1) ⟨by omega,by omega⟩ (by have:=t.j6;omega) (xai _)
  .have bE:(J ((0:Nat):Int))=J 0:=rfl;rw[bE]at aq;rw[aq];simp only[xao,eN];by_cases ar:(lk t.aU (deep+1) (k+1)).1=0;.simp[ar]
   simp[ar]
  .intro s aG;simp[M7,lk]
  intro i a s aE ah aG;have hm:=xab aE;have bn:=Fm.ja hm;have b2:=bm.len;have av:=adA n a (deep+1) s (by omega) (bm.gl hm) (by omega) (by omega) (by omega) aG.1 aG.2;have jD:=ady a (deep+1) s;simp[M7,ah,Fm.gN aE,l9 (bt:=false) (i:=deep) (by omega) (by omega),av,b0 (bt:=false) (i:=i) (by omega),lk];by_cases ar:(iv a (deep+1) s).1=0
  .left;exact⟨(iv a (deep+1) s).2,by simp[ar],by simp[ar],by omega,jD.2 ar⟩
  right;simp[ar]
def Ut(n:Nat)(f:Fm)(aN:2*f.bl+50<n)(bm:f.cc)(aj:f.bl<100000000):Ab n [f.d]=some (J (lN f)):=by have:=adA n f 1 0 (by omega) bm aj (by omega) (by omega) (by omega) (by omega);simp[Ab,abq,this,lN]
def adB:∀(n:Nat)(t u:Tm),t.bl<n->t.cc->u.cc->tH n [t.d,u.d]=some (ax (eV t u))
 |0,t,_,h,_,_=>absurd h (xay _)
 |n+1,t,u,aN,bm,DN=>by
  have b2:=bm.len;show Iy (tH n) n t.d u.d=_;rcases acX t u with⟨ab,af,aw,a4⟩|⟨ba,an⟩
  .have aq:=dJ (f:=Ix (tH n) n) t.aU (λi (_:Unit)=>[J (i:Int),J t.op,J t.num,aC t.name,cr 4 t.nl (Tm.rows t.aU),J u.op,J u.num,aC u.name,cr 4 u.nl (Tm.rows u.aU)]) (λr _=>if lf r (u.aU.drop (t.aU.length-r.length))=true then(.inl []:List D⊕D)else .inr (ax false)) (λ_ _=>True) (λ_ _=>by simp[Ix,lf]) ?_ n 0 () trivial (by have:=t.j6;omega) (xai _)
   .have bE:(J ((0:Nat):Int))=J 0:=rfl;rw[bE]at aq;simp only[xao,xbZ]at aq;have mS:eV t u=lf t.aU u.aU:=by rw[DC];simp[ab,af,aw,a4]
    rw[mS];cases aG:lf t.aU u.aU<;>rw[aG]at aq<;>rw[ab,af,aw]at aq<;>simp[Iy,ab,af,aw,a4,aq]
   intro i a _ aE ah _;have hm:=xab aE;have bn:=Tm.ja hm;have r8:i<u.aU.length:=by omega
   have aj:=xaa r8;have av:=adB n a u.aU[i] (by omega) (bm.gl hm) (DN.gl (xaX r8));have e:t.aU.length-(a::t.aU.drop (i+1)).length=i:=by simp;omega
   have dv:t.aU.length-(t.aU.drop (i+1)).length=i+1:=by rw[xcf];omega
   have p0:u.aU.drop i=u.aU[i]::u.aU.drop (i+1):=xbc r8;rw[e,p0,lf,dv];cases aG:eV a u.aU[i];.right;simp[Ix,ah,Tm.gN aE,Tm.gN aj,av,aG]
   left;exact⟨(),by simp[Ix,ah,Tm.gN aE,Tm.gN aj,av,aG,b0 (bt:=false) (i:=i) (by omega)],by simp,trivial⟩
  rw[ba];by_cases ab:t.op=u.op<;>by_cases af:t.num=u.num<;>by_cases aw:t.name=u.name<;>simp[Iy,ab,af,aw];have a4:¬((t.aU.length:Int)=(u.aU.length:Int)):=λa4=>an ⟨ab,af,aw,by omega⟩;simp[a4]
mutual
def xv:Fm->Fm->Bool
 | .mk o t _ ks,u=>decide (o=u.op)&&(eV t u.e&&(decide (ks.length=u.aU.length)&&xw ks u.aU))
def xw:List Fm->List Fm->Bool
 |a::r,b::q=>xv a b&&xw r q|[],_=>true|_::_,[]=>true
end
theorem adC(t u:Fm):xv t u=(decide (t.op=u.op)&&(eV t.e u.e&&(decide (t.aU.length=u.aU.length)&&xw t.aU u.aU))):=by cases t;rw[xv];rfl
def Uu:∀(n:Nat)(t u:Fm),t.bl<n->t.cc->u.cc->od n [t.d,u.d]=some (ax (xv t u))
 |0,t,_,h,_,_=>absurd h (xay _)
 |n+1,t,u,aN,bm,DN=>by
  have b2:=bm.len;have IQ:=t.yS;have gr:=t.j6;have bf:=adB n t.e u.e (by omega) bm.e DN.e;rw[adC];by_cases bU:t.op=u.op
  case neg=>simp[od,Dm,bU]
  cases bY:eV t.e u.e;.simp[od,Dm,bU,bf,bY]
  by_cases cv:t.aU.length=u.aU.length
  case neg=>
   have r9:¬((t.aU.length:Int)=(u.aU.length:Int)):=by omega
   simp[od,Dm,bU,bf,bY,cv,r9]
  have aq:=dJ (f:=Iz (od n) n) t.aU (λi (_:Unit)=>[J (i:Int),J t.op,J t.e.op,J t.e.num,aC t.e.name,cr 4 t.e.nl (Tm.rows t.e.aU),cr 6 t.nl (Fm.rows t.aU),J u.op,J u.e.op,J u.e.num,aC u.e.name,cr 4 u.e.nl (Tm.rows u.e.aU),cr 6 u.nl (Fm.rows u.aU)]) (λr _=>if xw r (u.aU.drop (t.aU.length-r.length))=true then(.inl []:List D⊕D)else .inr (ax false)) (λ_ _=>True) (λ_ _=>by simp[Iz,xw]) ?_ n 0 () trivial (by omega) (xai _);.have bE:(J ((0:Nat):Int))=J 0:=rfl;rw[bE]at aq;simp only[xao,xbZ]at aq;rw[bU]at aq;cases aG:xw t.aU u.aU<;>rw[aG]at aq<;>simp[od,Dm,bU,bf,bY,cv,aq]
  intro i a _ aE ah _;have hm:=xab aE;have bn:=Fm.ja hm;have r8:i<u.aU.length:=by omega
  have aj:=xaa r8;have av:=Uu n a u.aU[i] (by omega) (bm.gl hm) (DN.gl (xaX r8));have e:t.aU.length-(a::t.aU.drop (i+1)).length=i:=by simp;omega
  have dv:t.aU.length-(t.aU.drop (i+1)).length=i+1:=by rw[xcf];omega
  have p0:u.aU.drop i=u.aU[i]::u.aU.drop (i+1):=xbc r8;rw[e,p0,xw,dv];cases aG:xv a u.aU[i];.right;simp[Iz,ah,Fm.gN aE,Fm.gN aj,av,aG]
  left;exact⟨(),by simp[Iz,ah,Fm.gN aE,Fm.gN aj,av,aG,b0 (bt:=false) (i:=i) (by omega)],by simp,trivial⟩
mutual
def nE:Tm->Int->Int
 | .mk _ _ _ _ ks,m=>hS ks m
def hS:List Tm->Int->Int
 |[],m=>m|t::r,m=>if 0<=m then hS r (nE t (m-1))else m
end
mutual
def qM:Fm->Int->Int
 | .mk _ e _ ks,m=>p3 ks (nE e (m-1))
def p3:List Fm->Int->Int
 |[],m=>m|t::r,m=>if 0<=m then p3 r (qM t m)else m
end
theorem adD(t:Tm)(m:Int):nE t m=hS t.aU m:=by cases t;rw[nE];rfl
theorem atY(t:Fm)(m:Int):qM t m=p3 t.aU (nE t.e (m-1)):=by cases t;rw[qM];rfl
mutual
def IS:∀(t:Tm)(m:Int),-1<=m->-1<=nE t m/\nE t m<=m/\(0<=nE t m->5*nE t m+t.bl<=5*m+2)
 | .mk o n s b ks,m,h=>by have:=pb ks m h;rw[nE];simp only[Tm.bl];omega
def pb:∀(l:List Tm)(m:Int),-1<=m->-1<=hS l m/\hS l m<=m/\(0<=hS l m->5*hS l m+Tm.dP l<=5*m)
 |[],m,h=>by simp only[hS,Tm.dP];omega
 |t::r,m,h=>by
  rw[hS];split;.have ab:=IS t (m-1) (by omega);have af:=pb r (nE t (m-1)) ab.1;simp only[Tm.dP];omega
  omega
end
mutual
def Uv:∀(t:Fm)(m:Int),0<=m->-1<=qM t m/\qM t m<=m-1/\(0<=qM t m->5*qM t m+t.bl+1<=5*m)
 | .mk o e b ks,m,h=>by have ab:=IS e (m-1) (by omega);have af:=adE ks (nE e (m-1)) ab.1;rw[qM];simp only[Fm.bl];omega
def adE:∀(l:List Fm)(m:Int),-1<=m->-1<=p3 l m/\p3 l m<=m/\(0<=p3 l m->5*p3 l m+Fm.dP l<=5*m)
 |[],m,h=>by simp only[p3,Fm.dP];omega
 |t::r,m,h=>by
  rw[p3];split;.have ab:=Uv t m (by omega);have af:=adE r (qM t m) ab.1;simp only[Fm.dP];omega
  omega
end
def adF:∀(n:Nat)(t:Tm)(m:Int),t.bl+5<n->t.cc->-1<=m->m<1000000->ta n [t.d,J m]=some (J (nE t m))
 |0,t,_,h,_,_,_=>absurd h (xay _)
 |n+1,t,m,aN,bm,ab,af=>by
  have b2:=bm.len;have Nh:=t.j6;have aq:=dJ (f:=F0 (ta n) n) t.aU (λi (s:Int)=>[J s,J (i:Int),J t.op,J t.num,aC t.name,cr 4 t.nl (Tm.rows t.aU)]) (λr s=>(.inl [J (hS r s)]:List D⊕D)) (λi s=>-1<=s/\s<=m) (λs _=>by simp[F0,hS]) ?_ n 0 m (by omega) (by omega) (xai _)
  .have bE:(J ((0:Nat):Int))=J 0:=rfl;rw[bE]at aq;simp only[xao]at aq;rw[adD];simp only[ta,RZ,go_sem,aq]
  intro i a s aE ah aG;have hm:=xab aE;have bn:=Tm.ja hm;by_cases ar:0<=s
  .have av:=adF n a (s-1) (by omega) (bm.gl hm) (by omega) (by omega);have aj:=IS a (s-1) (by omega);left;refine⟨nE a (s-1),?_,by simp[hS,ar],by omega⟩;simp only[F0,go_sem,yT ((i:Int)<(t.aU.length:Int)),yT (s>=0),Tm.gN aE,mD (bt:=false) (a:=s) (b:=1) (by omega) (by omega),av,b0 (bt:=false) (i:=i) (by omega)]
  right;simp only[F0,go_sem,yT ((i:Int)<(t.aU.length:Int)),yF (s>=0),hS,xac ar]
def adG:∀(n:Nat)(t:Fm)(m:Int),t.bl+10<n->t.cc->0<=m->m<1000000->tb n [t.d,J m]=some (J (qM t m))
 |0,t,_,h,_,_,_=>absurd h (xay _)
 |n+1,t,m,aN,bm,ab,af=>by
  have b2:=bm.len;have Nh:=t.j6;have IQ:=t.yS;have aj:=IS t.e (m-1) (by omega);have bf:=adF n t.e (m-1) (by omega) bm.e (by omega) (by omega);have aq:=dJ (f:=F1 (tb n) n) t.aU (λi (s:Int)=>[J s,J (i:Int),J t.op,J t.e.op,J t.e.num,aC t.e.name,cr 4 t.e.nl (Tm.rows t.e.aU),cr 6 t.nl (Fm.rows t.aU)]) (λr s=>(.inl [J (p3 r s)]:List D⊕D)) (λi s=>-1<=s/\s<=m) (λs _=>by simp[F1,p3]) ?_ n 0 (nE t.e (m-1)) (by omega) (by omega) (xai _)
  .have bE:(J ((0:Nat):Int))=J 0:=rfl;rw[bE]at aq;simp only[xao]at aq;rw[atY];simp only[tb,R0,go_sem,mD (bt:=false) (a:=m) (b:=1) (by omega) (by omega),bf,aq]
  intro i a s aE ah aG;have hm:=xab aE;have bn:=Fm.ja hm;by_cases ar:0<=s
  .have av:=adG n a s (by omega) (bm.gl hm) (by omega) (by omega);have aj:=Uv a s (by omega);left;refine⟨qM a s,?_,by simp[p3,ar],by omega⟩;simp only[F1,go_sem,yT ((i:Int)<(t.aU.length:Int)),yT (s>=0),Fm.gN aE,av,b0 (bt:=false) (i:=i) (by omega)]
  right;simp only[F1,go_sem,yT ((i:Int)<(t.aU.length:Int)),yF (s>=0),p3,xac ar]
def IT(f:Fm)(m:Int):Bool:=decide (qM f m>=0)
def atZ(n:Nat)(f:Fm)(m:Int)(aN:f.bl+20<n)(bm:f.cc)(ab:0<=m)(af:m<1000000):F3 n [f.d,J m]=some (ax (IT f m)):=by have:=adG n f m (by omega) bm ab af;simp[F3,ZS,this,IT]
def at0{f:Fm}{m:Int}(h:IT f m=true)(hm:0<=m):(f.bl:Int)+1<=5*m:=by have ab:=xba h;have af:=(Uv f m hm).2.2 ab;omega
def qN(t:Fm):Prop:=∃deep k,(iv t deep k).1=0
def qN.one{t:Fm}(h:qN t):mI t=0:=by
 obtain⟨d,k,h⟩:=h;rw[IP]at h;split at h;.cases h
 split at h;.rename_i af;exact absurd h af
 rename_i af;simpa using af
def at1{l:List Fm}{d k:Int}(h:(lk l d k).1=0):∀x∈l,qN x:=by
 induction l generalizing k with
 |nil=>intro x ag;cases ag
 |cons a r ih=>
  intro x ag;rw[lk]at h;by_cases af:(iv a d k).1=0
  .simp only[af,ne_eq,xbC,xaD]at h;rcases xal.1 ag with rfl|ag
   .exact⟨d,k,af⟩
   exact ih h x ag
  simp only[ne_eq,af,xcb,xaC]at h
def qN.gl{t k:Fm}(h:qN t)(ak:k∈t.aU):qN k:=by
 obtain⟨d,n,h⟩:=h;rw[IP]at h;split at h;.cases h
 split at h;.rename_i af;exact absurd h af
 split at h;.cases h
 exact at1 h k ak
def qN.len{t:Fm}(h:qN t):(t.aU.length:Int)=m9 t.op/\¬m9 t.op<0:=by
 have ab:=h.one;unfold mI at ab;split at ab;.cases ab
 rename_i af;refine⟨?_,af⟩;split at ab;.rename_i aw;exact absurd ab aw.2
 split at ab;.cases ab
 rename_i a4;simp only[not_or,Decidable.not_not,ne_eq]at a4;exact a4.1
def T.As(t:Tm):[J t.op,J t.num,aC t.name,cr 4 t.nl (Tm.rows t.aU)]=t.cells:=(Tm.nu t).symm
def F.adH(t:Fm):[J t.op,J t.e.op,J t.e.num,aC t.e.name,cr 4 t.e.nl (Tm.rows t.e.aU),cr 6 t.nl (Fm.rows t.aU)]=t.cells:=(Fm.nu t).symm
def ade(s:List Fm)(p:Fm):Fm.rows (s++[p])=Fm.rows s++[p.cells]:=by simp[Fm.mF]
theorem T.DO(t:Tm):D.agg t.cells=t.d:=rfl
theorem F.DO(t:Fm):D.agg t.cells=t.d:=rfl
def Uw:∀(n:Nat)(t u:Tm),t.bl<n->t.cc->u.cc->qE n [t.d,u.d]=some (ax (eV t u))
 |0,t,_,h,_,_=>absurd h (xay _)
 |n+1,t,u,aN,bm,DN=>by
  have b2:=bm.len;show HF (qE n) n t.d u.d=_;rcases acX t u with⟨ab,af,aw,a4⟩|⟨ba,an⟩
  .have aq:=dJ (f:=HD (qE n) n) t.aU (λi (_:Unit)=>[cr 4 t.nl (Tm.rows t.aU),J t.aU.length,J (i:Int),J u.op,J u.num,aC u.name,cr 4 u.nl (Tm.rows u.aU)]) (λr _=>if lf r (u.aU.drop (t.aU.length-r.length))=true then(.inl []:List D⊕D)else .inr (ax false)) (λ_ _=>True) (λ_ _=>by simp[HD,lf]) ?_ n 0 () trivial (by have:=t.j6;omega) (xai _)
   .have bE:(J ((0:Nat):Int))=J 0:=rfl;rw[bE]at aq;simp only[xao,xbZ]at aq;have mS:eV t u=lf t.aU u.aU:=by rw[DC];simp[ab,af,aw,a4]
    rw[mS];rw[a4]at aq;cases aG:lf t.aU u.aU<;>rw[aG]at aq<;>simp[HF,ab,af,aw,a4,aq]
   intro i a _ aE ah _;have hm:=xab aE;have bn:=Tm.ja hm;have r8:i<u.aU.length:=by omega
   have aj:=xaa r8;have av:=Uw n a u.aU[i] (by omega) (bm.gl hm) (DN.gl (xaX r8));have e:t.aU.length-(a::t.aU.drop (i+1)).length=i:=by simp;omega
   have dv:t.aU.length-(t.aU.drop (i+1)).length=i+1:=by rw[xcf];omega
   have p0:u.aU.drop i=u.aU[i]::u.aU.drop (i+1):=xbc r8;rw[e,p0,lf,dv];cases aG:eV a u.aU[i];.right;simp[HD,ah,Tm.gN aE,Tm.gN aj,av,aG]
   left;exact⟨(),by simp[HD,ah,Tm.gN aE,Tm.gN aj,av,aG,b0 (bt:=false) (i:=i) (by omega)],by simp,trivial⟩
  rw[ba];by_cases ab:t.op=u.op<;>by_cases af:t.num=u.num<;>by_cases aw:t.name=u.name<;>simp[HF,ab,af,aw];have a4:¬((t.aU.length:Int)=(u.aU.length:Int)):=λa4=>an ⟨ab,af,aw,by omega⟩;simp[a4]
structure Y where
 b:Bool
 lo:Int
 ah:Int
deriving DecidableEq
def Y.cells(y:Y):List D:=[ax y.b,J y.lo,J y.ah]
def Y.d(y:Y):D:= .agg [ax y.b,J y.lo,J y.ah]
def fT:Y:=⟨false,0,0⟩
def kq:Y:=⟨true,0,0⟩
def Y.lO(y:Y):Prop:=(y.b=true->y.lo=0/\y.ah=0)/\-1048576<=y.lo/\y.lo<=y.ah/\y.ah<=1048576
@[simp] theorem Y.oY (y:Y):a6 3 y.d=true:=rfl
@[simp] theorem Y.a7 (y:Y):ad y.d 0=ax y.b:=rfl
@[simp] theorem Y.bU (y:Y):ad y.d 1=J y.lo:=rfl
@[simp] theorem Y.bY (y:Y):ad y.d 2=J y.ah:=rfl
@[simp] theorem Y.FU (y:Y):D.agg [ax y.b,J y.lo,J y.ah]=y.d:=rfl
@[simp high] theorem Y.a5 (y:Y):Go.Am.a5 true 3 0 y.cells=some y.d:=rfl
@[simp] theorem Y.gn (y:Y):y.cells[0]?=some (ax y.b):=rfl
@[simp] theorem Y.hx (y:Y):y.cells[1]?=some (J y.lo):=rfl
@[simp] theorem Y.al0 (y:Y):y.cells[2]?=some (J y.ah):=rfl
@[simp] theorem Y.flat (y:Y):y.d.flat=true:=rfl
@[simp] theorem aBi (y:Y) (e:Int):(D.aZ [y.d,J e]).flat=true:=rfl
def jw(lo ah:Int):Y×Int:=if lo< -1048576\/ah>1048576\/lo>ah\/ah-lo>4096 then(fT,2)else(⟨false,lo,ah⟩,0)
def DP{lo ah:Int}(h:(jw lo ah).2=0):(jw lo ah).1.lO:=by
 unfold jw at*;split at h;.cases h
 rename_i an;rw[xac an];exact⟨by simp,by simp;omega,by simp;omega,by simp;omega⟩
theorem adI(lo ah:Int):(D.aZ [(jw lo ah).1.d,J (jw lo ah).2])=if lo< -1048576\/ah>1048576\/lo>ah\/ah-lo>4096 then D.aZ [.agg [ax false,J 0,J 0],J 2]else D.aZ [.agg [ax false,J lo,J ah],J 0]:=by unfold jw;split<;>rfl
def vC(n:Nat)(lo ah:Int):rQ n [J lo,J ah]=some (.aZ [(jw lo ah).1.d,J (jw lo ah).2]):=by rw[adI];have a4:-1048576<=lo->ah<=1048576->lo<=ah->IntKind.i64.wrap (ah-lo)=ah-lo:=λ_ _ _=>wrap64 _ (by omega) (by omega);simp[rQ,aaf,RF,-Zz,-Zd];grind
def IU(n:Nat)(lo ah:Int):qG n [J lo,J ah]=some (.aZ [(jw lo ah).1.d,J (jw lo ah).2]):=by
 have hw:IntKind.i64.wrap (-1048576)=-1048576:=by decide
 rw[adI];have a4:-1048576<=lo->ah<=1048576->lo<=ah->IntKind.i64.wrap (ah-lo)=ah-lo:=λ_ _ _=>wrap64 _ (by omega) (by omega);simp[qG,aa5,RF,hw,-Zz,-Zd];grind
def g1(l:List Y):D:= .az 3 (l.map Y.cells)
def IV{l:List Y}{i:Nat}{y:Y}(h:l[i]?=some y):bo 3 (g1 l) (J (i:Int))=some y.cells:=by simp[g1,h]
def at2(n:Nat)(l:List Y)(aN:l.length<n)(aq:l.length<1000000000):GL n [g1 l]=some (.aZ [(if l.all Y.b then kq else fT).d,J (if l.all Y.b then 0 else 13)]):=by
 have ah:=dJ (f:=GJ n) l (λi (s:Unit)=>[g1 l,J l.length,J (i:Int),ax false,J 0,J 0]) (λr _=>if r.all Y.b then(Sum.inl [ax false,J 0,J 0]:List D⊕D)else .inr (.aZ [fT.d,J 13])) (λ_ _=>True) (λ_ _=>by simp[GJ]) ?_ n 0 () trivial (by omega) (xai _)
 .have bE:(J ((0:Nat):Int))=J 0:=rfl;rw[bE]at ah;have b2:bD (g1 l)=some (J l.length):=by simp[g1]
  simp only[GL,aag,b2,eN,ah,xao];by_cases h:l.all Y.b=true;.simp only[h,xaC,qw];rfl
  simp only[h,xas,xaD,FJ]
 intro i a _ aE ah _;have:=IV aE;cases aj:a.b
 .right;simp[GJ,ah,this,b0 (bt:=false) (i:=i) (by omega),aj];rfl
 left;exact⟨(),by simp[GJ,ah,this,b0 (bt:=false) (i:=i) (by omega),aj],by simp[aj],trivial⟩
def at3(n:Nat)(l:List Y)(aN:l.length<n)(aq:l.length<1000000000):Ie n [g1 l]=some (ax (l.all Y.b)):=by
 have b2:bD (g1 l)=some (J l.length):=by simp[g1]
 have ah:=dJ (f:=Ic n) l (λi (s:Unit)=>[g1 l,J (i:Int)]) (λr _=>if r.all Y.b then(Sum.inl []:List D⊕D)else .inr (ax false)) (λ_ _=>True) (λ_ _=>by simp[Ic,b2]) ?_ n 0 () trivial (by omega) (xai _)
 .have bE:(J ((0:Nat):Int))=J 0:=rfl;rw[bE]at ah;simp only[Ie,aa7,eN,ah,xao];by_cases h:l.all Y.b=true;.simp only[h,xaC,qw,eN]
  simp only[h,xas,xaD,FJ,eN]
 intro i a _ aE ah _;have:=IV aE;cases aj:a.b
 .right;simp[Ic,b2,ah,this,b0 (bt:=false) (i:=i) (by omega),aj]
 left;exact⟨(),by simp[Ic,b2,ah,this,b0 (bt:=false) (i:=i) (by omega),aj],by simp[aj],trivial⟩
def sa(a b:Int):Int:=if b<a then b else a
def hA(a b:Int):Int:=if b>a then b else a
def Ux(a b:Int):l1 true [J a,J b]=some (J (hA a b)):=Zt a b
def Uy(a b:Int):l1 false [J a,J b]=some (J (sa a b)):=Zu a b
theorem at4(a b c d:Int):l1 true [J a,J b,J c,J d]=some (J (hA (hA (hA a b) c) d)):=rfl
theorem at5(a b c d:Int):l1 false [J a,J b,J c,J d]=some (J (sa (sa (sa a b) c) d)):=rfl
def xx{x y:Int}(ag:-1048576<=x/\x<=1048576)(aJ:-1048576<=y/\y<=1048576):-1099511627776<=x*y/\x*y<=1099511627776:=by
 have ab:x.natAbs<=1048576:=by omega
 have af:y.natAbs<=1048576:=by omega
 have aw:(x*y).natAbs<=1048576*1048576:=by rw[Int.natAbs_mul];exact Nat.mul_le_mul ab af
 omega
def NA(a b:Y):Int:=sa (sa (sa (a.lo*b.lo) (a.lo*b.ah)) (a.ah*b.lo)) (a.ah*b.ah)
def NB(a b:Y):Int:=hA (hA (hA (a.lo*b.lo) (a.lo*b.ah)) (a.ah*b.lo)) (a.ah*b.ah)
def tL(op:Int)(a b:Y):Y×Int:=if op=15 then jw (a.lo-b.ah) (a.ah-b.lo)else if op=14 then jw (a.lo+b.lo) (a.ah+b.ah)else jw (NA a b) (NB a b)
def at6(n:Nat)(op:Int)(a b:Y)(aE:a.lO)(aj:b.lO):zh n [J op,a.d,b.d]=some (.aZ [(tL op a b).1.d,J (tL op a b).2]):=by
 obtain⟨_,ao,bc,b9⟩:=aE;obtain⟨_,eO,hf,j5⟩:=aj;have mu:IntKind.i64.wrap (-b.ah)=-b.ah:=wrap64 _ (by omega) (by omega);have rb:IntKind.i64.wrap (-b.lo)=-b.lo:=wrap64 _ (by omega) (by omega);by_cases ab:op=15
 .subst ab;have aO:a.lo+-b.ah=a.lo-b.ah:=by omega
  have aX:a.ah+-b.lo=a.ah-b.lo:=by omega
  simp(disch:=omega) [zh,L6,tL,mu,rb,gx,vC,aO,aX]
 by_cases af:op=14;.subst af;simp(disch:=omega) [zh,L6,tL,gx,vC]
 have gM:=xx (x:=a.lo) (y:=b.lo) (by omega) (by omega);have kI:=xx (x:=a.lo) (y:=b.ah) (by omega) (by omega);have vw:=xx (x:=a.ah) (y:=b.lo) (by omega) (by omega);have at7:=xx (x:=a.ah) (y:=b.ah) (by omega) (by omega);simp(disch:=omega) [zh,L6,tL,ab,af,Lz,vC,at4,at5,NA,NB]
def aua(n:Nat)(a b:Y)(aN:6<=n)(aE:a.lO)(aj:b.lO):Ig n [a.d,b.d]=some (.aZ [J (NA a b),J (NB a b)]):=by
 obtain⟨_,ao,bc,b9⟩:=aE;obtain⟨_,eO,hf,j5⟩:=aj;have gM:=xx (x:=a.lo) (y:=b.lo) (by omega) (by omega);have kI:=xx (x:=a.lo) (y:=b.ah) (by omega) (by omega);have vw:=xx (x:=a.ah) (y:=b.lo) (by omega) (by omega);have at7:=xx (x:=a.ah) (y:=b.ah) (by omega) (by omega);obtain⟨k,rfl⟩:∃k,n=k+4:=⟨n-4,by omega⟩;have DB:cj 4 (J 0)=some 0:=rfl;have dy:cj 4 (J 1)=some 1:=rfl;have dg:cj 4 (J 2)=some 2:=rfl;have eW:cj 4 (J 3)=some 3:=rfl;unfold NA NB;simp(disch:=omega) [Ig,aa8,Lz,DB];generalize a.lo*b.lo=w at*;generalize a.lo*b.ah=x at*;generalize a.ah*b.lo=y at*;generalize a.ah*b.ah=z at*;have jU:sa w x=sa w x:=rfl;have step:∀(p q:Int)(i j:Int)(r:Int),i+1=j->(cj 4 (J i)=some i.toNat)->i<4->0<=i->([[J w],[J x],[J y],[J z]]:List (List D))[i.toNat]?=some [J r]->MX (k+4) [J p,J q,J i,.az 1 [[J w],[J x],[J y],[J z]]]=some (.inl [J (sa p r),J (hA q r),J j,.az 1 [[J w],[J x],[J y],[J z]]]):=by intro p q i j r ar ab af aw a4;subst ar;simp(disch:=omega) [MX,ab,af,a4,Ux,Uy,gx]
 rw[jP,step w w 1 2 x rfl rfl (by omega) (by omega) rfl];simp only[eN];rw[jP,step _ _ 2 3 y rfl rfl (by omega) (by omega) rfl];simp only[eN];rw[jP,step _ _ 3 4 z rfl rfl (by omega) (by omega) rfl];simp only[eN];rw[jP];simp[MX]
def Valid(t:Tm):Prop:=∃deep k:Int,(db t deep k).1=0
def Valid.NC{t:Tm}(h:Valid t):iu t=0:=by
 obtain⟨deep,k,h⟩:=h;rw[vu]at h;split at h;.cases h
 split at h;.assumption
 rename_i an;simpa using an
def adJ:∀(l:List Tm)(deep k:Int),(fH l deep k).1=0->∀x∈l,Valid x
 |[],_,_,_,x,ag=>by cases ag
 |a::r,deep,k,h,x,ag=>by
  rw[fH]at h;split at h;.rename_i an;exact absurd h an
  rename_i an;rcases xal.1 ag with rfl|ag
  .exact⟨deep,k,by simpa using an⟩
  exact adJ r deep _ h x ag
def Valid.gl{t x:Tm}(h:Valid t)(ag:x∈t.aU):Valid x:=by
 have hw:=h.NC;obtain⟨deep,k,h⟩:=h;rw[vu]at h;split at h;.cases h
 split at h;.rename_i an;exact absurd hw an
 split at h;.cases h
 exact adJ _ _ _ h x ag
def Valid.op{t:Tm}(h:Valid t):1<=t.op/\t.op<=18:=by
 have hw:=h.NC;unfold iu at hw;split at hw;.cases hw
 rename_i an;unfold hk at an;refine xbz λaN=>?_;simp only[show¬(t.op=1\/t.op=2\/t.op=3\/t.op=4) by omega,show¬t.op=5 by omega,show¬(t.op=6\/t.op=7) by omega,show¬t.op=18 by omega,show(t.op<1\/t.op>18) by omega,xaC,xaD]at an;exact an (by decide)
def adK{t:Tm}(hw:iu t=0):¬(hk t.op).1<0/\¬((t.num<(if t.op=1 then-255 else 0))\/t.num>(if t.op=1 then 255 else if t.op=2 then 1 else 0))/\ ¬(if Dy t.op then t.name=⟨#[]⟩\/t.name.size>24 else t.name≠⟨#[]⟩)/\¬((t.aU.length:Int)<(hk t.op).1\/(t.aU.length:Int)>(hk t.op).2):=by
 unfold iu at hw;by_cases ab:(hk t.op).1<0;.rw[xad ab]at hw;cases hw
 rw[xac ab]at hw;by_cases af:(t.num<(if t.op=1 then-255 else 0))\/t.num>(if t.op=1 then 255 else if t.op=2 then 1 else 0);.rw[xad af]at hw;cases hw
 rw[xac af]at hw;by_cases aw:(if Dy t.op then t.name=⟨#[]⟩\/t.name.size>24 else t.name≠⟨#[]⟩);.rw[xad aw]at hw;cases hw
 rw[xac aw]at hw;by_cases a4:((t.aU.length:Int)<(hk t.op).1\/(t.aU.length:Int)>(hk t.op).2);.rw[xad a4]at hw;cases hw
 exact⟨ab,af,aw,a4⟩
def Valid.len{t:Tm}(h:Valid t):(hk t.op).1<=t.aU.length/\(t.aU.length:Int)<=(hk t.op).2:=by have:=(adK h.NC).2.2.2;omega
def Valid.num{t:Tm}(h:Valid t):-255<=t.num/\t.num<=255/\(t.op≠1->0<=t.num/\t.num<=1)/\(t.op≠1->t.op≠2->t.num=0):=by
 have af:=(adK h.NC).2.1;by_cases bU:t.op=1;.simp only[bU,xaC]at af;exact⟨by omega,by omega,by omega,by omega⟩
 by_cases bY:t.op=2;.simp only[bU,bY,xaC,xaD]at af;exact⟨by omega,by omega,by omega,by omega⟩
 simp only[bU,bY,xaD]at af;exact⟨by omega,by omega,by omega,by omega⟩
def ll(t:Tm)(l:List Y):Y×Int:=if 5<=t.op/\t.op<=9 then if l.all Y.b then(kq,0)else(fT,13)
 else match l with
  |[a,b,c]=>if(!a.b||(b.b !=c.b))then(fT,13)else if b.b then(kq,0)else jw (sa b.lo c.lo) (hA b.ah c.ah)
  |[a,b]=>if t.op=10\/t.op=11 then if a.b !=b.b then(fT,13)else(kq,0)
   else if(a.b||b.b)then(fT,13)
   else if t.op=12\/t.op=13 then(kq,0)
   else if t.op=17 then(match t.aU[1]? with
    |some k=>if k.op≠1\/k.num<1 then(fT,2)else jw 0 (k.num-1)
    |none=>(fT,0))
   else tL t.op a b
  |_=>(fT,0)
theorem adL{α:Type}{l:List α}(h:l.length=3):∃a b c,l=[a,b,c]:=by match l,h with|[a,b,c],_=>exact⟨a,b,c,rfl⟩
theorem ND{α:Type}{l:List α}(h:l.length=2):∃a b,l=[a,b]:=by match l,h with|[a,b],_=>exact⟨a,b,rfl⟩
theorem adM{op:Int}(h:op=18):hk op=(3,3):=by subst h;rfl
def adN{op:Int}(h:8<=op/\op<=17):hk op=(2,2):=by unfold hk;rw[xac (by omega),xac (by omega),xac (by omega),xac (by omega),xac (by omega)]
def adO{l:List Tm}{b:Bool}{t:Tm}(h:l[1]?=some t):bo 4 (cr 4 b (Tm.rows l)) (J 1)=some t.cells:=Tm.gN (i:=1) h
def NF{l:List Y}{y:Y}(h:l[0]?=some y):bo 3 (g1 l) (J 0)=some y.cells:=IV (i:=0) h
def NG{l:List Y}{y:Y}(h:l[1]?=some y):bo 3 (g1 l) (J 1)=some y.cells:=IV (i:=1) h
def adP{l:List Y}{y:Y}(h:l[2]?=some y):bo 3 (g1 l) (J 2)=some y.cells:=IV (i:=2) h
set_option maxHeartbeats 1000000 in
def aub(n:Nat)(t:Tm)(l:List Y)(a3:Valid t)(cu:l.length=t.aU.length)(eM:5<=t.op)(b5:∀y∈l,y.lO)(aN:100<n):zW n [t.d,g1 l]=some (.aZ [(ll t l).1.d,J (ll t l).2]):=by
 have auc:=a3.op;have b2:=a3.len;have a7:=Tm.uQ t;have cv:=Tm.wU t;have ln:=Tm.oY t;have iQ:D.agg [ax false,J 0,J 0]=fT.d:=rfl;have lp:D.agg [ax true,J 0,J 0]=kq.d:=rfl;have ak:=adN (op:=t.op);have Uz:=adM (op:=t.op);have aud:l.length<=64:=by
  have:(hk t.op).2<=64:=by unfold hk;repeat(first|split|decide)
  omega
 have aL:=at3 n l (by omega) (by omega);by_cases ab:t.op<=9
 .have e:ll t l=if l.all Y.b then(kq,0)else(fT,13):=by unfold ll;rw[xad ⟨eM,ab⟩]
  rw[e];have an:t.op=5\/t.op=6\/t.op=7\/t.op=8\/t.op=9:=by omega
  generalize t.op=op at*;generalize l.all Y.b=q at*;rcases an with rfl|rfl|rfl|rfl|rfl<;>simp[zW,MY,ln,a7,aL,iQ,lp]<;>cases q<;>simp
 by_cases af:t.op=18;.rw[Uz af]at b2;obtain⟨a,b,c,rfl⟩:=adL (l:=l) (by simp at b2;omega);have pr:=NF (l:=[a,b,c]) rfl;have aW:=NG (l:=[a,b,c]) rfl;have a2:=adP (l:=[a,b,c]) rfl;unfold ll;generalize g1 [a,b,c]=L at*;rw[xac (by omega)];simp[zW,MY,ln,a7,af,pr,aW,a2,iQ,lp,IU,Ux,Uy];cases a.b<;>cases b.b<;>cases c.b<;>(try simp)
 have aw:10<=t.op/\t.op<=17:=by omega
 rw[ak (by omega)]at b2;obtain⟨a,b,rfl⟩:=ND (l:=l) (by simp at b2;omega);have pr:=NF (l:=[a,b]) rfl;have aW:=NG (l:=[a,b]) rfl;have IW:=b5 a (by simp);have xy:=b5 b (by simp);have aT:=aua n a b (by omega) IW xy;obtain⟨_,ao,bc,b9⟩:=IW;obtain⟨_,eO,hf,j5⟩:=xy;unfold ll;generalize g1 [a,b]=L at*;rw[xac (by omega)];obtain⟨E9,cD,eP⟩:=ND (l:=t.aU) (by simp at b2;omega);have UA:=adO (l:=t.aU) (b:=t.nl) (t:=cD) (by rw[eP];rfl);have aue:=(a3.gl (x:=cD) (by rw[eP];simp)).num;have s1:IntKind.i64.wrap (cD.num-1)=cD.num-1:=wrap64 _ (by omega) (by omega);have f5:ai false .sub (J cD.num) (J 1)=some (J (cD.num-1)):=mD (by omega) (by omega);have f1:ai false .add (J a.lo) (J b.lo)=some (J (a.lo+b.lo)):=gx (by omega) (by omega);have f2:ai false .add (J a.ah) (J b.ah)=some (J (a.ah+b.ah)):=gx (by omega) (by omega);have f3:ai false .sub (J a.lo) (J b.ah)=some (J (a.lo-b.ah)):=mD (by omega) (by omega);have f4:ai false .sub (J a.ah) (J b.lo)=some (J (a.ah-b.lo)):=mD (by omega) (by omega);have an:t.op=10\/t.op=11\/t.op=12\/t.op=13\/t.op=14\/t.op=15\/t.op=16\/t.op=17:=by omega
 have bz:(t.aU[1]?)=some cD:=by rw[eP];rfl
 generalize t.op=op at*;have auf:∀x y:Int,jw x y=jw x y:=λ_ _=>rfl;rcases an with rfl|rfl|rfl|rfl|rfl|rfl|rfl|rfl<;>
  cases ds:a.b<;>cases gL:b.b<;>simp[zW,MY,ln,a7,cv,pr,aW,UA,bz,iQ,lp,IU,tL,f1,f2,f3,f4,f5,aT,ds,gL]
 all_goals (by_cases ic:cD.op=1<;>by_cases pq:cD.num<1<;>simp[ic,pq])
set_option maxHeartbeats 2000000 in
def aug(n:Nat)(auh M:D)(t:Tm)(nx:Bool)(l:List Y)(a3:Valid t)(cu:l.length=t.aU.length)(eM:5<=t.op)(b5:∀y∈l,y.lO)(aN:100<n):o4 n [auh,M,t.d,ax nx,g1 l]=some (.aZ [(ll t l).1.d,J (ll t l).2]):=by
 have auc:=a3.op;have b2:=a3.len;have a7:=Tm.uQ t;have cv:=Tm.wU t;have ln:=Tm.oY t;have iQ:D.agg [ax false,J 0,J 0]=fT.d:=rfl;have lp:D.agg [ax true,J 0,J 0]=kq.d:=rfl;have ak:=adN (op:=t.op);have Uz:=adM (op:=t.op);have aud:l.length<=64:=by
  have:(hk t.op).2<=64:=by unfold hk;repeat(first|split|decide)
  omega
 have aL:=at2 n l (by omega) (by omega);by_cases ab:t.op<=9
 .have e:ll t l=if l.all Y.b then(kq,0)else(fT,13):=by unfold ll;rw[xad ⟨eM,ab⟩]
  rw[e];have an:t.op=5\/t.op=6\/t.op=7\/t.op=8\/t.op=9:=by omega
  generalize t.op=op at*;generalize l.all Y.b=q at*;rcases an with rfl|rfl|rfl|rfl|rfl<;>simp[o4,tl,ln,a7,aL,iQ,lp]<;>cases q<;>simp
 by_cases af:t.op=18;.rw[Uz af]at b2;obtain⟨a,b,c,rfl⟩:=adL (l:=l) (by simp at b2;omega);have pr:=NF (l:=[a,b,c]) rfl;have aW:=NG (l:=[a,b,c]) rfl;have a2:=adP (l:=[a,b,c]) rfl;have xy:=(b5 b (by simp)).1;unfold ll;generalize g1 [a,b,c]=L at*;rw[xac (by omega)];simp[o4,tl,ln,a7,af,pr,aW,a2,iQ,lp,vC,Ux,Uy];obtain⟨gZ,aBj,aBk⟩:=b;cases a.b<;>cases gZ<;>cases c.b<;>simp at xy⊢;obtain⟨rfl,rfl⟩:=xy;rfl
 have aw:10<=t.op/\t.op<=17:=by omega
 rw[ak (by omega)]at b2;obtain⟨a,b,rfl⟩:=ND (l:=l) (by simp at b2;omega);have pr:=NF (l:=[a,b]) rfl;have aW:=NG (l:=[a,b]) rfl;have IW:=b5 a (by simp);have xy:=b5 b (by simp);have aT:=λop=>at6 n op a b IW xy;obtain⟨_,ao,bc,b9⟩:=IW;obtain⟨_,eO,hf,j5⟩:=xy;unfold ll;generalize g1 [a,b]=L at*;rw[xac (by omega)];obtain⟨E9,cD,eP⟩:=ND (l:=t.aU) (by simp at b2;omega);have UA:=adO (l:=t.aU) (b:=t.nl) (t:=cD) (by rw[eP];rfl);have aue:=(a3.gl (x:=cD) (by rw[eP];simp)).num;have s1:IntKind.i64.wrap (cD.num-1)=cD.num-1:=wrap64 _ (by omega) (by omega);have f5:ai false .sub (J cD.num) (J 1)=some (J (cD.num-1)):=mD (by omega) (by omega);have f1:ai false .add (J a.lo) (J b.lo)=some (J (a.lo+b.lo)):=gx (by omega) (by omega);have f2:ai false .add (J a.ah) (J b.ah)=some (J (a.ah+b.ah)):=gx (by omega) (by omega);have f3:ai false .sub (J a.lo) (J b.ah)=some (J (a.lo-b.ah)):=mD (by omega) (by omega);have f4:ai false .sub (J a.ah) (J b.lo)=some (J (a.ah-b.lo)):=mD (by omega) (by omega);have an:t.op=10\/t.op=11\/t.op=12\/t.op=13\/t.op=14\/t.op=15\/t.op=16\/t.op=17:=by omega
 have bz:(t.aU[1]?)=some cD:=by rw[eP];rfl
 generalize t.op=op at*;have auf:∀x y:Int,jw x y=jw x y:=λ_ _=>rfl;rcases an with rfl|rfl|rfl|rfl|rfl|rfl|rfl|rfl<;>
  cases ds:a.b<;>cases gL:b.b<;>simp[o4,tl,ln,a7,cv,pr,aW,UA,bz,iQ,lp,vC,aT,f1,f2,f3,f4,f5,ds,gL]
 all_goals (by_cases ic:cD.op=1<;>by_cases pq:cD.num<1<;>simp[ic,pq])
def fg(vs:List V)(x:ByteArray):Option Nat:=vs.findIdx? (λv=>decide (v.name=x))
def IX{vs:List V}{x:ByteArray}{i:Nat}(h:fg vs x=some i):∃v,vs[i]?=some v/\v.name=x/\i<vs.length:=by obtain⟨ab,af,_⟩:=xbd.1 h;exact⟨_,xaa ab,by simpa using af,ab⟩
theorem V.IY(v:V):v.cells[0]?=some (aC v.name)/\v.cells[1]?=some (ax v.bool)/\v.cells[2]?=some (J v.lo)/\v.cells[3]?=some (J v.ah):=⟨rfl,rfl,rfl,rfl⟩
def hz{l:List V}{i:Nat}{v:V}(h:l[i]?=some v):bo 4 (bp l) (J (i:Int))=some v.cells:=by simp[bp,h]
def fO(l:List V):bD (bp l)=some (J l.length):=by simp[bp]
theorem V.pc(v:V):a5 true 4 0 v.cells=some v.d/\a6 4 v.d=true/\ad v.d 0=aC v.name:=⟨rfl,rfl,rfl⟩
def tM:List V->Nat->List (Value×D)->List (Value×D)
 |[],_,M=>M|v::r,i,M=>tM r (i+1) (if(gH M v.name).isSome then M else(nr .string M (aC v.name) (J i)).getD [])
def UB:∀(r:List V)(i:Nat)(M:List (Value×D)),lJ M->lJ (tM r i M)/\∀x,gH (tM r i M) x=match gH M x with|some d=>some d|none=>(fg r x).map λj=>J ((i+j:Nat):Int)
 |[],i,M,h=>⟨h,λx=>by simp only[tM,fg,List.findIdx?_nil];cases gH M x<;>rfl⟩
 |v::r,i,M,h=>by
  rw[tM];have e:∀x,fg (v::r) x=if v.name=x then some 0 else(fg r x).map (·+1):=by intro x;simp[fg,xbX]
  by_cases aG:(gH M v.name).isSome
  .rw[xad aG];obtain⟨ab,af⟩:=UB r (i+1) M h;refine⟨ab,λx=>?_⟩;rw[af x,e x];cases ag:gH M x with
   |some d=>rfl
   |none=>
    have cK:¬v.name=x:=by rintro rfl;simp[ag]at aG
    simp only[cK,xaD,Option.map_map]
    congr 1
    funext j
    simp only[Function.comp]
    congr 2
    omega
  rw[xac aG];obtain⟨cY,dy,dg,eW,_⟩:=BW h v.name (J i);rw[dy,xbe];obtain⟨ab,af⟩:=UB r (i+1) cY dg;refine⟨ab,λx=>?_⟩;rw[af x,eW x,e x];by_cases ag:x=v.name
  .subst ag;have aN:gH M v.name=none:=by simpa using aG
   simp[aN]
  have cK:¬v.name=x:=λh=>ag h.symm;simp only[ag,cK,xaD];cases b5:gH M x with
  |some d=>rfl
  |none=>
   simp only[Option.map_map]
   congr 1
   funext j
   simp only[Function.comp]
   congr 2
   omega
def UC(M:List (Value×D))(vs:List V):Prop:=lJ M/\∀x,gH M x=(fg vs x).map λ(j:Nat)=>J (j:Int)
def aui(n:Nat)(vs:List V)(aN:vs.length<n)(aq:vs.length<1000000000000):∃M,GI n [bp vs]=some (.mp M)/\UC M vs:=by
 have ar:lJ []:=by intro e he;cases he
 obtain⟨ab,af⟩:=UB vs 0 [] ar;refine⟨tM vs 0 [],?_,ab,λx=>by rw[af x];simp only[gH,xax]⟩;have ah:=dJ (f:=GH n) vs (λi (M:List (Value×D))=>[bp vs,J vs.length,J (i:Int),.mp M]) (λr M=>(Sum.inl [.mp (tM r (vs.length-r.length) M)]:List D⊕D)) (λi M=>lJ M) (λM _=>by simp[GH,tM]) ?_ n 0 [] ar (by omega) (xai _)
 .have bE:(J ((0:Nat):Int))=J 0:=rfl;rw[bE]at ah;simp[GI,aae,fO,ah]
 intro i a M aE ah dV;left;have e:vs.length-(a::vs.drop (i+1)).length=i:=by simp;omega
 have dv:vs.length-(vs.drop (i+1)).length=i+1:=by simp;omega
 have aw:=yQ dV (z:= .int .i64 0) (x:=a.name);have ac:=a.pc;cases b5:gH M a.name with|some d=>rw[b5]at aw;refine⟨M,by simp[GH,ah,hz aE,ac,aw,b0 (bt:=false) (i:=i) (by omega)],?_,dV⟩;rw[e,tM,b5,dv];rfl|none=>rw[b5]at aw;obtain⟨cY,dy,dg,eW,_⟩:=BW dV a.name (J i);refine⟨cY,by simp[GH,ah,hz aE,ac,aw,dy,b0 (bt:=false) (i:=i) (by omega)],?_,dg⟩;rw[e,tM,b5,dv];simp only[Option.isSome_none,xas,xaD,dy,xbe]
def auj(n:Nat)(vs:List V)(x:ByteArray)(aN:vs.length<n)(aq:vs.length<1000000000000):Ib n [bp vs,aC x]=some (J (match fg vs x with|some i=>(i:Int)|none=>-1)):=by
 have ah:=dJ (f:=Ia n) vs (λi (_:Unit)=>[bp vs,aC x,J (i:Int)]) (λr _=>match fg r x with|some j=>(Sum.inr (J ((vs.length-r.length+j:Nat):Int)):List D⊕D)|none=> .inl []) (λ_ _=>True) (λ_ _=>by simp[Ia,fO,fg]) ?_ n 0 () trivial (by omega) (xai _);.have bE:(J ((0:Nat):Int))=J 0:=rfl;rw[bE]at ah;simp only[Ib,aa6,ah,xao,eN];cases fg vs x<;>simp
 intro i a _ aE ah _;have e:vs.length-(a::vs.drop (i+1)).length=i:=by simp;omega
 have dv:vs.length-(vs.drop (i+1)).length=i+1:=by simp;omega
 have nQ:fg (a::vs.drop (i+1)) x=if a.name=x then some 0 else(fg (vs.drop (i+1)) x).map (·+1):=by simp[fg,xbX]
 have ac:=a.IY;by_cases ag:a.name=x;.right;rw[nQ,xad ag,e];simp[Ia,fO,ah,hz aE,ac,ag]
 left;refine⟨(),by simp[Ia,fO,ah,hz aE,ac,ag,b0 (bt:=false) (i:=i) (by omega)],?_,trivial⟩;rw[nQ,xac ag,e,dv];cases fg (vs.drop (i+1)) x with|none=>rfl|some j=>simp;omega
def oi(vs:List V)(nx:Bool)(t:Tm):Y×Int:=if t.op=1 then jw t.num t.num else if t.op=2 then(kq,0)
 else match fg vs t.name with
  |none=>(fT,12)
  |some i=>if t.op=4/\nx=false then(fT,24)else match vs[i]? with
   |some v=>if v.bool then(kq,0)else jw v.lo v.ah
   |none=>(fT,12)
mutual
def gA(vs:List V)(nx:Bool):Tm->Y×Int
 | .mk o n s b ks=>if o<=4 then oi vs nx (.mk o n s b ks)else if(gJ vs nx ks).2≠0 then(fT,(gJ vs nx ks).2)else ll (.mk o n s b ks) (gJ vs nx ks).1
def gJ(vs:List V)(nx:Bool):List Tm->List Y×Int
 |[]=>([],0)|t::r=>if(gA vs nx t).2≠0 then([],(gA vs nx t).2)else if(gJ vs nx r).2≠0 then([],(gJ vs nx r).2)else((gA vs nx t).1::(gJ vs nx r).1,0)
end
theorem xz(vs:List V)(nx:Bool)(t:Tm):gA vs nx t=if t.op<=4 then oi vs nx t else if(gJ vs nx t.aU).2≠0 then(fT,(gJ vs nx t.aU).2)else ll t (gJ vs nx t.aU).1:=by cases t;rw[gA];rfl
def UD:kq.lO:=⟨by simp[kq],by simp[kq],by simp[kq],by simp[kq]⟩
def auk{vs:List V}{nx:Bool}{t:Tm}(h:(oi vs nx t).2=0):(oi vs nx t).1.lO:=by
 unfold oi at*;by_cases ab:t.op=1;.rw[xad ab]at*;exact DP h
 rw[xac ab]at*;by_cases af:t.op=2;.rw[xad af];exact UD
 rw[xac af]at*;cases ah:fg vs t.name with
 |none=>simp[ah]at h
 |some i=>
  simp only[ah]at h⊢;by_cases aw:t.op=4/\nx=false;.simp[aw]at h
  rw[xac aw]at*;cases a3:vs[i]? with
  |none=>simp[a3]at h
  |some v=>
   simp only[a3]at h⊢;by_cases aj:v.bool=true;.rw[xad aj];exact UD
   rw[xac aj]at*;exact DP h
def aul{op:Int}{a b:Y}(h:(tL op a b).2=0):(tL op a b).1.lO:=by
 unfold tL at*;split at h;.rename_i ab;rw[xad ab];exact DP h
 rename_i ab;split at h;.rename_i af;rw[xac ab,xad af];exact DP h
 rename_i af;rw[xac ab,xac af];exact DP h
def tN{c:Prop}[Decidable c]{x y:Y×Int}(ag:x.2=0->x.1.lO\/x.1=fT)(aJ:y.2=0->y.1.lO\/y.1=fT):(if c then x else y).2=0->(if c then x else y).1.lO\/(if c then x else y).1=fT:=by
 split;.exact ag
 exact aJ
def aum{t:Tm}{l:List Y}:(ll t l).2=0->(ll t l).1.lO\/(ll t l).1=fT:=by
 have z:∀e:Int,((fT,e):Y×Int).2=0->((fT,e):Y×Int).1.lO\/((fT,e):Y×Int).1=fT:=λ_ _=> .inr rfl;have y:((kq,0):Y×Int).2=0->((kq,0):Y×Int).1.lO\/((kq,0):Y×Int).1=fT:=λ_=> .inl UD;have sp:∀a b:Int,(jw a b).2=0->(jw a b).1.lO\/(jw a b).1=fT:=λa b h=> .inl (DP h);unfold ll;refine tN (tN y (z _)) ?_;split
 .exact tN (z _) (tN y (sp _ _))
 .refine tN (tN (z _) y) (tN (z _) (tN y (tN ?_ (λh=> .inl (aul h)))));split;.exact tN (z _) (sp _ _)
  exact z _
 exact z _
def aun:fT.lO:=⟨by simp[fT],by simp[fT],by simp[fT],by simp[fT]⟩
def auo(vs:List V)(nx:Bool)(t:Tm)(h:(gA vs nx t).2=0):(gA vs nx t).1.lO:=by
 rw[xz]at*;split at h;.rename_i an;rw[xad an];exact auk h
 rename_i an;rw[xac an];split at h;.rename_i bx;exact absurd h bx
 rename_i bx;rw[xac bx];rcases aum h with ab|ab
 .exact ab
 rw[ab];exact aun
def UE(vs:List V)(nx:Bool):∀(l:List Tm),(gJ vs nx l).2=0->(gJ vs nx l).1.length=l.length/\∀y∈(gJ vs nx l).1,y.lO
 |[],_=>⟨rfl,by intro y aJ;cases aJ⟩
 |t::r,h=>by
  rw[gJ]at*;by_cases ab:(gA vs nx t).2=0
  case neg=>rw[xad ab]at h;exact absurd h ab
  rw[xac (by simpa using ab)]at*;by_cases af:(gJ vs nx r).2=0
  case neg=>rw[xad af]at h;exact absurd h af
  rw[xac (by simpa using af)];obtain⟨aW,a2⟩:=UE vs nx r af;refine⟨by simp[aW],λy aJ=>?_⟩;rcases xal.1 aJ with rfl|aJ
  .exact auo vs nx t ab
  exact a2 y aJ
def aup(n:Nat)(vs:List V)(M:List (Value×D))(t:Tm)(nx:Bool)(L:D)(dV:UC M vs)(a4:t.op<=4)(ab:1<=t.op):o4 n [bp vs,.mp M,t.d,ax nx,L]=some (.aZ [(oi vs nx t).1.d,J (oi vs nx t).2]):=by
 have a7:=Tm.uQ t;have bU:=Tm.yO t;have bY:=Tm.yP t;have ln:=Tm.oY t;have iQ:D.agg [ax false,J 0,J 0]=fT.d:=rfl;have lp:D.agg [ax true,J 0,J 0]=kq.d:=rfl;have aq:=yQ dV.1 (z:= .int .i64 0) (x:=t.name);rw[dV.2]at aq;unfold oi;have an:t.op=1\/t.op=2\/t.op=3\/t.op=4:=by omega
 have BD:lG (.mp M)=some M:=rfl;generalize t.op=op at*;rcases an with rfl|rfl|rfl|rfl
 .simp[o4,tl,ln,a7,bU,iQ,lp,vC]
 .simp[o4,tl,ln,a7,bU,iQ,lp,vC]
 .cases ah:fg vs t.name with|none=>rw[ah]at aq;simp[o4,tl,ln,a7,bU,bY,iQ,lp,BD,aq]|some i=>rw[ah]at aq;obtain⟨v,v1,v2,rv⟩:=IX ah;simp[o4,tl,ln,a7,bU,bY,iQ,lp,BD,aq,v1,hz v1,v.IY,vC];cases v.bool<;>simp
 cases ah:fg vs t.name with|none=>rw[ah]at aq;simp[o4,tl,ln,a7,bU,bY,iQ,lp,BD,aq]|some i=>rw[ah]at aq;obtain⟨v,v1,v2,rv⟩:=IX ah;simp[o4,tl,ln,a7,bU,bY,iQ,lp,BD,aq,v1,hz v1,v.IY,vC];cases v.bool<;>cases nx<;>simp
def Valid.leaf{t:Tm}(h:Valid t)(a4:t.op<=4):t.aU=[]:=by
 have ab:=h.op;have af:=h.len;have:hk t.op=(0,0):=by unfold hk;rw[xad (by omega)]
 rw[this]at af;exact xaI (by have:=af.2;simp only at this;omega)
def Valid.adQ{t:Tm}(h:Valid t):t.aU.length<=64:=by
 have af:=h.len;have:(hk t.op).2<=64:=by unfold hk;repeat(first|split|decide)
 omega
def adR{a b:Nat}(h:a+b<=1000):dc (a+b) 24=true:=gG (by omega) (by omega)
def adS(vs:List V)(M:List (Value×D))(nx:Bool)(dV:UC M vs):∀(n:Nat)(t:Tm),t.bl+200<n->t.cc->Valid t->rR n [bp vs,.mp M,t.d,ax nx]=some (.aZ [(gA vs nx t).1.d,J (gA vs nx t).2])
 |0,t,h,_,_=>absurd h (xay _)
 |n+1,t,aN,bm,a3=>by
  rw[xz];have iQ:D.agg [ax false,J 0,J 0]=fT.d:=rfl;have auq:=a3.adQ;have aq:=dJ (f:=Cj (rR n) n) t.aU (λi (s:List Y)=>[bp vs,.mp M,ax nx,cr 4 t.nl (Tm.rows t.aU),J t.aU.length,J (i:Int),J t.op,J t.num,aC t.name,cr 4 t.nl (Tm.rows t.aU),ax false,J 0,J 0,g1 s]) (λr s=>if(gJ vs nx r).2=0 then(Sum.inl [bp vs,.mp M,ax nx,J t.op,J t.num,aC t.name,cr 4 t.nl (Tm.rows t.aU),ax false,J 0,J 0,g1 (s++(gJ vs nx r).1)]:List D⊕D)else .inr (.aZ [fT.d,J (gJ vs nx r).2])) (λi s=>s.length=i) ?_ ?_ n 0 [] rfl (by omega) (xai _)
  .have bE:(J ((0:Nat):Int))=J 0:=rfl;have aO:g1 []= .az 3 []:=rfl;rw[bE,aO]at aq;simp only[rR,Sm,Tm.oY,Tm.uQ,Tm.yO,Tm.yP,Tm.wU,s3,Zs,Tm.BU,eN,aq,xao,xaK];by_cases ar:(gJ vs nx t.aU).2=0
   .obtain⟨aW,a2⟩:=UE vs nx t.aU ar;have aX:∀l:List Y,D.az 3 (au (g1 l))=g1 l:=λ_=>rfl;have aur:=λa4=>aup n vs M t nx (g1 (gJ vs nx t.aU).1) dV a4 a3.op.1;have UF:=λb6=>aug n (bp vs) (.mp M) t nx _ a3 aW b6 a2 (by omega);by_cases a4:t.op<=4
    .simp[ar,aX,aur a4,a4]
    simp[ar,aX,UF (by omega),a4]
   have a4:¬t.op<=4:=λa4=>ar (by rw[a3.leaf a4];rfl);simp[ar,a4]
  .intro s aG;simp[Cj,gJ,g1]
  intro i a s aE ah aG;have hm:=xab aE;have bn:=Tm.ja hm;have av:=adS vs M nx dV n a (by omega) (bm.gl hm) (a3.gl hm);have ej:dc (s.length+1) 24=true:=adR (by omega);have wh:Cj (rR n) n [bp vs,.mp M,ax nx,cr 4 t.nl (Tm.rows t.aU),J t.aU.length,J (i:Int),J t.op,J t.num,aC t.name,cr 4 t.nl (Tm.rows t.aU),ax false,J 0,J 0,g1 s]=
    if(gA vs nx a).2=0 then some (.inl [bp vs,.mp M,ax nx,cr 4 t.nl (Tm.rows t.aU),J t.aU.length,J ((i+1:Nat):Int),J t.op,J t.num,aC t.name,cr 4 t.nl (Tm.rows t.aU),ax false,J 0,J 0,g1 (s++[(gA vs nx a).1])])
    else some (.inr (.inr (.aZ [fT.d,J (gA vs nx a).2]))):=by
   by_cases ar:(gA vs nx a).2=0;.simp[Cj,ah,Tm.gN aE,av,ar,b0 (bt:=false) (i:=i) (by omega),g1,ej];simp[Y.cells]
   .simp[Cj,ah,Tm.gN aE,av,ar,iQ]
  rw[wh];simp only[gJ];by_cases ar:(gA vs nx a).2=0
  .left;refine⟨s++[(gA vs nx a).1],by simp[ar],?_,by simp[aG]⟩;by_cases ab:(gJ vs nx (t.aU.drop (i+1))).2=0;.simp[ar,ab]
   simp[ar,ab]
  right;simp[ar]
def adT(vs:List V)(nx:Bool)(DQ:vs.length<1000000000000):∀(n:Nat)(t:Tm),t.bl+200+vs.length<n->t.cc->Valid t->m7 n [bp vs,t.d,ax nx]=some (.aZ [(gA vs nx t).1.d,J (gA vs nx t).2])
 |0,t,h,_,_=>absurd h (xay _)
 |n+1,t,aN,bm,a3=>by
  rw[xz];have iQ:D.agg [ax false,J 0,J 0]=fT.d:=rfl;have lp:D.agg [ax true,J 0,J 0]=kq.d:=rfl;have auq:=a3.adQ;have eM:=a3.op;by_cases a4:t.op<=4
  .rw[xad a4];have a7:=Tm.uQ t;have bU:=Tm.yO t;have bY:=Tm.yP t;have cv:=Tm.wU t;have ln:=Tm.oY t;unfold oi;have ag:=auj n vs t.name (by omega) DQ;have an:t.op=1\/t.op=2\/t.op=3\/t.op=4:=by omega
   generalize t.op=op at*;rcases an with rfl|rfl|rfl|rfl
   .simp[m7,vo,ln,a7,bU,iQ,lp,IU]
   .simp[m7,vo,ln,a7,bU,iQ,lp]
   .cases ah:fg vs t.name with
    |none=>rw[ah]at ag;simp[m7,vo,ln,a7,bU,bY,cv,iQ,lp,ag]
    |some i=>
     rw[ah]at ag;obtain⟨v,v1,v2,rv⟩:=IX ah;have k0:¬((i:Int)<0):=by omega
     simp[m7,vo,ln,a7,bU,bY,cv,iQ,lp,ag,k0,v1,hz v1,v.IY,IU];cases v.bool<;>simp
   cases ah:fg vs t.name with
   |none=>rw[ah]at ag;simp[m7,vo,ln,a7,bU,bY,cv,iQ,lp,ag]
   |some i=>
    rw[ah]at ag;obtain⟨v,v1,v2,rv⟩:=IX ah;have k0:¬((i:Int)<0):=by omega
    simp[m7,vo,ln,a7,bU,bY,cv,iQ,lp,ag,k0,v1,hz v1,v.IY,IU];cases v.bool<;>cases nx<;>simp
  rw[xac a4];have aq:=dJ (f:=C3 (m7 n) n) t.aU (λi (s:List Y)=>[bp vs,ax nx,J (i:Int),J t.op,J t.num,aC t.name,cr 4 t.nl (Tm.rows t.aU),ax false,J 0,J 0,g1 s]) (λr s=>if(gJ vs nx r).2=0 then(Sum.inl [J t.op,J t.num,aC t.name,cr 4 t.nl (Tm.rows t.aU),ax false,J 0,J 0,g1 (s++(gJ vs nx r).1)]:List D⊕D)else .inr (.aZ [fT.d,J (gJ vs nx r).2])) (λi s=>s.length=i) ?_ ?_ n 0 [] rfl (by omega) (xai _)
  .have bE:(J ((0:Nat):Int))=J 0:=rfl;have aO:g1 []= .az 3 []:=rfl;rw[bE,aO]at aq;have eO:(t.op==1)=false:=by simp;omega
   have hf:(t.op==2)=false:=by simp;omega
   have j5:(t.op==3)=false:=by simp;omega
   have na:(t.op==4)=false:=by simp;omega
   simp only[m7,vo,Tm.oY,Tm.uQ,Tm.yO,Tm.yP,Tm.wU,s3,BN,eO,hf,j5,na,l8,xas,xaD,eN,qw,n5,pM,aq,xao,xaK];by_cases ar:(gJ vs nx t.aU).2=0;.obtain⟨aW,a2⟩:=UE vs nx t.aU ar;have aX:∀l:List Y,D.az 3 (au (g1 l))=g1 l:=λ_=>rfl;have UF:=aub n t _ a3 aW (by omega) a2 (by omega);simp[ar,aX,UF]
   simp[ar]
  .intro s aG;simp[C3,gJ,g1]
  intro i a s aE ah aG;have hm:=xab aE;have bn:=Tm.ja hm;have av:=adT vs nx DQ n a (by omega) (bm.gl hm) (a3.gl hm);have ej:dc (s.length+1) 24=true:=adR (by omega);have wh:C3 (m7 n) n [bp vs,ax nx,J (i:Int),J t.op,J t.num,aC t.name,cr 4 t.nl (Tm.rows t.aU),ax false,J 0,J 0,g1 s]=
    if(gA vs nx a).2=0 then some (.inl [bp vs,ax nx,J ((i+1:Nat):Int),J t.op,J t.num,aC t.name,cr 4 t.nl (Tm.rows t.aU),ax false,J 0,J 0,g1 (s++[(gA vs nx a).1])])
    else some (.inr (.inr (.aZ [fT.d,J (gA vs nx a).2]))):=by
   by_cases ar:(gA vs nx a).2=0;.simp[C3,ah,Tm.gN aE,av,ar,b0 (bt:=false) (i:=i) (by omega),g1,ej];simp[Y.cells]
   .simp[C3,ah,Tm.gN aE,av,ar,iQ]
  rw[wh];simp only[gJ];by_cases ar:(gA vs nx a).2=0
  .left;refine⟨s++[(gA vs nx a).1],by simp[ar],?_,by simp[aG]⟩;by_cases ab:(gJ vs nx (t.aU.drop (i+1))).2=0;.simp[ar,ab]
   simp[ar,ab]
  right;simp[ar]
def oj(vs:List V)(nx:Bool)(t:Tm):Y×Int:=if(db t 1 0).1≠0 then(fT,(db t 1 0).1)else gA vs nx t
def aus(n:Nat)(vs:List V)(t:Tm)(nx:Bool)(aN:t.bl+200+vs.length<n)(bm:t.cc)(DQ:vs.length<1000000000000):Ck n [bp vs,t.d,ax nx]=some (.aZ [(oj vs nx t).1.d,J (oj vs nx t).2]):=by
 have an:=Ng n t (by omega) bm;obtain⟨M,gM,kI⟩:=aui n vs (by omega) DQ;have iQ:D.agg [ax false,J 0,J 0]=fT.d:=rfl;unfold oj;by_cases ar:(db t 1 0).1=0
 .have aL:=adS vs M nx kI n t (by omega) bm ⟨1,0,ar⟩;simp[Ck,Sn,an,ar,gM,aL]
 simp[Ck,Sn,an,ar,iQ]
def aut(n:Nat)(vs:List V)(t:Tm)(nx:Bool)(aN:t.bl+200+vs.length<n)(bm:t.cc)(DQ:vs.length<1000000000000):C4 n [bp vs,t.d,ax nx]=some (.aZ [(oj vs nx t).1.d,J (oj vs nx t).2]):=by
 have an:=TZ n t (by omega) bm;have iQ:D.agg [ax false,J 0,J 0]=fT.d:=rfl;unfold oj;by_cases ar:(db t 1 0).1=0
 .have aL:=adT vs nx DQ n t (by omega) bm ⟨1,0,ar⟩;simp[C4,Tp,an,ar,aL]
 simp[C4,Tp,an,ar,iQ]
end Go.Am
