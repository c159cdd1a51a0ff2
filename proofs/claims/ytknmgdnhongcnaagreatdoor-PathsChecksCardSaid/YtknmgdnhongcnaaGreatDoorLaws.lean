/- The laws, on data. No condition. -/
import Derived.Test.YtknmgdnhongcnaaGreatDoorEngD
import Derived.Test.YtknmgdnhongcnaaGreatDoorCode
import Derived.Test.YtknmgdnhongcnaaGreatDoorEngS
set_option linter.all false
set_option linter.unnecessarySimpa false
namespace Go.Am
def gK(op:Int):Int×Int:=if op=1\/op=2\/op=3\/op=4 then(0,0)else if op=5 then(1,1)else if op=6\/op=7 then(1,64)else if op=18 then(3,3)else if op<1\/op>18 then(-1,-1)else(2,2)
def FH(op:Int):Bool:=op==3||op==4
def iq(t:Tm):Int:=if(gK t.op).1<0 then 11
 else if(t.num<(if t.op=1 then-255 else 0))\/t.num>(if t.op=1 then 255 else if t.op=2 then 1 else 0)then 2
 else if(if FH t.op then t.name=⟨#[]⟩\/t.name.size>24 else t.name≠⟨#[]⟩)then 12
 else if(t.al.length:Int)<(gK t.op).1\/(t.al.length:Int)>(gK t.op).2 then 3 else 0
def aw9(n:Nat)(op:Int):Iw n [J op]=some (.aU [J (gK op).1,J (gK op).2]):=by
 rcases NT op with rfl|rfl|rfl|rfl|rfl|rfl|rfl|rfl|rfl|rfl|rfl|rfl|rfl|rfl|rfl|rfl|rfl|rfl|h
 case inr.inr.inr.inr.inr.inr.inr.inr.inr.inr.inr.inr.inr.inr.inr.inr.inr.inr=>
  have e:∀k:Int,1<=k->k<=18->(op==k)=false:=λk ad ae=>by simp;omega
  have a6:gK op=(-1,-1):=by unfold gK;repeat(first|rw[xaa (by omega)]|rw[xac (by omega)])
  simp[Iw,aco,e,a6]
 all_goals rfl
def axa(n:Nat)(op:Int):Fb n [J op]=some (.aU [J (gK op).1,J (gK op).2]):=by
 rcases NT op with rfl|rfl|rfl|rfl|rfl|rfl|rfl|rfl|rfl|rfl|rfl|rfl|rfl|rfl|rfl|rfl|rfl|rfl|h
 case inr.inr.inr.inr.inr.inr.inr.inr.inr.inr.inr.inr.inr.inr.inr.inr.inr.inr=>
  have e:∀k:Int,1<=k->k<=18->(op==k)=false:=λk ad ae=>by simp;omega
  have a6:gK op=(-1,-1):=by unfold gK;repeat(first|rw[xaa (by omega)]|rw[xac (by omega)])
  rcases h with h|h;.simp[Fb,Vb,e,a6,h]
  have:¬op<1:=by omega
  simp[Fb,Vb,e,a6,h,this]
 all_goals rfl
def axb(s:ByteArray):decide (s=⟨#[]⟩)=decide ((s.size:Int)<1):=by
 have:s=⟨#[]⟩↔(s.size:Int)<1:=by
  constructor;.rintro rfl;decide
  intro h;have:s.size=0:=by omega
  cases s with|mk a=>congr;exact xbm this
 simp[this]
def axc(n:Nat)(t:Tm):Ix n [t.d]=some (J (iq t)):=by
 cases t with|mk op num s b ks=>
 have ai:=aw9 n op;have hh:aL 4 (Tm.d (.mk op num s b ks))=true:=Tm.jn _;have bK:aa (Tm.d (.mk op num s b ks)) 0=J op:=rfl;have aZ:aa (Tm.d (.mk op num s b ks)) 1=J num:=rfl;have a6:aa (Tm.d (.mk op num s b ks)) 2=aI s:=rfl;have b2:aa (Tm.d (.mk op num s b ks)) 3=bc 4 b (Tm.rows ks):=rfl;generalize Tm.d (.mk op num s b ks)=x at*;simp only[iq,Tm.op,Tm.num,Tm.name,Tm.al];simp only[Ix,acp,hh,bK,aZ,a6,b2,p8,ai,et,TP,xbz,xcc,Eh,ly,ck,ch,b7,aG,a7,bJ,cV,dC,dW,b1,bB,eh,dX,c1,cA,fl,di,dT,eO];by_cases ao:(gK op).1<0
 .simp[ao]
 simp only[ao,decide_false,xaq,xaB,Ej,et,ly,ck,ch,b7,aG,a7,bJ,cV,dC,dW,b1,bB,eh,dX,c1,cA,fl,di,dT,eO];simp[FH];grind
def aeS(n:Nat)(t:Tm)(deep:Int):Cm n [t.d,J deep]=some (J (if deep>64 then 17 else iq t)):=by
 cases t with|mk op num s b ks=>
 have ai:=axa n op;have hh:aL 4 (Tm.d (.mk op num s b ks))=true:=Tm.jn _;have bK:aa (Tm.d (.mk op num s b ks)) 0=J op:=rfl;have aZ:aa (Tm.d (.mk op num s b ks)) 1=J num:=rfl;have a6:aa (Tm.d (.mk op num s b ks)) 2=aI s:=rfl;have b2:aa (Tm.d (.mk op num s b ks)) 3=bc 4 b (Tm.rows ks):=rfl;have dh:D.agg [J op,J num,aI s,bc 4 b (Tm.rows ks)]=(Tm.d (.mk op num s b ks)):=rfl;have aD:=axb s;simp only[iq,Tm.op,Tm.num,Tm.name,Tm.al];simp only[Cm,ac9,hh,bK,aZ,a6,b2,dh,p8,ai,et,TP,xbz,xcc,Eh,o8,ly,ck,ch,b7,aG,a7,bJ,cV,dC,dW,b1,bB,eh,dX,c1,cA,fl,di,dT,eO];by_cases aF:deep>64
 .simp[aF]
 by_cases ao:(gK op).1<0;.simp[ao]
 simp only[ao,aF,decide_false,xaq,xaB,Ej,et,ly,ck,ch,b7,aG,a7,bJ,cV,dC,dW,b1,bB,eh,dX,c1,cA,fl,di,dT,eO];simp[FH];simp at aD;grind
mutual
def cT:Tm->Int->Int->Int×Int
 | .mk op n s b ks,deep,k=>if deep>64 then(17,k+1)else if iq (.mk op n s b ks)≠0 then(iq (.mk op n s b ks),k+1)else if k+1>4096 then(4,k+1)else e4 ks (deep+1) (k+1)
def e4:List Tm->Int->Int->Int×Int
 |[],_,k=>(0,k)|t::r,deep,k=>if(cT t deep k).1≠0 then cT t deep k else e4 r deep (cT t deep k).2
end
theorem rb(t:Tm)(deep k:Int):cT t deep k=if deep>64 then(17,k+1)else if iq t≠0 then(iq t,k+1)else if k+1>4096 then(4,k+1)else e4 t.al (deep+1) (k+1):=by cases t;rw[cT];rfl
def FI(t:Tm):∀(deep k:Int),k+1<=(cT t deep k).2/\((cT t deep k).1=0->(cT t deep k).2<=4096):=by
 refine Tm.ind (P:=λt=>∀(deep k:Int),k+1<=(cT t deep k).2/\((cT t deep k).1=0->(cT t deep k).2<=4096)) ?_ t;intro t ih deep k;rw[rb];split;.simp
 split;.rename_i h;simp[h]
 split;.simp
 have key:∀(l:List Tm)(deep k:Int),(∀x∈l,∀(deep k:Int),k+1<=(cT x deep k).2/\((cT x deep k).1=0->(cT x deep k).2<=4096))->k<=4096->k<=(e4 l deep k).2/\((e4 l deep k).1=0->(e4 l deep k).2<=4096):=by
  intro l
  induction l with
  |nil=>intro deep k _ h;simp[e4,h]
  |cons a r kN=>
   intro deep k h ai;rw[e4];have ad:=h a (by simp) deep k;split
   .rename_i ae;exact⟨by omega,λaz=>absurd az ae⟩
   rename_i ae;simp only[ne_eq,Decidable.not_not]at ae;have az:=kN deep (cT a deep k).2 (λx af=>h x (by simp[af])) (ad.2 ae);exact⟨by omega,az.2⟩
 have:=key t.al (deep+1) (k+1) ih (by omega);exact this
def aeT:∀(n:Nat)(t:Tm)(deep k:Int),t.a9<n->t.bR->0<=deep->deep<=65->0<=k->k<=4096->vA n [t.d,J deep,J k]=some (.aU [J (cT t deep k).1,J (cT t deep k).2])
 |0,t,_,_,h,_,_,_,_,_=>absurd h (xar _)
 |n+1,t,deep,k,aH,a4,ad,ae,az,a3=>by
  have a1:=aeS n t deep;rw[rb];simp[vA,Vc,mD (bt:=false) (i:=k) (by omega) (by omega),a1];by_cases aF:64<deep;.simp[aF]
  simp[aF];by_cases hw:iq t=0
  case neg=>simp[hw]
  simp[hw];by_cases aj:4096<k+1;.simp[aj]
  simp[aj];have ak:=dp (f:=O8 (vA n) n) t.al (λi s=>[J deep,J s,J (i:Int),J t.op,J t.num,aI t.name,bc 4 t.nl (Tm.rows t.al)]) (λr (s:Int)=>if(e4 r (deep+1) s).1=0 then(Sum.inl [J (e4 r (deep+1) s).2]:List D⊕D)else .inr (.aU [J (e4 r (deep+1) s).1,J (e4 r (deep+1) s).2])) (λi s=>0<=s/\s<=4096) ?_ ?_ n 0 (k+1) ⟨by omega,by omega⟩ (by have:=t.g9;omega) (xah _)
  .have bK:(J ((0:Nat):Int))=J 0:=rfl;rw[bK]at ak;rw[ak];simp only[xak,et,ck,ch,b7,aG,a7,bJ,cV,dC,dW,b1,bB,eh,dX,c1,cA,fl,di,dT,eO];by_cases ao:(e4 t.al (deep+1) (k+1)).1=0;.simp[ao]
   simp[ao]
  .intro s aD;simp[O8,e4]
  intro i a s aB ag aD;have hm:=xad aB;have bF:=Tm.fb hm;have bz:=a4.len;have aw:=aeT n a (deep+1) s (by omega) (a4.cL hm) (by omega) (by omega) aD.1 aD.2;have jM:=FI a (deep+1) s;simp[O8,ag,Tm.dz aB,mD (bt:=false) (i:=deep) (by omega) (by omega),aw,cl (bt:=false) (i:=i) (by omega),e4];by_cases ao:(cT a (deep+1) s).1=0
  .left;simp only[ao];exact⟨(cT a (deep+1) s).2,by simp,by simp,by omega,jM.2 ao⟩
  right;simp[ao]
def VX(n:Nat)(t:Tm)(aH:t.a9<n)(a4:t.bR):xv n [t.d]=some (J (cT t 1 0).1):=by have:=aeT n t 1 0 aH a4 (by omega) (by omega) (by omega) (by omega);simp[xv,ada,this]
def axd(n:Nat)(t:Tm)(deep k w:Int)(ad:0<=k)(ae:k<=4096):∃e,e=(if deep>64 then 17 else if iq t≠0 then iq t else if k+1>4096 then 4 else 0)/\Iy n [t.d,J deep,J k,J w]=some [ax (decide (e=0)),J (k+1),J e]:=by refine⟨_,rfl,?_⟩;have a1:=axc n t;simp[Iy,mD (bt:=false) (i:=k) (by omega) (by omega),a1];by_cases bl:64<deep<;>by_cases bu:iq t=0<;>by_cases bT:4096<k+1<;>simp[bl,bu,bT]
def aeU:∀(n:Nat)(t:Tm)(deep k w:Int),t.a9<n->t.bR->0<=deep->deep<=65->0<=k->k<=4096->w7 n [t.d,J deep,J k,J w]=some [ax (decide ((cT t deep k).1=0)),J (cT t deep k).2,J (cT t deep k).1]
 |0,t,_,_,_,h,_,_,_,_,_=>absurd h (xar _)
 |n+1,t,deep,k,w,aH,a4,ad,ae,az,a3=>by
  obtain⟨e,he,a1⟩:=axd n t deep k w az a3;rw[rb];simp[w7,Us,a1];by_cases KP:e=0
  case neg=>simp[KP];grind
  have aj:¬deep>64/\iq t=0/\¬k+1>4096:=by grind
  simp[KP,aj];have ak:=dp (f:=Ob (w7 n) n) t.al (λi (s:Int×Int)=>[J deep,bc 4 t.nl (Tm.rows t.al),J t.al.length,J (i:Int),J s.1,J s.2]) (λr (s:Int×Int)=>if(e4 r (deep+1) s.1).1=0 then(Sum.inl [J (e4 r (deep+1) s.1).2,J 0]:List D⊕List D)else .inr [ax false,J (e4 r (deep+1) s.1).2,J (e4 r (deep+1) s.1).1]) (λi s=>0<=s.1/\s.1<=4096/\s.2=0) ?_ ?_ n 0 (k+1,0) ⟨by simp;omega,by simp;omega,rfl⟩ (by have:=t.g9;omega) (xah _)
  .have bK:(J ((0:Nat):Int))=J 0:=rfl;rw[bK]at ak;rw[ak];simp only[xak,et,ck,ch,b7,aG,a7,bJ,cV,dC,dW,b1,bB,eh,dX,c1,cA,fl,di,dT,eO];by_cases ao:(e4 t.al (deep+1) (k+1)).1=0;.simp[ao]
   simp[ao]
  .intro s aD;simp[Ob,e4,aD.2.2]
  intro i a s aB ag aD;have hm:=xad aB;have bF:=Tm.fb hm;have bz:=a4.len;have aw:=aeU n a (deep+1) s.1 s.2 (by omega) (a4.cL hm) (by omega) (by omega) aD.1 aD.2.1;have jM:=FI a (deep+1) s.1;simp[Ob,ag,Tm.dz aB,mD (bt:=false) (i:=deep) (by omega) (by omega),aw,cl (bt:=false) (i:=i) (by omega),e4];by_cases ao:(cT a (deep+1) s.1).1=0
  .left;exact⟨(cT a (deep+1) s.1).2,0,by simp[ao],by simp[ao],by omega,jM.2 ao,rfl⟩
  right;simp[ao]
def PD(n:Nat)(t:Tm)(aH:t.a9<n)(a4:t.bR):vm n [t.d]=some (J (cT t 1 0).1):=by have:=aeU n t 1 0 0 aH a4 (by omega) (by omega) (by omega) (by omega);simp[vm,acr,this]
def axe{α:Type}(A B:List α)(z s:α):(((A++B++[z]).take (A.length+1)++(((A++B++[z]).drop A.length).take (B.length+1)).take (min ((((A++B++[z]).drop A.length).take (B.length+1)).length) B.length)++(A++B++[z]).drop (A.length+1+min ((((A++B++[z]).drop A.length).take (B.length+1)).length) B.length)).set A.length s)=A++s::B:=by
 have aZ:(A++B++[z]).drop A.length=B++[z]:=by rw[xaE,List.drop_left]
 have a6:(B++[z]).take (B.length+1)=B++[z]:=xbB (by simp);rw[aZ,a6];have b2:min (B++[z]).length B.length=B.length:=by simp
 rw[b2];have dh:(B++[z]).take B.length=B:=List.take_left;have ey:(A++B++[z]).drop (A.length+1+B.length)=[]:=xch (by simp;omega);rw[dh,ey,xaD];obtain⟨w,hw⟩:∃w,(A++B++[z]).take (A.length+1)=A++[w]:=by rw[xaE,List.take_append];cases B with|nil=>exact⟨z,by rw[xbB (by omega)];simp⟩|cons b B=>exact⟨b,by rw[xbB (by omega)];simp⟩
 rw[hw,xaE];simp
def aeV{n i:Nat}(h:i<=n):qJ n (some (J (i:Int))) none=some (i,n-i):=by simp[qJ,qI,J,h]
theorem axf(l:List ByteArray):aP (dP l)=l.map λs=>[aI s]:=rfl
def aeW(n:Nat)(s:ByteArray)(l:List ByteArray)(aD:kv l)(aH:l.length+2<n)(ak:l.length<1000000000):y5 n [aI s,dP l]=some [dP (h2 s l)]:=by
 obtain⟨a,b,rfl,ae,az,a3,bx,cq⟩:=T9 s aD;have es:=axf (a++b);have key:bA (Iz n) n [aI s,J ((a++b).length:Int),dP (a++b)]=some (.inl [aI s,J (a.length:Int),dP (a++b)]):=by
  refine l2 (λj=>[aI s,J (((a++b).length-j:Nat):Int),dP (a++b)]) b.length (by simp) ?_ ?_ (by simp at aH;omega)
  .intro j aR;have bz:(a++b).length=a.length+b.length:=by simp
   obtain⟨m,hm⟩:∃m:Nat,(a++b).length-j=m+1:=⟨(a++b).length-j-1,by omega⟩;have axg:(a++b).length-(j+1)=m:=by omega
   have oo:(a++b)[m]?=b[m-a.length]?:=xaF (by omega);have bY:m-a.length<b.length:=by omega
   have axh:=xab bY;rw[axh]at oo;have an:=az _ (xbb bY);generalize b[m-a.length]=x at*;have jJ:b9 false .sub (J ((m+1:Nat):Int)) (J 1)=some (J (m:Int)):=by rw[mA (by omega) (by omega)];congr 2;omega
   have vM:c4 (aP (dP (a++b))).length (J (m:Int))=some m:=by rw[oD,xac (by rw[es];simp at bz⊢;omega)]
   have fL:(aP (dP (a++b)))[m]?=some [aI x]:=by rw[es,xaj,oo];rfl
   have jM:((m+1:Nat):Int)>0:=by omega
   simp only[hm,axg];simp only[Iz,p9,rT,o8,xag jM,et,wW,xay,jJ,vM,fL,jk,xbz,NV,an,wX,ly,ck,ch,b7,aG,a7,bJ,cV,dC,dW,b1,bB,eh,dX,c1,cA,fl,di,dT,eO];rfl
  have bz:(a++b).length-b.length=a.length:=by simp
  simp only[bz];by_cases ao:a.length=0
  .have:¬((a.length:Int)>0):=by omega
   simp only[Iz,p9,rT,o8,xao this,et,wW,xaq,xaB,wX,ly,TO,ck,ch,b7,aG,a7,bJ,cV,dC,dW,b1,bB,eh,dX,c1,cA,fl,di,dT,eO];rfl
  obtain⟨m,hm⟩:∃m:Nat,a.length=m+1:=⟨a.length-1,by omega⟩;have bY:m<a.length:=by omega
  have oo:(a++b)[m]?=a[m]?:=xaM bY;rw[xab bY]at oo;have aB:=ae _ (xbb bY);generalize a[m]=x at*;have jJ:b9 false .sub (J ((m+1:Nat):Int)) (J 1)=some (J (m:Int)):=by rw[mA (by omega) (by simp at ak;omega)];congr 2;omega
  have vM:c4 (aP (dP (a++b))).length (J (m:Int))=some m:=by rw[oD,xac (by rw[es];simp;omega)]
  have fL:(aP (dP (a++b)))[m]?=some [aI x]:=by rw[es,xaj,oo];rfl
  have jM:((m+1:Nat):Int)>0:=by omega
  simp only[hm];simp only[Iz,p9,rT,o8,xag jM,et,wW,xay,jJ,vM,fL,jk,xbz,NV,aB,wX,ly,xaq,xaB,TO,ck,ch,b7,aG,a7,bJ,cV,dC,dW,b1,bB,eh,dX,c1,cA,fl,di,dT,eO];rfl
 have qA:D.aE 1 (aP (dP (a++b)))=dP (a++b):=rfl;have aeX:(aP (dP (a++b))).length=(a++b).length:=by rw[es];simp
 by_cases fU:s∈a++b
 .obtain⟨db,rfl⟩:=a3 fU;rw[T8 aD fU];have HT:(db++[s]).length=db.length+1:=by simp
  have jJ:b9 false .sub (J ((db.length+1:Nat):Int)) (J 1)=some (J (db.length:Int)):=by rw[mA (by omega) (by simp at ak;omega)];congr 2;omega
  have vM:c4 ((db++[s]++b).length) (J (db.length:Int))=some db.length:=by rw[oD,xac (by simp)]
  have fL:(aP (dP (db++[s]++b)))[db.length]?=some [aI s]:=by rw[es];simp
  have jM:((db.length+1:Nat):Int)>0:=by omega
  rw[HT]at key;simp only[y5,p9,rT,aeX,qA,key,et,qR,o8,xag jM,wW,xay,jJ,vM,fL,jk,xbz,TT,decide_true,wX,ly,ck,ch,b7,aG,a7,bJ,cV,dC,dW,b1,bB,eh,dX,c1,cA,fl,di,dT,eO]
 rw[cq fU];have HY:=bx fU;have axi:R (dA (ax (decide ((a.length:Int)>0))) true (R (b9 false .sub (J (a.length:Int)) (J 1)) λcY=>R (c4 (a++b).length cY) λIA=>R ((aP (dP (a++b)))[IA]?) λIB=>R (bh false 1 0 IB) λcJ=>R (b9 false .eql cJ (aI s)) λv30=>some v30)) (λv30=>R (fW (ax (decide ((a.length:Int)>0))) v30 (ax false)) λeG=>some eG)=some (ax false):=by
  by_cases ao:a.length=0
  .have:¬((a.length:Int)>0):=by omega
   simp only[xao this,wW,xaq,xaB,et,wX,ck,ch,b7,aG,a7,bJ,cV,dC,dW,b1,bB,eh,dX,c1,cA,fl,di,dT,eO]
  obtain⟨m,hm⟩:∃m:Nat,a.length=m+1:=⟨a.length-1,by omega⟩;have bY:m<a.length:=by omega
  have oo:(a++b)[m]?=a[m]?:=xaM bY;rw[xab bY]at oo;have cm:a[m]≠s:=λe=>HY (by rw[<-e];exact xbb bY);generalize a[m]=x at*;have jJ:b9 false .sub (J ((m+1:Nat):Int)) (J 1)=some (J (m:Int)):=by rw[mA (by omega) (by simp at ak;omega)];congr 2;omega
  have vM:c4 (a++b).length (J (m:Int))=some m:=by rw[oD,xac (by simp;omega)]
  have fL:(aP (dP (a++b)))[m]?=some [aI x]:=by rw[es,xaj,oo];rfl
  have jM:((m+1:Nat):Int)>0:=by omega
  rw[hm];simp only[xag jM,wW,xay,jJ,et,vM,fL,jk,xbz,TT,xao cm,wX,ck,ch,b7,aG,a7,bJ,cV,dC,dW,b1,bB,eh,dX,c1,cA,fl,di,dT,eO]
 obtain⟨v30,bS,bP⟩:=fN axi;obtain⟨eG,ca,ee⟩:=fN bP;cases ee;have eo:dd ((a++b).length+1) 16=true:=gC (by omega) (by omega);have gF:=cl (bt:=false) (i:=a.length) (by simp at ak;omega);have fj:aP (dP (a++b))++[[aI ⟨#[]⟩]]=(a.map λs=>[aI s])++(b.map λs=>[aI s])++[[aI ⟨#[]⟩]]:=by rw[es];simp
 have axj:((a.map λs=>[aI s])++(b.map λs=>[aI s])++[[aI ⟨#[]⟩]]:List (List D)).length=a.length+b.length+1:=by simp;omega
 have bl:qJ (a.length+b.length+1) (some (J ((a.length+1:Nat):Int))) none=some (a.length+1,b.length):=by rw[aeV (by omega)];congr 2;omega
 have bu:qJ (a.length+b.length+1) (some (J (a.length:Int))) none=some (a.length,b.length+1):=by rw[aeV (by omega)];congr 2;omega
 have u6:=axe (a.map λs=>[aI s]) (b.map λs=>[aI s]) [aI ⟨#[]⟩] [aI s];simp only[xbg]at u6;have RO:∀(X:List (List D)) (w:List D),X[a.length]?=some w->om w 0 [aI s]=[aI s]->(X.set a.length (om w 0 [aI s]))=X.set a.length [aI s]:=λX w _ h=>by rw[h]
 generalize h3:(((a.map λs=>[aI s])++(b.map λs=>[aI s])++[[aI ⟨#[]⟩]]:List (List D)).take (a.length+1)++((((a.map λs=>[aI s])++(b.map λs=>[aI s])++[[aI ⟨#[]⟩]]:List (List D)).drop a.length).take (b.length+1)).take (min (((((a.map λs=>[aI s])++(b.map λs=>[aI s])++[[aI ⟨#[]⟩]]:List (List D)).drop a.length).take (b.length+1)).length) b.length)++((a.map λs=>[aI s])++(b.map λs=>[aI s])++[[aI ⟨#[]⟩]]:List (List D)).drop (a.length+1+min (((((a.map λs=>[aI s])++(b.map λs=>[aI s])++[[aI ⟨#[]⟩]]:List (List D)).drop a.length).take (b.length+1)).length) b.length))=X at*;have VY:X.length=a.length+b.length+1:=by have:=congrArg List.length u6;simp at this;omega
 have vM:c4 X.length (J (a.length:Int))=some a.length:=by rw[oD,xac (by omega)]
 have hw:∃x,X[a.length]?=some [x]:=by
  have hm:∀w∈X,∃x,w=[x]:=by
   rw[<-h3];intro w hw;have fU:w∈((a.map λs=>[aI s])++(b.map λs=>[aI s])++[[aI ⟨#[]⟩]]:List (List D)):=by
    rcases xaJ.1 hw with hw|hw
    .rcases xaJ.1 hw with hw|hw;.exact xbi hw
     exact xbu (xbi (xbi hw))
    exact xbu hw
   rcases xaJ.1 fU with fU|fU
   .rcases xaJ.1 fU with fU|fU;.obtain⟨x,_,rfl⟩:=xbc.1 fU;exact⟨_,rfl⟩
    obtain⟨x,_,rfl⟩:=xbc.1 fU;exact⟨_,rfl⟩
   simp at fU;exact⟨_,fU⟩
  have bY:a.length<X.length:=by omega
  obtain⟨x,af⟩:=hm _ (xbb bY);exact⟨x,by rw[xab bY,af]⟩
 obtain⟨x,af⟩:=hw;have VZ:om [x] 0 [aI s]=[aI s]:=rfl;have d1:decide (a.length+(b.length+1)<=a.length+b.length+1)=true:=xag (by omega);have d2:decide (a.length+1+b.length<=a.length+b.length+1)=true:=xag (by omega);have Ah:bZ (aI s)=true:=rfl;have oU:([[aI ⟨#[]⟩]]:List (List D)).length=1:=rfl;simp only[y5,p9,rT,aeX,qA,key,et,qR,o8,ck,ch,b7,aG,a7,bJ,cV,dC,dW,b1,bB,eh,dX,c1,cA,fl,di,dT,eO];rw[bS];simp only[et,ca,ly,xaq,xaB,oU,eo,p8,gF,fj,axj,bl,bu,d1,d2,h3,vM,Ah,af,VZ,u6,ck,ch,b7,aG,a7,bJ,cV,dC,dW,b1,bB,eh,dX,c1,cA,fl,di,dT,eO];simp[dP]
def kO(nl:Bool)(l:List ByteArray):D:=bc 1 nl (l.map λs=>[aI s])
def aeY{nl:Bool}{l:List ByteArray}(h:l≠[]):kO nl l=dP l:=by cases l with|nil=>exact absurd rfl h|cons a r=>simp[kO,dP,bc]
def pk(nl:Bool)(l:List ByteArray):bs (kO nl l)=some (J l.length):=by simp[kO]
def CQ{nl:Bool}{l:List ByteArray}{i:Nat}{s:ByteArray}(h:l[i]?=some s):bp 1 (kO nl l) (J (i:Int))=some [aI s]:=by unfold kO;rw[T4];simp[h]
def axk(s:ByteArray)(l:List ByteArray):h2 s l≠[]:=by cases l with|nil=>simp[h2]|cons a r=>rw[h2];split<;>(try split)<;>simp
def axl(n:Nat)(nl:Bool)(l:List ByteArray)(s:ByteArray)(aH:l.length<n)(ak:l.length<1000000000):J5 n [kO nl l,aI s]=some (ax (l.any λx=>decide (x=s))):=by
 have ag:=dp (f:=J4 n) l (λi (_:Unit)=>[kO nl l,aI s,J (i:Int)]) (λr _=>if r.any (λx=>decide (x=s))=true then(.inr (ax true):List D⊕D)else .inl []) (λ_ _=>True) (λ_ _=>by simp[J4,pk]) ?_ n 0 () trivial (by omega) (xah _)
 .have bK:(J ((0:Nat):Int))=J 0:=rfl;rw[bK]at ag;simp only[xak]at ag;simp only[J5,ac5,ag,et,ck,ch,b7,aG,a7,bJ,cV,dC,dW,b1,bB,eh,dX,c1,cA,fl,di,dT,eO];by_cases h:l.any (λx=>decide (x=s))=true;.rw[xac h,h];rfl
  rw[xaa h];cases b4:l.any (λx=>decide (x=s))with|false=>rfl|true=>exact absurd b4 h
 intro i x _ af ag _;by_cases h:x=s;.right;simp[J4,pk,ag,CQ af,h]
 left;exact⟨(),by simp[J4,pk,ag,CQ af,h,cl (bt:=false) (i:=i) (by omega)],by simp only[List.any_cons,xao h,xbv],trivial⟩
def wf(s:ByteArray):List ByteArray->Bool->List ByteArray->Bool×List ByteArray
 |[],d,o=>(d,o)|x::r,d,o=>if(!d&&blt s x)=true then wf s r true (o++[s,x])else wf s r d (o++[x])
def aeZ(s:ByteArray):∀(l o:List ByteArray),wf s l true o=(true,o++l)
 |[],o=>by simp[wf]|x::r,o=>by rw[wf];simp[aeZ s r]
def ae0(s:ByteArray):∀(a b o:List ByteArray),(∀x∈a,blt s x=false)->wf s (a++b) false o=wf s b false (o++a)
 |[],b,o,_=>by simp|x::a,b,o,h=>by rw[List.cons_append,wf];have:=h x (by simp);simp[this,ae0 s a b _ (λy aO=>h y (by simp[aO]))]
def axm(s:ByteArray):∀(b o:List ByteArray),(∀x∈b,blt s x=true)->wf s b false o=(match b with|[]=>(false,o)|_=>(true,o++s::b))
 |[],o,_=>rfl|x::r,o,h=>by rw[wf];have:=h x (by simp);simp[this,aeZ]
@[simp] theorem aFF (p:List ByteArray) (x:ByteArray):D.aE 1 (aP (dP p)++[[aI x]])=dP (p++[x]):=by simp[dP]
@[simp] theorem aFG (p:List ByteArray):(aP (dP p)).length=p.length:=by simp[dP]
@[simp] theorem aFH (p:List ByteArray):D.aE 1 (aP (dP p))=dP p:=rfl
def axn(n:Nat)(nl:Bool)(l:List ByteArray)(s:ByteArray)(aD:kv l)(aH:l.length+2<n)(ak:l.length<1000000000):Cj n [kO nl l,aI s]=some (dP (h2 s l)):=by
 have fU:=axl n nl l s (by omega) ak;by_cases hm:s∈l;.have:l.any (λx=>decide (x=s))=true:=xbI.2 ⟨s,hm,by simp⟩;rw[this]at fU;rw[T8 aD hm];simp only[Cj,O5,fU,et,ly,xay,ck,ch,b7,aG,a7,bJ,cV,dC,dW,b1,bB,eh,dX,c1,cA,fl,di,dT,eO];rw[aeY (List.ne_nil_of_mem hm)]
 have HY:l.any (λx=>decide (x=s))=false:=by cases h:l.any (λx=>decide (x=s))with|false=>rfl|true=>obtain⟨x,ad,ae⟩:=xbI.1 h;simp at ae;subst ae;exact absurd ad hm
 rw[HY]at fU;obtain⟨a,b,mP,ae,az,a3,bx,cq⟩:=T9 s aD;have hw:wf s l false []=wf s b false a:=by rw[mP,ae0 s a b _ ae];simp
 have jt:=dp (f:=Fa n) l (λi (p:Bool×List ByteArray)=>[kO nl l,aI s,ax p.1,J (i:Int),dP p.2]) (λr p=>(.inl [aI s,ax (wf s r p.1 p.2).1,dP (wf s r p.1 p.2).2]:List D⊕D)) (λi p=>p.2.length<=i+(if p.1=true then 1 else 0)) (λp _=>by simp[Fa,pk,wf]) ?_ n 0 (false,[]) (by simp) (by omega) (xah _)
 .have bK:(J ((0:Nat):Int))=J 0:=rfl;have aZ:dP []= .aE 1 []:=rfl;rw[bK,aZ]at jt;simp only[xak,hw]at jt;rw[cq hm];have Y4:a.length<=l.length:=by rw[mP];simp
  cases b with|nil=>simp only[wf]at jt;have eo:dd (a.length+1) 16=true:=gC (by omega) (by omega);simp[Cj,O5,fU,jt,eo]|cons c r=>have an:=axm s (c::r) a az;simp only at an;rw[an]at jt;simp[Cj,O5,fU,jt]
 intro i x p af ag a1;left;have aB:=cl (bt:=false) (i:=i) (by omega);have AY:p.2.length<=i+1:=by split at a1<;>omega
 have r1:dd (p.2.length+1) 16=true:=gC (by omega) (by omega);have r2:dd (p.2.length+1+1) 16=true:=gC (by omega) (by omega);obtain⟨d,o⟩:=p;simp only at a1 r1 r2;cases d with
 |true=>
  refine⟨(true,o++[x]),?_,by rw[wf];simp,?_⟩;.simp[Fa,pk,ag,CQ af,r1,aB]
  simp at a1⊢;omega
 |false=>
  cases an:blt s x
  .refine⟨(false,o++[x]),?_,by rw[wf];simp[an],?_⟩;.simp[Fa,pk,ag,CQ af,r1,aB,NV,an,-TU]
   simp at a1⊢;omega
  refine⟨(true,o++[s]++[x]),?_,by rw[wf];simp[an],?_⟩;.simp[Fa,pk,ag,CQ af,r1,r2,aB,NV,an,-TU]
  simp at a1⊢;omega
mutual
def ga(o:Int):Tm->List ByteArray->List ByteArray
 | .mk op _ s _ ks,l=>mQ o ks (if op=o then h2 s l else l)
def mQ(o:Int):List Tm->List ByteArray->List ByteArray
 |[],l=>l|t::r,l=>mQ o r (ga o t l)
end
theorem KQ(o:Int)(t:Tm)(l:List ByteArray):ga o t l=mQ o t.al (if t.op=o then h2 t.name l else l):=by cases t;rw[ga];rfl
mutual
def KR(o:Int):∀(t:Tm)(l:List ByteArray),kv l->kv (ga o t l)/\(ga o t l).length<=l.length+t.a9
 | .mk op n s b ks,l,h=>by
  rw[ga];have ad:kv (if op=o then h2 s l else l):=by split;exact H0 h;exact h
  have ae:(if op=o then h2 s l else l).length<=l.length+1:=by split;exact H2 l;omega
  have:=ae1 o ks _ ad;exact⟨this.1,by simp only[Tm.a9];omega⟩
def ae1(o:Int):∀(ks:List Tm)(l:List ByteArray),kv l->kv (mQ o ks l)/\(mQ o ks l).length<=l.length+Tm.c7 ks
 |[],l,h=>⟨h,by simp[mQ,Tm.c7]⟩|t::r,l,h=>by rw[mQ];have ad:=KR o t l h;have ae:=ae1 o r _ ad.1;exact⟨ae.1,by simp only[Tm.c7];omega⟩
end
theorem ae2{l:List Tm}{i:Nat}{a:Tm}(h:l[i]?=some a):Tm.c7 (l.drop i)=1+a.a9+Tm.c7 (l.drop (i+1)):=by obtain⟨ad,ae⟩:=xae.1 h;rw[xaV ad,ae];rfl
def axo(nl:Bool)(s:ByteArray)(l:List ByteArray):kO nl (h2 s l)=dP (h2 s l):=aeY (axk s l)
def V0(o:Int):∀(n:Nat)(t:Tm)(nl:Bool)(l:List ByteArray),t.a9+l.length+10<n->t.bR->kv l->l.length+t.a9<1000000000->tU n [t.d,J o,kO nl l]=some (kO nl (ga o t l))
 |0,t,_,_,h,_,_,_=>absurd h (xar _)
 |n+1,t,nl,l,aH,a4,aD,an=>by
  have bz:=a4.len;have KS:=t.g9;show J6 (tU n) n t.d (J o) (kO nl l)=_;rw[KQ];generalize nT:(if t.op=o then h2 t.name l else l)=zA;have ad:kv zA:=by rw[<-nT];split;exact H0 aD;exact aD
  have ae:zA.length<=l.length+1:=by rw[<-nT];split;exact H2 l;omega
  have axp:Tm.c7 t.al+2=t.a9:=by cases t;simp[Tm.a9,Tm.al];omega
  have ak:=dp (f:=O6 (tU n) n) t.al (λi (p:List ByteArray)=>[J o,kO nl p,J (i:Int),J t.op,J t.num,aI t.name,bc 4 t.nl (Tm.rows t.al)]) (λr p=>(.inl [kO nl (mQ o r p)]:List D⊕D)) (λi p=>kv p/\p.length+Tm.c7 (t.al.drop i)<=zA.length+Tm.c7 t.al) (λp _=>by simp[O6,mQ]) ?_ n 0 zA ⟨ad,by simp⟩ (by omega) (xah _)
  .have bK:(J ((0:Nat):Int))=J 0:=rfl;rw[bK]at ak;simp only[xak]at ak;by_cases aC:t.op=o;.rw[xac aC]at nT;have hw:=axn n nl l t.name aD (by omega) (by omega);rw[nT,<-nT,<-axo nl,nT]at hw;simp[J6,aC,hw];rw[aC]at ak;rw[ak];rfl
   rw[xaa aC]at nT;subst nT;simp[J6,aC,ak]
  intro i a p aB ag a1;have hm:=xad aB;have bF:=Tm.fb hm;have aF:=ae2 aB;have aw:=V0 o n a nl p (by omega) (a4.cL hm) a1.1 (by omega);have axq:=KR o a p a1.1;left;refine⟨ga o a p,?_,by rw[mQ],axq.1,by omega⟩;simp[O6,ag,Tm.dz aB,aw,cl (bt:=false) (i:=i) (by omega)]
def V1(n:Nat)(t:Tm)(aH:t.a9+10<n)(a4:t.bR)(an:t.a9<1000000000):xu n [t.d]=some (.aU [kO true (ga 3 t []),kO true (ga 4 t [])]):=by have az:=V0 3 n t true [] (by simp;omega) a4 trivial (by simp;omega);have a3:=V0 4 n t true [] (by simp;omega) a4 trivial (by simp;omega);have e:kO true []=cv:=rfl;rw[e]at az a3;simp[xu,ac6,az,a3]
def axr(n:Nat)(t:Tm)(g1:D)(p q:List ByteArray)(a1:kv p)(b4:kv q)(aH:p.length+q.length+5<n)(an:p.length+q.length<1000000000):Bv n [t.d,g1,dP p,dP q]=some [ax true,dP (if t.op=3 then h2 t.name p else p),dP (if t.op=4 then h2 t.name q else q)]:=by
 have kq:=aeW n t.name p a1 (by omega) (by omega);have jG:=aeW n t.name q b4 (by omega) (by omega);by_cases az:t.op=3
 .simp[Bv,az,kq]
 by_cases a3:t.op=4;.simp[Bv,az,a3,jG]
 simp[Bv,az,a3]
def ae3:∀(n:Nat)(t:Tm)(deep:Int)(p q:List ByteArray),t.a9+p.length+q.length+t.a9+20<n->t.bR->kv p->kv q->0<=deep->deep+t.a9<1000000000->p.length+q.length+t.a9+t.a9<1000000000->w8 n [t.d,J deep,dP p,dP q]=some [ax true,dP (ga 3 t p),dP (ga 4 t q)]
 |0,t,_,_,_,h,_,_,_,_,_,_=>absurd h (xar _)
 |n+1,t,deep,p,q,aH,a4,a1,b4,aFI,wY,an=>by
  have bz:=a4.len;have KS:=t.g9;have axp:Tm.c7 t.al+2=t.a9:=by cases t;simp[Tm.a9,Tm.al];omega
  have ad:=axr n t (J deep) p q a1 b4 (by omega) (by omega);rw[KQ,KQ];generalize ae4:(if t.op=3 then h2 t.name p else p)=FJ at*;generalize ae5:(if t.op=4 then h2 t.name q else q)=zB at*;have fu:kv FJ:=by rw[<-ae4];split;exact H0 a1;exact a1
  have eQ:FJ.length<=p.length+1:=by rw[<-ae4];split;exact H2 p;omega
  have bS:kv zB:=by rw[<-ae5];split;exact H0 b4;exact b4
  have bP:zB.length<=q.length+1:=by rw[<-ae5];split;exact H2 q;omega
  have ak:=dp (f:=Oc (w8 n) n) t.al (λi (z:List ByteArray×List ByteArray)=>[J deep,bc 4 t.nl (Tm.rows t.al),J t.al.length,J (i:Int),dP z.1,dP z.2]) (λr z=>(.inl [dP (mQ 3 r z.1),dP (mQ 4 r z.2)]:List D⊕List D)) (λi z=>kv z.1/\kv z.2/\z.1.length+Tm.c7 (t.al.drop i)<=FJ.length+Tm.c7 t.al/\z.2.length+Tm.c7 (t.al.drop i)<=zB.length+Tm.c7 t.al) (λz _=>by simp[Oc,mQ]) ?_ n 0 (FJ,zB) ⟨fu,bS,by simp,by simp⟩ (by omega) (xah _);.have bK:(J ((0:Nat):Int))=J 0:=rfl;rw[bK]at ak;simp only[xak]at ak;simp[w8,Ut,ad,ak]
  intro i a z aB ag bF;obtain⟨j5,oY,FK,axs⟩:=bF;have hm:=xad aB;have aFJ:=Tm.fb hm;have aF:=ae2 aB;have aw:=ae3 n a (deep+1) z.1 z.2 (by omega) (a4.cL hm) j5 oY (by omega) (by omega) (by omega);have m8:=KR 3 a z.1 j5;have ys:=KR 4 a z.2 oY;left;refine⟨(ga 3 a z.1,ga 4 a z.2),?_,by simp[mQ],m8.1,ys.1,by simp only;omega,by simp only;omega⟩;simp[Oc,ag,Tm.dz aB,aw,mD (bt:=false) (i:=deep) (by omega) (by omega),cl (bt:=false) (i:=i) (by omega)]
def PE(n:Nat)(t:Tm)(aH:t.a9+t.a9+30<n)(a4:t.bR)(an:t.a9<100000000):tC n [t.d]=some (.aU [dP (ga 3 t []),dP (ga 4 t [])]):=by have h:=ae3 n t 1 [] [] (by simp;omega) a4 trivial trivial (by omega) (by omega) (by simp;omega);have e:dP []= .aE 1 []:=rfl;have gT:∀l,bZ (dP l)=true:=λ_=>rfl;rw[e]at h;simp[tC,acs,h,gT]
mutual
def nq:Tm->Tm->Bool
 | .mk o n s _ ks,u=>decide (o=u.op)&&decide (n=u.num)&&decide (s=u.name)&&decide (ks.length=u.al.length)&&l9 ks u.al
def l9:List Tm->List Tm->Bool
 |a::r,b::q=>nq a b&&l9 r q|[],_=>true|_::_,[]=>true
end
theorem FL(t u:Tm):nq t u=(decide (t.op=u.op)&&decide (t.num=u.num)&&decide (t.name=u.name)&&decide (t.al.length=u.al.length)&&l9 t.al u.al):=by cases t;rw[nq];rfl
def ae6(t u:Tm):(t.op=u.op/\t.num=u.num/\t.name=u.name/\t.al.length=u.al.length)\/(nq t u=false/\¬(t.op=u.op/\t.num=u.num/\t.name=u.name/\t.al.length=u.al.length)):=by
 by_cases h:t.op=u.op/\t.num=u.num/\t.name=u.name/\t.al.length=u.al.length;.exact .inl h
 refine .inr ⟨?_,h⟩;rw[FL];by_cases ad:t.op=u.op
 .by_cases ae:t.num=u.num
  .by_cases az:t.name=u.name;.have a3:¬t.al.length=u.al.length:=λa3=>h ⟨ad,ae,az,a3⟩;simp[a3]
   simp[az]
  simp[ae]
 simp[ad]
def vN:List bm->Nat->List (Value×D)->List (Value×D)
 |[],_,M=>M|v::r,i,M=>vN r (i+1) (if(gV M v.name).isSome then M else(s4 .string M (aI v.name) (J i)).getD [])
def V2:∀(r:List bm)(i:Nat)(M:List (Value×D)),mE M->mE (vN r i M)/\∀x,gV (vN r i M) x=match gV M x with|some d=>some d|none=>(dB r x).map λj=>J ((i+j:Nat):Int)
 |[],i,M,h=>⟨h,λx=>by simp only[vN,dB,List.findIdx?_nil];cases gV M x<;>rfl⟩
 |v::r,i,M,h=>by
  rw[vN];have e:∀x,dB (v::r) x=if v.name=x then some 0 else(dB r x).map (·+1):=by intro x;simp[dB,xbN]
  by_cases aD:(gV M v.name).isSome
  .rw[xac aD];obtain⟨ad,ae⟩:=V2 r (i+1) M h;refine⟨ad,λx=>?_⟩;rw[ae x,e x];cases af:gV M x with
   |some d=>rfl
   |none=>
    have cm:¬v.name=x:=by rintro rfl;simp[af]at aD
    simp only[cm,xaB,Option.map_map]
    congr 1
    funext j
    simp only[Function.comp]
    congr 2
    omega
  rw[xaa aD];obtain⟨eZ,fu,eQ,iv,_⟩:=NU h v.name (J i);rw[fu,xbn];obtain⟨ad,ae⟩:=V2 r (i+1) eZ eQ;refine⟨ad,λx=>?_⟩;rw[ae x,iv x,e x];by_cases af:x=v.name
  .subst af;have aH:gV M v.name=none:=by simpa using aD
   simp[aH]
  have cm:¬v.name=x:=λh=>af h.symm;simp only[af,cm,xaB];cases bV:gV M x with
  |some d=>rfl
  |none=>
   simp only[Option.map_map]
   congr 1
   funext j
   simp only[Function.comp]
   congr 2
   omega
def PF(M:List (Value×D))(vs:List bm):Prop:=mE M/\∀x,gV M x=(dB vs x).map λ(j:Nat)=>J (j:Int)
def V3(n:Nat)(vs:List bm)(aH:vs.length<n)(ak:vs.length<1000000000000):∃M,xa n [aJ vs]=some (.mp M)/\PF M vs:=by
 have ao:mE []:=by intro e he;cases he
 obtain⟨ad,ae⟩:=V2 vs 0 [] ao;refine⟨vN vs 0 [],?_,ad,λx=>by rw[ae x];simp only[gV,xaz]⟩;have ag:=dp (f:=IE n) vs (λi (M:List (Value×D))=>[aJ vs,J vs.length,J (i:Int),.mp M]) (λr M=>(Sum.inl [.mp (vN r (vs.length-r.length) M)]:List D⊕D)) (λi M=>mE M) (λM _=>by simp[IE,vN]) ?_ n 0 [] ao (by omega) (xah _)
 .have bK:(J ((0:Nat):Int))=J 0:=rfl;rw[bK]at ag;simp[xa,acw,eT,ag]
 intro i a M aB ag c6;left;have e:vs.length-(a::vs.drop (i+1)).length=i:=by simp;omega
 have dj:vs.length-(vs.drop (i+1)).length=i+1:=by simp;omega
 have az:=En c6 (z:= .int .i64 0) (x:=a.name);cases bV:gV M a.name with|some d=>rw[bV]at az;refine⟨M,by simp[IE,ag,fJ aB,az,cl (bt:=false) (i:=i) (by omega)],?_,c6⟩;rw[e,vN,bV,dj];rfl|none=>rw[bV]at az;obtain⟨eZ,fu,eQ,iv,_⟩:=NU c6 a.name (J i);refine⟨eZ,by simp[IE,ag,fJ aB,az,fu,cl (bt:=false) (i:=i) (by omega)],?_,eQ⟩;rw[e,vN,bV,dj];simp only[xaS,xaq,xaB,fu,xbn]
def ae7(n:Nat)(vs:List bm)(x:ByteArray)(aH:vs.length<n)(ak:vs.length<1000000000000):zi n [aJ vs,aI x]=some (J (match dB vs x with|some i=>(i:Int)|none=>-1)):=by
 have ag:=dp (f:=J8 n) vs (λi (_:Unit)=>[aJ vs,aI x,J (i:Int)]) (λr _=>match dB r x with|some j=>(Sum.inr (J ((vs.length-r.length+j:Nat):Int)):List D⊕D)|none=> .inl []) (λ_ _=>True) (λ_ _=>by simp[J8,eT,dB]) ?_ n 0 () trivial (by omega) (xah _);.have bK:(J ((0:Nat):Int))=J 0:=rfl;rw[bK]at ag;simp only[zi,adb,ag,xak,et,ck,ch,b7,aG,a7,bJ,cV,dC,dW,b1,bB,eh,dX,c1,cA,fl,di,dT,eO];cases dB vs x<;>simp
 intro i a _ aB ag _;have e:vs.length-(a::vs.drop (i+1)).length=i:=by simp;omega
 have dj:vs.length-(vs.drop (i+1)).length=i+1:=by simp;omega
 have oW:dB (a::vs.drop (i+1)) x=if a.name=x then some 0 else(dB (vs.drop (i+1)) x).map (·+1):=by simp[dB,xbN]
 have ab:a.cells[0]?=some (aI a.name):=rfl;by_cases af:a.name=x;.right;rw[oW,xac af,e];simp[J8,eT,ag,fJ aB,ab,af]
 left;refine⟨(),by simp[J8,eT,ag,fJ aB,ab,af,cl (bt:=false) (i:=i) (by omega)],?_,trivial⟩;rw[oW,xaa af,e,dj];cases dB (vs.drop (i+1)) x with|none=>rfl|some j=>simp;omega
def dQ(l:List bm)(t:Tm):List Nat:=(ga 3 t []).filterMap (dB l)
def oH{l:List bm}{t:Tm}:∀k∈dQ l t,k<l.length:=by intro k ai;obtain⟨x,_,af⟩:=List.mem_filterMap.1 ai;obtain⟨_,_,_,h⟩:=Ub af;exact h
def FM(t:Tm):(ga 3 t []).length<=t.a9:=by have:=(KR 3 t [] trivial).2;simpa using this
def PG(l:List bm)(t:Tm):(dQ l t).length<=t.a9:=Nat.le_trans (List.length_filterMap_le _ _) (FM t)
structure h4(B:Nat)(l:List bm):Prop where
 len:l.length<=B
 e:∀d∈l,d.e.bR/\d.e.a9<=B
 b:B<=1000000
def to(l:List bm)(i:Nat):List Nat:=match l[i]? with|some d=>dQ l d.e|none=>[]
def ma{l:List bm}(i:Nat):∀k∈to l i,k<l.length:=by
 unfold to;split;.exact oH
 intro k ai;cases ai
def FN{l:List bm}{i:Nat}{d:bm}(h:l[i]?=some d):to l i=dQ l d.e:=by simp[to,h]
def KT{l:List ByteArray}{i:Nat}{s:ByteArray}(h:l[i]?=some s):bp 1 (dP l) (J (i:Int))=some [aI s]:=by simp[dP,h]
def KU(l:List ByteArray):bs (dP l)=some (J l.length):=by simp[dP]
def axt(n:Nat)(l:List bm)(t:Tm){B:Nat}(ak:l.length<=B)(a4:t.bR)(aQ:t.a9<=B)(fM:B<=1000000)(aH:2*B+100<n):Ka n [t.d,aJ l]=some (dr (dQ l t)):=by
 have cj:=V1 n t (by omega) a4 (by omega);have cm:=FM t;have ag:=dp (f:=J9 n) (ga 3 t []) (λi (s:List Nat)=>[aJ l,kO true (ga 3 t []),J (i:Int),dr s]) (λr s=>(.inl [dr (s++r.filterMap (dB l))]:List D⊕D)) (λi s=>s.length<=i) (λs _=>by simp[J9,pk,dr]) ?_ n 0 [] (by simp) (by omega) (xah _)
 .have bK:(J ((0:Nat):Int))=J 0:=rfl;have aZ:dr []=D.aE 1 []:=rfl;have gM:∀x,D.aE 1 (aP (dr x))=dr x:=λ_=>rfl;rw[bK,aZ]at ag;simp only[xak,xaO]at ag;simp only[Ka,ade,go_sem,cj,ag,gM];rfl
 intro i a s aB ag aD;have af:=CQ (nl:=true) aB;have e5:=ae7 n l a (by omega) (by omega);have gM:∀x,D.aE 1 (aP (dr x))=dr x:=λ_=>rfl;left;cases aF:dB l a with
 |none=>rw[aF]at e5;refine⟨s,?_,by simp[aF],by omega⟩;simp only[J9,go_sem,pk,yT ((i:Int)<((ga 3 t []).length:Int)),af,jk,e5,yF ((-1:Int)>=0),gM,cl (bt:=false) (i:=i) (by omega)]
 |some k=>
  rw[aF]at e5;have eo:dd (s.length+1) 8=true:=gC (by omega) (by omega);have a6:D.aE 1 (aP (dr s)++[[J (k:Int)]])=dr (s++[k]):=by simp[dr]
  have b2:(aP (dr s)).length=s.length:=by simp[dr]
  refine⟨s++[k],?_,by simp[aF],by simp;omega⟩;simp only[J9,go_sem,pk,yT ((i:Int)<((ga 3 t []).length:Int)),af,jk,e5,yT ((k:Int)>=0),gM,a6,b2,xax,xaP,xaz,eo,cl (bt:=false) (i:=i) (by omega)]
def ae8(n:Nat)(l:List Nat)(k:Nat)(d:D)(aF:d=dr l\/(l=[]/\d=cv))(ak:l.length<1000000000)(aH:l.length+5<n):zj n [d,J (k:Int)]=some (ax (decide (k∈l))):=by
 rcases aF with rfl|⟨rfl,rfl⟩
 case inr=>obtain⟨m,rfl⟩:∃m,n=m+1:=⟨n-1,by omega⟩;simp[zj,Vd,l1,Fc]
 have ag:=dp (f:=Fc n) l (λi (_:Unit)=>[dr l,J (k:Int),J (i:Int)]) (λr _=>if k∈r then(.inr (ax true):List D⊕D)else .inl []) (λi s=>True) (λs _=>by simp[Fc,qT]) ?_ n 0 () trivial (by omega) (xah _);.have bK:(J ((0:Nat):Int))=J 0:=rfl;rw[bK]at ag;simp only[xak]at ag;by_cases h:k∈l<;>simp only[h,xay,xaB]at ag<;>simp[zj,Vd,ag,h]
 intro i a s aB ag _;have af:=w5 aB;by_cases ae9:a=k
 .right;subst ae9;simp[Fc,qT,ag,af]
 left;have axu:¬((a:Int)=(k:Int)):=by omega
 have ec:¬k=a:=λh=>ae9 h.symm;refine⟨(),by simp[Fc,qT,ag,af,axu,cl (bt:=false) (i:=i) (by omega)],by simp[ec],trivial⟩
def axv(n:Nat)(l:List bm){B:Nat}(ak:h4 B l)(aH:4*B+200<n):IH n [aJ l]=some (ik (l.map λd=>dQ l d.e)):=by
 have bz:=ak.len;have vO:=ak.b;obtain⟨M,gu,lr,KV⟩:=V3 n l (by omega) (by omega);have gM:∀x,D.aE 1 (aP (dr x))=dr x:=λ_=>rfl;have PH:∀x,D.aE 1 (aP (ik x))=ik x:=λ_=>rfl;have ag:=dp (f:=Of n) l (λi (s:List (List Nat))=>[.mp M,aJ l,J l.length,J (i:Int),ik s]) (λr s=>(.inl [ik (s++r.map λd=>dQ l d.e)]:List D⊕D)) (λi s=>s.length=i) (λs _=>by simp[Of,ik]) ?_ n 0 [] rfl (by omega) (xah _)
 .have bK:(J ((0:Nat):Int))=J 0:=rfl;have aZ:ik []=D.aE 1 []:=rfl;rw[bK,aZ]at ag;simp only[xak,xaO]at ag;simp only[IH,acx,go_sem,gu,eT,ag,PH]
 intro i a acc aB ag axw;have hm:=xad aB;have axx:=ak.e a hm;have cj:=PE n a.e (by omega) axx.1 (by omega);have cm:=FM a.e;have aR:=dp (f:=IF n) (ga 3 a.e []) (λj (s:List Nat)=>[.mp M,aJ l,J l.length,J (i:Int),dP (ga 3 a.e []),J (ga 3 a.e []).length,J (j:Int),ik acc,dr s]) (λr s=>(.inl [.mp M,aJ l,J l.length,J (i:Int),ik acc,dr (s++r.filterMap (dB l))]:List D⊕(List D⊕(List D⊕(List D⊕D))))) (λj s=>s.length<=j) (λs _=>by simp[IF,dr,ik]) ?_ n 0 [] (by simp) (by omega) (xah _)
 .have bK:(J ((0:Nat):Int))=J 0:=rfl;have aZ:dr []=D.aE 1 []:=rfl;rw[bK,aZ]at aR;simp only[xak,xaO]at aR;have eo:dd (acc.length+1) 24=true:=gC (by omega) (by omega);have a6:D.aE 1 (aP (ik acc)++[[dr (dQ l a.e)]])=ik (acc++[dQ l a.e]):=by simp[ik]
  have b2:(aP (ik acc)).length=acc.length:=by simp[ik]
  have dh:(ga 3 a.e []).filterMap (dB l)=dQ l a.e:=rfl;have gT:∀x,bZ (dr x)=true:=λ_=>rfl;rw[dh]at aR;left;refine⟨acc++[dQ l a.e],?_,by simp,by simp[axw]⟩;simp only[Of,go_sem,yT ((i:Int)<(l.length:Int)),fJ aB,bm.ao3,bm.agg,bm.bl,bm.bu,bm.bT,bm.cM,Tm.Ba,cj,KU,PH,aR,gM,gT,a6,b2,xax,xaP,xaz,eo,cl (bt:=false) (i:=i) (by omega)]
 intro j b s an aR aD;have af:=KT an;have iA:=En lr (z:= .int .i64 0) (x:=b);have xH:=KV b;left;cases aF:dB l b with
 |none=>rw[xH,aF]at iA;simp only[xbs]at iA;refine⟨s,?_,by simp[aF],by omega⟩;simp only[IF,go_sem,yT ((j:Int)<((ga 3 a.e []).length:Int)),af,jk,nO,iA,gM,PH,cl (bt:=false) (i:=j) (by omega)]
 |some k=>
  rw[xH,aF]at iA;simp only[xaQ]at iA;have eo:dd (s.length+1) 8=true:=gC (by omega) (by omega);have a6:D.aE 1 (aP (dr s)++[[J (k:Int)]])=dr (s++[k]):=by simp[dr]
  have b2:(aP (dr s)).length=s.length:=by simp[dr]
  refine⟨s++[k],?_,by simp[aF],by simp;omega⟩;simp only[IF,go_sem,yT ((j:Int)<((ga 3 a.e []).length:Int)),af,jk,nO,iA,gM,PH,a6,b2,xax,xaP,xaz,eo,cl (bt:=false) (i:=j) (by omega)]
def h5(to:Nat->List Nat):Nat->List Nat->List Nat->List Nat
 |0,_,S=>S|n+1,ks,S=>ks.foldl (λS k=>if k∈S then S else h5 to n (to k) (S++[k])) S
inductive kP(to:Nat->List Nat):Nat->Nat->Prop where
 |refl (i:Nat):kP to i i
 |step (i j k:Nat) (h:j∈to i) (bL:kP to j k):kP to i k
def kP.trans{to:Nat->List Nat}{i j k:Nat}(h:kP to i j)(bL:kP to j k):kP to i k:=by induction h with|refl=>exact bL|step a b c mP _ ih=>exact .step a b _ mP (ih bL)
def ju(N:Nat)(S:List Nat):Prop:=S.Nodup/\∀x∈S,x<N
def afa:∀(N:Nat)(S:List Nat),S.Nodup->(∀x∈S,x<N)->S.length<=N
 |0,S,_,h=>by cases S with|nil=>simp|cons a r=>exact absurd (h a (by simp)) (xar _)
 |N+1,S,aH,h=>by
  have ad:=afa N (S.erase N) (aH.erase N) (λx af=>by
   have ae:=h x (List.mem_of_mem_erase af);have az:x≠N:=by rintro rfl;exact aH.not_mem_erase af
   omega)
  have a3:=List.length_erase (a:=N) (l:=S);split at a3<;>omega
def ju.len{N:Nat}{S:List Nat}(h:ju N S):S.length<=N:=afa N S h.1 h.2
def ju.lt{N k:Nat}{S:List Nat}(h:ju N S)(ai:k<N)(aH:k∉S):S.length<N:=by have ae:ju N (S++[k]):=⟨by rw[List.nodup_append];exact⟨h.1,by simp,by intro a aB b an;simp at an;subst an;rintro rfl;exact aH aB⟩,by intro x af;rcases xaJ.1 af with af|af;exact h.2 x af;simp at af;omega⟩;have:=ae.len;simp at this;omega
def ju.snoc{N k:Nat}{S:List Nat}(h:ju N S)(ai:k<N)(aH:k∉S):ju N (S++[k]):=⟨by rw[List.nodup_append];exact⟨h.1,by simp,by intro a aB b an;simp at an;subst an;rintro rfl;exact aH aB⟩,by intro x af;rcases xaJ.1 af with af|af;exact h.2 x af;simp at af;omega⟩
structure afb(to:Nat->List Nat)(N:Nat)(ks S e8:List Nat):Prop where
 inv:ju N e8
 pre:∃T,e8=S++T
 mem:∀k∈ks,k∈e8
 xI:∀x∈e8,x∉S->∀y∈to x,y∈e8
 ui:∀x∈e8,x∈S\/∃k∈ks,kP to k x
def FO{to:Nat->List Nat}{N:Nat}(lv:∀i,∀k∈to i,k<N):∀(n:Nat)(ks S:List Nat),ju N S->(∀k∈ks,k<N)->N-S.length<n->afb to N ks S (h5 to n ks S)
 |0,_,_,_,_,h=>absurd h (xar _)
 |n+1,ks,S,c3,eH,aH=>by
  rw[h5]
  induction ks generalizing S with
  |nil=>exact⟨c3,⟨[],by simp⟩,by simp,λx af aH=>absurd af aH,λx af=> .inl af⟩
  |cons k r ih=>
   rw[xbS];by_cases ai:k∈S
   .rw[xac ai];have h:=ih S c3 (λx af=>eH x (by simp[af])) aH;obtain⟨T,bd⟩:=h.pre;refine⟨h.inv,h.pre,?_,h.xI,λx af=>?_⟩
    .intro x af;rcases xas.1 af with rfl|af
     .rw[bd];simp[ai]
     exact h.mem x af
    rcases h.ui x af with ad|⟨j,ad,ae⟩;.exact .inl ad
    exact .inr ⟨j,by simp[ad],ae⟩
   rw[xaa ai];have qk:=eH k (by simp);have bY:=c3.lt qk ai;have ao:=FO lv n (to k) (S++[k]) (c3.snoc qk ai) (lv k) (by simp;omega);obtain⟨eS,FP⟩:=ao.pre;have h:=ih (h5 to n (to k) (S++[k])) ao.inv (λx af=>eH x (by simp[af])) (by rw[FP];simp;omega);obtain⟨T,bd⟩:=h.pre;have axy:k∈h5 to n (to k) (S++[k]):=by rw[FP];simp
   refine⟨h.inv,⟨[k]++eS++T,by rw[bd,FP];simp⟩,?_,?_,?_⟩
   .intro x af;rcases xas.1 af with rfl|af
    .rw[bd];exact xbQ _ axy
    exact h.mem x af
   .intro x af V4 y aO;by_cases afc:x∈h5 to n (to k) (S++[k])
    .by_cases PI:x∈S++[k]
     .have axz:x=k:=by
       rcases xaJ.1 PI with h|h;.exact absurd h V4
       simpa using h
      subst axz;rw[bd];exact xbQ _ (ao.mem y aO)
     rw[bd];exact xbQ _ (ao.xI x afc PI y aO)
    exact h.xI x af afc y aO
   intro x af;rcases h.ui x af with ad|⟨j,ad,ae⟩
   .rcases ao.ui x ad with az|⟨j,az,a3⟩
    .rcases xaJ.1 az with az|az;.exact .inl az
     simp at az;subst az;exact .inr ⟨x,by simp,.refl x⟩
    exact .inr ⟨k,by simp,.step k j x az a3⟩
   exact .inr ⟨j,by simp[ad],ae⟩
def V5{to:Nat->List Nat}{N:Nat}(lv:∀i,∀k∈to i,k<N):∀(n m:Nat)(ks S:List Nat),ju N S->(∀k∈ks,k<N)->N-S.length<n->N-S.length<m->h5 to n ks S=h5 to m ks S
 |0,_,_,_,_,_,h,_=>absurd h (xar _)|_+1,0,_,_,_,_,_,h=>absurd h (xar _)
 |n+1,m+1,ks,S,c3,eH,aH,hm=>by
  rw[h5,h5]
  induction ks generalizing S with
  |nil=>rfl
  |cons k r ih=>
   rw[xbS,xbS];by_cases ai:k∈S;.rw[xac ai,xac ai];exact ih S c3 (λx af=>eH x (by simp[af])) aH hm
   rw[xaa ai,xaa ai];have qk:=eH k (by simp);have bY:=c3.lt qk ai;have e:=V5 lv n m (to k) (S++[k]) (c3.snoc qk ai) (lv k) (by simp;omega) (by simp;omega);have ao:=FO lv n (to k) (S++[k]) (c3.snoc qk ai) (lv k) (by simp;omega);obtain⟨eS,FP⟩:=ao.pre;rw[<-e];exact ih _ ao.inv (λx af=>eH x (by simp[af])) (by rw[FP];simp;omega) (by rw[FP];simp;omega)
def lD(l:List bm)(ks:List Nat):List Nat:=h5 (to l) (l.length+1) ks []
def zC(l:List bm)(ks:List Nat)(ai:∀k∈ks,k<l.length):afb (to l) l.length ks [] (lD l ks):=FO (λi k ai=>ma i k ai) _ ks [] ⟨by simp,by simp⟩ ai (by simp)
def xJ(l:List bm)(ks:List Nat)(ai:∀k∈ks,k<l.length)(x:Nat):x∈lD l ks↔∃k∈ks,kP (to l) k x:=by
 have h:=zC l ks ai;constructor
 .intro af;rcases h.ui x af with ad|ad
  .cases ad
  exact ad
 rintro⟨k,eF,aw⟩;have jh:∀a b,kP (to l) a b->a∈lD l ks->b∈lD l ks:=by
  intro a b mP
  induction mP with|refl=>exact λh=>h|step i j k nK _ ih=>exact λag=>ih (h.xI i ag (by simp) j nK)
 exact jh k x aw (h.mem k eF)
def jW(l:List bm)(i:Nat):Bool:=decide (i∈lD l (to l i))
def V6(l:List bm)(i:Nat):jW l i=true↔∃k∈to l i,kP (to l) k i:=by unfold jW;rw[xau,xJ l _ (ma i)]
def afd{to:Nat->List Nat}:∀(n:Nat)(ks S:List Nat),∃T,h5 to n ks S=S++T
 |0,ks,S=>⟨[],by simp[h5]⟩
 |n+1,ks,S=>by
  rw[h5]
  induction ks generalizing S with
  |nil=>exact⟨[],by simp⟩
  |cons k r ih=>
   rw[xbS];split;.exact ih S
   obtain⟨eS,ao⟩:=afd n (to k) (S++[k]);obtain⟨T,bd⟩:=ih (h5 to n (to k) (S++[k]));exact⟨[k]++eS++T,by rw[bd,ao];simp⟩
def lE(S:List Nat)(d:D)(s:List Nat):D:=if s.length=S.length then d else dr s
def V7(l:List bm){B:Nat}(ak:h4 B l):∀(n:Nat)(t:Tm)(S:List Nat)(d:D),d=dr S\/(S=[]/\d=cv)->t.bR->t.a9<=B->ju l.length S->l.length-S.length+4*B+300<n->sg n [t.d,aJ l,d]=some (lE S d (h5 (to l) n (dQ l t) S))
 |0,_,_,_,_,_,_,_,h=>absurd h (xar _)
 |n+1,t,S,d,aF,a4,aQ,c3,aH=>by
  have bz:=ak.len;have vO:=ak.b;have zD:=PG l t;have axA:=axt n l t bz a4 aQ vO (by omega);have axB:∀T,lE S d (S++T)=dr (S++T)\/(S++T=[]/\lE S d (S++T)=cv):=by
   intro T;unfold lE;split
   .rename_i h;have:T=[]:=by simpa using h
    subst this;rcases aF with rfl|⟨rfl,rfl⟩
    .left;simp
    right;simp
   exact .inl rfl
  have bK:(J ((0:Nat):Int))=J 0:=rfl;have axC:lE S d S=d:=by simp[lE]
  rw[h5];have fe:=dp (f:=Kb (sg n) n) (dQ l t) (λi (s:List Nat)=>[aJ l,lE S d s,dr (dQ l t),J (i:Int)]) (λr s=>(.inl [lE S d (r.foldl (λS k=>if k∈S then S else h5 (to l) n (to l k) (S++[k])) s)]:List D⊕D)) (λi s=>ju l.length s/\∃T,s=S++T) (λs _=>by simp[Kb,qT]) ?_ n 0 S ⟨c3,[],by simp⟩ (by omega) (xah _)
  .rw[bK,axC]at fe;simp only[xak]at fe;show O9 (sg n) n t.d (aJ l) d=_;simp only[O9,go_sem,axA,fe]
  rintro i k s ai ag ⟨ad,T,bd⟩;have ku:=xad ai;have qk:=oH k ku;obtain⟨PJ,Dz⟩:∃PJ,l[k]?=some PJ:=⟨l[k],xab qk⟩;have h6:=ak.e PJ (xad Dz);have nr:=ad.len;have az:=axB T;rw[<-bd]at az;have aFK:S.length<=s.length:=by rw[bd];simp
  have PK:=ae8 n s k (lE S d s) az (by omega) (by omega);left;by_cases eH:k∈s
  .refine⟨s,?_,?_,ad,T,bd⟩;.simp only[Kb,go_sem,qT,yT ((i:Int)<((dQ l t).length:Int)),w5 ai,jk,PK,xag eH,cl (bt:=false) (i:=i) (by omega)]
   simp only[xbS,xac eH]
  have bY:=ad.lt qk eH;have KW:=ad.snoc qk eH;have bb:=V7 l ak n PJ.e (s++[k]) (dr (s++[k])) (.inl rfl) h6.1 h6.2 KW (by simp;omega);have lX:=FO (λi k ai=>ma i k ai) n (to l k) (s++[k]) KW (λx af=>ma k x af) (by simp;omega);rw[<-FN Dz]at bb;obtain⟨V8,KX⟩:=afd (to:=to l) n (to l k) (s++[k]);have bo:lE (s++[k]) (dr (s++[k])) (h5 (to l) n (to l k) (s++[k]))=dr (h5 (to l) n (to l k) (s++[k])):=by
   unfold lE;split
   .rename_i h;rw[KX]at h⊢;have:V8=[]:=by simpa using h
    subst this;simp
   rfl
  have b0:lE S d (h5 (to l) n (to l k) (s++[k]))=dr (h5 (to l) n (to l k) (s++[k])):=by unfold lE;rw[xaa];rw[KX,bd];simp<;>omega
  rw[bo]at bb;obtain⟨q,bS,bP⟩:∃q,oy (lE S d s)=some (q,s.map λ(i:Nat)=>[J (i:Int)])/\(decide (q=1\/(s.map λ(i:Nat)=>[J (i:Int)])=[])&&decide (0<1))=true:=by
   rcases az with az|⟨az,a3⟩;.rw[az];exact⟨1,rfl,by simp⟩
   rw[a3,az];exact⟨0,rfl,by simp⟩
  have axD:dd (s.map λ(i:Nat)=>[J (i:Int)]).length 8=true:=gC (by simp;omega) (by simp;omega);have axE:dd ((s.map λ(i:Nat)=>[J (i:Int)]).length+1) 8=true:=gC (by simp;omega) (by simp;omega);have a6:D.aE 1 ((s.map λ(i:Nat)=>[J (i:Int)])++[[J (k:Int)]])=dr (s++[k]):=by simp[dr]
  refine⟨h5 (to l) n (to l k) (s++[k]),?_,?_,lX.inv,T++[k]++V8,?_⟩;.rw[b0];simp only[Kb,go_sem,qT,yT ((i:Int)<((dQ l t).length:Int)),w5 ai,jk,PK,xao eH,fJ Dz,bm.hH,bS,bP,xaP,axD,xaO,xax,xaz,axE,a6,bb,cl (bt:=false) (i:=i) (by omega)]
  .simp only[xbS,xaa eH]
  rw[KX,bd];simp
def axF(l:List bm){B:Nat}(ak:h4 B l)(n:Nat)(i:Nat)(ag:i<l.length)(aH:6*B+400<n):Kd n [aJ l,J (i:Int)]=some (ax (jW l i)):=by
 have bz:=ak.len;have vO:=ak.b;obtain⟨d,aF⟩:∃d,l[i]?=some d:=⟨l[i],xab ag⟩;have h6:=ak.e d (xad aF);have an:=V7 l ak n d.e [] cv (.inr ⟨rfl,rfl⟩) h6.1 h6.2 ⟨by simp,by simp⟩ (by simp;omega);have ba:=V5 (λi k ai=>ma (l:=l) i k ai) n (l.length+1) (dQ l d.e) [] ⟨by simp,by simp⟩ oH (by simp;omega) (by simp);have lX:=zC l (dQ l d.e) oH;have jh:=lX.inv.len;rw[ba]at an;have aj:h5 (to l) (l.length+1) (dQ l d.e) []=lD l (dQ l d.e):=rfl;rw[aj]at an;have PK:=ae8 n (lD l (dQ l d.e)) i (lE [] cv (lD l (dQ l d.e))) (by
  unfold lE;split;.rename_i h;exact .inr ⟨xaC h,rfl⟩
  exact .inl rfl) (by omega) (by omega)
 simp only[Kd,adf,go_sem,fJ aF,bm.hH,an,PK,jW,FN aF]
def V9(l:List bm){B:Nat}(ak:h4 B l):∀(n:Nat)(i:Nat)(S:List Nat)(M:List (Value×D)),i<l.length->fZ M S->ju l.length S->l.length-S.length+2*B+100<n-> ∃eZ,tD n [J (i:Int),ik (l.map λd=>dQ l d.e),.mp M]=some [D.aU [],ik (l.map λd=>dQ l d.e),.mp eZ]/\fZ eZ (h5 (to l) n (to l i) S)
 |0,_,_,_,_,_,_,h=>absurd h (xar _)
 |n+1,i,S,M,ag,c6,c3,aH=>by
  have bz:=ak.len;have vO:=ak.b;obtain⟨d,aF⟩:∃d,l[i]?=some d:=⟨l[i],xab ag⟩;have h6:=ak.e d (xad aF);have zD:=PG l d.e;have af:bp 1 (ik (l.map λd=>dQ l d.e)) (J (i:Int))=some [dr (dQ l d.e)]:=ao4 (by simp[aF]);have bK:(J ((0:Nat):Int))=J 0:=rfl;rw[FN aF,h5];have key:∀(m j:Nat)(s:List Nat)(M:List (Value×D)),fZ M s->ju l.length s->S.length<=s.length->(dQ l d.e).length-j<m->j<=(dQ l d.e).length-> ∃eZ,bA (II (tD n) n) m [dr (dQ l d.e),J (dQ l d.e).length,J (j:Int),ik (l.map λd=>dQ l d.e),.mp M]=some (.inl [ik (l.map λd=>dQ l d.e),.mp eZ])/\fZ eZ (((dQ l d.e).drop j).foldl (λS k=>if k∈S then S else h5 (to l) n (to l k) (S++[k])) s):=by
   intro m
   induction m with
   |zero=>intro j s M _ _ _ h _;exact absurd h (xar _)
   |succ m ih=>
    intro j s M c6 aD VZ hm aR;rw[l1];by_cases cE:j<(dQ l d.e).length
    .have ai:=xab cE;generalize (dQ l d.e)[j]=k at ai;have ku:=xad ai;have qk:=oH k ku;have mR:(dQ l d.e).drop j=k::(dQ l d.e).drop (j+1):=by
      obtain⟨bS,bP⟩:=xae.1 ai;rw[xaV bS,bP]
     rw[mR,xbS];have vP:=c6.look (i:=k) (z:= .bool false);by_cases eH:k∈s
     .rw[xac eH];obtain⟨eZ,bb,bo⟩:=ih (j+1) s M c6 aD VZ (by omega) cE;refine⟨eZ,?_,bo⟩;simp only[II,go_sem,yT ((j:Int)<((dQ l d.e).length:Int)),w5 ai,jk,vP,xag eH,cl (bt:=false) (i:=j) (by omega),bb]
     rw[xaa eH];obtain⟨xK,fu,eQ⟩:=c6.put k;rw[xaa eH]at eQ;have KW:=aD.snoc qk eH;have bY:=aD.lt qk eH;obtain⟨M2,r1,r2⟩:=V9 l ak n k (s++[k]) xK qk eQ KW (by simp;omega);have lX:=FO (λi k ai=>ma i k ai) n (to l k) (s++[k]) KW (λx af=>ma k x af) (by simp;omega);obtain⟨V8,KX⟩:=lX.pre;obtain⟨eZ,bb,bo⟩:=ih (j+1) _ M2 r2 lX.inv (by rw[KX];simp;omega) (by omega) cE;refine⟨eZ,?_,bo⟩;simp only[II,go_sem,yT ((j:Int)<((dQ l d.e).length:Int)),w5 ai,jk,vP,xao eH,fu,r1,cl (bt:=false) (i:=j) (by omega),bb]
    have:j=(dQ l d.e).length:=by omega
    subst this;refine⟨M,?_,by simpa using c6⟩;simp only[II,go_sem,yF (((dQ l d.e).length:Int)<(dQ l d.e).length)]
  obtain⟨eZ,bb,bo⟩:=key n 0 S M c6 c3 (xaX _) (by omega) (xah _);rw[bK]at bb;refine⟨eZ,?_,by simpa using bo⟩;show Og (tD n) n _=_;simp only[Og,go_sem,af,jk,qT,bb]
inductive zE(o:Int)(x:ByteArray):Tm->Prop where
 |here (t:Tm) (h:t.op=o) (bL:t.name=x):zE o x t
 |cL (t k:Tm) (h:k∈t.al) (bL:zE o x k):zE o x t
def PL{s x:ByteArray}:∀{l:List ByteArray},x∈h2 s l↔x=s\/x∈l
 |[]=>by simp[h2]
 |a::r=>by
  rw[h2];split;.rename_i h;subst h;simp
  split;.simp
  rw[xas,PL,xas];constructor
  .rintro(h|h|h);.exact .inr (.inl h)
   .exact .inl h
   exact .inr (.inr h)
  rintro(h|h|h);.exact .inr (.inl h)
  .exact .inl h
  exact .inr (.inr h)
def afe(o:Int)(x:ByteArray)(t:Tm):∀l,x∈ga o t l↔x∈l\/zE o x t:=by
 refine Tm.ind (P:=λt=>∀l,x∈ga o t l↔x∈l\/zE o x t) ?_ t;intro t ih l;have key:∀(ks:List Tm),(∀k∈ks,∀l,x∈ga o k l↔x∈l\/zE o x k)->∀l,x∈mQ o ks l↔x∈l\/∃k∈ks,zE o x k:=by
  intro ks
  induction ks with
  |nil=>intro _ l;simp[mQ]
  |cons a r kN=>intro h l;rw[mQ,kN (λk ai=>h k (by simp[ai])),h a (by simp)];simp only[xas,exists_eq_or_imp,or_assoc]
 rw[KQ,key t.al ih];constructor
 .rintro(h|⟨k,ai,h⟩)
  .split at h
   .rename_i aC;rcases PL.1 h with rfl|h
    .exact .inr (.here t aC rfl)
    exact .inl h
   exact .inl h
  exact .inr (.cL t k ai h)
 rintro(h|h)
 .left;split;.exact PL.2 (.inr h)
  exact h
 cases h with|here _ ad ae=>left;rw[xac ad];exact PL.2 (.inl ae.symm)|cL _ k ai h=>exact .inr ⟨k,ai,h⟩
def PM{l:List bm}{t:Tm}{i:Nat}:i∈dQ l t↔∃x,zE 3 x t/\dB l x=some i:=by
 unfold dQ;rw[List.mem_filterMap];constructor;.rintro⟨x,ad,ae⟩;exact⟨x,((afe 3 x t []).1 ad).resolve_left (by simp),ae⟩
 rintro⟨x,ad,ae⟩;exact⟨x,(afe 3 x t []).2 (.inr ad),ae⟩
def Wa{l:List bm}{t k:Tm}(ai:k∈t.al):∀i∈dQ l k,i∈dQ l t:=by intro i ag;obtain⟨x,ad,ae⟩:=PM.1 ag;exact PM.2 ⟨x,.cL t k ai ad,ae⟩
def vQ(l:List bm)(t:Tm):Bool:=t.op==3&&(dB l t.name).isSome
def jX(l:List bm):Nat->Tm->Tm->Prop
 |0,_,_=>False|h+1,t,X=>(t.op=3/\∃i d,dB l t.name=some i/\l[i]?=some d/\jX l h d.e X)\/(vQ l t=false/\∃ks,X= .mk t.op t.num t.name t.nl ks/\ks.length=t.al.length/\∀(j:Nat)(a b:Tm),t.al[j]?=some a->ks[j]?=some b->jX l h a b)
def jX.mono{l:List bm}:∀{h bL:Nat}{t X:Tm},h<=bL->jX l h t X->jX l bL t X
 |0,_,_,_,_,H=>H.elim|h+1,0,_,_,hle,_=>absurd hle (by omega)
 |h+1,bL+1,t,X,hle,H=>by
  rcases H with⟨ad,i,d,ae,az,a3⟩|⟨ad,ks,ae,az,a3⟩;.exact .inl ⟨ad,i,d,ae,az,a3.mono (by omega)⟩
  exact .inr ⟨ad,ks,ae,az,λj a b aB an=>(a3 j a b aB an).mono (by omega)⟩
def aff:∀{A B:List Nat},A.Nodup->(∀x∈A,x∈B)->A.length<=B.length
 |[],B,_,_=>by simp
 |a::A,B,aH,h=>by
  have aB:=h a (by simp);have ad:=aff (A:=A) (B:=B.erase a) (List.nodup_cons.1 aH).2 (λx af=>by
   have cm:x≠a:=by rintro rfl;exact(List.nodup_cons.1 aH).1 af
   exact(List.mem_erase_of_ne cm).2 (h x (by simp[af])))
  have ae:=List.length_erase_of_mem aB;have az:0<B.length:=List.length_pos_of_mem aB;simp;omega
def CR(l:List bm)(i:Nat):Nat:=(lD l (to l i)).length
def axG{l:List bm}{i j:Nat}(aR:j∈to l i)(aw:jW l j=false):CR l j<CR l i:=by
 have ag:=zC l (to l i) (ma i);have axH:=zC l (to l j) (ma j);have axI:j∉lD l (to l j):=by
  intro h;have:jW l j=true:=by simp[jW,h]
  rw[aw]at this;cases this
 have jJ:∀x∈lD l (to l j)++[j],x∈lD l (to l i):=by
  intro x af;rcases xaJ.1 af with af|af
  .obtain⟨k,ad,ae⟩:=(xJ l _ (ma j) x).1 af;exact(xJ l _ (ma i) x).2 ⟨j,aR,.step j k x ad ae⟩
  simp at af;subst af;exact ag.mem _ aR
 have:=aff (A:=lD l (to l j)++[j]) (B:=lD l (to l i)) (by rw[List.nodup_append];exact⟨axH.inv.1,by simp,by intro a aB b an;simp at an;subst an;rintro rfl;exact axI aB⟩) jJ;simp at this;unfold CR;omega
def FQ(l:List bm)(t:Tm):Prop:=∀x∈lD l (dQ l t),jW l x=false
def Wb{α:Type}{P:Nat->Tm->α->Prop}:∀(ks:List Tm),(∀(j:Nat)(a:Tm),ks[j]?=some a->∃b,P j a b)->∃r:List α,r.length=ks.length/\∀(j:Nat)(a:Tm)(b:α),ks[j]?=some a->r[j]?=some b->P j a b
 |[],_=>⟨[],rfl,by intro j a b h;simp at h⟩
 |k::r,h=>by obtain⟨b,an⟩:=h 0 k rfl;obtain⟨kF,ad,ae⟩:=Wb (P:=λj=>P (j+1)) r (λj a aB=>h (j+1) a (by simpa using aB));refine⟨b::kF,by simp[ad],?_⟩;intro j a c aB aj;cases j with|zero=>simp at aB aj;subst aB;subst aj;exact an|succ j=>exact ae j a c (by simpa using aB) (by simpa using aj)
def axJ{l:List bm}{B:Nat}(ak:h4 B l):∀(r:Nat)(t:Tm),t.a9<=B->FQ l t->(∀k∈dQ l t,CR l k<r)->∃X,jX l (r*(B+1)+t.a9) t X:=by
 intro r
 induction r with
 |zero=>
  intro t;refine Tm.ind (P:=λt=>t.a9<=B->FQ l t->(∀k∈dQ l t,CR l k<0)->∃X,jX l (0*(B+1)+t.a9) t X) ?_ t;intro t ih aQ xL ai;have iN:dQ l t=[]:=by cases h:dQ l t with|nil=>rfl|cons a q=>exact absurd (ai a (by rw[h];simp)) (xar _)
  have ln:vQ l t=false:=by cases h:vQ l t with|false=>rfl|true=>simp only[vQ,xai,xbH,Option.isSome_iff_exists]at h;obtain⟨ad,i,ae⟩:=h;have:i∈dQ l t:=PM.2 ⟨_,.here t ad rfl,ae⟩;rw[iN]at this;cases this
  obtain⟨ks,ad,ae⟩:=Wb (P:=λj a b=>jX l (t.a9-1) a b) t.al (λj a aB=>by
   have hm:=xad aB;have bF:=Tm.fb hm;have afg:dQ l a=[]:=by cases h:dQ l a with|nil=>rfl|cons b q=>have:=Wa hm b (by rw[h];simp);rw[iN]at this;cases this
   obtain⟨X,h3⟩:=ih a hm (by omega) (λx af=>by rw[afg]at af;simp[lD,h5]at af) (by rw[afg];simp);exact⟨X,h3.mono (by omega)⟩)
  have bF:=t.g9;refine⟨.mk t.op t.num t.name t.nl ks,?_⟩;have e:0*(B+1)+t.a9=(t.a9-1)+1:=by omega
  rw[e];exact .inr ⟨ln,ks,rfl,ad,ae⟩
 |succ r kN=>
  intro t;refine Tm.ind (P:=λt=>t.a9<=B->FQ l t->(∀k∈dQ l t,CR l k<r+1)->∃X,jX l ((r+1)*(B+1)+t.a9) t X) ?_ t;intro t ih aQ xL ai;have bF:=t.g9;have e:(r+1)*(B+1)+t.a9=((r+1)*(B+1)+(t.a9-1))+1:=by omega
  cases aH:vQ l t with
  |true=>
   simp only[vQ,xai,xbH,Option.isSome_iff_exists]at aH;obtain⟨ad,i,ae⟩:=aH;obtain⟨d,az,a3,bx⟩:=Ub ae;have ag:i∈dQ l t:=PM.2 ⟨_,.here t ad rfl,ae⟩;have lv:=FN az;have axK:=ak.e d (xad az);have jh:=zC l (dQ l t) oH;obtain⟨X,h3⟩:=kN d.e axK.2 (λx af=>xL x (by
    obtain⟨k,bS,bP⟩:=(xJ l _ oH x).1 af;rw[<-lv]at bS;exact(xJ l _ oH x).2 ⟨i,ag,.step i k x bS bP⟩)) (λk c5=>by
    rw[<-lv]at c5;have sT:k∈lD l (dQ l t):=(xJ l _ oH k).2 ⟨i,ag,.step i k k c5 (.refl k)⟩;have:=axG c5 (xL k sT);have:=ai i ag;omega)
   refine⟨X,?_⟩;rw[e];exact .inl ⟨ad,i,d,ae,az,h3.mono (by have:(r+1)*(B+1)=r*(B+1)+(B+1):=Nat.succ_mul _ _;omega)⟩
  |false=>
   obtain⟨ks,ad,ae⟩:=Wb (P:=λj a b=>jX l ((r+1)*(B+1)+(t.a9-1)) a b) t.al (λj a aB=>by
    have hm:=xad aB;have axL:=Tm.fb hm;obtain⟨X,h3⟩:=ih a hm (by omega) (λx af=>xL x (by obtain⟨k,bS,bP⟩:=(xJ l _ oH x).1 af;exact(xJ l _ oH x).2 ⟨k,Wa hm k bS,bP⟩)) (λk c5=>ai k (Wa hm k c5))
    exact⟨X,h3.mono (by omega)⟩)
   refine⟨.mk t.op t.num t.name t.nl ks,?_⟩;rw[e];exact .inr ⟨aH,ks,rfl,ad,ae⟩
def axM(l:List bm)(i:Nat):CR l i<=l.length:=(zC l (to l i) (ma i)).inv.len
def afh{l:List bm}{B:Nat}(ak:h4 B l){t:Tm}(aQ:t.a9<=B)(h:FQ l t):∃X,jX l ((l.length+1)*(B+1)+B) t X:=by obtain⟨X,h3⟩:=axJ ak (l.length+1) t aQ h (λk _=>by have:=axM l k;omega);exact⟨X,h3.mono (by omega)⟩
mutual
def fc:Tm->Int->Int->Tm×Int
 | .mk o m s b ks,deep,n=>if ks.isEmpty then(.mk o m s b ks,n+1)else(.mk o m s false (gG ks deep (n+1)).1,(gG ks deep (n+1)).2)
def gG:List Tm->Int->Int->List Tm×Int
 |[],_,n=>([],n)|k::r,deep,n=>if deep<=64/\n<=4096 then((fc k (deep+1) n).1::(gG r deep (fc k (deep+1) n).2).1,(gG r deep (fc k (deep+1) n).2).2)else(eS::(gG r deep n).1,(gG r deep n).2)
end
mutual
def dn:Tm->Tm
 | .mk o m s b ks=> .mk o m s false (pn ks)
def pn:List Tm->List Tm
 |[]=>[]|k::r=>dn k::pn r
end
def afi:∀l:List Tm,(pn l).length=l.length
 |[]=>rfl|k::r=>by simp[pn,afi r]
def PN:∀(l:List Tm)(d n:Int),(gG l d n).1.length=l.length
 |[],_,_=>rfl|k::r,d,n=>by rw[gG];split<;>simp[PN r]
def axN(o m:Int)(s:ByteArray)(n:Nat):Int:=if(gK o).1<0 then 11
 else if(m<(if o=1 then-255 else 0))\/m>(if o=1 then 255 else if o=2 then 1 else 0)then 2
 else if(if FH o then s=⟨#[]⟩\/s.size>24 else s≠⟨#[]⟩)then 12
 else if(n:Int)<(gK o).1\/(n:Int)>(gK o).2 then 3 else 0
theorem afj(o m:Int)(s:ByteArray)(b:Bool)(ks:List Tm):iq (.mk o m s b ks)=axN o m s ks.length:=rfl
def afk{o m:Int}{s:ByteArray}{b b':Bool}{ks ks':List Tm}(h:ks.length=ks'.length):iq (.mk o m s b ks)=iq (.mk o m s b' ks'):=by rw[afj,afj,h]
mutual
def PO:∀(X:Tm)(deep n:Int),n<=4096->(cT (fc X deep n).1 deep n).1=(cT X deep n).1/\((cT X deep n).1=0->(cT X deep n).2=(fc X deep n).2/\(cT (fc X deep n).1 deep n).2=(fc X deep n).2/\nq (fc X deep n).1 (dn X)=true)
 | .mk o m s b ks,deep,n,aH=>by
  rw[fc];cases ks with
  |nil=>
   simp only[List.isEmpty_nil,xay,true_and];intro h;rw[cT]at h⊢;split at h;.cases h
   split at h;.rename_i ae;exact absurd h ae
   split at h;.cases h
   rename_i ad ae az;rw[xaa ad,xaa ae,xaa az];simp[e4,dn,pn,FL,Tm.op,Tm.num,Tm.name,Tm.al,l9]
  |cons k r=>
   simp only[List.isEmpty_cons,xaq,xaB];rw[cT,cT,afk (b':=b) (ks':=k::r) (PN (k::r) deep (n+1))];by_cases ad:deep>64;.rw[xac ad,xac ad];simp
   rw[xaa ad,xaa ad];by_cases ae:iq (.mk o m s b (k::r))≠0;.rw[xac ae,xac ae];exact⟨rfl,λh=>absurd h ae⟩
   rw[xaa ae,xaa ae];by_cases az:n+1>4096;.rw[xac az,xac az];simp
   rw[xaa az,xaa az];obtain⟨bb,bo⟩:=afl (k::r) deep (n+1) (by omega) (by omega);refine⟨bb,λh=>?_⟩;obtain⟨bS,bP,ca⟩:=bo h;refine⟨bS,bP,?_⟩;rw[FL];simp only[dn,Tm.op,Tm.num,Tm.name,Tm.al,ca,PN,afi];simp
def afl:∀(ks:List Tm)(deep n:Int),deep<=64->n<=4096->(e4 (gG ks deep n).1 (deep+1) n).1=(e4 ks (deep+1) n).1/\((e4 ks (deep+1) n).1=0->(e4 ks (deep+1) n).2=(gG ks deep n).2/\(e4 (gG ks deep n).1 (deep+1) n).2=(gG ks deep n).2/\l9 (gG ks deep n).1 (pn ks)=true)
 |[],deep,n,_,_=>by simp[gG,e4,pn,l9]
 |k::r,deep,n,aF,aH=>by
  rw[gG,xac ⟨aF,aH⟩,e4,e4];obtain⟨bb,bo⟩:=PO k (deep+1) n aH;have a1:=FI k (deep+1) n;by_cases h:(cT k (deep+1) n).1=0
  .obtain⟨bS,bP,ca⟩:=bo h;have bL:=bb.trans h;simp only[h,bL,ne_eq,xbD,xaB,bS,bP];have hle:(fc k (deep+1) n).2<=4096:=by rw[<-bS];exact a1.2 h
   obtain⟨fu,eQ⟩:=afl r deep (fc k (deep+1) n).2 aF hle;refine⟨fu,λh=>?_⟩;obtain⟨s1,s2,j9⟩:=eQ h;exact⟨s1,s2,by rw[pn,l9,ca,j9];rfl⟩
  have bL:(cT (fc k (deep+1) n).1 (deep+1) n).1≠0:=by rw[bb];exact h
  simp only[ne_eq,h,bL,xbY,xay];exact⟨bb,λbH=>bH.elim⟩
end
def Tm.PQ(l:List Tm)(t:Tm):Tm.rows (l++[t])=Tm.rows l++[t.cells]:=by simp[Tm.jl]
def axO(o m:Int)(s:ByteArray)(b:Bool)(ks:List Tm):dn (.mk o m s b ks)= .mk o m s false (pn ks):=by rw[dn]
def PR{α β:Type}{a:List α}{b:List β}{i:Nat}{x:α×β}(h:(a.zip b)[i]?=some x):a[i]?=some x.1/\b[i]?=some x.2:=by rw[List.getElem?_zip_eq_some]at h;exact h
def Wc{α β:Type}{a:List α}{b:List β}(h:b.length=a.length):(a.zip b).map (·.2)=b:=List.map_snd_zip (by omega)
def Wd{l:List bm}{B:Nat}(ak:h4 B l):∀(h n:Nat)(t X:Tm)(deep k:Int),jX l h t X->t.bR->t.a9<=B->1<=deep->deep<=65->0<=k->k<=4096->h+2*B+100<n->tW n [t.d,aJ l,J deep,J k]=some (.aU [if(cT X deep k).1=0 then(dn X).d else eS.d,J (cT X deep k).2,J (cT X deep k).1])
 |0,_,_,_,_,_,H,_,_,_,_,_,_,_=>H.elim|h+1,0,_,_,_,_,_,_,_,_,_,_,_,aH=>absurd aH (xar _)
 |h+1,n+1,t,X,deep,k,H,a4,aQ,ad,ae,az,a3,aH=>by
  have bz:=ak.len;have vO:=ak.b;have e5:=ae7 n l t.name (by omega) (by omega);have a1:=aeS n t deep;have hzero:D.agg [J 0,J 0,aI ⟨#[]⟩,D.val (.slice none 0 0)]=eS.d:=NY.symm;rcases H with⟨aC,i,d,ag,aF,h3⟩|⟨iN,ks,rfl,eH,CS⟩
  .have h6:=ak.e d (xad aF);have aw:=Wd ak h n d.e X deep k h3 h6.1 h6.2 ad ae az a3 (by omega);simp only[ag]at e5;show tV (tW n) n t.d (aJ l) (J deep) (J k)=_;have FR:((3:Int)==3)=true:=rfl;by_cases ao:(cT X deep k).1=0
   .simp only[ao,xay]at aw⊢;simp only[tV,go_sem,aC,FR,e5,yT ((i:Int)>=0),fJ aF,bm.hH,aw]
   simp only[ao,xaB]at aw⊢;simp only[tV,go_sem,aC,FR,e5,yT ((i:Int)>=0),fJ aF,bm.hH,aw]
  have hw:iq (.mk t.op t.num t.name t.nl ks)=iq t:=by have:=afk (o:=t.op) (m:=t.num) (s:=t.name) (b:=t.nl) (b':=t.nl) eH;rw[this];cases t;rfl
  have KY:(t.op==3)=false/\True\/(t.op==3)=true/\zi n [aJ l,aI t.name]=some (J (-1)):=by
   by_cases az:t.op=3
   .right;have We:dB l t.name=none:=by simpa[vQ,az]using iN
    rw[We]at e5;exact⟨by simp[az],e5⟩
   left;simp[az]
  have KZ:decide ((-1:Int)>=0)=false:=by decide
  show tV (tW n) n t.d (aJ l) (J deep) (J k)=_;rw[rb,hw];by_cases bl:64<deep
  .have uj:((17:Int) !=0)=true:=rfl;rcases KY with⟨aD,ql⟩|⟨aD,ql⟩<;>
   simp only[tV,go_sem,aD,ql,KZ,mD (bt:=false) (i:=k) (by omega) (by omega),a1,gt_iff_lt,bl,hzero,uj,show¬((17:Int)=0) by omega]
  by_cases bu:iq t=0
  case neg=>
   have uj:(iq t !=0)=true:=by simpa using bu
   rcases KY with⟨aD,ql⟩|⟨aD,ql⟩<;>
   simp only[tV,go_sem,aD,ql,KZ,mD (bt:=false) (i:=k) (by omega) (by omega),a1,gt_iff_lt,bl,hzero,uj,bu,ne_eq,xbY]
  have re:((0:Int) !=0)=false:=rfl;by_cases bT:4096<k+1
  .rcases KY with⟨aD,ql⟩|⟨aD,ql⟩<;>
   simp only[tV,go_sem,aD,ql,KZ,mD (bt:=false) (i:=k) (by omega) (by omega),a1,gt_iff_lt,bl,hzero,bu,re,ne_eq,xbD,decide_true,bT,show¬((4:Int)=0) by omega]
  have fe:=dp (f:=Ke (tW n) n) (t.al.zip ks) (λi (s:Int×List Tm)=>[aJ l,J deep,J s.1,J (i:Int),J t.op,J t.num,aI t.name,bc 4 t.nl (Tm.rows t.al),J 0,J 0,aI ⟨#[]⟩,cv,.aE 4 (Tm.rows s.2)]) (λr (s:Int×List Tm)=>if(e4 (r.map (·.2)) (deep+1) s.1).1=0 then(Sum.inl [J (e4 (r.map (·.2)) (deep+1) s.1).2,J t.op,J t.num,aI t.name,bc 4 t.nl (Tm.rows t.al),J 0,J 0,aI ⟨#[]⟩,cv,.aE 4 (Tm.rows (s.2++pn (r.map (·.2))))]:List D⊕D)else .inr (.aU [eS.d,J (e4 (r.map (·.2)) (deep+1) s.1).2,J (e4 (r.map (·.2)) (deep+1) s.1).1])) (λi s=>0<=s.1/\s.1<=4096/\s.2.length=i) ?_ ?_ n 0 (k+1,[]) ⟨by simp;omega,by simp;omega,rfl⟩ (by have:=t.g9;simp[eH];omega) (xah _)
  .have bK:(J ((0:Nat):Int))=J 0:=rfl;have rI:Tm.rows []=[]:=rfl;simp only[xak,Wc eH,bK,rI,xaO]at fe;have oj:(Tm.mk t.op t.num t.name t.nl ks).al=ks:=rfl;have nH:(dn (.mk t.op t.num t.name t.nl ks)).d=D.agg [J t.op,J t.num,aI t.name,.aE 4 (Tm.rows (pn ks))]:=by rw[axO,Tm.gI];simp[bc,Tm.op,Tm.num,Tm.name,Tm.nl,Tm.al]
   by_cases ao:(e4 ks (deep+1) (k+1)).1=0
   .simp only[ao,xay]at fe;rcases KY with⟨aD,ql⟩|⟨aD,ql⟩<;>
    simp only[tV,go_sem,aD,ql,KZ,mD (bt:=false) (i:=k) (by omega) (by omega),a1,gt_iff_lt,bl,hzero,bu,re,ne_eq,xbD,decide_false,bT,fe,oj,ao,nH]
   simp only[ao,xaB]at fe;rcases KY with⟨aD,ql⟩|⟨aD,ql⟩<;>
   simp only[tV,go_sem,aD,ql,KZ,mD (bt:=false) (i:=k) (by omega) (by omega),a1,gt_iff_lt,bl,hzero,bu,re,ne_eq,xbD,decide_false,bT,fe,oj,ao]
  .intro s _;have e:((t.al.zip ks).length:Int)=t.al.length:=by simp[eH]
   simp only[Ke,go_sem,e,yF ((t.al.length:Int)<t.al.length),xbo,e4,pn,xaD]
  rintro i ⟨a,b⟩ s mP ag ⟨bS,bP,ca⟩;obtain⟨aB,an⟩:=PR mP;simp only at aB an;have hm:=xad aB;have bF:=Tm.fb hm;have bz:=a4.len;have cb:(i:Int)<t.al.length:=by have:=(xae.1 aB).1;omega
  have aw:=Wd ak h n a b (deep+1) s.1 (CS i a b aB an) (a4.cL hm) (by omega) (by omega) (by omega) bS bP (by omega);have jM:=FI b (deep+1) s.1;have eo:dd (s.2.length+1) 56=true:=gC (by omega) (by omega);by_cases ao:(cT b (deep+1) s.1).1=0
  .simp only[ao,xay]at aw;left;refine⟨((cT b (deep+1) s.1).2,s.2++[dn b]),?_,?_,by simp;omega,by simpa using jM.2 ao,by simp[ca]⟩;.have b2:[J (dn b).op,J (dn b).num,aI (dn b).name,bc 4 (dn b).nl (Tm.rows (dn b).al)]=(dn b).cells:=((dn b).nh).symm;simp only[Ke,go_sem,xag cb,Tm.dz aB,mD (bt:=false) (i:=deep) (by omega) (by omega),aw,re,b2,Tm.PQ,xax,xaP,xaz,eo,cl (bt:=false) (i:=i) (by omega)]
   simp only[xaA,e4,ao,ne_eq,xbD,xaB,pn,xaE,xaR]
  simp only[ao,xaB]at aw;have uj:((cT b (deep+1) s.1).1 !=0)=true:=by simpa using ao
  right;simp only[Ke,go_sem,xag cb,Tm.dz aB,mD (bt:=false) (i:=deep) (by omega) (by omega),aw,uj,hzero,xaA,e4,ne_eq,ao,xbY]
theorem Wf(t:Tm)(deep n:Int):fc t deep n=if t.al.isEmpty then(t,n+1)else(.mk t.op t.num t.name false (gG t.al deep (n+1)).1,(gG t.al deep (n+1)).2):=by cases t;rw[fc];rfl
def afm(t:Tm):∀(deep n:Int),n+1<=(fc t deep n).2/\(n<=4096->(fc t deep n).2<=4097):=by
 refine Tm.ind (P:=λt=>∀(deep n:Int),n+1<=(fc t deep n).2/\(n<=4096->(fc t deep n).2<=4097)) ?_ t;intro t ih deep n;have key:∀(ks:List Tm),(∀k∈ks,∀(deep n:Int),n+1<=(fc k deep n).2/\(n<=4096->(fc k deep n).2<=4097))->∀(n:Int),n<=(gG ks deep n).2/\(n<=4097->(gG ks deep n).2<=4097):=by
  intro ks
  induction ks with
  |nil=>intro _ n;simp[gG]
  |cons a r kN=>
   intro h n;have ad:=h a (by simp) (deep+1) n;rw[gG];split
   .have ae:=kN (λk ai=>h k (by simp[ai])) (fc a (deep+1) n).2;simp only;constructor;.omega
    intro _;exact ae.2 (by omega)
   exact kN (λk ai=>h k (by simp[ai])) n
 rw[Wf];split;.simp only[Int.le_refl,true_and];omega
 have:=key t.al ih (n+1);simp only;constructor;.omega
 intro _;exact this.2 (by omega)
def afn{l:List bm}{B:Nat}(ak:h4 B l){M:List (Value×D)}(c6:PF M l)(r:List D->Option (List D))(eI:Nat)(deep Wg:Int):∀(h n:Nat)(t X:Tm),jX l h t X->t.bR->t.a9<=B->h<n-> ∃(t':Tm)(bL:Nat)(ks:List Tm),bL<h/\t'.bR/\t'.a9<=B/\X= .mk t'.op t'.num t'.name t'.nl ks/\ks.length=t'.al.length/\(∀(j:Nat)(a b:Tm),t'.al[j]?=some a->ks[j]?=some b->jX l bL a b)/\bA (IL r eI) n [J deep,.mp M,aJ l,J Wg,J t.op,J t.num,aI t.name,bc 4 t.nl (Tm.rows t.al),J 0,J 0,aI ⟨#[]⟩,cv]=some (.inl [J deep,J Wg,J t'.op,J t'.num,aI t'.name,bc 4 t'.nl (Tm.rows t'.al),J 0,J 0,aI ⟨#[]⟩,cv,.mp M,aJ l])
 |0,_,_,_,H,_,_,_=>H.elim|h+1,0,_,_,_,_,_,aH=>absurd aH (xar _)
 |h+1,n+1,t,X,H,a4,aQ,aH=>by
  have iA:=En c6.1 (z:= .int .i64 0) (x:=t.name);rw[c6.2]at iA;rcases H with⟨aC,i,d,ag,aF,h3⟩|⟨iN,ks,rfl,eH,CS⟩
  .have h6:=ak.e d (xad aF);have FR:((3:Int)==3)=true:=rfl;rw[ag]at iA;simp only[xaQ]at iA;obtain⟨t',bL,ks,bb,bo,b0,eR,gY,ke,ie⟩:=afn ak c6 r eI deep Wg h n d.e X h3 h6.1 h6.2 (by omega);refine⟨t',bL,ks,by omega,bo,b0,eR,gY,ke,?_⟩;rw[l1,<-ie];simp only[IL,go_sem,aC,FR,nO,iA,fJ aF,bm.hH]
  refine⟨t,h,ks,by omega,a4,aQ,rfl,eH,CS,?_⟩;rw[l1];by_cases az:t.op=3
  .have We:dB l t.name=none:=by simpa[vQ,az]using iN
   have FR:((3:Int)==3)=true:=rfl;rw[We]at iA;simp only[xbs]at iA;simp only[IL,go_sem,az,FR,nO,iA]
  have aD:(t.op==3)=false:=by simp[az]
  simp only[IL,go_sem,aD]
def afo{s:List Tm}{x:Tm}{i k:Nat}(ag:s.length=i)(ai:i<k):(Tm.rows (s++List.replicate (k-i) eS)).set i x.cells=Tm.rows ((s++[x])++List.replicate (k-(i+1)) eS):=by
 obtain⟨m,rfl⟩:∃m,k=i+1+m:=⟨k-(i+1),by omega⟩;have aZ:i+1+m-i=m+1:=by omega
 have a6:i+1+m-(i+1)=m:=by omega
 subst ag;rw[aZ,a6];simp[Tm.jl,List.replicate_succ]
def axP{s:List Tm}{i k:Nat}(ag:s.length=i)(ai:i<k):(Tm.rows (s++List.replicate (k-i) eS))[i]?=some eS.cells:=by
 obtain⟨m,rfl⟩:∃m,k=i+1+m:=⟨k-(i+1),by omega⟩;have aZ:i+1+m-i=m+1:=by omega
 subst ag;rw[aZ];simp[Tm.jl,List.replicate_succ]
def axQ{t:Nat}(h:t<=1000000):s3 56 (J (t:Int)) (J (t:Int))=some t:=by simp only[s3,J];rw[xac ⟨by omega,by omega,by omega,by omega⟩];simp
def afp{l:List bm}{B:Nat}(ak:h4 B l){M:List (Value×D)}(c6:PF M l):∀(n h:Nat)(t X:Tm)(deep k:Int),jX l h t X->t.bR->t.a9<=B->1<=deep->deep<=65->0<=k->k<=4096->h+2*B+100<n->vn n [t.d,J deep,.mp M,aJ l,J k]=some [(fc X deep k).1.d,.mp M,aJ l,J (fc X deep k).2]
 |0,_,_,_,_,_,_,_,_,_,_,_,_,aH=>absurd aH (xar _)
 |n+1,h,t0,X,deep,k,H,axR,axS,ad,ae,az,a3,aH=>by
  have bz:=ak.len;have vO:=ak.b;obtain⟨t,bL,ks,bb,a4,aQ,rfl,eH,CS,ie⟩:=afn ak c6 (vn n) n deep k h n t0 X H axR axS (by omega);have oj:(Tm.mk t.op t.num t.name t.nl ks).al=ks:=rfl;have afq:∀(b:Bool)(r:List Tm),(Tm.mk t.op t.num t.name b r).d=D.agg [J t.op,J t.num,aI t.name,bc 4 b (Tm.rows r)]:=λb r=>by rw[Tm.gI];rfl
  have oA:=t.g9;have bK:(J ((0:Nat):Int))=J 0:=rfl;show IN (vn n) n _=_;rw[Wf,oj];cases c5:t.al with
  |nil=>
   have axT:ks=[]:=by rw[c5]at eH;exact xaC eH
   subst axT;rw[c5]at ie;have re:((((Tm.rows []).length:Nat):Int)==0)=true:=rfl;simp only[IN,go_sem,ie,mD (bt:=false) (i:=k) (by omega) (by omega),List.isEmpty_nil,afq];simp
  |cons ab ja=>
   have cm:¬ks.isEmpty=true:=by cases ks with|nil=>rw[c5]at eH;simp at eH|cons _ _=>simp
   have axU:((t.al.length:Int)==0)=false:=by rw[c5];simp;omega
   rw[xaa cm];show _=some [(Tm.mk t.op t.num t.name false (gG ks deep (k+1)).1).d,.mp M,aJ l,J (gG ks deep (k+1)).2];clear c5;have fe:=dp (f:=EF (vn n) n) (t.al.zip ks) (λi (s:Int×List Tm)=>[J deep,bc 4 t.nl (Tm.rows t.al),J t.al.length,J (i:Int),J s.1,J t.op,J t.num,aI t.name,bc 4 t.nl (Tm.rows t.al),J 0,J 0,aI ⟨#[]⟩,cv,.aE 4 (Tm.rows (s.2++List.replicate (t.al.length-i) eS)),.mp M,aJ l]) (λr (s:Int×List Tm)=>(Sum.inl [J t.op,J t.num,aI t.name,bc 4 t.nl (Tm.rows t.al),J 0,J 0,aI ⟨#[]⟩,cv,.aE 4 (Tm.rows (s.2++(gG (r.map (·.2)) deep s.1).1)),.mp M,aJ l,J (gG (r.map (·.2)) deep s.1).2]:List D⊕List D)) (λi s=>0<=s.1/\s.1<=4097/\s.2.length=i) ?_ ?_ n 0 (k+1,[]) ⟨by simp;omega,by simp;omega,rfl⟩ (by simp[eH];omega) (xah _)
   .have rI:Tm.rows (List.replicate t.al.length eS)=List.replicate t.al.length [J 0,J 0,aI ⟨#[]⟩,D.val (.slice none 0 0)]:=by
     rw[Tm.jl,List.map_replicate];rfl
    simp only[xak,Wc eH,bK,xaO,Nat.sub_zero,rI]at fe;have K0:=axQ (t:=t.al.length) (by omega);simp only[IN,go_sem,ie,mD (bt:=false) (i:=k) (by omega) (by omega),axU,K0,fe,afq,aoG]
   .intro s aD;have e:(t.al.zip ks).length=t.al.length:=by simp[eH]
    simp only[e,EF,go_sem,yF ((t.al.length:Int)<t.al.length),xbo,gG,xbF,List.replicate_zero,xaD]
   rintro i ⟨a,b⟩ s mP ag ⟨bS,bP,ca⟩;obtain⟨aB,an⟩:=PR mP;simp only at aB an;have hm:=xad aB;have bF:=Tm.fb hm;have Wh:=(xae.1 aB).1;have cb:(i:Int)<t.al.length:=by omega
   left;by_cases aj:deep<=64/\s.1<=4096
   .have aw:=afp ak c6 n bL a b (deep+1) s.1 (CS i a b aB an) (a4.cL hm) (by omega) (by omega) (by omega) bS aj.2 (by omega);have jM:=afm b (deep+1) s.1;have fy:c4 (s.2++List.replicate (t.al.length-i) eS).length (J (i:Int))=some i:=by
     rw[oD,xac];simp;omega
    have jh:om eS.cells 0 [J (fc b (deep+1) s.1).1.op,J (fc b (deep+1) s.1).1.num,aI (fc b (deep+1) s.1).1.name,bc 4 (fc b (deep+1) s.1).1.nl (Tm.rows (fc b (deep+1) s.1).1.al)]=(fc b (deep+1) s.1).1.cells:=by rw[Tm.nh (fc b (deep+1) s.1).1];rfl
    refine⟨((fc b (deep+1) s.1).2,s.2++[(fc b (deep+1) s.1).1]),?_,?_,by simp;omega,by simpa using jM.2 aj.2,by simp[ca]⟩;.simp only[EF,go_sem,xag cb,Tm.dz aB,xag aj.1,xag aj.2,mD (bt:=false) (i:=deep) (by omega) (by omega),aw,fy,axP ca Wh,jh,afo ca Wh,cl (bt:=false) (i:=i) (by omega)]
    simp only[xaA,gG,xac aj,xaE,xaR]
   refine⟨(s.1,s.2++[eS]),?_,?_,by simpa using bS,by simpa using bP,by simp[ca]⟩
   .have aFL:=afo (x:=eS) ca Wh;have bd:Tm.rows (s.2++List.replicate (t.al.length-i) eS)=Tm.rows (s.2++[eS]++List.replicate (t.al.length-(i+1)) eS):=by
     obtain⟨m,hm⟩:∃m,t.al.length=i+1+m:=⟨t.al.length-(i+1),by omega⟩;have aZ:i+1+m-i=m+1:=by omega
     have a6:i+1+m-(i+1)=m:=by omega
     rw[hm,aZ,a6];simp[List.replicate_succ]
    by_cases AX:deep<=64;.have qC:¬s.1<=4096:=λh=>aj ⟨AX,h⟩;simp only[EF,go_sem,xag cb,Tm.dz aB,xag AX,xao qC,bd,cl (bt:=false) (i:=i) (by omega)]
    simp only[EF,go_sem,xag cb,Tm.dz aB,xao AX,bd,cl (bt:=false) (i:=i) (by omega),xbe]
   simp only[xaA,gG,xaa aj,xaE,xaR]
def CT(l:List bm)(S:List Nat):Prop:=∀x∈S,∀y∈to l x,y∈S
def CT.ui{l:List bm}{S:List Nat}(h:CT l S){a b:Nat}(aw:kP (to l) a b)(aB:a∈S):b∈S:=by induction aw with|refl=>exact aB|step i j k nK _ ih=>exact ih (h i aB j nK)
def afr(l:List bm)(i n:Nat)(S:List Nat)(ad:ju l.length S)(ae:CT l S)(aH:l.length<n):ju l.length (h5 (to l) n (to l i) S)/\CT l (h5 (to l) n (to l i) S)/\∀x,x∈h5 (to l) n (to l i) S↔x∈S\/∃k∈to l i,kP (to l) k x:=by
 have h:=FO (λi k ai=>ma i k ai) n (to l i) S ad (λx af=>ma i x af) (by omega);obtain⟨T,bd⟩:=h.pre;have aj:CT l (h5 (to l) n (to l i) S):=by
  intro x af y aO;by_cases aD:x∈S;.rw[bd];simp[ae x aD y aO]
  exact h.xI x af aD y aO
 refine⟨h.inv,aj,λx=>⟨h.ui x,?_⟩⟩;rintro(af|⟨k,ai,aw⟩);.rw[bd];simp[af]
 exact aj.ui aw (h.mem k ai)
def afs(l:List bm){B:Nat}(ak:h4 B l)(n:Nat)(aH:3*B+200<n)(fr:List Nat)(rK:∀i∈fr,i<l.length)(nH:fr.length<1000000000):∀(m j:Nat)(S:List Nat)(M:List (Value×D)),fZ M S->ju l.length S->CT l S->fr.length-j<m->j<=fr.length-> ∃eZ oI,bA (Oh n) m [dr fr,J fr.length,J (j:Int),.mp M,ik (l.map λd=>dQ l d.e)]=some (.inl [.mp eZ])/\fZ eZ oI/\ju l.length oI/\∀x,x∈oI↔x∈S\/∃i∈fr.drop j,∃k∈to l i,kP (to l) k x
 |0,_,_,_,_,_,_,h,_=>absurd h (xar _)
 |m+1,j,S,M,c6,c3,b5,hm,aR=>by
  have bz:=ak.len;rw[l1];by_cases cE:j<fr.length
  .have ai:=xab cE;generalize fr[j]=i at ai;have ag:=rK i (xad ai);have mR:fr.drop j=i::fr.drop (j+1):=by
    obtain⟨bS,bP⟩:=xae.1 ai;rw[xaV bS,bP]
   have nr:=c3.len;obtain⟨xK,r1,r2⟩:=V9 l ak n i S M ag c6 c3 (by omega);obtain⟨bl,bu,bT⟩:=afr l i n S c3 b5 (by omega);obtain⟨eZ,oI,bb,bo,b0,eR⟩:=afs l ak n aH fr rK nH m (j+1) _ xK r2 bl bu (by omega) cE;refine⟨eZ,oI,?_,bo,b0,λx=>?_⟩;.simp only[Oh,go_sem,yT ((j:Int)<(fr.length:Int)),w5 ai,jk,r1,cl (bt:=false) (i:=j) (by omega),bb]
   rw[eR,bT,mR];simp only[xas,exists_eq_or_imp,or_assoc]
  have:j=fr.length:=by omega
  subst this;refine⟨M,S,?_,c6,c3,λx=>by simp⟩;simp only[Oh,go_sem,yF ((fr.length:Int)<fr.length)]
def aft(l:List bm){B:Nat}(ak:h4 B l)(n:Nat)(aH:3*B+200<n)(fr:List Nat)(rK:∀i∈fr,i<l.length)(nH:fr.length<1000000000):∀(m j:Nat)(S:List Nat)(M:List (Value×D)),fZ M S->ju l.length S->CT l S->fr.length-j<m->j<=fr.length-> ∃eZ oI,bA (Oi n) m [dr fr,J fr.length,J (j:Int),.mp M,ik (l.map λd=>dQ l d.e)]=some (.inl [.mp eZ])/\fZ eZ oI/\ju l.length oI/\∀x,x∈oI↔x∈S\/∃i∈fr.drop j,∃k∈to l i,kP (to l) k x
 |0,_,_,_,_,_,_,h,_=>absurd h (xar _)
 |m+1,j,S,M,c6,c3,b5,hm,aR=>by
  have bz:=ak.len;rw[l1];by_cases cE:j<fr.length
  .have ai:=xab cE;generalize fr[j]=i at ai;have ag:=rK i (xad ai);have mR:fr.drop j=i::fr.drop (j+1):=by
    obtain⟨bS,bP⟩:=xae.1 ai;rw[xaV bS,bP]
   have nr:=c3.len;obtain⟨xK,r1,r2⟩:=V9 l ak n i S M ag c6 c3 (by omega);obtain⟨bl,bu,bT⟩:=afr l i n S c3 b5 (by omega);obtain⟨eZ,oI,bb,bo,b0,eR⟩:=aft l ak n aH fr rK nH m (j+1) _ xK r2 bl bu (by omega) cE;refine⟨eZ,oI,?_,bo,b0,λx=>?_⟩;.simp only[Oi,go_sem,yT ((j:Int)<(fr.length:Int)),w5 ai,jk,r1,cl (bt:=false) (i:=j) (by omega),bb]
   rw[eR,bT,mR];simp only[xas,exists_eq_or_imp,or_assoc]
  have:j=fr.length:=by omega
  subst this;refine⟨M,S,?_,c6,c3,λx=>by simp⟩;simp only[Oi,go_sem,yF ((fr.length:Int)<fr.length)]
theorem Wi(l:List bm):bZ (aJ l)=true:=rfl
theorem afu(l:List (List Nat)):bZ (ik l)=true:=rfl
def fZ.FT{M:List (Value×D)}{S:List Nat}(h:fZ M S):True:=trivial
def axV(l:List bm){B:Nat}(ak:h4 B l)(n:Nat)(aH:3*B+200<n)(fr:List Nat)(rK:∀i∈fr,i<l.length)(nH:fr.length<n)(Wj:fr.length<1000000000): ∃M S,IK n [ik (l.map λd=>dQ l d.e),dr fr]=some [.mp M]/\fZ M S/\∀x,x∈S↔∃i∈fr,∃k∈to l i,kP (to l) k x:=by have bK:(J ((0:Nat):Int))=J 0:=rfl;obtain⟨M,S,bb,bo,b0,eR⟩:=afs l ak n aH fr rK Wj n 0 [] [] fZ.nil ⟨by simp,by simp⟩ (by intro x af;cases af) (by omega) (xah _);refine⟨M,S,?_,bo,λx=>by rw[eR];simp⟩;rw[bK]at bb;simp only[IK,go_sem,afu,qT,bb]
def axW(l:List bm){B:Nat}(ak:h4 B l)(n:Nat)(aH:3*B+200<n)(fr:List Nat)(rK:∀i∈fr,i<l.length)(nH:fr.length<n)(Wj:fr.length<1000000000): ∃M S,EE n [ik (l.map λd=>dQ l d.e),dr fr]=some (.mp M)/\fZ M S/\∀x,x∈S↔∃i∈fr,∃k∈to l i,kP (to l) k x:=by have bK:(J ((0:Nat):Int))=J 0:=rfl;obtain⟨M,S,bb,bo,b0,eR⟩:=aft l ak n aH fr rK Wj n 0 [] [] fZ.nil ⟨by simp,by simp⟩ (by intro x af;cases af) (by omega) (xah _);refine⟨M,S,?_,bo,λx=>by rw[eR];simp⟩;rw[bK]at bb;simp only[EE,acy,go_sem,afu,qT,bb]
def axX(l:List bm){B:Nat}(ak:h4 B l)(n:Nat)(aH:3*B+200<n)(i:Nat)(ag:i<l.length): ∃M,EE n [ik (l.map λd=>dQ l d.e),D.aE 1 [[J (i:Int)]]]=some (.mp M)/\k6 (.int .i64) (.bool false) false M (J (i:Int))=some (ax (jW l i)):=by
 obtain⟨M,S,bb,bo,b0⟩:=axW l ak n aH [i] (by simpa using ag) (by simp;omega) (by simp);refine⟨M,bb,?_⟩;rw[bo.look (z:= .bool false)];have:(i∈S)↔jW l i=true:=by rw[b0,V6];simp
 congr 2
 by_cases h:i∈S;.rw[this.1 h];simp[h]
 have bL:jW l i=false:=by cases ae:jW l i with|false=>rfl|true=>exact absurd (this.2 ae) h
 rw[bL];simp[h]
def po(l:List bm)(t:Tm):Bool:=(lD l (dQ l t)).all λx=>!jW l x
def afv(l:List bm)(t:Tm):po l t=true↔FQ l t:=by simp[po,FQ]
def axY(n:Nat)(l:List bm){M:List (Value×D)}(c6:PF M l)(N t:D)(l3:List ByteArray)(a b c d e f g h:D)(ad:l3.length<n)(ae:l3.length<100000000):bA (EG n) n [aJ l,.mp M,N,dP l3,J l3.length,J 0,a,b,c,d,e,f,g,h,D.aE 1 []]=some (.inl [aJ l,N,a,b,c,d,e,f,g,h,dr (l3.filterMap (dB l))]):=by
 have bK:(J ((0:Nat):Int))=J 0:=rfl;have aZ:dr []=D.aE 1 []:=rfl;have gM:∀x,D.aE 1 (aP (dr x))=dr x:=λ_=>rfl;have aR:=dp (f:=EG n) l3 (λj (s:List Nat)=>[aJ l,.mp M,N,dP l3,J l3.length,J (j:Int),a,b,c,d,e,f,g,h,dr s]) (λr s=>(.inl [aJ l,N,a,b,c,d,e,f,g,h,dr (s++r.filterMap (dB l))]:List D⊕D)) (λj s=>s.length<=j) ?_ ?_ n 0 [] (by simp) (by omega) (xah _)
 .rw[bK,aZ]at aR;simpa using aR
 .intro s _;simp only[EG,go_sem,yF ((l3.length:Int)<l3.length),gM,List.filterMap_nil,xaD]
 intro j b' s an aR aD;have af:=KT an;have iA:=En c6.1 (z:= .int .i64 0) (x:=b');rw[c6.2]at iA;left;cases aF:dB l b' with
 |none=>rw[aF]at iA;simp only[xbs]at iA;refine⟨s,?_,by simp[aF],by omega⟩;simp only[EG,go_sem,yT ((j:Int)<(l3.length:Int)),af,jk,nO,iA,gM,cl (bt:=false) (i:=j) (by omega)]
 |some k=>
  rw[aF]at iA;simp only[xaQ]at iA;have eo:dd (s.length+1) 8=true:=gC (by omega) (by omega);have a6:D.aE 1 (aP (dr s)++[[J (k:Int)]])=dr (s++[k]):=by simp[dr]
  have b2:(aP (dr s)).length=s.length:=by simp[dr]
  refine⟨s++[k],?_,by simp[aF],by simp;omega⟩;simp only[EG,go_sem,yT ((j:Int)<(l3.length:Int)),af,jk,nO,iA,gM,a6,b2,xax,xaP,xaz,eo,cl (bt:=false) (i:=j) (by omega)]
def afw(n:Nat)(fr:List Nat)(L N a b c d e f g h:D)(ae:fr.length<100000000):∀(m j:Nat)(S:List Nat)(M:List (Value×D)),fZ M S->fr.length-j<m->j<=fr.length-> ∃eZ oI,bA (Ok n) m [L,N,dr fr,J fr.length,J (j:Int),a,b,c,d,e,f,g,h,.mp M]=some (.inl [L,N,a,b,c,d,e,f,g,h,.mp eZ])/\fZ eZ oI/\∀x,x∈oI↔x∈S\/x∈fr.drop j
 |0,_,_,_,_,h,_=>absurd h (xar _)
 |m+1,j,S,M,c6,hm,aR=>by
  rw[l1];by_cases cE:j<fr.length
  .have ai:=xab cE;generalize fr[j]=i at ai;have mR:fr.drop j=i::fr.drop (j+1):=by
    obtain⟨bS,bP⟩:=xae.1 ai;rw[xaV bS,bP]
   obtain⟨xK,fu,eQ⟩:=c6.put i;obtain⟨eZ,oI,bb,bo,b0⟩:=afw n fr L N a b c d e f g h ae m (j+1) _ xK eQ (by omega) cE;refine⟨eZ,oI,?_,bo,λx=>?_⟩;.simp only[Ok,go_sem,yT ((j:Int)<(fr.length:Int)),w5 ai,jk,fu,cl (bt:=false) (i:=j) (by omega),bb]
   rw[b0,mR,xas];by_cases ag:i∈S
   .rw[xac ag];constructor
    .rintro(h|h);.exact .inl h
     exact .inr (.inr h)
    rintro(h|rfl|h);.exact .inl h
    .exact .inl ag
    exact .inr h
   rw[xaa ag];simp only[xaJ,xbr,or_assoc]
  have:j=fr.length:=by omega
  subst this;refine⟨M,S,?_,c6,λx=>by simp⟩;simp only[Ok,go_sem,yF ((fr.length:Int)<fr.length)]
def axZ(n:Nat)(l:List bm){B:Nat}(ak:h4 B l)(aH:3*B+200<n){M:List (Value×D)}{S:List Nat}(c6:fZ M S)(a b c d e f g h:D):bA (BB n) n [aJ l,ik (l.map λd=>dQ l d.e),J l.length,J 0,a,b,c,d,e,f,g,h,.mp M]=some (if(List.range l.length).all (λi=>!(decide (i∈S)&&jW l i))then .inl [aJ l,a,b,c,d,e,f,g,h]else .inr (.aU [eS.d,J 14])):=by
 have bz:=ak.len;have vO:=ak.b;have bK:(J ((0:Nat):Int))=J 0:=rfl;have hzero:D.agg [J 0,J 0,aI ⟨#[]⟩,D.val (.slice none 0 0)]=eS.d:=NY.symm;have aR:=dp (f:=BB n) (List.range l.length) (λj (s:Unit)=>[aJ l,ik (l.map λd=>dQ l d.e),J l.length,J (j:Int),a,b,c,d,e,f,g,h,.mp M]) (λr s=>(if r.all (λi=>!(decide (i∈S)&&jW l i))then .inl [aJ l,a,b,c,d,e,f,g,h]else .inr (.aU [eS.d,J 14]):List D⊕D)) (λj s=>True) ?_ ?_ n 0 () trivial (by simp;omega) (xah _)
 .rw[bK]at aR;simpa using aR
 .intro s _;rw[List.length_range];simp only[BB,go_sem,yF ((l.length:Int)<l.length),xbx]
 intro j b' s an aR aD;rw[List.length_range]at aR;have K1:b'=j:=by rw[xcd aR]at an;exact(xba an).symm
 subst K1;have iA:=c6.look (i:=b') (z:= .bool false);obtain⟨M2,r1,r2⟩:=axX l ak n aH b' aR;have gM:nO (D.mp M2)=some M2:=rfl;by_cases c3:b'∈S
 .by_cases aw:jW l b'=true;.right;rw[aw]at r2;simp only[BB,go_sem,yT ((b':Int)<(l.length:Int)),iA,xag c3,r1,gM,r2,hzero,xaH,aw,xbe]
  have o0:jW l b'=false:=by simpa using aw
  left;rw[o0]at r2;refine⟨(),?_,by simp only[xaH,o0,xcg,xbK,xaU],trivial⟩;simp only[BB,go_sem,yT ((b':Int)<(l.length:Int)),iA,xag c3,r1,gM,r2,cl (bt:=false) (i:=b') (by omega)]
 left;refine⟨(),?_,by simp only[xaH,xao c3,xbe,xbK,xaU],trivial⟩;have aZ:∀(x:Option D)(f:D->Option (List D⊕(List D⊕D))),R (dA (ax false) true x) (λv=>R (fW (ax false) v (ax false)) f)=f (ax false):=λ_ _=>rfl;simp only[BB,go_sem,yT ((b':Int)<(l.length:Int)),iA,xao c3,aZ,cl (bt:=false) (i:=b') (by omega)]
inductive uk(C:Nat):Tm->Prop where
 |mk (o m:Int) (s:ByteArray) (b:Bool) (ks:List Tm) (ak:ks.length<=C) (ai:∀k∈ks,uk C k):uk C (.mk o m s b ks)
def jX.ok{l:List bm}{B:Nat}(ak:h4 B l):∀{h:Nat}{t X:Tm},jX l h t X->t.bR->t.a9<=B->X.bR/\uk B X
 |0,_,_,H,_,_=>H.elim
 |h+1,t,X,H,a4,aQ=>by
  rcases H with⟨aC,i,d,ag,aF,h3⟩|⟨iN,ks,rfl,eH,CS⟩;.have h6:=ak.e d (xad aF);exact h3.ok ak h6.1 h6.2
  have key:∀k∈ks,k.bR/\uk B k:=by intro k ai;obtain⟨j,aR⟩:=xaK.1 ai;have cE:=(xae.1 aR).1;have aB:t.al[j]?=some (t.al[j]'(by omega)):=xab (by omega);have hm:=xad aB;have bF:=Tm.fb hm;exact(CS j _ k aB aR).ok ak (a4.cL hm) (by omega)
  have oA:=t.g9;have bz:=a4.len;obtain⟨fu,eQ,iv⟩:(-9223372036854775808<=t.op/\t.op<=9223372036854775807)/\(-9223372036854775808<=t.num/\t.num<=9223372036854775807)/\t.name.size<=140737488355328:=by cases a4 with|mk o n s b ks aC aH aD ak ai=>exact⟨aC,aH,aD⟩
  exact⟨.mk _ _ _ _ _ fu eQ iv (by omega) λk ai=>(key k ai).1,.mk _ _ _ _ _ (by omega) λk ai=>(key k ai).2⟩
def uk.cL{C:Nat}{t k:Tm}(h:uk C t)(ai:k∈t.al):uk C k:=by cases h with|mk o m s b ks ak eF=>exact eF k ai
def uk.len{C:Nat}{t:Tm}(h:uk C t):t.al.length<=C:=by cases h;assumption
theorem Tm.rf(t:Tm):t.a9=2+Tm.c7 t.al:=by cases t;rw[Tm.a9];rfl
def ax0(C:Nat)(X:Tm):∀(deep n:Int),X.bR->uk C X->(fc X deep n).1.bR/\((fc X deep n).1.a9:Int)<=(2+3*(C:Int))*((fc X deep n).2-n):=by
 refine Tm.ind (P:=λX=>∀(deep n:Int),X.bR->uk C X->(fc X deep n).1.bR/\((fc X deep n).1.a9:Int)<=(2+3*(C:Int))*((fc X deep n).2-n)) ?_ X;intro t ih deep n a4 hw;generalize gA:(2+3*(C:Int))=K at*;have key:∀(ks:List Tm),(∀k∈ks,∀(deep n:Int),(fc k deep n).1.bR/\((fc k deep n).1.a9:Int)<=K*((fc k deep n).2-n))->∀(n:Int),(∀k∈(gG ks deep n).1,k.bR)/\(Tm.c7 (gG ks deep n).1:Int)<=K*((gG ks deep n).2-n)+3*(ks.length:Int):=by
  intro ks
  induction ks with
  |nil=>intro _ n;simp[gG,Tm.c7]
  |cons a r kN=>
   intro h n;have ad:=h a (by simp) (deep+1) n;rw[gG];split
   .have ae:=kN (λk ai=>h k (by simp[ai])) (fc a (deep+1) n).2;refine⟨?_,?_⟩
    .intro k ai;rcases xas.1 ai with rfl|ai
     .exact ad.1
     exact ae.1 k ai
    have e:K*((gG r deep (fc a (deep+1) n).2).2-n)=K*((fc a (deep+1) n).2-n)+K*((gG r deep (fc a (deep+1) n).2).2-(fc a (deep+1) n).2):=by rw[<-Int.mul_add];congr 1;omega
    simp only[Tm.c7,xax];rw[e];omega
   have ae:=kN (λk ai=>h k (by simp[ai])) n;refine⟨?_,?_⟩
   .intro k ai;rcases xas.1 ai with rfl|ai
    .exact y1
    exact ae.1 k ai
   have e:eS.a9=2:=rfl;simp only[Tm.c7,xax,e];omega
 rw[Wf];split
 .rename_i he;have:t.al=[]:=by simpa using he
  have aZ:t.a9=2:=by rw[Tm.rf,this];rfl
  refine⟨a4,?_⟩;simp only[aZ];have a6:K*(n+1-n)=K:=by rw[show n+1-n=(1:Int) by omega];exact Int.mul_one K
  rw[a6];omega
 obtain⟨cK,dV⟩:=key t.al (λk ai deep n=>ih k ai deep n (a4.cL ai) (hw.cL ai)) (n+1);have bz:=a4.len;have aFM:=hw.len;obtain⟨fu,eQ,iv⟩:(-9223372036854775808<=t.op/\t.op<=9223372036854775807)/\(-9223372036854775808<=t.num/\t.num<=9223372036854775807)/\t.name.size<=140737488355328:=by cases a4 with|mk o n s b ks aC aH aD ak ai=>exact⟨aC,aH,aD⟩
 refine⟨.mk _ _ _ _ _ fu eQ iv (by rw[PN];omega) cK,?_⟩;rw[Tm.rf];have e:K*((gG t.al deep (n+1)).2-n)=K+K*((gG t.al deep (n+1)).2-(n+1)):=by
  have:(gG t.al deep (n+1)).2-n=1+((gG t.al deep (n+1)).2-(n+1)):=by omega
  rw[this,Int.mul_add,Int.mul_one]
 show((2+Tm.c7 (gG t.al deep (n+1)).1:Nat):Int)<=_;rw[e];omega
def afx{l:List bm}{B h:Nat}(ak:h4 B l){t X:Tm}(H:jX l h t X)(a4:t.bR)(aQ:t.a9<=B):(fc X 1 0).1.bR/\(fc X 1 0).1.a9<=8194+12291*B:=by obtain⟨ad,ae⟩:=H.ok ak a4 aQ;obtain⟨az,a3⟩:=ax0 B X 1 0 ad ae;refine⟨az,?_⟩;have a1:=afm X 1 0;have AY:=a1.2 (by omega);have hm:(2+3*(B:Int))*((fc X 1 0).2-0)<=(2+3*(B:Int))*4097:=Int.mul_le_mul_of_nonneg_left (by omega) (by omega);omega
def ax1{l:List bm}{B:Nat}(ak:h4 B l)(n h:Nat)(t X:Tm)(H:jX l h t X)(a4:t.bR)(aQ:t.a9<=B)(aH:h+2*B+200<n):IP n [t.d,aJ l]=some (fc X 1 0).1.d:=by have bz:=ak.len;have vO:=ak.b;obtain⟨M,gu,lr⟩:=V3 n l (by omega) (by omega);have aw:=afp ak lr n h t X 1 0 H a4 aQ (by omega) (by omega) (by omega) (by omega) (by omega);have gT:bZ (D.mp M)=true:=rfl;simp only[IP,acz,go_sem,Wi,gu,gT,aw]
def K2{l:List bm}{B:Nat}(ak:h4 B l)(n:Nat)(t:Tm)(a4:t.bR)(aQ:t.a9<=B)(aH:20000*B+20000<n):((cT t 1 0).1≠0->ni n [t.d,aJ l]=some (.aU [eS.d,J (cT t 1 0).1]))/\((cT t 1 0).1=0->po l t=false->ni n [t.d,aJ l]=some (.aU [eS.d,J 14]))/\(∀h X,(cT t 1 0).1=0->po l t=true->jX l h t X->h+2*B+200<n->ni n [t.d,aJ l]=some (.aU [if(cT (fc X 1 0).1 1 0).1=0 then(fc X 1 0).1.d else eS.d,J (cT (fc X 1 0).1 1 0).1])):=by
 have bz:=ak.len;have vO:=ak.b;have hzero:D.agg [J 0,J 0,aI ⟨#[]⟩,D.val (.slice none 0 0)]=eS.d:=NY.symm;have b5:=PD n t (by omega) a4;obtain⟨M,gu,lr⟩:=V3 n l (by omega) (by omega);have cg:=axv n l ak (by omega);have cj:=PE n t (by omega) a4 (by omega);have cm:=FM t;have hE:=axY n l lr (ik (l.map λd=>dQ l d.e)) eS.d (ga 3 t []) (J t.op) (J t.num) (aI t.name) (bc 4 t.nl (Tm.rows t.al)) (J 0) (J 0) (aI ⟨#[]⟩) cv (by omega) (by omega);have dh:(ga 3 t []).filterMap (dB l)=dQ l t:=rfl;rw[dh]at hE;have vP:=PG l t;obtain⟨xK,ax2,r1,r2,r3⟩:=axV l ak n (by omega) (dQ l t) oH (by omega) (by omega);obtain⟨M2,afy,s1,s2,j9⟩:=afw n (dQ l t) (aJ l) (ik (l.map λd=>dQ l d.e)) (J t.op) (J t.num) (aI t.name) (bc 4 t.nl (Tm.rows t.al)) (J 0) (J 0) (aI ⟨#[]⟩) cv (by omega) n 0 ax2 xK r2 (by omega) (xah _);have afz:∀x,x∈afy↔x∈lD l (dQ l t):=by
  intro x;rw[j9,r3,xJ l _ oH,xak];constructor
  .rintro(⟨i,ag,k,ai,aw⟩|h);.exact⟨i,ag,.step i k x ai aw⟩
   exact⟨x,h,.refl x⟩
  rintro⟨i,ag,aw⟩;cases aw with|refl=>exact .inr ag|step _ k _ ai aw=>exact .inl ⟨i,ag,k,ai,aw⟩
 have zF:=axZ n l ak (by omega) s2 (J t.op) (J t.num) (aI t.name) (bc 4 t.nl (Tm.rows t.al)) (J 0) (J 0) (aI ⟨#[]⟩) cv;have gz:(List.range l.length).all (λi=>!(decide (i∈afy)&&jW l i))=po l t:=by
  rw[Bool.eq_iff_iff];simp only[po,xat,xbX,Bool.not_eq_true',Bool.and_eq_false_imp,xau];constructor;.intro h x af;exact h x ((zC l _ oH).inv.2 x af) ((afz x).2 af)
  intro h x af PI;exact h x ((afz x).1 PI)
 rw[gz]at zF;have bK:(J ((0:Nat):Int))=J 0:=rfl;rw[bK]at s1;have gM:∀x,D.aE 1 (aP (dr x))=dr x:=λ_=>rfl;have re:((0:Int) !=0)=false:=rfl;have ey:∀x,(aP (dr x)).length=x.length:=λx=>by simp[dr]
 refine⟨λao=>?_,λao aw=>?_,λh X ao aw H Mx=>?_⟩
 .have uj:((cT t 1 0).1 !=0)=true:=by simpa using ao
  simp only[ni,IS,go_sem,b5,uj,hzero]
 .rw[aw]at zF;simp only[xaq,xaB]at zF;simp only[ni,IS,go_sem,b5,ao,re,gu,cg,cj,KU,hE,gM,ey,r1,qT,s1,eT,zF]
 rw[aw]at zF;simp only[xay]at zF;have e5:=ax1 ak n h t X H a4 aQ Mx;obtain⟨f1,f2⟩:=afx ak H a4 aQ;have Wk:=PD n (fc X 1 0).1 (by omega) f1;by_cases az:(cT (fc X 1 0).1 1 0).1=0
 .rw[az]at Wk;simp only[ni,IS,go_sem,b5,ao,re,gu,cg,cj,KU,hE,gM,ey,r1,qT,s1,eT,zF,e5,Wk,az]
 have uj:((cT (fc X 1 0).1 1 0).1 !=0)=true:=by simpa using az
 simp only[ni,IS,go_sem,b5,ao,re,gu,cg,cj,KU,hE,gM,ey,r1,qT,s1,eT,zF,e5,Wk,az,uj,hzero]
def Wl{l:List bm}{B:Nat}(ak:h4 B l)(n:Nat)(t:Tm)(a4:t.bR)(aQ:t.a9<=B)(aH:20000*B+20000<n):((cT t 1 0).1≠0->np n [t.d,aJ l]=some (.aU [eS.d,J (cT t 1 0).1]))/\((cT t 1 0).1=0->po l t=false->np n [t.d,aJ l]=some (.aU [eS.d,J 14]))/\(∀h X,(cT t 1 0).1=0->po l t=true->jX l h t X->h+2*B+200<n->np n [t.d,aJ l]=some (.aU [if(cT X 1 0).1=0 then(dn X).d else eS.d,J (cT X 1 0).1])):=by
 have bz:=ak.len;have vO:=ak.b;have hzero:D.agg [J 0,J 0,aI ⟨#[]⟩,D.val (.slice none 0 0)]=eS.d:=NY.symm;have b5:=VX n t (by omega) a4;have vP:=PG l t;have an:=V7 l ak n t [] cv (.inr ⟨rfl,rfl⟩) a4 aQ ⟨by simp,by simp⟩ (by simp;omega);have ax3:h5 (to l) n (dQ l t) []=lD l (dQ l t):=V5 (λi k ai=>ma i k ai) n _ (dQ l t) [] ⟨by simp,by simp⟩ oH (by simp;omega) (by simp);rw[ax3]at an;have iy:=zC l (dQ l t) oH;have jh:=iy.inv.len;have bK:(J ((0:Nat):Int))=J 0:=rfl;have re:((0:Int) !=0)=false:=rfl;generalize yp:lD l (dQ l t)=C at*;have Wm:bs (lE [] cv C)=some (J C.length):=by
  unfold lE;split;.rename_i h;rw[h];rfl
  exact qT C
 have afA:∀(i x:Nat),C[i]?=some x->bp 1 (lE [] cv C) (J (i:Int))=some [J (x:Int)]:=by
  intro i x af;unfold lE;split;.rename_i h;have:C=[]:=xaC h;subst this;simp at af
  exact w5 af
 have jt:=dp (f:=Kf n) C (λi (s:Unit)=>[aJ l,lE [] cv C,J (i:Int),J t.op,J t.num,aI t.name,bc 4 t.nl (Tm.rows t.al),J 0,J 0,aI ⟨#[]⟩,cv]) (λr s=>(if r.all (λx=>!jW l x)then .inl [aJ l,J t.op,J t.num,aI t.name,bc 4 t.nl (Tm.rows t.al),J 0,J 0,aI ⟨#[]⟩,cv]else .inr (.aU [eS.d,J 14]):List D⊕D)) (λi s=>True) ?_ ?_ n 0 () trivial (by omega) (xah _)
 .rw[bK,xak]at jt;have xL:C.all (λx=>!jW l x)=po l t:=by rw[po,yp]
  rw[xL]at jt;refine⟨λao=>?_,λao aw=>?_,λh X ao aw H Mx=>?_⟩
  .have uj:((cT t 1 0).1 !=0)=true:=by simpa using ao
   simp only[np,Kg,go_sem,b5,uj,hzero]
  .rw[aw]at jt;simp only[xaq,xaB]at jt;simp only[np,Kg,go_sem,b5,ao,re,an,jt]
  rw[aw]at jt;simp only[xay]at jt;have a1:=Wd ak h n t X 1 0 H a4 aQ (by omega) (by omega) (by omega) (by omega) (by omega);by_cases az:(cT X 1 0).1=0
  .simp only[az,xay]at a1;simp only[np,Kg,go_sem,b5,ao,re,an,jt,a1,az]
  simp only[az,xaB]at a1;simp only[np,Kg,go_sem,b5,ao,re,an,jt,a1,az]
 .intro s _;simp only[Kf,go_sem,Wm,yF ((C.length:Int)<C.length),xbx]
 intro i x s af ag aD;have FU:=xad af;have aw:=axF l ak n x (iy.inv.2 x FU) (by omega);cases zG:jW l x with
 |true=>right;rw[zG]at aw;simp only[Kf,go_sem,Wm,yT ((i:Int)<(C.length:Int)),afA i x af,jk,aw,hzero,xaH,zG,xbe]
 |false=>left;rw[zG]at aw;refine⟨(),?_,by simp only[xaH,zG,xbK,xaU],trivial⟩;simp only[Kf,go_sem,Wm,yT ((i:Int)<(C.length:Int)),afA i x af,jk,aw,cl (bt:=false) (i:=i) (by omega)]
mutual
def kQ:Tm->Tm
 | .mk o m s b ks=> .mk o m s (b&&ks.isEmpty) (zH ks)
def zH:List Tm->List Tm
 |[]=>[]|k::r=>kQ k::zH r
end
def afB:∀l:List Tm,zH l=l.map kQ
 |[]=>rfl|k::r=>by rw[zH,afB r];rfl
theorem K3(t:Tm):kQ t= .mk t.op t.num t.name (t.nl&&t.al.isEmpty) (t.al.map kQ):=by cases t;rw[kQ,afB];rfl
mutual
def afC:∀(X:Tm)(deep n:Int),n<=4096->(cT X deep n).1=0->(fc X deep n).1=kQ X
 | .mk o m s b ks,deep,n,aH=>by
  intro h;rw[fc,kQ];cases ks with
  |nil=>simp[zH]
  |cons k r=>
   simp only[List.isEmpty_cons,xaq,xaB,xcg];rw[cT]at h;by_cases ad:deep>64;.rw[xac ad]at h;cases h
   rw[xaa ad]at h;by_cases ae:iq (.mk o m s b (k::r))≠0;.rw[xac ae]at h;exact absurd h ae
   rw[xaa ae]at h;by_cases az:n+1>4096;.rw[xac az]at h;cases h
   rw[xaa az]at h;rw[afD (k::r) deep (n+1) (by omega) (by omega) h]
def afD:∀(ks:List Tm)(deep n:Int),deep<=64->n<=4096->(e4 ks (deep+1) n).1=0->(gG ks deep n).1=zH ks
 |[],deep,n,_,_=>by simp[gG,zH]
 |k::r,deep,n,aF,aH=>by
  intro h;rw[gG,xac ⟨aF,aH⟩,zH];rw[e4]at h;obtain⟨bb,bo⟩:=PO k (deep+1) n aH;by_cases ao:(cT k (deep+1) n).1=0;.simp only[ao,ne_eq,xbD,xaB]at h;obtain⟨bS,bP,ca⟩:=bo ao;have a1:=(FI k (deep+1) n).2 ao;rw[bS]at h a1;rw[afC k (deep+1) n aH ao,afD r deep _ aF a1 h]
  simp only[ne_eq,ao,xbY,xay]at h
end
def Wn(t:Tm):(kQ t).a9=t.a9:=by
 refine Tm.ind (P:=λt=>(kQ t).a9=t.a9) ?_ t;intro t ih;have key:∀l:List Tm,(∀k∈l,(kQ k).a9=k.a9)->Tm.c7 (l.map kQ)=Tm.c7 l:=by
  intro l
  induction l with
  |nil=>intro _;rfl
  |cons a r kN=>intro h;simp only[xaA,Tm.c7];rw[h a (by simp),kN λk ai=>h k (by simp[ai])]
 rw[Tm.rf,Tm.rf t,K3];show 2+Tm.c7 (t.al.map kQ)=_;rw[key _ ih]
def afE:∀(ks:List Tm),(∀k∈ks,∀(deep n:Int),(cT k deep n).1=0->(k.a9:Int)+1<=3*((cT k deep n).2-n))->∀(deep n:Int),(e4 ks deep n).1=0->(Tm.c7 ks:Int)<=3*((e4 ks deep n).2-n)
 |[],_,deep,n,_=>by simp[e4,Tm.c7]
 |k::r,ai,deep,n,h=>by
  rw[e4]at h⊢;by_cases ao:(cT k deep n).1=0;.simp only[ao,ne_eq,xbD,xaB]at h⊢;have ad:=ai k (by simp) deep n ao;have ae:=afE r (λk eF=>ai k (by simp[eF])) deep _ h;simp only[Tm.c7];omega
  simp only[ne_eq,ao,xbY,xay]at h
def ax4(t:Tm):∀(deep n:Int),(cT t deep n).1=0->(t.a9:Int)+1<=3*((cT t deep n).2-n):=by
 refine Tm.ind (P:=λt=>∀(deep n:Int),(cT t deep n).1=0->(t.a9:Int)+1<=3*((cT t deep n).2-n)) ?_ t;intro t ih deep n h;rw[rb]at h⊢;by_cases ad:deep>64;.rw[xac ad]at h;cases h
 rw[xaa ad]at h⊢;by_cases ae:iq t≠0;.rw[xac ae]at h;exact absurd h ae
 rw[xaa ae]at h⊢;by_cases az:n+1>4096;.rw[xac az]at h;cases h
 rw[xaa az]at h⊢;have:=afE t.al ih (deep+1) (n+1) h;rw[Tm.rf];omega
def fR(op:Int):Int:=if op=1 then 0 else if op=3\/op=4\/op=5\/op=9\/op=13 then 2 else if op=2\/op=6\/op=7\/op=8\/op=10\/op=11\/op=12 then 1 else-1
def ax5(n:Nat)(op:Int):IC n [J op]=some (J (fR op)):=by
 rcases NT op with rfl|rfl|rfl|rfl|rfl|rfl|rfl|rfl|rfl|rfl|rfl|rfl|rfl|rfl|rfl|rfl|rfl|rfl|h
 case inr.inr.inr.inr.inr.inr.inr.inr.inr.inr.inr.inr.inr.inr.inr.inr.inr.inr=>
  have e:∀k:Int,1<=k->k<=18->(op==k)=false:=λk ad ae=>by simp;omega
  have a6:fR op=-1:=by unfold fR;repeat(first|rw[xaa (by omega)]|rw[xac (by omega)])
  simp[IC,acu,e,a6]
 all_goals rfl
def ax6(n:Nat)(op:Int):Fj n [J op]=some (J (fR op)):=by
 rcases NT op with rfl|rfl|rfl|rfl|rfl|rfl|rfl|rfl|rfl|rfl|rfl|rfl|rfl|rfl|rfl|rfl|rfl|rfl|h
 case inr.inr.inr.inr.inr.inr.inr.inr.inr.inr.inr.inr.inr.inr.inr.inr.inr.inr=>
  have e:∀k:Int,1<=k->k<=18->(op==k)=false:=λk ad ae=>by simp;omega
  have a6:fR op=-1:=by unfold fR;repeat(first|rw[xaa (by omega)]|rw[xac (by omega)])
  simp[Fj,adl,e,a6]
 all_goals rfl
def rh(t:Tm):Int:=if(cT t 1 0).1≠0 then(cT t 1 0).1 else if 0<(ga 4 t []).length then 24 else 0
def zI(t:Tm):Bool:=t.op==0&&(t.num==0&&(decide (t.name=⟨#[]⟩)&&decide (t.al.length=0)))
def lF(f:Fm):Int:=if fR f.op<0 then 11 else if f.op=1/\rh f.e≠0 then rh f.e
 else if(f.al.length:Int)≠fR f.op\/(f.op≠1/\zI f.e=false)then 3 else 0
def afF(t:Tm):rh t=0↔(cT t 1 0).1=0/\(ga 4 t []).length=0:=by
 unfold rh;by_cases h:(cT t 1 0).1=0;.simp[h]
 simp[h]
def ax7(n:Nat)(f:Fm)(aH:2*f.e.a9+40<n)(a4:f.bR)(an:f.e.a9<100000000):By n [f.d]=some (J (if f.op≠1 then 0 else rh f.e)):=by
 have ad:=PD n f.e (by omega) a4.e;have ae:=PE n f.e (by omega) a4.e an;by_cases aC:f.op=1
 case neg=>simp[By,Od,aC]
 unfold rh;by_cases aj:(cT f.e 1 0).1=0
 .have dh:bs (dP (ga 4 f.e []))=some (J (ga 4 f.e []).length):=by simp[dP]
  by_cases a3:0<(ga 4 f.e []).length<;>simp[By,Od,aC,ad,aj,ae,dh,a3]
 simp[By,Od,aC,ad,aj]
def ax8(n:Nat)(t:Tm):Ks n [t.d]=some (ax (zI t)):=by unfold zI;simp[Ks,adm];by_cases ad:t.op=0<;>by_cases ae:t.num=0<;>by_cases az:t.name=⟨#[]⟩<;>by_cases a3:t.al=[]<;>simp[ad,ae,az,a3]
def ax9(n:Nat)(f:Fm)(aH:2*f.e.a9+40<n)(a4:f.bR)(an:f.e.a9<100000000):xz n [f.d]=some (J (lF f)):=by
 have ad:=VX n f.e (by omega) a4.e;have ae:=V1 n f.e (by omega) a4.e (by omega);have ai:=ax6 n f.op;have bF:=ax8 n f.e;have dh:bs (kO true (ga 4 f.e []))=some (J (ga 4 f.e []).length):=pk _ _;unfold lF;by_cases ao:fR f.op<0
 .simp[xz,Fk,ai,ao]
 by_cases aC:f.op=1
 .unfold rh;have cK:fR 1=0:=rfl;rw[aC,cK]at ai;by_cases aj:(cT f.e 1 0).1=0
  .by_cases a3:0<(ga 4 f.e []).length;.simp[xz,Fk,ai,aC,ad,aj,ae,dh,a3,cK]
   simp[xz,Fk,ai,aC,ad,aj,ae,dh,a3,cK];by_cases bx:f.al=[]<;>simp[bx]
  simp[xz,Fk,ai,aC,ad,aj,cK]
 simp[xz,Fk,ai,ao,aC,bF];by_cases bx:(f.al.length:Int)=fR f.op;.cases cq:zI f.e<;>simp[bx,cq]
 simp[bx]
mutual
def iE:Fm->Int->Int->Int×Int
 | .mk o t b ks,deep,k=>if deep>64 then(17,k+1)else if lF (.mk o t b ks)≠0 then(lF (.mk o t b ks),k+1)else if k+1>4096 then(4,k+1)else lG ks (deep+1) (k+1)
def lG:List Fm->Int->Int->Int×Int
 |[],_,k=>(0,k)|t::r,deep,k=>if(iE t deep k).1≠0 then iE t deep k else lG r deep (iE t deep k).2
end
theorem FV(t:Fm)(deep k:Int):iE t deep k=if deep>64 then(17,k+1)else if lF t≠0 then(lF t,k+1)else if k+1>4096 then(4,k+1)else lG t.al (deep+1) (k+1):=by cases t;rw[iE];rfl
mutual
def mS:Fm->Int->Int->Int×Int
 | .mk o t b ks,deep,k=>if deep>64 then(17,k)else if lF (.mk o t b ks)≠0 then(lF (.mk o t b ks),k)else if k+1>4096 then(4,k+1)else pq ks (deep+1) (k+1)
def pq:List Fm->Int->Int->Int×Int
 |[],_,k=>(0,k)|t::r,deep,k=>if(mS t deep k).1≠0 then mS t deep k else pq r deep (mS t deep k).2
end
theorem afG(t:Fm)(deep k:Int):mS t deep k=if deep>64 then(17,k)else if lF t≠0 then(lF t,k)else if k+1>4096 then(4,k+1)else pq t.al (deep+1) (k+1):=by cases t;rw[mS];rfl
def afH(t:Fm):∀deep k,(mS t deep k).1=(iE t deep k).1/\((mS t deep k).1=0->(mS t deep k).2=(iE t deep k).2):=by
 refine Fm.ind (P:=λt=>∀deep k,(mS t deep k).1=(iE t deep k).1/\((mS t deep k).1=0->(mS t deep k).2=(iE t deep k).2)) ?_ t;intro t ih deep k;rw[afG,FV];split;.simp
 split;.rename_i h;simp[h]
 split;.simp
 have key:∀(l:List Fm),(∀x∈l,∀deep k,(mS x deep k).1=(iE x deep k).1/\((mS x deep k).1=0->(mS x deep k).2=(iE x deep k).2))->∀deep k,(pq l deep k).1=(lG l deep k).1/\((pq l deep k).1=0->(pq l deep k).2=(lG l deep k).2):=by
  intro l
  induction l with
  |nil=>intro _ deep k;simp[pq,lG]
  |cons a r kN=>
   intro h deep k;rw[pq,lG];have ad:=h a (by simp) deep k;by_cases ae:(iE a deep k).1=0
   .have az:=ad.1.trans ae;have a3:=ad.2 az;simp only[ae,az,ne_eq,xbD,xaB,a3];exact kN (λx af=>h x (by simp[af])) deep _
   have az:(mS a deep k).1≠0:=by rw[ad.1];exact ae
   simp only[ne_eq,ae,az,xbY,xay];exact⟨ad.1,λh=>h.elim⟩
 exact key t.al ih _ _
def afI(t:Fm):∀(deep k:Int),k+1<=(iE t deep k).2/\((iE t deep k).1=0->(iE t deep k).2<=4096):=by
 refine Fm.ind (P:=λt=>∀(deep k:Int),k+1<=(iE t deep k).2/\((iE t deep k).1=0->(iE t deep k).2<=4096)) ?_ t;intro t ih deep k;rw[FV];split;.simp
 split;.rename_i h;simp[h]
 split;.simp
 have key:∀(l:List Fm)(deep k:Int),(∀x∈l,∀(deep k:Int),k+1<=(iE x deep k).2/\((iE x deep k).1=0->(iE x deep k).2<=4096))->k<=4096->k<=(lG l deep k).2/\((lG l deep k).1=0->(lG l deep k).2<=4096):=by
  intro l
  induction l with
  |nil=>intro deep k _ h;simp[lG,h]
  |cons a r kN=>
   intro deep k h ai;rw[lG];have ad:=h a (by simp) deep k;split
   .rename_i ae;exact⟨by omega,λaz=>absurd az ae⟩
   rename_i ae;simp only[ne_eq,Decidable.not_not]at ae;have az:=kN deep (iE a deep k).2 (λx af=>h x (by simp[af])) (ad.2 ae);exact⟨by omega,az.2⟩
 exact key t.al (deep+1) (k+1) ih (by omega)
def afJ:∀(n:Nat)(t:Fm)(deep k:Int),2*t.a9+40<n->t.bR->t.a9<100000000->0<=deep->deep<=65->0<=k->k<=4096->vC n [t.d,J deep,J k]=some (.aU [J (mS t deep k).1,J (mS t deep k).2])
 |0,t,_,_,h,_,_,_,_,_,_=>absurd h (xar _)
 |n+1,t,deep,k,aH,a4,an,ad,ae,az,a3=>by
  have zJ:=t.tn;have a1:=ax9 n t (by omega) a4 (by omega);rw[afG];simp[vC,Vt,mD (bt:=false) (i:=k) (by omega) (by omega),a1];by_cases aF:64<deep
  .simp[aF]
  simp[aF];by_cases hw:lF t=0
  case neg=>simp[hw]
  simp[hw];by_cases aj:4096<k+1;.simp[aj]
  simp[aj];have ak:=dp (f:=Pd (vC n) n) t.al (λi s=>[J deep,J s,J (i:Int),J t.op,J t.e.op,J t.e.num,aI t.e.name,bc 4 t.e.nl (Tm.rows t.e.al),bc 6 t.nl (Fm.rows t.al)]) (λr (s:Int)=>if(pq r (deep+1) s).1=0 then(Sum.inl [J (pq r (deep+1) s).2]:List D⊕D)else .inr (.aU [J (pq r (deep+1) s).1,J (pq r (deep+1) s).2])) (λi s=>0<=s/\s<=4096) ?_ ?_ n 0 (k+1) ⟨by omega,by omega⟩ (by have:=t.g9;omega) (xah _)
  .have bK:(J ((0:Nat):Int))=J 0:=rfl;rw[bK]at ak;rw[ak];simp only[xak,et,ck,ch,b7,aG,a7,bJ,cV,dC,dW,b1,bB,eh,dX,c1,cA,fl,di,dT,eO];by_cases ao:(pq t.al (deep+1) (k+1)).1=0;.simp[ao]
   simp[ao]
  .intro s aD;simp[Pd,pq]
  intro i a s aB ag aD;have hm:=xad aB;have bF:=Fm.fb hm;have bz:=a4.len;have aw:=afJ n a (deep+1) s (by omega) (a4.cL hm) (by omega) (by omega) (by omega) aD.1 aD.2;have jM:=afI a (deep+1) s;have Wo:=afH a (deep+1) s;simp[Pd,ag,Fm.dz aB,mD (bt:=false) (i:=deep) (by omega) (by omega),aw,cl (bt:=false) (i:=i) (by omega),pq];by_cases ao:(mS a (deep+1) s).1=0
  .left;simp only[ao];have bx:=Wo.2 ao;have cq:=Wo.1▸ao;refine⟨(mS a (deep+1) s).2,by simp,by simp,by omega,by rw[bx];exact jM.2 (by rw[<-Wo.1];exact ao)⟩
  right;simp[ao]
def iF(f:Fm):Int:=(iE f 1 0).1
def FW(n:Nat)(f:Fm)(aH:2*f.a9+50<n)(a4:f.bR)(an:f.a9<100000000):q6 n [f.d]=some (J (iF f)):=by have:=afJ n f 1 0 (by omega) a4 an (by omega) (by omega) (by omega) (by omega);have e:=(afH f 1 0).1;simp[q6,adn,this,e,iF]
def aya(n:Nat)(f:Fm)(deep k w:Int)(aH:2*f.a9+40<n)(a4:f.bR)(an:f.a9<100000000)(ad:0<=k)(ae:k<=4096):∃e,e=(if deep>64 then 17 else if lF f≠0 then lF f else if k+1>4096 then 4 else w)/\ID n [f.d,J deep,J k,J w]=some [ax (decide (e=0)),J (k+1),J e]:=by
 refine⟨_,rfl,?_⟩;have zJ:=f.tn;have a1:=ax7 n f (by omega) a4 (by omega);have ai:=ax5 n f.op;have bz:bs (bc 6 f.nl (Fm.rows f.al))=some (J f.al.length):=by simp
 have FX:(f.e.op==0&&(f.e.num==0&&(decide (f.e.name=⟨#[]⟩)&&decide (f.e.al.length=0))))=zI f.e:=rfl;have nT:((f.e.al.length:Int)==0)=decide (f.e.al.length=0):=by by_cases h:f.e.al.length=0<;>simp[h]
 unfold lF;simp only[ID,go_sem,Tm.jm,mD (bt:=false) (i:=k) (by omega) (by omega),a1,ai,nT,Bool.and_assoc,FX];have hw:(w==0)=decide (w=0):=by by_cases h:w=0<;>simp[h]
 generalize zI f.e=oX;by_cases bl:64<deep;.simp[bl]
 by_cases bu:fR f.op<0;.simp[bl,bu]
 by_cases bT:f.op=1
 .have cK:fR 1=0:=rfl;by_cases cM:rh f.e=0;.by_cases cR:f.al=[]<;>by_cases dc:4096<k+1<;>simp[bl,bu,bT,cM,cR,dc,cK,hw]
  simp[bl,bu,bT,cM,cK]
 by_cases cR:(f.al.length:Int)=fR f.op<;>by_cases dc:4096<k+1<;>cases oX<;>simp[bl,bu,bT,cR,dc,hw]
def afK:∀(n:Nat)(t:Fm)(deep k:Int),2*t.a9+45<n->t.bR->t.a9<100000000->0<=deep->deep<=65->0<=k->k<=4096->w9 n [t.d,J deep,J k,J 0]=some [ax (decide ((iE t deep k).1=0)),J (iE t deep k).2,J (iE t deep k).1]
 |0,t,_,_,h,_,_,_,_,_,_=>absurd h (xar _)
 |n+1,t,deep,k,aH,a4,an,ad,ae,az,a3=>by
  obtain⟨e,he,a1⟩:=aya n t deep k 0 (by omega) a4 an az a3;rw[FV];simp only[w9,Uu,go_sem,a1];by_cases KP:e=0
  case neg=>simp[KP];grind
  have aj:¬deep>64/\lF t=0/\¬k+1>4096:=by grind
  simp[KP,aj];have ak:=dp (f:=Oe (w9 n) n) t.al (λi (s:Int)=>[J deep,bc 6 t.nl (Fm.rows t.al),J t.al.length,J (i:Int),J s,J 0]) (λr (s:Int)=>if(lG r (deep+1) s).1=0 then(Sum.inl [J (lG r (deep+1) s).2,J 0]:List D⊕List D)else .inr [ax false,J (lG r (deep+1) s).2,J (lG r (deep+1) s).1]) (λi s=>0<=s/\s<=4096) ?_ ?_ n 0 (k+1) ⟨by omega,by omega⟩ (by have:=t.g9;omega) (xah _)
  .have bK:(J ((0:Nat):Int))=J 0:=rfl;rw[bK]at ak;rw[ak];simp only[xak,et,ck,ch,b7,aG,a7,bJ,cV,dC,dW,b1,bB,eh,dX,c1,cA,fl,di,dT,eO];by_cases ao:(lG t.al (deep+1) (k+1)).1=0;.simp[ao]
   simp[ao]
  .intro s aD;simp[Oe,lG]
  intro i a s aB ag aD;have hm:=xad aB;have bF:=Fm.fb hm;have bz:=a4.len;have aw:=afK n a (deep+1) s (by omega) (a4.cL hm) (by omega) (by omega) (by omega) aD.1 aD.2;have jM:=afI a (deep+1) s;simp[Oe,ag,Fm.dz aB,mD (bt:=false) (i:=deep) (by omega) (by omega),aw,cl (bt:=false) (i:=i) (by omega),lG];by_cases ao:(iE a (deep+1) s).1=0
  .left;exact⟨(iE a (deep+1) s).2,by simp[ao],by simp[ao],by omega,jM.2 ao⟩
  right;simp[ao]
def FY(n:Nat)(f:Fm)(aH:2*f.a9+50<n)(a4:f.bR)(an:f.a9<100000000):qV n [f.d]=some (J (iF f)):=by have:=afK n f 1 0 (by omega) a4 an (by omega) (by omega) (by omega) (by omega);simp[qV,acv,this,iF]
def afL:∀(n:Nat)(t u:Tm),t.a9<n->t.bR->u.bR->vL n [t.d,u.d]=some (ax (nq t u))
 |0,t,_,h,_,_=>absurd h (xar _)
 |n+1,t,u,aH,a4,xM=>by
  have bz:=a4.len;show KH (vL n) n t.d u.d=_;rcases ae6 t u with⟨ad,ae,az,a3⟩|⟨ba,aj⟩
  .have ak:=dp (f:=KG (vL n) n) t.al (λi (_:Unit)=>[J (i:Int),J t.op,J t.num,aI t.name,bc 4 t.nl (Tm.rows t.al),J u.op,J u.num,aI u.name,bc 4 u.nl (Tm.rows u.al)]) (λr _=>if l9 r (u.al.drop (t.al.length-r.length))=true then(.inl []:List D⊕D)else .inr (ax false)) (λ_ _=>True) (λ_ _=>by simp[KG,l9]) ?_ n 0 () trivial (by have:=t.g9;omega) (xah _)
   .have bK:(J ((0:Nat):Int))=J 0:=rfl;rw[bK]at ak;simp only[xak,xbF]at ak;have hB:nq t u=l9 t.al u.al:=by rw[FL];simp[ad,ae,az,a3]
    rw[hB];cases aD:l9 t.al u.al<;>rw[aD]at ak<;>rw[ad,ae,az]at ak<;>simp[KH,ad,ae,az,a3,ak]
   intro i a _ aB ag _;have hm:=xad aB;have bF:=Tm.fb hm;have lH:i<u.al.length:=by omega
   have an:=xab lH;have aw:=afL n a u.al[i] (by omega) (a4.cL hm) (xM.cL (xbb lH));have e:t.al.length-(a::t.al.drop (i+1)).length=i:=by simp;omega
   have dj:t.al.length-(t.al.drop (i+1)).length=i+1:=by rw[xbG];omega
   have mR:u.al.drop i=u.al[i]::u.al.drop (i+1):=xaV lH;rw[e,mR,l9,dj];cases aD:nq a u.al[i];.right;simp[KG,ag,Tm.dz aB,Tm.dz an,aw,aD]
   left;exact⟨(),by simp[KG,ag,Tm.dz aB,Tm.dz an,aw,aD,cl (bt:=false) (i:=i) (by omega)],by simp,trivial⟩
  rw[ba];by_cases ad:t.op=u.op<;>by_cases ae:t.num=u.num<;>by_cases az:t.name=u.name<;>simp[KH,ad,ae,az];have a3:¬((t.al.length:Int)=(u.al.length:Int)):=λa3=>aj ⟨ad,ae,az,by omega⟩;simp[a3]
mutual
def kR:Fm->Fm->Bool
 | .mk o t _ ks,u=>decide (o=u.op)&&(nq t u.e&&(decide (ks.length=u.al.length)&&qm ks u.al))
def qm:List Fm->List Fm->Bool
 |a::r,b::q=>kR a b&&qm r q|[],_=>true|_::_,[]=>true
end
theorem Wp(t u:Fm):kR t u=(decide (t.op=u.op)&&(nq t.e u.e&&(decide (t.al.length=u.al.length)&&qm t.al u.al))):=by cases t;rw[kR];rfl
def xN:∀(n:Nat)(t u:Fm),t.a9<n->t.bR->u.bR->n3 n [t.d,u.d]=some (ax (kR t u))
 |0,t,_,h,_,_=>absurd h (xar _)
 |n+1,t,u,aH,a4,xM=>by
  have bz:=a4.len;have zJ:=t.tn;have nr:=t.g9;have bd:=afL n t.e u.e (by omega) a4.e xM.e;rw[Wp];by_cases bl:t.op=u.op
  case neg=>simp[n3,FC,bl]
  cases bu:nq t.e u.e;.simp[n3,FC,bl,bd,bu]
  by_cases bT:t.al.length=u.al.length
  case neg=>
   have rj:¬((t.al.length:Int)=(u.al.length:Int)):=by omega
   simp[n3,FC,bl,bd,bu,bT,rj]
  have ak:=dp (f:=KI (n3 n) n) t.al (λi (_:Unit)=>[J (i:Int),J t.op,J t.e.op,J t.e.num,aI t.e.name,bc 4 t.e.nl (Tm.rows t.e.al),bc 6 t.nl (Fm.rows t.al),J u.op,J u.e.op,J u.e.num,aI u.e.name,bc 4 u.e.nl (Tm.rows u.e.al),bc 6 u.nl (Fm.rows u.al)]) (λr _=>if qm r (u.al.drop (t.al.length-r.length))=true then(.inl []:List D⊕D)else .inr (ax false)) (λ_ _=>True) (λ_ _=>by simp[KI,qm]) ?_ n 0 () trivial (by omega) (xah _);.have bK:(J ((0:Nat):Int))=J 0:=rfl;rw[bK]at ak;simp only[xak,xbF]at ak;rw[bl]at ak;cases aD:qm t.al u.al<;>rw[aD]at ak<;>simp[n3,FC,bl,bd,bu,bT,ak]
  intro i a _ aB ag _;have hm:=xad aB;have bF:=Fm.fb hm;have lH:i<u.al.length:=by omega
  have an:=xab lH;have aw:=xN n a u.al[i] (by omega) (a4.cL hm) (xM.cL (xbb lH));have e:t.al.length-(a::t.al.drop (i+1)).length=i:=by simp;omega
  have dj:t.al.length-(t.al.drop (i+1)).length=i+1:=by rw[xbG];omega
  have mR:u.al.drop i=u.al[i]::u.al.drop (i+1):=xaV lH;rw[e,mR,qm,dj];cases aD:kR a u.al[i];.right;simp[KI,ag,Fm.dz aB,Fm.dz an,aw,aD]
  left;exact⟨(),by simp[KI,ag,Fm.dz aB,Fm.dz an,aw,aD,cl (bt:=false) (i:=i) (by omega)],by simp,trivial⟩
mutual
def pr:Tm->Int->Int
 | .mk _ _ _ _ ks,m=>rk ks m
def rk:List Tm->Int->Int
 |[],m=>m|t::r,m=>if 0<=m then rk r (pr t (m-1))else m
end
mutual
def sm:Fm->Int->Int
 | .mk _ e _ ks,m=>rm ks (pr e (m-1))
def rm:List Fm->Int->Int
 |[],m=>m|t::r,m=>if 0<=m then rm r (sm t m)else m
end
theorem ayb(t:Tm)(m:Int):pr t m=rk t.al m:=by cases t;rw[pr];rfl
theorem ayc(t:Fm)(m:Int):sm t m=rm t.al (pr t.e (m-1)):=by cases t;rw[sm];rfl
mutual
def PS:∀(t:Tm)(m:Int),-1<=m->-1<=pr t m/\pr t m<=m/\(0<=pr t m->5*pr t m+t.a9<=5*m+2)
 | .mk o n s b ks,m,h=>by have:=afM ks m h;rw[pr];simp only[Tm.a9];omega
def afM:∀(l:List Tm)(m:Int),-1<=m->-1<=rk l m/\rk l m<=m/\(0<=rk l m->5*rk l m+Tm.c7 l<=5*m)
 |[],m,h=>by simp only[rk,Tm.c7];omega
 |t::r,m,h=>by
  rw[rk];split;.have ad:=PS t (m-1) (by omega);have ae:=afM r (pr t (m-1)) ad.1;simp only[Tm.c7];omega
  omega
end
mutual
def Wq:∀(t:Fm)(m:Int),0<=m->-1<=sm t m/\sm t m<=m-1/\(0<=sm t m->5*sm t m+t.a9+1<=5*m)
 | .mk o e b ks,m,h=>by have ad:=PS e (m-1) (by omega);have ae:=afN ks (pr e (m-1)) ad.1;rw[sm];simp only[Fm.a9];omega
def afN:∀(l:List Fm)(m:Int),-1<=m->-1<=rm l m/\rm l m<=m/\(0<=rm l m->5*rm l m+Fm.c7 l<=5*m)
 |[],m,h=>by simp only[rm,Fm.c7];omega
 |t::r,m,h=>by
  rw[rm];split;.have ad:=Wq t m (by omega);have ae:=afN r (sm t m) ad.1;simp only[Fm.c7];omega
  omega
end
def afO:∀(n:Nat)(t:Tm)(m:Int),t.a9+5<n->t.bR->-1<=m->m<1000000->vj n [t.d,J m]=some (J (pr t m))
 |0,t,_,h,_,_,_=>absurd h (xar _)
 |n+1,t,m,aH,a4,ad,ae=>by
  have bz:=a4.len;have KS:=t.g9;have ak:=dp (f:=Ib (vj n) n) t.al (λi (s:Int)=>[J s,J (i:Int),J t.op,J t.num,aI t.name,bc 4 t.nl (Tm.rows t.al)]) (λr s=>(.inl [J (rk r s)]:List D⊕D)) (λi s=>-1<=s/\s<=m) (λs _=>by simp[Ib,rk]) ?_ n 0 m (by omega) (by omega) (xah _)
  .have bK:(J ((0:Nat):Int))=J 0:=rfl;rw[bK]at ak;simp only[xak]at ak;rw[ayb];simp only[vj,Ui,go_sem,ak]
  intro i a s aB ag aD;have hm:=xad aB;have bF:=Tm.fb hm;by_cases ao:0<=s
  .have aw:=afO n a (s-1) (by omega) (a4.cL hm) (by omega) (by omega);have an:=PS a (s-1) (by omega);left;refine⟨pr a (s-1),?_,by simp[rk,ao],by omega⟩;simp only[Ib,go_sem,yT ((i:Int)<(t.al.length:Int)),yT (s>=0),Tm.dz aB,mA (bt:=false) (a:=s) (b:=1) (by omega) (by omega),aw,cl (bt:=false) (i:=i) (by omega)]
  right;simp only[Ib,go_sem,yT ((i:Int)<(t.al.length:Int)),yF (s>=0),rk,xaa ao]
def afP:∀(n:Nat)(t:Fm)(m:Int),t.a9+10<n->t.bR->0<=m->m<1000000->vk n [t.d,J m]=some (J (sm t m))
 |0,t,_,h,_,_,_=>absurd h (xar _)
 |n+1,t,m,aH,a4,ad,ae=>by
  have bz:=a4.len;have KS:=t.g9;have zJ:=t.tn;have an:=PS t.e (m-1) (by omega);have bd:=afO n t.e (m-1) (by omega) a4.e (by omega) (by omega);have ak:=dp (f:=Ic (vk n) n) t.al (λi (s:Int)=>[J s,J (i:Int),J t.op,J t.e.op,J t.e.num,aI t.e.name,bc 4 t.e.nl (Tm.rows t.e.al),bc 6 t.nl (Fm.rows t.al)]) (λr s=>(.inl [J (rm r s)]:List D⊕D)) (λi s=>-1<=s/\s<=m) (λs _=>by simp[Ic,rm]) ?_ n 0 (pr t.e (m-1)) (by omega) (by omega) (xah _)
  .have bK:(J ((0:Nat):Int))=J 0:=rfl;rw[bK]at ak;simp only[xak]at ak;rw[ayc];simp only[vk,Uj,go_sem,mA (bt:=false) (a:=m) (b:=1) (by omega) (by omega),bd,ak]
  intro i a s aB ag aD;have hm:=xad aB;have bF:=Fm.fb hm;by_cases ao:0<=s
  .have aw:=afP n a s (by omega) (a4.cL hm) (by omega) (by omega);have an:=Wq a s (by omega);left;refine⟨sm a s,?_,by simp[rm,ao],by omega⟩;simp only[Ic,go_sem,yT ((i:Int)<(t.al.length:Int)),yT (s>=0),Fm.dz aB,aw,cl (bt:=false) (i:=i) (by omega)]
  right;simp only[Ic,go_sem,yT ((i:Int)<(t.al.length:Int)),yF (s>=0),rm,xaa ao]
def CU(f:Fm)(m:Int):Bool:=decide (sm f m>=0)
def afQ(n:Nat)(f:Fm)(m:Int)(aH:f.a9+20<n)(a4:f.bR)(ad:0<=m)(ae:m<1000000):Bm n [f.d,J m]=some (ax (CU f m)):=by have:=afP n f m (by omega) a4 ad ae;simp[Bm,ab8,this,CU]
def afR{f:Fm}{m:Int}(h:CU f m=true)(hm:0<=m):(f.a9:Int)+1<=5*m:=by have ad:=xbj h;have ae:=(Wq f m hm).2.2 ad;omega
def kf(t:Fm):Prop:=∃deep k,(iE t deep k).1=0
def kf.one{t:Fm}(h:kf t):lF t=0:=by
 obtain⟨d,k,h⟩:=h;rw[FV]at h;split at h;.cases h
 split at h;.rename_i ae;exact absurd h ae
 rename_i ae;simpa using ae
def ayd{l:List Fm}{d k:Int}(h:(lG l d k).1=0):∀x∈l,kf x:=by
 induction l generalizing k with
 |nil=>intro x af;cases af
 |cons a r ih=>
  intro x af;rw[lG]at h;by_cases ae:(iE a d k).1=0
  .simp only[ae,ne_eq,xbD,xaB]at h;rcases xas.1 af with rfl|af
   .exact⟨d,k,ae⟩
   exact ih h x af
  simp only[ne_eq,ae,xbY,xay]at h
def kf.cL{t k:Fm}(h:kf t)(ai:k∈t.al):kf k:=by
 obtain⟨d,n,h⟩:=h;rw[FV]at h;split at h;.cases h
 split at h;.rename_i ae;exact absurd h ae
 split at h;.cases h
 exact ayd h k ai
def Wr{op:Int}(h:¬fR op<0):op=1\/op=2\/op=3\/op=4\/op=5\/op=6\/op=7\/op=8\/op=9\/op=10\/op=11\/op=12\/op=13:=by
 unfold fR at h;split at h;.exact .inl ‹_›
 split at h;.rename_i ae;omega
 split at h;.rename_i ae;omega
 omega
def kf.len{t:Fm}(h:kf t):(t.al.length:Int)=fR t.op/\¬fR t.op<0:=by
 have ad:=h.one;unfold lF at ad;split at ad;.cases ad
 rename_i ae;refine⟨?_,ae⟩;split at ad;.rename_i az;exact absurd ad az.2
 split at ad;.cases ad
 rename_i a3;simp only[not_or,Decidable.not_not,ne_eq]at a3;exact a3.1
def kf.term{t:Fm}(h:kf t)(aC:t.op=1):rh t.e=0:=by
 have ad:=h.one;unfold lF at ad;have cK:¬fR 1<0:=by decide
 rw[aC,xaa cK]at ad;by_cases ae:rh t.e=0;.exact ae
 rw[xac ⟨rfl,ae⟩]at ad;exact absurd ad ae
def T.qn(t:Tm):[J t.op,J t.num,aI t.name,bc 4 t.nl (Tm.rows t.al)]=t.cells:=(Tm.nh t).symm
def F.um(t:Fm):[J t.op,J t.e.op,J t.e.num,aI t.e.name,bc 4 t.e.nl (Tm.rows t.e.al),bc 6 t.nl (Fm.rows t.al)]=t.cells:=(Fm.nh t).symm
def PQ(s:List Fm)(p:Fm):Fm.rows (s++[p])=Fm.rows s++[p.cells]:=by simp[Fm.jl]
theorem T.gm(t:Tm):D.agg t.cells=t.d:=rfl
theorem F.gm(t:Fm):D.agg t.cells=t.d:=rfl
def afS:∀(n:Nat)(t u:Tm),t.a9<n->t.bR->u.bR->vw n [t.d,u.d]=some (ax (nq t u))
 |0,t,_,h,_,_=>absurd h (xar _)
 |n+1,t,u,aH,a4,xM=>by
  have bz:=a4.len;show JG (vw n) n t.d u.d=_;rcases ae6 t u with⟨ad,ae,az,a3⟩|⟨ba,aj⟩
  .have ak:=dp (f:=JF (vw n) n) t.al (λi (_:Unit)=>[bc 4 t.nl (Tm.rows t.al),J t.al.length,J (i:Int),J u.op,J u.num,aI u.name,bc 4 u.nl (Tm.rows u.al)]) (λr _=>if l9 r (u.al.drop (t.al.length-r.length))=true then(.inl []:List D⊕D)else .inr (ax false)) (λ_ _=>True) (λ_ _=>by simp[JF,l9]) ?_ n 0 () trivial (by have:=t.g9;omega) (xah _)
   .have bK:(J ((0:Nat):Int))=J 0:=rfl;rw[bK]at ak;simp only[xak,xbF]at ak;have hB:nq t u=l9 t.al u.al:=by rw[FL];simp[ad,ae,az,a3]
    rw[hB];rw[a3]at ak;cases aD:l9 t.al u.al<;>rw[aD]at ak<;>simp[JG,ad,ae,az,a3,ak]
   intro i a _ aB ag _;have hm:=xad aB;have bF:=Tm.fb hm;have lH:i<u.al.length:=by omega
   have an:=xab lH;have aw:=afS n a u.al[i] (by omega) (a4.cL hm) (xM.cL (xbb lH));have e:t.al.length-(a::t.al.drop (i+1)).length=i:=by simp;omega
   have dj:t.al.length-(t.al.drop (i+1)).length=i+1:=by rw[xbG];omega
   have mR:u.al.drop i=u.al[i]::u.al.drop (i+1):=xaV lH;rw[e,mR,l9,dj];cases aD:nq a u.al[i];.right;simp[JF,ag,Tm.dz aB,Tm.dz an,aw,aD]
   left;exact⟨(),by simp[JF,ag,Tm.dz aB,Tm.dz an,aw,aD,cl (bt:=false) (i:=i) (by omega)],by simp,trivial⟩
  rw[ba];by_cases ad:t.op=u.op<;>by_cases ae:t.num=u.num<;>by_cases az:t.name=u.name<;>simp[JG,ad,ae,az];have a3:¬((t.al.length:Int)=(u.al.length:Int)):=λa3=>aj ⟨ad,ae,az,by omega⟩;simp[a3]
def zK:∀(n:Nat)(t u:Fm),2*t.a9<n->t.bR->u.bR->n1 n [t.d,u.d]=some (ax (kR t u))
 |0,t,_,h,_,_=>absurd h (xar _)|1,t,_,h,_,_=>by have:=t.lA;omega
 |n+2,t,u,aH,a4,xM=>by
  have bz:=a4.len;have zJ:=t.tn;have nr:=t.g9;have bd:=afS (n+1) t.e u.e (by omega) a4.e xM.e;rw[Wp];by_cases bl:t.op=u.op
  case neg=>simp[n1,EV,bl]
  cases bu:nq t.e u.e;.simp[n1,EV,bl,bd,bu]
  by_cases bT:t.al.length=u.al.length
  case neg=>
   have rj:¬((t.al.length:Int)=(u.al.length:Int)):=by omega
   simp[n1,EV,bl,bd,bu,bT,rj,xr,OU]
  have ak:=dp (f:=JH (xr n) (n1 n) n) t.al (λi (_:Unit)=>[bc 6 u.nl (Fm.rows u.al),bc 6 t.nl (Fm.rows t.al),J t.al.length,J (i:Int)]) (λr _=>if qm r (u.al.drop (t.al.length-r.length))=true then(.inl []:List D⊕D)else .inr (ax false)) (λ_ _=>True) (λ_ _=>by simp[JH,qm]) ?_ n 0 () trivial (by omega) (xah _);.have bK:(J ((0:Nat):Int))=J 0:=rfl;rw[bK]at ak;simp only[xak,xbF]at ak;rw[bT]at ak;cases aD:qm t.al u.al<;>rw[aD]at ak<;>simp[n1,EV,bl,bd,bu,bT,ak,xr,OU]
  intro i a _ aB ag _;have hm:=xad aB;have bF:=Fm.fb hm;have lH:i<u.al.length:=by omega
  have an:=xab lH;have aw:=zK n a u.al[i] (by omega) (a4.cL hm) (xM.cL (xbb lH));have e:t.al.length-(a::t.al.drop (i+1)).length=i:=by simp;omega
  have dj:t.al.length-(t.al.drop (i+1)).length=i+1:=by rw[xbG];omega
  have mR:u.al.drop i=u.al[i]::u.al.drop (i+1):=xaV lH;rw[e,mR,qm,dj];cases aD:kR a u.al[i];.right;simp[JH,ag,Fm.dz aB,Fm.dz an,aw,aD]
  left;exact⟨(),by simp[JH,ag,Fm.dz aB,Fm.dz an,aw,aD,cl (bt:=false) (i:=i) (by omega)],by simp,trivial⟩
def Ws(t:Tm):Tm:= .mk 5 0 ⟨#[]⟩ false [t]
def vR(op:Int):Int:=if op=3 then 4 else if op=4 then 3 else if op=6 then 10 else if op=7 then 12 else if op=8 then 11 else if op=10 then 6 else if op=11 then 8 else 7
mutual
def jb:Fm->Bool->Fm
 | .mk o t b ks,dt=>
  if o=1 then(if dt=true then .mk 1 (Ws t) true []else .mk o t b ks)
  else if o=2 then PT ks (!dt)
  else if o=5 then .mk (if dt=true then 3 else 4) eS false (iG ks (!dt) dt)
  else if o=9\/o=13 then(if dt=true then .mk 2 eS false [.mk o eS false (iG ks false false)]else .mk o eS false (iG ks false false))
  else .mk (if dt=true then vR o else o) eS false (iG ks dt dt)
def PT:List Fm->Bool->Fm
 |[],_=> .mk 0 eS true []|t::_,dt=>jb t dt
def iG:List Fm->Bool->Bool->List Fm
 |[],_,_=>[]|t::r,a,b=>jb t a::iG r b b
end
def PU(t:Fm)(dt:Bool):jb t dt=if t.op=1 then(if dt=true then .mk 1 (Ws t.e) true []else t)
  else if t.op=2 then PT t.al (!dt)
  else if t.op=5 then .mk (if dt=true then 3 else 4) eS false (iG t.al (!dt) dt)
  else if t.op=9\/t.op=13 then(if dt=true then .mk 2 eS false [.mk t.op eS false (iG t.al false false)]else .mk t.op eS false (iG t.al false false))
  else .mk (if dt=true then vR t.op else t.op) eS false (iG t.al dt dt):=by cases t;rw[jb];rfl
def afT:∀(l:List Fm)(b:Bool),iG l b b=l.map λt=>jb t b
 |[],b=>rfl|t::r,b=>by rw[iG,afT r b];rfl
def Wt{t:Fm}(h:kf t)(aC:fR t.op=1):∃a,t.al=[a]:=by
 have:=h.len.1;rw[aC]at this
 match ai:t.al,this with|[a],_=>exact⟨a,rfl⟩|[],h=>simp at h|a::b::r,h=>simp at h;omega
def afU{t:Fm}(h:kf t)(aC:fR t.op=2):∃a b,t.al=[a,b]:=by
 have:=h.len.1;rw[aC]at this
 match ai:t.al,this with|[a,b],_=>exact⟨a,b,rfl⟩|[a],h=>simp at h|[],h=>simp at h|a::b::c::r,h=>simp at h;omega
def K4:∀(l:List Fm)(a b:Bool),(iG l a b).length=l.length
 |[],_,_=>rfl|t::r,a,b=>by simp[iG,K4 r]
def aye(o:Int):3<=vR o/\vR o<=12:=by
 unfold vR
 repeat' split
 all_goals omega
def afV(t:Fm):kf t->t.bR->∀dt,(jb t dt).bR:=by
 refine Fm.ind (P:=λt=>kf t->t.bR->∀dt,(jb t dt).bR) ?_ t;intro t ih aN a4 dt;have key:∀(l:List Fm),(∀x∈l,∀dt,(jb x dt).bR)->∀a b,∀y∈iG l a b,y.bR:=by
  intro l
  induction l with
  |nil=>intro _ a b y aO;cases aO
  |cons x r kN=>
   intro h a b y aO;rw[iG]at aO;rcases xas.1 aO with rfl|aO
   .exact h x (by simp) a
   exact kN (λz bF=>h z (by simp[bF])) b b y aO
 have ai:=key t.al (λx af=>ih x af (aN.cL af) (a4.cL af));have ak:=a4.len;have aC:=a4.op;have m1:∀a b,(iG t.al a b).length*88<=140737488355328:=λa b=>by rw[K4];exact ak
 rw[PU];split
 .split;.refine .mk _ _ _ _ (by omega) (.mk _ _ _ _ _ (by omega) (by omega) (by decide) (by simp) ?_) (by simp) (by simp);intro k ai;simp at ai;subst ai;exact a4.e
  exact a4
 split;.rename_i ae;obtain⟨a,aB⟩:=Wt aN (by rw[ae];rfl);rw[aB];exact ih a (by rw[aB];simp) (aN.cL (by rw[aB];simp)) (a4.cL (by rw[aB];simp)) _
 split;.exact .mk _ _ _ _ (by split<;>omega) y1 (m1 _ _) (ai _ _)
 split
 .split;.refine .mk _ _ _ _ (by omega) y1 (by simp) ?_;intro k eF;simp at eF;subst eF;exact .mk _ _ _ _ aC y1 (m1 _ _) (ai _ _)
  exact .mk _ _ _ _ aC y1 (m1 _ _) (ai _ _)
 refine .mk _ _ _ _ ?_ y1 (m1 _ _) (ai _ _);have:=aye t.op;split<;>omega
theorem Wu(o:Int)(l:List Fm):(Fm.mk o eS false l).d=D.agg [J o,J 0,J 0,aI ⟨#[]⟩,D.val (.slice none 0 0),D.aE 6 (Fm.rows l)]:=rfl
theorem afW(t:Tm):(Fm.mk 1 (Ws t) true []).d=D.agg [J 1,J 5,J 0,aI ⟨#[]⟩,D.aE 4 [t.cells],D.val (.slice none 0 0)]:=rfl
def ayf(n:Nat)(o:Int):KE n [J o]=some (J (vR o)):=by unfold vR;simp only[KE,adw,go_sem];by_cases ad:o=3<;>by_cases ae:o=4<;>by_cases az:o=6<;>by_cases a3:o=7<;>by_cases bx:o=8<;>by_cases cq:o=10<;>by_cases fs:o=11<;>simp[ad,ae,az,a3,bx,cq,fs]
def Wv(n:Nat)(o:Int)(l:List Fm):zw n [J o,D.aE 6 (Fm.rows l)]=some (Fm.mk o eS false l).d:=by rw[Wu];simp[zw,adv]
theorem K5{b:Bool}{a:Fm}{l:List Fm}:bp 6 (bc 6 b (Fm.rows (a::l))) (J 0)=some a.cells:=Fm.dz (i:=0) rfl
theorem Ww{b:Bool}{a c:Fm}{l:List Fm}:bp 6 (bc 6 b (Fm.rows (a::c::l))) (J 1)=some c.cells:=Fm.dz (i:=1) rfl
def afX:∀(n:Nat)(t:Fm)(dt:Bool),t.a9+5<n->t.bR->kf t->t.a9<100000000->ug n [t.d,ax dt]=some (jb t dt).d
 |0,t,_,h,_,_,_=>absurd h (xar _)
 |n+1,t,dt,aH,a4,aN,an=>by
  have bz:=a4.len;have vS:∀a∈t.al,∀dt,ug n [a.d,ax dt]=some (jb a dt).d:=λa aB dt=>afX n a dt (by have:=Fm.fb aB;omega) (a4.cL aB) (aN.cL aB) (by have:=Fm.fb aB;omega);show uf (ug n) n t.d (ax dt)=_;rw[PU];by_cases bl:t.op=1
  .rw[xac bl];have FZ:=F.um t;have aF:D.agg [J 1,J t.e.op,J t.e.num,aI t.e.name,bc 4 t.e.nl (Tm.rows t.e.al),bc 6 t.nl (Fm.rows t.al)]=t.d:=by rw[<-bl];exact Fm.Ba t
   cases dt;.simp[uf,bl,aF]
   simp[uf,bl,afW,T.qn,T.gm]
  by_cases bu:t.op=2;.obtain⟨a,aB⟩:=Wt aN (by rw[bu];rfl);have aw:=vS a (by rw[aB];simp) (!dt);simp[uf,bu,aB,K5,aw,PT]
  by_cases cR:t.op=5
  .obtain⟨a,b,aB⟩:=afU aN (by rw[cR];rfl);have ad:=vS a (by rw[aB];simp);have ae:=vS b (by rw[aB];simp);have ai:=λo=>Wv n o [jb a (!dt),jb b dt];simp only[Fm.rows]at ai;cases dt
   .simp only[xbK]at ai;simp[uf,cR,aB,K5,Ww,ad,ae,F.um,F.gm,ai,iG]
   simp only[xbT]at ai;simp[uf,cR,aB,K5,Ww,ad,ae,F.um,F.gm,ai,iG]
  by_cases qW:t.op=9\/t.op=13;.obtain⟨a,b,aB⟩:=afU aN (by rcases qW with c|c<;>rw[c]<;>rfl);have ad:=vS a (by rw[aB];simp) false;have ae:=vS b (by rw[aB];simp) false;have ai:=λo=>Wv n o [jb a false,jb b false];simp only[Fm.rows]at ai;have afY:=λo (g:Fm)=>Wv n o [g];simp only[Fm.rows]at afY;rcases qW with c|c<;>cases dt<;>simp[uf,c,aB,K5,Ww,ad,ae,F.um,F.gm,ai,afY,iG]
  rw[xaa bl,xaa bu,xaa cR,xaa qW];have ak:=λo':Int=>dp (f:=Pm (ug n) n) t.al (λi (s:List Fm)=>[ax dt,J o',J (i:Int),J t.op,J t.e.op,J t.e.num,aI t.e.name,bc 4 t.e.nl (Tm.rows t.e.al),bc 6 t.nl (Fm.rows t.al),J 0,J 0,J 0,aI ⟨#[]⟩,D.val (.slice none 0 0),D.val (.slice none 0 0),D.aE 6 (Fm.rows s)]) (λr s=>(.inl [J o',J 0,J 0,J 0,aI ⟨#[]⟩,D.val (.slice none 0 0),D.val (.slice none 0 0),D.aE 6 (Fm.rows (s++r.map λt=>jb t dt))]:List D⊕D)) (λi s=>s.length=i) (λs _=>by simp[Pm]) ?_ n 0 [] rfl (by have:=t.g9;omega) (xah _)
  .have bK:(J ((0:Nat):Int))=J 0:=rfl;rw[bK]at ak;simp only[xak,xaO,Fm.rows]at ak;simp only[not_or]at qW;have aC:=ayf n t.op;rw[afT,Wu];cases dt
   .simp[uf,bl,bu,cR,qW,ak]
   simp[uf,bl,bu,cR,qW,ak,aC]
  intro i a s aB ag aD;have hm:=xad aB;have bF:=Fm.fb hm;have aw:=vS a hm dt;have nr:=t.g9;have eo:dd (s.length+1) 88=true:=gC (by omega) (by omega);left;refine⟨s++[jb a dt],?_,by simp,by simp[aD]⟩;simp[Pm,ag,Fm.dz aB,aw,eo,cl (bt:=false) (i:=i) (by omega),F.um,F.gm,PQ]
theorem ayg(n:Nat)(o:Int)(aH:10<n)(h:o=3\/o=4\/o=6\/o=7\/o=8\/o=10\/o=11\/o=12):OQ n [J o]=some (J (vR o)):=by obtain⟨m,rfl⟩:∃m,n=m+10:=⟨n-10,by omega⟩;rcases h with rfl|rfl|rfl|rfl|rfl|rfl|rfl|rfl<;>rfl
def ayh(n:Nat)(t:Fm)(o:Int)(a b:Bool)(aH:t.al.length+5<n)(ae:t.al.length<=2)(vS:∀x∈t.al,∀dt,oF n [x.d,ax dt]=some (jb x dt).d)(r:List D->Option D):OR r (oF n) n (J o) (D.aE 1 [[ax a],[ax b]]) t.cells=some (Fm.mk o eS false (iG t.al a b)).d:=by
 have ey:t.cells[5]?=some (bc 6 t.nl (Fm.rows t.al)):=by rw[Fm.nh];rfl
 have ak:=dp (f:=JC r (oF n) n) t.al (λi (s:List Fm)=>[D.aE 1 [[ax a],[ax b]],bc 6 t.nl (Fm.rows t.al),J t.al.length,J (i:Int),J 0,J 0,J 0,aI ⟨#[]⟩,D.val (.slice none 0 0),D.val (.slice none 0 0),J o,J 0,J 0,aI ⟨#[]⟩,D.val (.slice none 0 0),D.aE 6 (Fm.rows s)]) (λr s=>(.inl [J 0,J 0,J 0,aI ⟨#[]⟩,D.val (.slice none 0 0),D.val (.slice none 0 0),J o,J 0,J 0,aI ⟨#[]⟩,D.val (.slice none 0 0),D.aE 6 (Fm.rows (s++iG r (if s=[]then a else b) b))]:List D⊕D)) (λi s=>s.length=i) (λs _=>by simp[JC,iG]) ?_ n 0 [] rfl (by omega) (xah _);.have bK:(J ((0:Nat):Int))=J 0:=rfl;rw[bK]at ak;simp only[xak,xaO,Fm.rows,xay]at ak;rw[Wu];simp[OR,ey,ak]
 intro i x s af ag aD;have hm:=xad af;have aw:=vS x hm;have eo:dd (s.length+1) 88=true:=gC (by omega) (by omega);have z7:i=0\/i=1:=by omega
 left;refine⟨s++[jb x (if s=[]then a else b)],?_,?_,by simp[aD]⟩
 .rcases z7 with rfl|rfl
  .have oC:s=[]:=xaC aD;subst oC;have Wx:bp 6 (bc 6 t.nl (Fm.rows t.al)) (J 0)=some x.cells:=Fm.dz (i:=0) af;have bK:(J ((0:Nat):Int))=J 0:=rfl;have pR:b9 false .add (J 0) (J 1)=some (J 1):=rfl;have jM:t.al≠[]:=by rintro e;rw[e]at ag;simp at ag
   have bY:(0:Int)<t.al.length:=by omega
   simp[JC,Wx,aw,pR,F.um,F.gm,bY,Fm.rows,dd,jM]
  have oC:s≠[]:=by rintro rfl;simp at aD
  have Wx:bp 6 (bc 6 t.nl (Fm.rows t.al)) (J 1)=some x.cells:=Fm.dz (i:=1) af;have aZ:(J ((1:Nat):Int))=J 1:=rfl;have b4:bp 1 (D.aE 1 [[ax a],[ax b]]) (J 1)=some [ax b]:=rfl;have pR:b9 false .add (J 1) (J 1)=some (J 2):=rfl;have a6:(J ((1+1:Nat):Int))=J 2:=rfl;have bY:(1:Int)<t.al.length:=by omega
  simp[JC,Wx,aw,b4,pR,F.um,F.gm,bY,PQ,oC,eo,a6]
 by_cases oC:s=[];.simp[oC,iG]
 simp[oC,iG]
def Wy:∀(n:Nat)(t:Fm)(dt:Bool),2*t.a9+20<n->t.bR->kf t->t.a9<100000000->oF n [t.d,ax dt]=some (jb t dt).d
 |0,t,_,h,_,_,_=>absurd h (xar _)|1,t,_,h,_,_,_=>by omega
 |n+2,t,dt,aH,a4,aN,an=>by
  have bz:=a4.len;have nr:=t.g9;have vS:∀a∈t.al,∀dt,oF (n+1) [a.d,ax dt]=some (jb a dt).d:=λa aB dt=>Wy (n+1) a dt (by have:=Fm.fb aB;omega) (a4.cL aB) (aN.cL aB) (by have:=Fm.fb aB;omega);have ayi:∀a∈t.al,∀dt,oF n [a.d,ax dt]=some (jb a dt).d:=λa aB dt=>Wy n a dt (by have:=Fm.fb aB;omega) (a4.cL aB) (aN.cL aB) (by have:=Fm.fb aB;omega);have ae:t.al.length<=2:=by
   have:=aN.len.1;have az:fR t.op<=2:=by unfold fR;repeat' split<;>omega
   omega
  have gz:∀(o:Int)(a b:Bool),zc (n+1) [J o,D.aE 1 [[ax a],[ax b]],D.ref t.cells 0]=some (Fm.mk o eS false (iG t.al a b)).d:=λo a b=>ayh n t o a b (by omega) ae ayi _;show xq (zc (n+1)) (oF (n+1)) (n+1) t.d (ax dt)=_;have ayj:=ayg (n+1) t.op (by omega);rw[PU];by_cases bl:t.op=1
  .rw[xac bl];have aF:D.agg [J 1,J t.e.op,J t.e.num,aI t.e.name,bc 4 t.e.nl (Tm.rows t.e.al),bc 6 t.nl (Fm.rows t.al)]=t.d:=by rw[<-bl];exact Fm.Ba t
   cases dt;.simp[xq,bl,aF]
   simp[xq,bl,afW,T.qn,T.gm]
  by_cases bu:t.op=2;.obtain⟨a,aB⟩:=Wt aN (by rw[bu];rfl);have aw:=vS a (by rw[aB];simp) (!dt);simp[xq,bu,aB,K5,aw,PT]
  have FZ:=F.um t;by_cases cR:t.op=5;.rw[cR]at FZ;cases dt<;>simp[xq,cR,FZ,gz,F.gm]
  by_cases qW:t.op=9\/t.op=13
  .rcases qW with c|c<;>rw[c]at FZ<;>cases dt<;>simp[xq,c,FZ,gz,F.gm,F.um]
   all_goals rfl
  rw[xaa bl,xaa bu,xaa cR,xaa qW];simp only[not_or]at qW;have eB:=ayj (by have:=Wr aN.len.2;omega);cases dt<;>simp[xq,bl,bu,cR,qW,FZ,gz,F.gm,eB]
def Wz(n:Nat)(f:Fm)(dt:Bool)(aH:2*f.a9+60<n)(a4:f.bR)(an:f.a9<100000000):tN n [f.d,ax dt]=some (if iF f=0 then jb f dt else f).d:=by
 have aj:=FY n f (by omega) a4 an;by_cases h:iF f=0;.have a1:=Wy n f dt (by omega) a4 ⟨1,0,h⟩ an;simp[tN,U2,aj,h,a1]
 simp[tN,U2,aj,h]
def WA(n:Nat)(f:Fm)(dt:Bool)(aH:2*f.a9+60<n)(a4:f.bR)(an:f.a9<100000000):uh n [f.d,ax dt]=some (if iF f=0 then jb f dt else f).d:=by
 have aj:=FW n f (by omega) a4 an;by_cases h:iF f=0;.have a1:=afX n f dt (by omega) a4 ⟨1,0,h⟩ an;simp[uh,VB,aj,h,a1]
 simp[uh,VB,aj,h]
structure Y where
 b:Bool
 lo:Int
 ag:Int
deriving DecidableEq
def Y.cells(y:Y):List D:=[ax y.b,J y.lo,J y.ag]
def Y.d(y:Y):D:= .agg [ax y.b,J y.lo,J y.ag]
def fK:Y:=⟨false,0,0⟩
def jK:Y:=⟨true,0,0⟩
def Y.lI(y:Y):Prop:=(y.b=true->y.lo=0/\y.ag=0)/\-1048576<=y.lo/\y.lo<=y.ag/\y.ag<=1048576
@[simp] theorem Y.jn (y:Y):aL 3 y.d=true:=rfl
@[simp] theorem Y.aX (y:Y):aa y.d 0=ax y.b:=rfl
@[simp] theorem Y.bl (y:Y):aa y.d 1=J y.lo:=rfl
@[simp] theorem Y.bu (y:Y):aa y.d 2=J y.ag:=rfl
@[simp] theorem Y.Ba (y:Y):D.agg [ax y.b,J y.lo,J y.ag]=y.d:=rfl
@[simp high] theorem Y.bh (y:Y):Go.Am.bh true 3 0 y.cells=some y.d:=rfl
@[simp] theorem Y.gx (y:Y):y.cells[0]?=some (ax y.b):=rfl
@[simp] theorem Y.hH (y:Y):y.cells[1]?=some (J y.lo):=rfl
@[simp] theorem Y.aoJ (y:Y):y.cells[2]?=some (J y.ag):=rfl
@[simp] theorem Y.flat (y:Y):y.d.flat=true:=rfl
@[simp] theorem aFN (y:Y) (e:Int):(D.aU [y.d,J e]).flat=true:=rfl
def hy(lo ag:Int):Y×Int:=if lo< -1048576\/ag>1048576\/lo>ag\/ag-lo>4096 then(fK,2)else(⟨false,lo,ag⟩,0)
def F0{lo ag:Int}(h:(hy lo ag).2=0):(hy lo ag).1.lI:=by
 unfold hy at*;split at h;.cases h
 rename_i aj;rw[xaa aj];exact⟨by simp,by simp;omega,by simp;omega,by simp;omega⟩
theorem afZ(lo ag:Int):(D.aU [(hy lo ag).1.d,J (hy lo ag).2])=if lo< -1048576\/ag>1048576\/lo>ag\/ag-lo>4096 then D.aU [.agg [ax false,J 0,J 0],J 2]else D.aU [.agg [ax false,J lo,J ag],J 0]:=by unfold hy;split<;>rfl
def xO(n:Nat)(lo ag:Int):tF n [J lo,J ag]=some (.aU [(hy lo ag).1.d,J (hy lo ag).2]):=by rw[afZ];have a3:-1048576<=lo->ag<=1048576->lo<=ag->IntKind.i64.wrap (ag-lo)=ag-lo:=λ_ _ _=>wrap64 _ (by omega) (by omega);simp[tF,acB,TS,-T6,-TN];grind
def K6(n:Nat)(lo ag:Int):sh n [J lo,J ag]=some (.aU [(hy lo ag).1.d,J (hy lo ag).2]):=by
 have hw:IntKind.i64.wrap (-1048576)=-1048576:=by decide
 rw[afZ];have a3:-1048576<=lo->ag<=1048576->lo<=ag->IntKind.i64.wrap (ag-lo)=ag-lo:=λ_ _ _=>wrap64 _ (by omega) (by omega);simp[sh,adg,TS,hw,-T6,-TN];grind
def hc(l:List Y):D:= .aE 3 (l.map Y.cells)
def K7{l:List Y}{i:Nat}{y:Y}(h:l[i]?=some y):bp 3 (hc l) (J (i:Int))=some y.cells:=by simp[hc,h]
def ayk(n:Nat)(l:List Y)(aH:l.length<n)(ak:l.length<1000000000):IV n [hc l]=some (.aU [(if l.all Y.b then jK else fK).d,J (if l.all Y.b then 0 else 13)]):=by
 have ag:=dp (f:=IU n) l (λi (s:Unit)=>[hc l,J l.length,J (i:Int),ax false,J 0,J 0]) (λr _=>if r.all Y.b then(Sum.inl [ax false,J 0,J 0]:List D⊕D)else .inr (.aU [fK.d,J 13])) (λ_ _=>True) (λ_ _=>by simp[IU]) ?_ n 0 () trivial (by omega) (xah _)
 .have bK:(J ((0:Nat):Int))=J 0:=rfl;rw[bK]at ag;have bz:bs (hc l)=some (J l.length):=by simp[hc]
  simp only[IV,acC,bz,et,ag,xak,ck,ch,b7,aG,a7,bJ,cV,dC,dW,b1,bB,eh,dX,c1,cA,fl,di,dT,eO];by_cases h:l.all Y.b=true;.simp only[h,xay,qR];rfl
  simp only[h,xaq,xaB,HU]
 intro i a _ aB ag _;have:=K7 aB;cases an:a.b
 .right;simp[IU,ag,this,cl (bt:=false) (i:=i) (by omega),an];rfl
 left;exact⟨(),by simp[IU,ag,this,cl (bt:=false) (i:=i) (by omega),an],by simp[an],trivial⟩
def ayl(n:Nat)(l:List Y)(aH:l.length<n)(ak:l.length<1000000000):Kj n [hc l]=some (ax (l.all Y.b)):=by
 have bz:bs (hc l)=some (J l.length):=by simp[hc]
 have ag:=dp (f:=Ki n) l (λi (s:Unit)=>[hc l,J (i:Int)]) (λr _=>if r.all Y.b then(Sum.inl []:List D⊕D)else .inr (ax false)) (λ_ _=>True) (λ_ _=>by simp[Ki,bz]) ?_ n 0 () trivial (by omega) (xah _)
 .have bK:(J ((0:Nat):Int))=J 0:=rfl;rw[bK]at ag;simp only[Kj,adi,et,ag,xak,ck,ch,b7,aG,a7,bJ,cV,dC,dW,b1,bB,eh,dX,c1,cA,fl,di,dT,eO];by_cases h:l.all Y.b=true;.simp only[h,xay,qR,et,ck,ch,b7,aG,a7,bJ,cV,dC,dW,b1,bB,eh,dX,c1,cA,fl,di,dT,eO]
  simp only[h,xaq,xaB,HU,et,ck,ch,b7,aG,a7,bJ,cV,dC,dW,b1,bB,eh,dX,c1,cA,fl,di,dT,eO]
 intro i a _ aB ag _;have:=K7 aB;cases an:a.b
 .right;simp[Ki,bz,ag,this,cl (bt:=false) (i:=i) (by omega),an]
 left;exact⟨(),by simp[Ki,bz,ag,this,cl (bt:=false) (i:=i) (by omega),an],by simp[an],trivial⟩
def mb(a b:Int):Int:=if b<a then b else a
def gq(a b:Int):Int:=if b>a then b else a
def PV(a b:Int):lW true [J a,J b]=some (J (gq a b)):=abK a b
def WB(a b:Int):lW false [J a,J b]=some (J (mb a b)):=abL a b
theorem aym(a b c d:Int):lW true [J a,J b,J c,J d]=some (J (gq (gq (gq a b) c) d)):=rfl
theorem ayn(a b c d:Int):lW false [J a,J b,J c,J d]=some (J (mb (mb (mb a b) c) d)):=rfl
def zL{x y:Int}(af:-1048576<=x/\x<=1048576)(aO:-1048576<=y/\y<=1048576):-1099511627776<=x*y/\x*y<=1099511627776:=by
 have ad:x.natAbs<=1048576:=by omega
 have ae:y.natAbs<=1048576:=by omega
 have az:(x*y).natAbs<=1048576*1048576:=by rw[Int.natAbs_mul];exact Nat.mul_le_mul ad ae
 omega
def F1(a b:Y):Int:=mb (mb (mb (a.lo*b.lo) (a.lo*b.ag)) (a.ag*b.lo)) (a.ag*b.ag)
def F2(a b:Y):Int:=gq (gq (gq (a.lo*b.lo) (a.lo*b.ag)) (a.ag*b.lo)) (a.ag*b.ag)
def qo(op:Int)(a b:Y):Y×Int:=if op=15 then hy (a.lo-b.ag) (a.ag-b.lo)else if op=14 then hy (a.lo+b.lo) (a.ag+b.ag)else hy (F1 a b) (F2 a b)
def ayo(n:Nat)(op:Int)(a b:Y)(aB:a.lI)(an:b.lI):BD n [J op,a.d,b.d]=some (.aU [(qo op a b).1.d,J (qo op a b).2]):=by
 obtain⟨_,ah,aT,bq⟩:=aB;obtain⟨_,fv,gS,ig⟩:=an;have m8:IntKind.i64.wrap (-b.ag)=-b.ag:=wrap64 _ (by omega) (by omega);have ys:IntKind.i64.wrap (-b.lo)=-b.lo:=wrap64 _ (by omega) (by omega);by_cases ad:op=15
 .subst ad;have aZ:a.lo+-b.ag=a.lo-b.ag:=by omega
  have a6:a.ag+-b.lo=a.ag-b.lo:=by omega
  simp(disch:=omega) [BD,Ol,qo,m8,ys,fg,xO,aZ,a6]
 by_cases ae:op=14;.subst ae;simp(disch:=omega) [BD,Ol,qo,fg,xO]
 have gu:=zL (x:=a.lo) (y:=b.lo) (by omega) (by omega);have lr:=zL (x:=a.lo) (y:=b.ag) (by omega) (by omega);have KV:=zL (x:=a.ag) (y:=b.lo) (by omega) (by omega);have ayp:=zL (x:=a.ag) (y:=b.ag) (by omega) (by omega);simp(disch:=omega) [BD,Ol,qo,ad,ae,NK,xO,aym,ayn,F1,F2]
def ayq(n:Nat)(a b:Y)(aH:6<=n)(aB:a.lI)(an:b.lI):Kk n [a.d,b.d]=some (.aU [J (F1 a b),J (F2 a b)]):=by
 obtain⟨_,ah,aT,bq⟩:=aB;obtain⟨_,fv,gS,ig⟩:=an;have gu:=zL (x:=a.lo) (y:=b.lo) (by omega) (by omega);have lr:=zL (x:=a.lo) (y:=b.ag) (by omega) (by omega);have KV:=zL (x:=a.ag) (y:=b.lo) (by omega) (by omega);have ayp:=zL (x:=a.ag) (y:=b.ag) (by omega) (by omega);obtain⟨k,rfl⟩:∃k,n=k+4:=⟨n-4,by omega⟩;have FJ:c4 4 (J 0)=some 0:=rfl;have fu:c4 4 (J 1)=some 1:=rfl;have eQ:c4 4 (J 2)=some 2:=rfl;have iv:c4 4 (J 3)=some 3:=rfl;unfold F1 F2;simp(disch:=omega) [Kk,adj,NK,FJ];generalize a.lo*b.lo=w at*;generalize a.lo*b.ag=x at*;generalize a.ag*b.lo=y at*;generalize a.ag*b.ag=z at*;have aFO:mb w x=mb w x:=rfl;have step:∀(p q:Int)(i j:Int)(r:Int),i+1=j->(c4 4 (J i)=some i.toNat)->i<4->0<=i->([[J w],[J x],[J y],[J z]]:List (List D))[i.toNat]?=some [J r]->Pa (k+4) [J p,J q,J i,.aE 1 [[J w],[J x],[J y],[J z]]]=some (.inl [J (mb p r),J (gq q r),J j,.aE 1 [[J w],[J x],[J y],[J z]]]):=by intro p q i j r ao ad ae az a3;subst ao;simp(disch:=omega) [Pa,ad,ae,a3,PV,WB,fg]
 rw[l1,step w w 1 2 x rfl rfl (by omega) (by omega) rfl];simp only[et,ck,ch,b7,aG,a7,bJ,cV,dC,dW,b1,bB,eh,dX,c1,cA,fl,di,dT,eO];rw[l1,step _ _ 2 3 y rfl rfl (by omega) (by omega) rfl];simp only[et,ck,ch,b7,aG,a7,bJ,cV,dC,dW,b1,bB,eh,dX,c1,cA,fl,di,dT,eO];rw[l1,step _ _ 3 4 z rfl rfl (by omega) (by omega) rfl];simp only[et,ck,ch,b7,aG,a7,bJ,cV,dC,dW,b1,bB,eh,dX,c1,cA,fl,di,dT,eO];rw[l1];simp[Pa]
def Valid(t:Tm):Prop:=∃deep k:Int,(cT t deep k).1=0
def Valid.PW{t:Tm}(h:Valid t):iq t=0:=by
 obtain⟨deep,k,h⟩:=h;rw[rb]at h;split at h;.cases h
 split at h;.assumption
 rename_i aj;simpa using aj
def af0:∀(l:List Tm)(deep k:Int),(e4 l deep k).1=0->∀x∈l,Valid x
 |[],_,_,_,x,af=>by cases af
 |a::r,deep,k,h,x,af=>by
  rw[e4]at h;split at h;.rename_i aj;exact absurd h aj
  rename_i aj;rcases xas.1 af with rfl|af
  .exact⟨deep,k,by simpa using aj⟩
  exact af0 r deep _ h x af
def Valid.cL{t x:Tm}(h:Valid t)(af:x∈t.al):Valid x:=by
 have hw:=h.PW;obtain⟨deep,k,h⟩:=h;rw[rb]at h;split at h;.cases h
 split at h;.rename_i aj;exact absurd hw aj
 split at h;.cases h
 exact af0 _ _ _ h x af
def Valid.op{t:Tm}(h:Valid t):1<=t.op/\t.op<=18:=by
 have hw:=h.PW;unfold iq at hw;split at hw;.cases hw
 rename_i aj;unfold gK at aj;refine xbf λaH=>?_;simp only[show¬(t.op=1\/t.op=2\/t.op=3\/t.op=4) by omega,show¬t.op=5 by omega,show¬(t.op=6\/t.op=7) by omega,show¬t.op=18 by omega,show(t.op<1\/t.op>18) by omega,xay,xaB]at aj;exact aj (by decide)
def af1{t:Tm}(hw:iq t=0):¬(gK t.op).1<0/\¬((t.num<(if t.op=1 then-255 else 0))\/t.num>(if t.op=1 then 255 else if t.op=2 then 1 else 0))/\ ¬(if FH t.op then t.name=⟨#[]⟩\/t.name.size>24 else t.name≠⟨#[]⟩)/\¬((t.al.length:Int)<(gK t.op).1\/(t.al.length:Int)>(gK t.op).2):=by
 unfold iq at hw;by_cases ad:(gK t.op).1<0;.rw[xac ad]at hw;cases hw
 rw[xaa ad]at hw;by_cases ae:(t.num<(if t.op=1 then-255 else 0))\/t.num>(if t.op=1 then 255 else if t.op=2 then 1 else 0);.rw[xac ae]at hw;cases hw
 rw[xaa ae]at hw;by_cases az:(if FH t.op then t.name=⟨#[]⟩\/t.name.size>24 else t.name≠⟨#[]⟩);.rw[xac az]at hw;cases hw
 rw[xaa az]at hw;by_cases a3:((t.al.length:Int)<(gK t.op).1\/(t.al.length:Int)>(gK t.op).2);.rw[xac a3]at hw;cases hw
 exact⟨ad,ae,az,a3⟩
def Valid.len{t:Tm}(h:Valid t):(gK t.op).1<=t.al.length/\(t.al.length:Int)<=(gK t.op).2:=by have:=(af1 h.PW).2.2.2;omega
def Valid.num{t:Tm}(h:Valid t):-255<=t.num/\t.num<=255/\(t.op≠1->0<=t.num/\t.num<=1)/\(t.op≠1->t.op≠2->t.num=0):=by
 have ae:=(af1 h.PW).2.1;by_cases bl:t.op=1;.simp only[bl,xay]at ae;exact⟨by omega,by omega,by omega,by omega⟩
 by_cases bu:t.op=2;.simp only[bl,bu,xay,xaB]at ae;exact⟨by omega,by omega,by omega,by omega⟩
 simp only[bl,bu,xaB]at ae;exact⟨by omega,by omega,by omega,by omega⟩
def g2(t:Tm)(l:List Y):Y×Int:=if 5<=t.op/\t.op<=9 then if l.all Y.b then(jK,0)else(fK,13)
 else match l with
  |[a,b,c]=>if(!a.b||(b.b !=c.b))then(fK,13)else if b.b then(jK,0)else hy (mb b.lo c.lo) (gq b.ag c.ag)
  |[a,b]=>if t.op=10\/t.op=11 then if a.b !=b.b then(fK,13)else(jK,0)
   else if(a.b||b.b)then(fK,13)
   else if t.op=12\/t.op=13 then(jK,0)
   else if t.op=17 then(match t.al[1]? with
    |some k=>if k.op≠1\/k.num<1 then(fK,2)else hy 0 (k.num-1)
    |none=>(fK,0))
   else qo t.op a b
  |_=>(fK,0)
theorem xP{α:Type}{l:List α}(h:l.length=3):∃a b c,l=[a,b,c]:=by match l,h with|[a,b,c],_=>exact⟨a,b,c,rfl⟩
theorem sn{α:Type}{l:List α}(h:l.length=2):∃a b,l=[a,b]:=by match l,h with|[a,b],_=>exact⟨a,b,rfl⟩
theorem CV{op:Int}(h:op=18):gK op=(3,3):=by subst h;rfl
def zM{op:Int}(h:8<=op/\op<=17):gK op=(2,2):=by unfold gK;rw[xaa (by omega),xaa (by omega),xaa (by omega),xaa (by omega),xaa (by omega)]
def af2{l:List Tm}{b:Bool}{t:Tm}(h:l[1]?=some t):bp 4 (bc 4 b (Tm.rows l)) (J 1)=some t.cells:=Tm.dz (i:=1) h
def PX{l:List Y}{y:Y}(h:l[0]?=some y):bp 3 (hc l) (J 0)=some y.cells:=K7 (i:=0) h
def PY{l:List Y}{y:Y}(h:l[1]?=some y):bp 3 (hc l) (J 1)=some y.cells:=K7 (i:=1) h
def af3{l:List Y}{y:Y}(h:l[2]?=some y):bp 3 (hc l) (J 2)=some y.cells:=K7 (i:=2) h
set_option maxHeartbeats 1000000 in
def ayr(n:Nat)(t:Tm)(l:List Y)(aN:Valid t)(bY:l.length=t.al.length)(eB:5<=t.op)(bV:∀y∈l,y.lI)(aH:100<n):Cp n [t.d,hc l]=some (.aU [(g2 t l).1.d,J (g2 t l).2]):=by
 have uo:=aN.op;have bz:=aN.len;have aX:=Tm.qc t;have bT:=Tm.tl t;have dL:=Tm.jn t;have jv:D.agg [ax false,J 0,J 0]=fK.d:=rfl;have lJ:D.agg [ax true,J 0,J 0]=jK.d:=rfl;have ai:=zM (op:=t.op);have xQ:=CV (op:=t.op);have ays:l.length<=64:=by
  have:(gK t.op).2<=64:=by unfold gK;repeat(first|split|decide)
  omega
 have aQ:=ayl n l (by omega) (by omega);by_cases ad:t.op<=9
 .have e:g2 t l=if l.all Y.b then(jK,0)else(fK,13):=by unfold g2;rw[xac ⟨eB,ad⟩]
  rw[e];have aj:t.op=5\/t.op=6\/t.op=7\/t.op=8\/t.op=9:=by omega
  generalize t.op=op at*;generalize l.all Y.b=q at*;rcases aj with rfl|rfl|rfl|rfl|rfl<;>simp[Cp,Pb,dL,aX,aQ,jv,lJ]<;>cases q<;>simp
 by_cases ae:t.op=18;.rw[xQ ae]at bz;obtain⟨a,b,c,rfl⟩:=xP (l:=l) (by simp at bz;omega);have fw:=PX (l:=[a,b,c]) rfl;have bb:=PY (l:=[a,b,c]) rfl;have bo:=af3 (l:=[a,b,c]) rfl;unfold g2;generalize hc [a,b,c]=L at*;rw[xaa (by omega)];simp[Cp,Pb,dL,aX,ae,fw,bb,bo,jv,lJ,K6,PV,WB];cases a.b<;>cases b.b<;>cases c.b<;>(try simp)
 have az:10<=t.op/\t.op<=17:=by omega
 rw[ai (by omega)]at bz;obtain⟨a,b,rfl⟩:=sn (l:=l) (by simp at bz;omega);have fw:=PX (l:=[a,b]) rfl;have bb:=PY (l:=[a,b]) rfl;have CW:=bV a (by simp);have so:=bV b (by simp);have a1:=ayq n a b (by omega) CW so;obtain⟨_,ah,aT,bq⟩:=CW;obtain⟨_,fv,gS,ig⟩:=so;unfold g2;generalize hc [a,b]=L at*;rw[xaa (by omega)];obtain⟨p0,cK,eH⟩:=sn (l:=t.al) (by simp at bz;omega);have WC:=af2 (l:=t.al) (b:=t.nl) (t:=cK) (by rw[eH];rfl);have ayt:=(aN.cL (x:=cK) (by rw[eH];simp)).num;have s1:IntKind.i64.wrap (cK.num-1)=cK.num-1:=wrap64 _ (by omega) (by omega);have f5:b9 false .sub (J cK.num) (J 1)=some (J (cK.num-1)):=mA (by omega) (by omega);have f1:b9 false .add (J a.lo) (J b.lo)=some (J (a.lo+b.lo)):=fg (by omega) (by omega);have f2:b9 false .add (J a.ag) (J b.ag)=some (J (a.ag+b.ag)):=fg (by omega) (by omega);have f3:b9 false .sub (J a.lo) (J b.ag)=some (J (a.lo-b.ag)):=mA (by omega) (by omega);have f4:b9 false .sub (J a.ag) (J b.lo)=some (J (a.ag-b.lo)):=mA (by omega) (by omega);have aj:t.op=10\/t.op=11\/t.op=12\/t.op=13\/t.op=14\/t.op=15\/t.op=16\/t.op=17:=by omega
 have bS:(t.al[1]?)=some cK:=by rw[eH];rfl
 generalize t.op=op at*;have ayu:∀x y:Int,hy x y=hy x y:=λ_ _=>rfl;rcases aj with rfl|rfl|rfl|rfl|rfl|rfl|rfl|rfl<;>
  cases ef:a.b<;>cases fM:b.b<;>simp[Cp,Pb,dL,aX,bT,fw,bb,WC,bS,jv,lJ,K6,qo,f1,f2,f3,f4,f5,a1,ef,fM]
 all_goals (by_cases j5:cK.op=1<;>by_cases oY:cK.num<1<;>simp[j5,oY])
set_option maxHeartbeats 2000000 in
def ayv(n:Nat)(ayw M:D)(t:Tm)(nx:Bool)(l:List Y)(aN:Valid t)(bY:l.length=t.al.length)(eB:5<=t.op)(bV:∀y∈l,y.lI)(aH:100<n):qf n [ayw,M,t.d,ax nx,hc l]=some (.aU [(g2 t l).1.d,J (g2 t l).2]):=by
 have uo:=aN.op;have bz:=aN.len;have aX:=Tm.qc t;have bT:=Tm.tl t;have dL:=Tm.jn t;have jv:D.agg [ax false,J 0,J 0]=fK.d:=rfl;have lJ:D.agg [ax true,J 0,J 0]=jK.d:=rfl;have ai:=zM (op:=t.op);have xQ:=CV (op:=t.op);have ays:l.length<=64:=by
  have:(gK t.op).2<=64:=by unfold gK;repeat(first|split|decide)
  omega
 have aQ:=ayk n l (by omega) (by omega);by_cases ad:t.op<=9
 .have e:g2 t l=if l.all Y.b then(jK,0)else(fK,13):=by unfold g2;rw[xac ⟨eB,ad⟩]
  rw[e];have aj:t.op=5\/t.op=6\/t.op=7\/t.op=8\/t.op=9:=by omega
  generalize t.op=op at*;generalize l.all Y.b=q at*;rcases aj with rfl|rfl|rfl|rfl|rfl<;>simp[qf,vo,dL,aX,aQ,jv,lJ]<;>cases q<;>simp
 by_cases ae:t.op=18;.rw[xQ ae]at bz;obtain⟨a,b,c,rfl⟩:=xP (l:=l) (by simp at bz;omega);have fw:=PX (l:=[a,b,c]) rfl;have bb:=PY (l:=[a,b,c]) rfl;have bo:=af3 (l:=[a,b,c]) rfl;have so:=(bV b (by simp)).1;unfold g2;generalize hc [a,b,c]=L at*;rw[xaa (by omega)];simp[qf,vo,dL,aX,ae,fw,bb,bo,jv,lJ,xO,PV,WB];obtain⟨oX,aFP,aFQ⟩:=b;cases a.b<;>cases oX<;>cases c.b<;>simp at so⊢;obtain⟨rfl,rfl⟩:=so;rfl
 have az:10<=t.op/\t.op<=17:=by omega
 rw[ai (by omega)]at bz;obtain⟨a,b,rfl⟩:=sn (l:=l) (by simp at bz;omega);have fw:=PX (l:=[a,b]) rfl;have bb:=PY (l:=[a,b]) rfl;have CW:=bV a (by simp);have so:=bV b (by simp);have a1:=λop=>ayo n op a b CW so;obtain⟨_,ah,aT,bq⟩:=CW;obtain⟨_,fv,gS,ig⟩:=so;unfold g2;generalize hc [a,b]=L at*;rw[xaa (by omega)];obtain⟨p0,cK,eH⟩:=sn (l:=t.al) (by simp at bz;omega);have WC:=af2 (l:=t.al) (b:=t.nl) (t:=cK) (by rw[eH];rfl);have ayt:=(aN.cL (x:=cK) (by rw[eH];simp)).num;have s1:IntKind.i64.wrap (cK.num-1)=cK.num-1:=wrap64 _ (by omega) (by omega);have f5:b9 false .sub (J cK.num) (J 1)=some (J (cK.num-1)):=mA (by omega) (by omega);have f1:b9 false .add (J a.lo) (J b.lo)=some (J (a.lo+b.lo)):=fg (by omega) (by omega);have f2:b9 false .add (J a.ag) (J b.ag)=some (J (a.ag+b.ag)):=fg (by omega) (by omega);have f3:b9 false .sub (J a.lo) (J b.ag)=some (J (a.lo-b.ag)):=mA (by omega) (by omega);have f4:b9 false .sub (J a.ag) (J b.lo)=some (J (a.ag-b.lo)):=mA (by omega) (by omega);have aj:t.op=10\/t.op=11\/t.op=12\/t.op=13\/t.op=14\/t.op=15\/t.op=16\/t.op=17:=by omega
 have bS:(t.al[1]?)=some cK:=by rw[eH];rfl
 generalize t.op=op at*;have ayu:∀x y:Int,hy x y=hy x y:=λ_ _=>rfl;rcases aj with rfl|rfl|rfl|rfl|rfl|rfl|rfl|rfl<;>
  cases ef:a.b<;>cases fM:b.b<;>simp[qf,vo,dL,aX,bT,fw,bb,WC,bS,jv,lJ,xO,a1,f1,f2,f3,f4,f5,ef,fM]
 all_goals (by_cases j5:cK.op=1<;>by_cases oY:cK.num<1<;>simp[j5,oY])
def eU(vs:List V)(x:ByteArray):Option Nat:=vs.findIdx? (λv=>decide (v.name=x))
def zN{vs:List V}{x:ByteArray}{i:Nat}(h:eU vs x=some i):∃v,vs[i]?=some v/\v.name=x/\i<vs.length:=by obtain⟨ad,ae,_⟩:=xbp.1 h;exact⟨_,xab ad,by simpa using ae,ad⟩
theorem V.xR(v:V):v.cells[0]?=some (aI v.name)/\v.cells[1]?=some (ax v.bool)/\v.cells[2]?=some (J v.lo)/\v.cells[3]?=some (J v.ag):=⟨rfl,rfl,rfl,rfl⟩
def kz{l:List V}{i:Nat}{v:V}(h:l[i]?=some v):bp 4 (bg l) (J (i:Int))=some v.cells:=by simp[bg,h]
def g3(l:List V):bs (bg l)=some (J l.length):=by simp[bg]
theorem V.ayx(v:V):bh true 4 0 v.cells=some v.d/\aL 4 v.d=true/\aa v.d 0=aI v.name:=⟨rfl,rfl,rfl⟩
def vT:List V->Nat->List (Value×D)->List (Value×D)
 |[],_,M=>M|v::r,i,M=>vT r (i+1) (if(gV M v.name).isSome then M else(s4 .string M (aI v.name) (J i)).getD [])
def WD:∀(r:List V)(i:Nat)(M:List (Value×D)),mE M->mE (vT r i M)/\∀x,gV (vT r i M) x=match gV M x with|some d=>some d|none=>(eU r x).map λj=>J ((i+j:Nat):Int)
 |[],i,M,h=>⟨h,λx=>by simp only[vT,eU,List.findIdx?_nil];cases gV M x<;>rfl⟩
 |v::r,i,M,h=>by
  rw[vT];have e:∀x,eU (v::r) x=if v.name=x then some 0 else(eU r x).map (·+1):=by intro x;simp[eU,xbN]
  by_cases aD:(gV M v.name).isSome
  .rw[xac aD];obtain⟨ad,ae⟩:=WD r (i+1) M h;refine⟨ad,λx=>?_⟩;rw[ae x,e x];cases af:gV M x with
   |some d=>rfl
   |none=>
    have cm:¬v.name=x:=by rintro rfl;simp[af]at aD
    simp only[cm,xaB,Option.map_map]
    congr 1
    funext j
    simp only[Function.comp]
    congr 2
    omega
  rw[xaa aD];obtain⟨eZ,fu,eQ,iv,_⟩:=NU h v.name (J i);rw[fu,xbn];obtain⟨ad,ae⟩:=WD r (i+1) eZ eQ;refine⟨ad,λx=>?_⟩;rw[ae x,iv x,e x];by_cases af:x=v.name
  .subst af;have aH:gV M v.name=none:=by simpa using aD
   simp[aH]
  have cm:¬v.name=x:=λh=>af h.symm;simp only[af,cm,xaB];cases bV:gV M x with
  |some d=>rfl
  |none=>
   simp only[Option.map_map]
   congr 1
   funext j
   simp only[Function.comp]
   congr 2
   omega
def PZ(M:List (Value×D))(vs:List V):Prop:=mE M/\∀x,gV M x=(eU vs x).map λ(j:Nat)=>J (j:Int)
def af4(n:Nat)(vs:List V)(aH:vs.length<n)(ak:vs.length<1000000000000):∃M,BC n [bg vs]=some (.mp M)/\PZ M vs:=by
 have ao:mE []:=by intro e he;cases he
 obtain⟨ad,ae⟩:=WD vs 0 [] ao;refine⟨vT vs 0 [],?_,ad,λx=>by rw[ae x];simp only[gV,xaz]⟩;have ag:=dp (f:=IT n) vs (λi (M:List (Value×D))=>[bg vs,J vs.length,J (i:Int),.mp M]) (λr M=>(Sum.inl [.mp (vT r (vs.length-r.length) M)]:List D⊕D)) (λi M=>mE M) (λM _=>by simp[IT,vT]) ?_ n 0 [] ao (by omega) (xah _)
 .have bK:(J ((0:Nat):Int))=J 0:=rfl;rw[bK]at ag;simp[BC,acA,g3,ag]
 intro i a M aB ag c6;left;have e:vs.length-(a::vs.drop (i+1)).length=i:=by simp;omega
 have dj:vs.length-(vs.drop (i+1)).length=i+1:=by simp;omega
 have az:=En c6 (z:= .int .i64 0) (x:=a.name);have ac:=a.ayx;cases bV:gV M a.name with|some d=>rw[bV]at az;refine⟨M,by simp[IT,ag,kz aB,ac,az,cl (bt:=false) (i:=i) (by omega)],?_,c6⟩;rw[e,vT,bV,dj];rfl|none=>rw[bV]at az;obtain⟨eZ,fu,eQ,iv,_⟩:=NU c6 a.name (J i);refine⟨eZ,by simp[IT,ag,kz aB,ac,az,fu,cl (bt:=false) (i:=i) (by omega)],?_,eQ⟩;rw[e,vT,bV,dj];simp only[xaS,xaq,xaB,fu,xbn]
def WE(n:Nat)(vs:List V)(x:ByteArray)(aH:vs.length<n)(ak:vs.length<1000000000000):xw n [bg vs,aI x]=some (J (match eU vs x with|some i=>(i:Int)|none=>-1)):=by
 have ag:=dp (f:=Kh n) vs (λi (_:Unit)=>[bg vs,aI x,J (i:Int)]) (λr _=>match eU r x with|some j=>(Sum.inr (J ((vs.length-r.length+j:Nat):Int)):List D⊕D)|none=> .inl []) (λ_ _=>True) (λ_ _=>by simp[Kh,g3,eU]) ?_ n 0 () trivial (by omega) (xah _);.have bK:(J ((0:Nat):Int))=J 0:=rfl;rw[bK]at ag;simp only[xw,adh,ag,xak,et,ck,ch,b7,aG,a7,bJ,cV,dC,dW,b1,bB,eh,dX,c1,cA,fl,di,dT,eO];cases eU vs x<;>simp
 intro i a _ aB ag _;have e:vs.length-(a::vs.drop (i+1)).length=i:=by simp;omega
 have dj:vs.length-(vs.drop (i+1)).length=i+1:=by simp;omega
 have oW:eU (a::vs.drop (i+1)) x=if a.name=x then some 0 else(eU (vs.drop (i+1)) x).map (·+1):=by simp[eU,xbN]
 have ac:=a.xR;by_cases af:a.name=x;.right;rw[oW,xac af,e];simp[Kh,g3,ag,kz aB,ac,af]
 left;refine⟨(),by simp[Kh,g3,ag,kz aB,ac,af,cl (bt:=false) (i:=i) (by omega)],?_,trivial⟩;rw[oW,xaa af,e,dj];cases eU (vs.drop (i+1)) x with|none=>rfl|some j=>simp;omega
def lb(vs:List V)(nx:Bool)(t:Tm):Y×Int:=if t.op=1 then hy t.num t.num else if t.op=2 then(jK,0)
 else match eU vs t.name with
  |none=>(fK,12)
  |some i=>if t.op=4/\nx=false then(fK,24)else match vs[i]? with
   |some v=>if v.bool then(jK,0)else hy v.lo v.ag
   |none=>(fK,12)
mutual
def dR(vs:List V)(nx:Bool):Tm->Y×Int
 | .mk o n s b ks=>if o<=4 then lb vs nx (.mk o n s b ks)else if(er vs nx ks).2≠0 then(fK,(er vs nx ks).2)else g2 (.mk o n s b ks) (er vs nx ks).1
def er(vs:List V)(nx:Bool):List Tm->List Y×Int
 |[]=>([],0)|t::r=>if(dR vs nx t).2≠0 then([],(dR vs nx t).2)else if(er vs nx r).2≠0 then([],(er vs nx r).2)else((dR vs nx t).1::(er vs nx r).1,0)
end
theorem oJ(vs:List V)(nx:Bool)(t:Tm):dR vs nx t=if t.op<=4 then lb vs nx t else if(er vs nx t.al).2≠0 then(fK,(er vs nx t.al).2)else g2 t (er vs nx t.al).1:=by cases t;rw[dR];rfl
def WG:jK.lI:=⟨by simp[jK],by simp[jK],by simp[jK],by simp[jK]⟩
def ayy{vs:List V}{nx:Bool}{t:Tm}(h:(lb vs nx t).2=0):(lb vs nx t).1.lI:=by
 unfold lb at*;by_cases ad:t.op=1;.rw[xac ad]at*;exact F0 h
 rw[xaa ad]at*;by_cases ae:t.op=2;.rw[xac ae];exact WG
 rw[xaa ae]at*;cases ag:eU vs t.name with
 |none=>simp[ag]at h
 |some i=>
  simp only[ag]at h⊢;by_cases az:t.op=4/\nx=false;.simp[az]at h
  rw[xaa az]at*;cases aN:vs[i]? with
  |none=>simp[aN]at h
  |some v=>
   simp only[aN]at h⊢;by_cases an:v.bool=true;.rw[xac an];exact WG
   rw[xaa an]at*;exact F0 h
def ayz{op:Int}{a b:Y}(h:(qo op a b).2=0):(qo op a b).1.lI:=by
 unfold qo at*;split at h;.rename_i ad;rw[xac ad];exact F0 h
 rename_i ad;split at h;.rename_i ae;rw[xaa ad,xac ae];exact F0 h
 rename_i ae;rw[xaa ad,xaa ae];exact F0 h
def vU{c:Prop}[Decidable c]{x y:Y×Int}(af:x.2=0->x.1.lI\/x.1=fK)(aO:y.2=0->y.1.lI\/y.1=fK):(if c then x else y).2=0->(if c then x else y).1.lI\/(if c then x else y).1=fK:=by
 split;.exact af
 exact aO
def ayA{t:Tm}{l:List Y}:(g2 t l).2=0->(g2 t l).1.lI\/(g2 t l).1=fK:=by
 have z:∀e:Int,((fK,e):Y×Int).2=0->((fK,e):Y×Int).1.lI\/((fK,e):Y×Int).1=fK:=λ_ _=> .inr rfl;have y:((jK,0):Y×Int).2=0->((jK,0):Y×Int).1.lI\/((jK,0):Y×Int).1=fK:=λ_=> .inl WG;have sp:∀a b:Int,(hy a b).2=0->(hy a b).1.lI\/(hy a b).1=fK:=λa b h=> .inl (F0 h);unfold g2;refine vU (vU y (z _)) ?_;split
 .exact vU (z _) (vU y (sp _ _))
 .refine vU (vU (z _) y) (vU (z _) (vU y (vU ?_ (λh=> .inl (ayz h)))));split;.exact vU (z _) (sp _ _)
  exact z _
 exact z _
def ayB:fK.lI:=⟨by simp[fK],by simp[fK],by simp[fK],by simp[fK]⟩
def ayC(vs:List V)(nx:Bool)(t:Tm)(h:(dR vs nx t).2=0):(dR vs nx t).1.lI:=by
 rw[oJ]at*;split at h;.rename_i aj;rw[xac aj];exact ayy h
 rename_i aj;rw[xaa aj];split at h;.rename_i bL;exact absurd h bL
 rename_i bL;rw[xaa bL];rcases ayA h with ad|ad
 .exact ad
 rw[ad];exact ayB
def F3(vs:List V)(nx:Bool):∀(l:List Tm),(er vs nx l).2=0->(er vs nx l).1.length=l.length/\∀y∈(er vs nx l).1,y.lI
 |[],_=>⟨rfl,by intro y aO;cases aO⟩
 |t::r,h=>by
  rw[er]at*;by_cases ad:(dR vs nx t).2=0
  case neg=>rw[xac ad]at h;exact absurd h ad
  rw[xaa (by simpa using ad)]at*;by_cases ae:(er vs nx r).2=0
  case neg=>rw[xac ae]at h;exact absurd h ae
  rw[xaa (by simpa using ae)];obtain⟨bb,bo⟩:=F3 vs nx r ae;refine⟨by simp[bb],λy aO=>?_⟩;rcases xas.1 aO with rfl|aO
  .exact ayC vs nx t ad
  exact bo y aO
def ayD(n:Nat)(vs:List V)(M:List (Value×D))(t:Tm)(nx:Bool)(L:D)(c6:PZ M vs)(a3:t.op<=4)(ad:1<=t.op):qf n [bg vs,.mp M,t.d,ax nx,L]=some (.aU [(lb vs nx t).1.d,J (lb vs nx t).2]):=by
 have aX:=Tm.qc t;have bl:=Tm.tk t;have bu:=Tm.ve t;have dL:=Tm.jn t;have jv:D.agg [ax false,J 0,J 0]=fK.d:=rfl;have lJ:D.agg [ax true,J 0,J 0]=jK.d:=rfl;have ak:=En c6.1 (z:= .int .i64 0) (x:=t.name);rw[c6.2]at ak;unfold lb;have aj:t.op=1\/t.op=2\/t.op=3\/t.op=4:=by omega
 have u4:nO (.mp M)=some M:=rfl;generalize t.op=op at*;rcases aj with rfl|rfl|rfl|rfl
 .simp[qf,vo,dL,aX,bl,jv,lJ,xO]
 .simp[qf,vo,dL,aX,bl,jv,lJ,xO]
 .cases ag:eU vs t.name with|none=>rw[ag]at ak;simp[qf,vo,dL,aX,bl,bu,jv,lJ,u4,ak]|some i=>rw[ag]at ak;obtain⟨v,v1,v2,tb⟩:=zN ag;simp[qf,vo,dL,aX,bl,bu,jv,lJ,u4,ak,v1,kz v1,v.xR,xO];cases v.bool<;>simp
 cases ag:eU vs t.name with|none=>rw[ag]at ak;simp[qf,vo,dL,aX,bl,bu,jv,lJ,u4,ak]|some i=>rw[ag]at ak;obtain⟨v,v1,v2,tb⟩:=zN ag;simp[qf,vo,dL,aX,bl,bu,jv,lJ,u4,ak,v1,kz v1,v.xR,xO];cases v.bool<;>cases nx<;>simp
def Valid.leaf{t:Tm}(h:Valid t)(a3:t.op<=4):t.al=[]:=by
 have ad:=h.op;have ae:=h.len;have:gK t.op=(0,0):=by unfold gK;rw[xac (by omega)]
 rw[this]at ae;exact xaC (by have:=ae.2;simp only at this;omega)
def Valid.F4{t:Tm}(h:Valid t):t.al.length<=64:=by
 have ae:=h.len;have:(gK t.op).2<=64:=by unfold gK;repeat(first|split|decide)
 omega
def af5{a b:Nat}(h:a+b<=1000):dd (a+b) 24=true:=gC (by omega) (by omega)
def af6(vs:List V)(M:List (Value×D))(nx:Bool)(c6:PZ M vs):∀(n:Nat)(t:Tm),t.a9+200<n->t.bR->Valid t->tH n [bg vs,.mp M,t.d,ax nx]=some (.aU [(dR vs nx t).1.d,J (dR vs nx t).2])
 |0,t,h,_,_=>absurd h (xar _)
 |n+1,t,aH,a4,aN=>by
  rw[oJ];have jv:D.agg [ax false,J 0,J 0]=fK.d:=rfl;have K8:=aN.F4;have ak:=dp (f:=EK (tH n) n) t.al (λi (s:List Y)=>[bg vs,.mp M,ax nx,bc 4 t.nl (Tm.rows t.al),J t.al.length,J (i:Int),J t.op,J t.num,aI t.name,bc 4 t.nl (Tm.rows t.al),ax false,J 0,J 0,hc s]) (λr s=>if(er vs nx r).2=0 then(Sum.inl [bg vs,.mp M,ax nx,J t.op,J t.num,aI t.name,bc 4 t.nl (Tm.rows t.al),ax false,J 0,J 0,hc (s++(er vs nx r).1)]:List D⊕D)else .inr (.aU [fK.d,J (er vs nx r).2])) (λi s=>s.length=i) ?_ ?_ n 0 [] rfl (by omega) (xah _)
  .have bK:(J ((0:Nat):Int))=J 0:=rfl;have aZ:hc []= .aE 3 []:=rfl;rw[bK,aZ]at ak;simp only[tH,UE,Tm.jn,Tm.qc,Tm.tk,Tm.ve,Tm.tl,p8,abJ,Tm.jm,et,ak,xak,xaO,ck,ch,b7,aG,a7,bJ,cV,dC,dW,b1,bB,eh,dX,c1,cA,fl,di,dT,eO];by_cases ao:(er vs nx t.al).2=0
   .obtain⟨bb,bo⟩:=F3 vs nx t.al ao;have a6:∀l:List Y,D.aE 3 (aP (hc l))=hc l:=λ_=>rfl;have ayE:=λa3=>ayD n vs M t nx (hc (er vs nx t.al).1) c6 a3 aN.op.1;have WH:=λbx=>ayv n (bg vs) (.mp M) t nx _ aN bb bx bo (by omega);by_cases a3:t.op<=4
    .simp[ao,a6,ayE a3,a3]
    simp[ao,a6,WH (by omega),a3]
   have a3:¬t.op<=4:=λa3=>ao (by rw[aN.leaf a3];rfl);simp[ao,a3]
  .intro s aD;simp[EK,er,hc]
  intro i a s aB ag aD;have hm:=xad aB;have bF:=Tm.fb hm;have aw:=af6 vs M nx c6 n a (by omega) (a4.cL hm) (aN.cL hm);have eo:dd (s.length+1) 24=true:=af5 (by omega);have yu:EK (tH n) n [bg vs,.mp M,ax nx,bc 4 t.nl (Tm.rows t.al),J t.al.length,J (i:Int),J t.op,J t.num,aI t.name,bc 4 t.nl (Tm.rows t.al),ax false,J 0,J 0,hc s]=
    if(dR vs nx a).2=0 then some (.inl [bg vs,.mp M,ax nx,bc 4 t.nl (Tm.rows t.al),J t.al.length,J ((i+1:Nat):Int),J t.op,J t.num,aI t.name,bc 4 t.nl (Tm.rows t.al),ax false,J 0,J 0,hc (s++[(dR vs nx a).1])])
    else some (.inr (.inr (.aU [fK.d,J (dR vs nx a).2]))):=by
   by_cases ao:(dR vs nx a).2=0;.simp[EK,ag,Tm.dz aB,aw,ao,cl (bt:=false) (i:=i) (by omega),hc,eo];simp[Y.cells]
   .simp[EK,ag,Tm.dz aB,aw,ao,jv]
  rw[yu];simp only[er];by_cases ao:(dR vs nx a).2=0
  .left;refine⟨s++[(dR vs nx a).1],by simp[ao],?_,by simp[aD]⟩;by_cases ad:(er vs nx (t.al.drop (i+1))).2=0;.simp[ao,ad]
   simp[ao,ad]
  right;simp[ao]
def af7(vs:List V)(nx:Bool)(ns:vs.length<1000000000000):∀(n:Nat)(t:Tm),t.a9+200+vs.length<n->t.bR->Valid t->n2 n [bg vs,t.d,ax nx]=some (.aU [(dR vs nx t).1.d,J (dR vs nx t).2])
 |0,t,h,_,_=>absurd h (xar _)
 |n+1,t,aH,a4,aN=>by
  rw[oJ];have jv:D.agg [ax false,J 0,J 0]=fK.d:=rfl;have lJ:D.agg [ax true,J 0,J 0]=jK.d:=rfl;have K8:=aN.F4;have eB:=aN.op;by_cases a3:t.op<=4
  .rw[xac a3];have aX:=Tm.qc t;have bl:=Tm.tk t;have bu:=Tm.ve t;have bT:=Tm.tl t;have dL:=Tm.jn t;unfold lb;have af:=WE n vs t.name (by omega) ns;have aj:t.op=1\/t.op=2\/t.op=3\/t.op=4:=by omega
   generalize t.op=op at*;rcases aj with rfl|rfl|rfl|rfl
   .simp[n2,xx,dL,aX,bl,jv,lJ,K6]
   .simp[n2,xx,dL,aX,bl,jv,lJ]
   .cases ag:eU vs t.name with
    |none=>rw[ag]at af;simp[n2,xx,dL,aX,bl,bu,bT,jv,lJ,af]
    |some i=>
     rw[ag]at af;obtain⟨v,v1,v2,tb⟩:=zN ag;have ln:¬((i:Int)<0):=by omega
     simp[n2,xx,dL,aX,bl,bu,bT,jv,lJ,af,ln,v1,kz v1,v.xR,K6];cases v.bool<;>simp
   cases ag:eU vs t.name with
   |none=>rw[ag]at af;simp[n2,xx,dL,aX,bl,bu,bT,jv,lJ,af]
   |some i=>
    rw[ag]at af;obtain⟨v,v1,v2,tb⟩:=zN ag;have ln:¬((i:Int)<0):=by omega
    simp[n2,xx,dL,aX,bl,bu,bT,jv,lJ,af,ln,v1,kz v1,v.xR,K6];cases v.bool<;>cases nx<;>simp
  rw[xaa a3];have ak:=dp (f:=Fg (n2 n) n) t.al (λi (s:List Y)=>[bg vs,ax nx,J (i:Int),J t.op,J t.num,aI t.name,bc 4 t.nl (Tm.rows t.al),ax false,J 0,J 0,hc s]) (λr s=>if(er vs nx r).2=0 then(Sum.inl [J t.op,J t.num,aI t.name,bc 4 t.nl (Tm.rows t.al),ax false,J 0,J 0,hc (s++(er vs nx r).1)]:List D⊕D)else .inr (.aU [fK.d,J (er vs nx r).2])) (λi s=>s.length=i) ?_ ?_ n 0 [] rfl (by omega) (xah _)
  .have bK:(J ((0:Nat):Int))=J 0:=rfl;have aZ:hc []= .aE 3 []:=rfl;rw[bK,aZ]at ak;have fv:(t.op==1)=false:=by simp;omega
   have gS:(t.op==2)=false:=by simp;omega
   have ig:(t.op==3)=false:=by simp;omega
   have mT:(t.op==4)=false:=by simp;omega
   simp only[n2,xx,Tm.jn,Tm.qc,Tm.tk,Tm.ve,Tm.tl,p8,Ej,fv,gS,ig,mT,ly,xaq,xaB,et,qR,p9,rT,ak,xak,xaO,ck,ch,b7,aG,a7,bJ,cV,dC,dW,b1,bB,eh,dX,c1,cA,fl,di,dT,eO];by_cases ao:(er vs nx t.al).2=0;.obtain⟨bb,bo⟩:=F3 vs nx t.al ao;have a6:∀l:List Y,D.aE 3 (aP (hc l))=hc l:=λ_=>rfl;have WH:=ayr n t _ aN bb (by omega) bo (by omega);simp[ao,a6,WH]
   simp[ao]
  .intro s aD;simp[Fg,er,hc]
  intro i a s aB ag aD;have hm:=xad aB;have bF:=Tm.fb hm;have aw:=af7 vs nx ns n a (by omega) (a4.cL hm) (aN.cL hm);have eo:dd (s.length+1) 24=true:=af5 (by omega);have yu:Fg (n2 n) n [bg vs,ax nx,J (i:Int),J t.op,J t.num,aI t.name,bc 4 t.nl (Tm.rows t.al),ax false,J 0,J 0,hc s]=
    if(dR vs nx a).2=0 then some (.inl [bg vs,ax nx,J ((i+1:Nat):Int),J t.op,J t.num,aI t.name,bc 4 t.nl (Tm.rows t.al),ax false,J 0,J 0,hc (s++[(dR vs nx a).1])])
    else some (.inr (.inr (.aU [fK.d,J (dR vs nx a).2]))):=by
   by_cases ao:(dR vs nx a).2=0;.simp[Fg,ag,Tm.dz aB,aw,ao,cl (bt:=false) (i:=i) (by omega),hc,eo];simp[Y.cells]
   .simp[Fg,ag,Tm.dz aB,aw,ao,jv]
  rw[yu];simp only[er];by_cases ao:(dR vs nx a).2=0
  .left;refine⟨s++[(dR vs nx a).1],by simp[ao],?_,by simp[aD]⟩;by_cases ad:(er vs nx (t.al.drop (i+1))).2=0;.simp[ao,ad]
   simp[ao,ad]
  right;simp[ao]
def gb(vs:List V)(nx:Bool)(t:Tm):Y×Int:=if(cT t 1 0).1≠0 then(fK,(cT t 1 0).1)else dR vs nx t
def WI(n:Nat)(vs:List V)(t:Tm)(nx:Bool)(aH:t.a9+200+vs.length<n)(a4:t.bR)(ns:vs.length<1000000000000):vq n [bg vs,t.d,ax nx]=some (.aU [(gb vs nx t).1.d,J (gb vs nx t).2]):=by
 have aj:=PD n t (by omega) a4;obtain⟨M,gu,lr⟩:=af4 n vs (by omega) ns;have jv:D.agg [ax false,J 0,J 0]=fK.d:=rfl;unfold gb;by_cases ao:(cT t 1 0).1=0
 .have aQ:=af6 vs M nx lr n t (by omega) a4 ⟨1,0,ao⟩;simp[vq,UF,aj,ao,gu,aQ]
 simp[vq,UF,aj,ao,jv]
def P0(n:Nat)(vs:List V)(t:Tm)(nx:Bool)(aH:t.a9+200+vs.length<n)(a4:t.bR)(ns:vs.length<1000000000000):si n [bg vs,t.d,ax nx]=some (.aU [(gb vs nx t).1.d,J (gb vs nx t).2]):=by
 have aj:=VX n t (by omega) a4;have jv:D.agg [ax false,J 0,J 0]=fK.d:=rfl;unfold gb;by_cases ao:(cT t 1 0).1=0
 .have aQ:=af7 vs nx ns n t (by omega) a4 ⟨1,0,ao⟩;simp[si,Vn,aj,ao,aQ]
 simp[si,Vn,aj,ao,jv]
end Go.Am
