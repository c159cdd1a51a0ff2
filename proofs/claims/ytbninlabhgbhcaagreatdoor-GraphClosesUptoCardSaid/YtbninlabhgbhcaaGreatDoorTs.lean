/- Laws, on data. No condition. -/
import Derived.Test.YtbninlabhgbhcaaGreatDoorCode
import Derived.KernelRfl
import Derived.Test.YtbninlabhgbhcaaGreatDoorEngD
import Derived.Test.YtbninlabhgbhcaaGreatDoorSs
set_option linter.all false
set_option linter.unnecessarySimpa false
namespace Go.Am
abbrev er:=List (List Nat)
abbrev fe:=List (List Int)
theorem azk(n:Nat):Dx (n+400) []=some (aI true):=by kernel_rfl
def JY{β S:Type}{f:List D->Option (List D⊕β)}(fa:S->List D)(O5:S->Nat)(Inv:S->Prop)(Q:β->Prop) (step:∀s,Inv s->(∃s',f (fa s)=some (.inl (fa s'))/\Inv s'/\O5 s'<O5 s)\/(∃r,f (fa s)=some (.inr r)/\Q r)): ∀n s,Inv s->O5 s<n->∃r,bL f n (fa s)=some r/\Q r
 |0,s,_,h=>absurd h (xaJ _)
 |n+1,s,h,hm=>by
  rw[la];rcases step s h with⟨s',J,aa,ax⟩|⟨r,J,aa⟩
  .rw[J];exact JY fa O5 Inv Q step n s' aa (by omega)
  rw[J];exact⟨r,rfl,aa⟩
section
variable{α:Type}
structure Part(a b:Nat)(L VV:List α):Prop where
 len:VV.length=L.length
 out:∀i,i<a\/b<=i->VV[i]?=L[i]?
 oI:∀p:α->Bool,VV.countP p=L.countP p
theorem Part.refl(a b:Nat)(L:List α):Part a b L L:=⟨rfl,λ_ _=>rfl,λ_=>rfl⟩
def Part.trans{a b:Nat}{L M N:List α}(h:Part a b L M)(bC:Part a b M N):Part a b L N:=⟨bC.len.trans h.len,λi af=>(bC.out i af).trans (h.out i af),λp=>(bC.oI p).trans (h.oI p)⟩
def Part.mono{a b cI b':Nat}{L M:List α}(h:Part a b L M)(aH:cI<=a)(aj:b<=b'):Part cI b' L M:=⟨h.len,λi af=>h.out i (by omega),h.oI⟩
def wv(P:α->Prop)(a b:Nat)(L:List α):Prop:=∀i x,a<=i->i<b->L[i]?=some x->P x
def wv.mono{P:α->Prop}{a b cI b':Nat}{L:List α}(h:wv P a b L)(aH:a<=cI)(aj:b'<=b):wv P cI b' L:=λi x J aa ad=>h i x (by omega) (by omega) ad
def wv.out{P:α->Prop}{a b c d:Nat}{L M:List α}(h:wv P c d L)(aU:Part a b L M)(ay:d<=a\/b<=c):wv P c d M:=λi x J aa ad=>h i x J aa (by rw[<-aU.out i (by omega)];exact ad)
def azl{p:α->Bool}{l:List α}(h:l.countP p=0):∀x∈l,p x=false:=by intro x ad;cases aU:p x with|false=>rfl|true=>have:=List.countP_pos_iff.2 ⟨x,ad,aU⟩;omega
open Classical in
def wv.part{P:α->Prop}{a b:Nat}{L M:List α}(h:wv P a b L)(aU:Part a b L M)(hf:a<=b):wv P a b M:=by
 intro i x J aa ad;have aL:M.take a=L.take a:=by
  apply xbS;intro k;rw[xaL,xaL];split;.rename_i ah;exact aU.out k (.inl ah)
  rfl
 have a7:M.drop b=L.drop b:=by apply xbS;intro k;rw[xaW,xaW];exact aU.out _ (.inr (by omega))
 have agA:∀(N:List α)(q:α->Bool),N.countP q=(N.take a).countP q+((N.drop a).take (b-a)).countP q+(N.drop b).countP q:=by
  intro N q
  conv=>lhs;rw[<-xbD a N,List.countP_append,<-xbD (b-a) (N.drop a),List.countP_append,List.drop_drop]
  rw[show a+(b-a)=b by omega];omega
 have ai:=aU.oI (λy=>!decide (P y));rw[agA M,agA L,aL,a7]at ai;have au:((L.drop a).take (b-a)).countP (λy=>!decide (P y))=0:=by
  rw[List.countP_eq_zero];intro y aE;obtain⟨k,ah⟩:=List.getElem?_of_mem aE;rw[xaL]at ah;split at ah;.rename_i b5;rw[xaW]at ah;simp[h (a+k) y (by omega) (by omega) ah]
  cases ah
 have ax:((M.drop a).take (b-a)).countP (λy=>!decide (P y))=0:=by omega
 have hm:x∈(M.drop a).take (b-a):=by refine xad (i:=i-a) ?_;rw[xaL,xac (by omega),xaW,show a+(i-a)=i by omega];exact ad
 have:=azl ax x hm;simpa using this
def Part.mem{a b:Nat}{L M:List α}(h:Part a b L M)[DecidableEq α](x:α):x∈M↔x∈L:=by
 have:=h.oI (λy=>y==x);have e:∀N:List α,x∈N↔0<N.countP (λy=>y==x):=by
  intro N;rw[List.countP_pos_iff];constructor;.intro h;exact⟨x,h,by simp⟩
  rintro⟨y,J,aa⟩;rw[<-eq_of_beq aa];exact J
 rw[e,e,this]
end
section
variable(m:ar)
theorem b6.bf:ae (o0 m) 0=br m.vars:=rfl
theorem b6.c1:ae (o0 m) 1=da:=rfl
theorem b6.c2:ae (o0 m) 2=az (m.bU.map (cr m.aA)):=rfl
theorem b6.b4:ae (o0 m) 3=az (m.bW.map (cr m.aA)):=rfl
theorem b6.cT:ae (o0 m) 4=aY (m.next.map (gv m.aA)):=rfl
theorem b6.dp:ae (o0 m) 5=az (m.trans.map (cr m.aA)):=rfl
theorem b6.dq:ae (o0 m) 6=az (m.bO.map (cr m.aA)):=rfl
theorem b6.dE:ae (o0 m) 7=b2 (m.bP.map (iK m.aA)):=rfl
theorem b6.agg:dV 8 (o0 m)=true:=rfl
theorem b6.eta:D.agg [br m.vars,da,az (m.bU.map (cr m.aA)),az (m.bW.map (cr m.aA)),aY (m.next.map (gv m.aA)),az (m.trans.map (cr m.aA)),az (m.bO.map (cr m.aA)),b2 (m.bP.map (iK m.aA))]=o0 m:=rfl
end
section
variable{m:ar}(aS:lQ m.vars)(al:m.vars.length<=100){nx:Bool}{s nn:List Int}(aC:hq m.vars s)(aN:nx=true->hq m.vars nn)(au:nx=false->nn=[]){bn:Bool}(n:Nat)(yj:13306000000<n)
include aS al aC aN au yj
theorem agB{t:Tm}(h:o1 m nx t):AM n [o0 m,(cr m.aA t).d,cJ s,iF bn nn]=some (aI (ie m.vars (dU m.aA t).1 s nn)):=by have cK:=ayK aS al h aC aN au (bn:=bn) n yj;have av:=ayI (ie m.vars (dU m.aA t).1 s nn);cases ai:ie m.vars (dU m.aA t).1 s nn<;>rw[ai]at cK av<;>simp only[AM,abI,go_sem,b6.agg,b6.bf,b6.c1,b6.c2,b6.b4,b6.cT,b6.dp,b6.dq,b6.dE,b6.eta,T.pI,cK,av,By,yh]
theorem VW{L:List Tm}(ck:∀t∈L,o1 m nx t)(aj:L.length<=1000000):xQ n [o0 m,az (L.map (cr m.aA)),cJ s,iF bn nn]=some (aI (L.all λt=>ie m.vars (dU m.aA t).1 s nn)):=by
 have b1:(I ((0:Nat):Int))=I 0:=rfl;have bJ:fA (az (L.map (cr m.aA)))=some (I L.length):=by rw[iu,xaY]
 have af:=dC (f:=IA n) L (λi (_:Unit)=>[cJ s,iF bn nn,az (L.map (cr m.aA)),I L.length,I (i:Int),br m.vars,da,az (m.bU.map (cr m.aA)),az (m.bW.map (cr m.aA)),aY (m.next.map (gv m.aA)),az (m.trans.map (cr m.aA)),az (m.bO.map (cr m.aA)),b2 (m.bP.map (iK m.aA))]) (λr _=>if(r.all λt=>ie m.vars (dU m.aA t).1 s nn)=true then(.inl []:List D⊕D)else .inr (aI false)) (λ_ _=>True) ?_ ?_ n 0 () trivial (by omega) (xaj _)
 .rw[b1,xam]at af;by_cases ai:(L.all λt=>ie m.vars (dU m.aA t).1 s nn)=true;.rw[xac ai]at af;simp only[xQ,Tu,go_sem,b6.agg,b6.bf,b6.c1,b6.c2,b6.b4,b6.cT,b6.dp,b6.dq,b6.dE,b6.eta,bJ,af,ai]
  rw[xae ai]at af;simp only[xQ,Tu,go_sem,b6.agg,b6.bf,b6.c1,b6.c2,b6.b4,b6.cT,b6.dp,b6.dq,b6.dE,b6.eta,bJ,af,(show(L.all λt=>ie m.vars (dU m.aA t).1 s nn)=false by simpa using ai)]
 .intro _ _;simp only[IA,go_sem,yF ((L.length:Int)<L.length),List.all_nil,xaF]
 intro i t _ aP af _;have ad:(L.map (cr m.aA))[i]?=some (cr m.aA t):=by rw[xah,aP];rfl
 have cK:=agB aS al aC aN au (bn:=bn) n yj (ck t (xad aP));have ct:=yT ((i:Int)<(L.length:Int));cases ai:ie m.vars (dU m.aA t).1 s nn with|true=>left;rw[ai]at cK;exact⟨(),by simp only[IA,go_sem,ct,b6.agg,b6.bf,b6.c1,b6.c2,b6.b4,b6.cT,b6.dp,b6.dq,b6.dE,b6.eta,VL ad,T.ui,T.pI,cK,cm (bt:=false) (i:=i) (by omega)],by rw[xbj,ai,xbv],trivial⟩|false=>right;rw[ai]at cK;simp only[IA,go_sem,ct,b6.agg,b6.bf,b6.c1,b6.c2,b6.b4,b6.cT,b6.dp,b6.dq,b6.dE,b6.eta,VL ad,T.ui,T.pI,cK,xbj,ai,xbY]
end
noncomputable def pS(m:ar)(s:List Int):List (Nat×Int):=m.next.map λd=>((eo m.vars d.name).getD 0,(ic m.vars (dU m.aA d.e).1 s []).1)
def kc(l:List (Nat×Int)):D:= .aV 2 (l.map λp=>[I (p.1:Int),I p.2])
def agC{l:List (Nat×Int)}{i:Nat}{p:Nat×Int}(h:l[i]?=some p):bX 2 (kc l) (I (i:Int))=some [I (p.1:Int),I p.2]:=by obtain⟨bY,rfl⟩:=xaa.1 h;simp[kc,bY]
def azm(l:List (Nat×Int)):fA (kc l)=some (I l.length):=by simp[kc]
def azn(l:List (Nat×Int))(p:Nat×Int):D.aV 2 (ba (kc l)++[[I (p.1:Int),I p.2]])=kc (l++[p]):=by simp[kc]
theorem agD(l:List (Nat×Int)):D.aV 2 (ba (kc l))=kc l:=rfl
def azo(l:List (Nat×Int)):(ba (kc l)).length=l.length:=by simp[kc]
section
variable{m:ar}(h:yk m)(n:Nat)(aN:13306000000<n)
include h aN
theorem azp(lF:ByteArray){x1:List D}(J:bN false 1 0 x1=some (a1 lF)):AN n [br m.vars,D.fn (.func CN) [] [.ref x1 0]]=some (I (gi (eo m.vars lF))):=by
 have bS:AN n [br m.vars,D.fn (.func CN) [] [.ref x1 0]]=ID n (br m.vars) (.ref x1 0):=by simp only[AN,nW]
 have al:=h.gG;have b1:(I ((0:Nat):Int))=I 0:=rfl;have af:=af9 (f:=IC n) m.vars (λi=>[br m.vars,.ref x1 0,I m.vars.length,I (i:Int)]) (λv=>decide (v.name=lF)) ?_ ?_ n (by omega)
 .rw[b1]at af;rw[bS];unfold eo;cases bM:m.vars.findIdx? (λv=>decide (v.name=lF))with|none=>rw[bM]at af;simp only[ID,go_sem,eY,af,gi,yi]|some j=>rw[bM]at af;simp only[ID,go_sem,eY,af,gi,yi]
 .intro i v aS;have bY:=(xaa.1 aS).1;have bf:ae v.d 0=a1 v.name:=rfl;have aa:IB n [v.d,.ref x1 0]=some (aI (decide (v.name=lF))):=by
   show M1 n v.d x1=_;simp only[M1,go_sem,V.g4,J,bf]
  have ct:=yT ((i:Int)<(m.vars.length:Int));by_cases ai:v.name=lF;.rw[xaq ai]at aa;simp only[IC,go_sem,ct,hj aS,V.a4,aa,xaq ai,xaF]
  rw[xaD ai]at aa;simp only[IC,go_sem,ct,hj aS,V.a4,aa,xaD ai,xar,xaH,cm (bt:=false) (i:=i) (by omega)]
 simp only[IC,go_sem,yF ((m.vars.length:Int)<m.vars.length)]
theorem azq{s:List Int}(aC:hq m.vars s):IE n [o0 m,cJ s]=some (.a6 [kc (pS m s),aI true]):=by
 have aj:=h.mS.b.2.2.1;have kz:=h.gG;have b1:(I ((0:Nat):Int))=I 0:=rfl;have bJ:fA (aY (m.next.map (gv m.aA)))=some (I m.next.length):=by rw[eJ,xaY]
 have af:=dC (f:=M3 n) m.next (λi (p:List (Nat×Int))=>[cJ s,aY (m.next.map (gv m.aA)),I m.next.length,I (i:Int),br m.vars,da,az (m.bU.map (cr m.aA)),az (m.bW.map (cr m.aA)),aY (m.next.map (gv m.aA)),az (m.trans.map (cr m.aA)),az (m.bO.map (cr m.aA)),b2 (m.bP.map (iK m.aA)),kc p]) (λr p=>(.inl [kc (p++r.map λd=>((eo m.vars d.name).getD 0,(ic m.vars (dU m.aA d.e).1 s []).1))]:List D⊕D)) (λi p=>p.length=i) ?_ ?_ n 0 [] rfl (by omega) (xaj _)
 .rw[b1,xam,xaM]at af;have aL:kc []=D.aV 2 []:=rfl;rw[aL]at af;simp only[IE,abJ,go_sem,b6.agg,b6.bf,b6.c1,b6.c2,b6.b4,b6.cT,b6.dp,b6.dq,b6.dE,b6.eta,bJ,af,agD];rfl
 .intro p _;simp only[M3,go_sem,yF ((m.next.length:Int)<m.next.length),xbc,xav,agD]
 intro i d p ay af aU;have hm:=xad ay;have ad:(m.next.map (gv m.aA))[i]?=some (gv m.aA d):=by rw[xah,ay];rfl
 obtain⟨k,ah⟩:=(h.n d hm).2;have jY:=VN ah;have cX:=h.mS.n d hm;obtain⟨b0,bR,cw,dX⟩:=cX.agd;have aS:=agf h hm aC;have ey:sk n [br m.vars,(cr m.aA d.e).d,cJ s,da]=some (.a6 [I (ic m.vars (dU m.aA d.e).1 s []).1,aI true]):=by have:=aeQ (bn:=true) n m.vars (cr m.aA d.e) s [] (by omega) b0 h.kC.1 (λv hI=>VK h.kC aC v (by simpa using hI));rw[show ic m.vars (cr m.aA d.e) s []=_ from OP Vn m.vars (dU m.aA d.e).1 s [],aS]at this;exact this
 have fK:=azp h n aN d.name (x1:=[a1 d.name,I (cr m.aA d.e).op,I (cr m.aA d.e).num,a1 (cr m.aA d.e).name,cB 4 (cr m.aA d.e).nl (Tm.rows (cr m.aA d.e).bc)]) rfl;rw[ah]at fK;have bk:∀a,(I a).flat=true:=λ_=>rfl;have ct:=yT ((i:Int)<(m.next.length:Int));have OV:(gv m.aA d).name=d.name:=rfl;have gJ:(gv m.aA d).e=cr m.aA d.e:=rfl;have VX:∀a b:Int,dV 2 (.agg [I a,I b])=true:=λ_ _=>rfl;have eI:cZ (p.length+1) 16=true:=fV (by omega) (by omega);generalize Rc:(ic m.vars (dU m.aA d.e).1 s []).1=v at*;left;refine⟨p++[(k,v)],?_,by simp[ah,Rc],by simp[aU]⟩;simp only[M3,go_sem,ct,fH ad,bw.a5,bw.g5,bw.bf,bw.c1,bw.c2,bw.b4,bw.cT,bw.iQ,bw.gX,OV,gJ,T.pI,ey,fK,gi,bk,VX,azo,xan,xaA,eI,azn p (k,v),cm (bt:=false) (i:=i) (by omega)]
theorem azr{s t:List Int}(aP:hq m.vars t):AO n [kc (pS m s),D.fn (.func tH) [] [.ref [cJ t] 0]]=some (aI (!(m.next.all (pQ m s t)))):=by
 have aj:=h.mS.b.2.2.1;have b1:(I ((0:Nat):Int))=I 0:=rfl;have adS:(pS m s).length=m.next.length:=by simp[pS]
 have bJ:fA (kc (pS m s))=some (I m.next.length):=by rw[azm,adS]
 have af:=af9 (f:=IG n) m.next (λi=>[kc (pS m s),.ref [cJ t] 0,I m.next.length,I (i:Int)]) (λd=>!(pQ m s t d)) ?_ ?_ n (by omega)
 .rw[b1]at af;have Bn:(m.next.findIdx? λd=>!(pQ m s t d)).isSome=!(m.next.all (pQ m s t)):=by
   rw[ayF,<-ayG,Bool.not_not]
  have bS:AO n [kc (pS m s),D.fn (.func tH) [] [.ref [cJ t] 0]]=II n (kc (pS m s)) (.ref [cJ t] 0):=by simp only[AO,nW]
  have agE:Dp n [kc (pS m s),D.fn (.func tH) [] [.ref [cJ t] 0]]=IH n (kc (pS m s)) (.ref [cJ t] 0):=by simp only[Dp,nW]
  rw[bS,<-Bn];cases bM:m.next.findIdx? (λd=>!(pQ m s t d))with
  |none=>rw[bM]at af;simp only[II,agE,IH,go_sem,bJ,af,yi,xcq,yF ((-1:Int)>=0)]
  |some j=>rw[bM]at af;simp only[II,agE,IH,go_sem,bJ,af,yi,Option.isSome_some,yT ((j:Int)>=0)]
 .intro i d ay;have bY:=(xaa.1 ay).1;have hm:=xad ay;obtain⟨k,ah⟩:=(h.n d hm).2;have jY:=VN ah;obtain⟨y,aE⟩:=agh (l:=t) (k:=k) (by rw[aP.1];exact jY);have hw:(pS m s)[i]?=some (k,(ic m.vars (dU m.aA d.e).1 s []).1):=by simp[pS,ay,ah]
  have nI:pQ m s t d=decide (y=(ic m.vars (dU m.aA d.e).1 s []).1):=by unfold pQ;rw[ah];simp only[aE,xaE]
  generalize (ic m.vars (dU m.aA d.e).1 s []).1=v at*;have gf:bN true 2 0 [I (k:Int),I v]=some (.agg [I (k:Int),I v]):=rfl;have VX:dV 2 (.agg [I (k:Int),I v])=true:=rfl;have bf:ae (.agg [I (k:Int),I v]) 0=I (k:Int):=rfl;have c1:ae (.agg [I (k:Int),I v]) 1=I v:=rfl;have aa:IF n [.agg [I (k:Int),I v],.ref [cJ t] 0]=some (aI (y !=v)):=by show M4 n (.agg [I (k:Int),I v]) [cJ t]=_;simp only[M4,go_sem,VX,bf,c1,fN,um aE]
  have ct:=yT ((i:Int)<(m.next.length:Int));by_cases ai:y=v
  .have cp:(y !=v)=false:=by simp[ai]
   rw[cp]at aa;rw[nI,xaq ai];simp only[IG,go_sem,ct,agC hw,gf,aa,cm (bt:=false) (i:=i) (by omega)]
  have cp:(y !=v)=true:=by simp[ai]
  rw[cp]at aa;rw[nI,xaD ai];simp only[IG,go_sem,ct,agC hw,gf,aa,xce,xaF]
 simp only[IG,go_sem,yF ((m.next.length:Int)<m.next.length)]
end
def azs{x:D}{vs:List V}(ad:dV 8 x=true)(EG:ae x 0=br vs)(n:Nat)(aS:lQ vs)(al:vs.length<=100)(aN:200<n):IS n [x]=some (.a6 [I (stM vs).1,aI (stM vs).2]):=by
 have ax:=dC (f:=IP n) vs (λi (_:Unit)=>[I 1,I (i:Int),br vs,ae x 1,ae x 2,ae x 3,ae x 4,ae x 5,ae x 6,ae x 7]) (λr _=>(if oP r=true then .inr (.a6 [I 0,aI true])else .inl [I 1,br vs,ae x 1,ae x 2,ae x 3,ae x 4,ae x 5,ae x 6,ae x 7]:List D⊕D)) (λ_ _=>True) ?_ ?_ n 0 () trivial (by omega) (xaj _)
 .have b1:(I ((0:Nat):Int))=I 0:=rfl;rw[b1,xam]at ax;unfold stM;by_cases J:oP vs=true;.rw[xac J]at ax⊢;simp only[IS,Nf,go_sem,ad,EG,ax]
  rw[xae J]at ax⊢;have ij:∀v∈vs,v.span≠0:=by intro v aS bG;apply J;unfold oP;rw[xbC];exact⟨v,aS,by simp[bG]⟩
  have il:=dC (f:=IQ n) vs (λi (s:Int)=>[I s,I (i:Int),br vs,ae x 1,ae x 2,ae x 3,ae x 4,ae x 5,ae x 6,ae x 7]) (λr s=>(if mi r s>1073741824 then .inr (.a6 [I 0,aI false])else .inl [I (mi r s)]:List D⊕D)) (λi s=>1<=s/\s<=1073741824) ?_ ?_ n 0 1 (by simp) (by omega) (xaj _)
  .rw[b1,xam]at il;by_cases aa:mi vs 1>1073741824;.rw[xac aa]at il⊢;simp only[IS,Nf,go_sem,ad,EG,ax,il]
   rw[xae aa]at il⊢;simp only[IS,Nf,go_sem,ad,EG,ax,il]
  .intro s aC;have:¬s>1073741824:=by omega
   rw[mi,xae this];simp only[IQ,go_sem,eY,yF ((vs.length:Int)<vs.length)]
  intro i v s hI af aC;have gA:=xad hI;obtain⟨J,aa,_⟩:=aS.2 v gA;have gq:=Ej n v J aa;have mc:=V.Br v;have aU:=ij v gA;have B6:max v.span 1=v.span:=by omega
  have aj:=afK aC.1 aC.2 mc.1 mc.2;rw[B6]at aj;have bY:=yT ((i:Int)<(vs.length:Int));by_cases ai:s*v.span>1073741824
  .right;rw[mi,xac aC.2,B6,afJ _ _ (by omega),xac ai];simp only[IQ,go_sem,eY,bY,hj hI,V.a4,gq,xo (bt:=false) (a:=s) (b:=v.span) (by omega) (by omega),xaq ai]
  left;refine⟨s*v.span,?_,by rw[mi,xac aC.2,B6],by omega⟩;simp only[IQ,go_sem,eY,bY,hj hI,V.a4,gq,xo (bt:=false) (a:=s) (b:=v.span) (by omega) (by omega),xaD ai,cm (bt:=false) (i:=i) (by omega)]
 .intro _ _;have:¬(oP []=true):=by simp[oP]
  simp only[IP,go_sem,eY,yF ((vs.length:Int)<vs.length),xae this]
 intro i v _ hI af _;obtain⟨J,aa,_⟩:=aS.2 v (xad hI);have gq:=Ej n v J aa;have bY:=yT ((i:Int)<(vs.length:Int));have uO:oP (v::vs.drop (i+1))=(v.span==0||oP (vs.drop (i+1))):=rfl;by_cases bG:v.span=0
 .right;have JZ:(v.span==0)=true:=by simp[bG]
  rw[uO,JZ,Bool.true_or,xac rfl];simp only[IP,go_sem,eY,bY,hj hI,V.a4,gq,JZ]
 left;have JZ:(v.span==0)=false:=by simpa using bG
 rw[uO,JZ,xbE];exact⟨(),by simp only[IP,go_sem,eY,bY,hj hI,V.a4,gq,JZ,cm (bt:=false) (i:=i) (by omega)],rfl,trivial⟩
def dm(l:fe):D:= .aV 1 (l.map λs=>[cJ s])
def gI(v:V):Int:=if v.bool=true then 0 else v.lo
def k1(v:V)(s:List Int):fe:=(List.range v.span.toNat).map λ(j:Nat)=>s++[gI v+(j:Int)]
def jq:List V->fe->fe
 |[],out=>out|v::r,out=>jq r (out.flatMap (k1 v))
def gY:List V->Nat
 |[]=>1|v::r=>v.span.toNat*gY r
def mT(v:V):Prop:=1<=v.span/\v.span<=64/\-2000000<=gI v/\gI v<=2000000
theorem k2(l:fe):D.aV 1 (ba (dm l))=dm l:=rfl
def uD(l:fe):(ba (dm l)).length=l.length:=by simp[dm]
def J0{l:fe}{j:Nat}{s:List Int}(h:l[j]?=some s):(ba (dm l))[j]?=some [cJ s]:=by simp[dm,h]
def VY(l:fe)(s:List Int):D.aV 1 (ba (dm l)++[[cJ s]])=dm (l++[s]):=by simp[dm]
theorem agF(s:List Int):qG (cJ s)=some (1,s.map λ(x:Int)=>[I x]):=rfl
theorem EH(s:List Int):bZ (cJ s)=true:=rfl
section
variable(x:D)(vs:List V)(n:Nat)
def azt(aS:lQ vs)(aN:100000<n)(i k:Nat)(v:V)(lv:vs[i]?=some v)(bQ:mT v)(out:fe)(s:List Int)(aC:out[k]?=some s)(mc:s.length<=200)(Fb:out.length<=5000)(nx:fe)(nX:nx.length<=400000):bL (IT n) n [I (i:Int),I (gI v),I (k:Int),I 0,br vs,ae x 1,ae x 2,ae x 3,ae x 4,ae x 5,ae x 6,ae x 7,dm out,dm nx]=some (.inl [I (i:Int),I (gI v),I (k:Int),br vs,ae x 1,ae x 2,ae x 3,ae x 4,ae x 5,ae x 6,ae x 7,dm out,dm (nx++k1 v s)]):=by
 obtain⟨g1,g2,g3,g4⟩:=bQ;obtain⟨i1,i2,_⟩:=aS.2 v (xad lv);have gq:=Ej n v i1 i2;have jY:=(xaa.1 aC).1;have azu:v.span=(v.span.toNat:Int):=by omega
 have af:=dC (f:=IT n) (List.range v.span.toNat) (λj (q:fe)=>[I (i:Int),I (gI v),I (k:Int),I (j:Int),br vs,ae x 1,ae x 2,ae x 3,ae x 4,ae x 5,ae x 6,ae x 7,dm out,dm q]) (λr q=>(.inl [I (i:Int),I (gI v),I (k:Int),br vs,ae x 1,ae x 2,ae x 3,ae x 4,ae x 5,ae x 6,ae x 7,dm out,dm (q++r.map λ(j:Nat)=>s++[gI v+(j:Int)])]:List D⊕(List D⊕(List D⊕(List D⊕(List D⊕(List D⊕(List D⊕D)))))))) (λj q=>q.length<=400000+j) ?_ ?_ n 0 nx (by omega) (by simp;omega) (xaj _);.exact af
 .intro q bM;have b5:decide (((List.range v.span.toNat).length:Int)<v.span)=false:=xaD (by rw[xbK];omega);simp only[IT,go_sem,hj lv,V.a4,gq,b5,k2,xbc,xav]
 intro j a q aH aB bM;rw[xbK]at aB;have VZ:a=j:=by have:=(xaa.1 aH).2;simpa using this.symm
 subst VZ;have b5:decide ((a:Int)<v.span)=true:=xaq (by omega);have dR:cL out.length (I (k:Int))=some k:=by rw[jZ,xac jY]
 have fT:bB false .add (I (gI v)) (I (a:Int))=some (I (gI v+(a:Int))):=e5 (by omega) (by omega);have eM:cZ s.length 8=true:=fV (by omega) (by omega);have eG:cZ (s.length+1) 8=true:=fV (by omega) (by omega);have hF:cZ (q.length+1) 24=true:=fV (by omega) (by omega);have gf:bN false 1 0 [cJ s]=some (cJ s):=rfl;have azv:(decide (True\/(s.map λ(x:Int)=>[I x])=[])&&decide (0<1))=true:=by simp
 have oN:((1:Nat)=1)=True:=eq_self 1;left;refine⟨q++[s++[gI v+(a:Int)]],?_,by simp,by simp;omega⟩;simp only[IT,go_sem,hj lv,V.a4,gq,b5,uD,dR,J0 aC,gf,agF,oN,azv,xaA,xaY,xaM,eM,fT,xan,xay,xaQ,eG];have aL:D.aV 1 ((s.map λ(x:Int)=>[I x])++[[I (gI v+(a:Int))]])=cJ (s++[gI v+(a:Int)]):=by simp[cJ]
 simp only[aL,EH,go_sem,hF,cm (bt:=false) (i:=a) (by omega),VY,k2]
def azw(aS:lQ vs)(aN:100000<n)(i:Nat)(v:V)(lv:vs[i]?=some v)(bQ:mT v)(out:fe)(mc:∀s∈out,s.length<=200)(Fb:out.length<=5000):bL (IU n) n [I (i:Int),I (gI v),I 0,br vs,ae x 1,ae x 2,ae x 3,ae x 4,ae x 5,ae x 6,ae x 7,dm out,dm []]=some (.inl [I (i:Int),br vs,ae x 1,ae x 2,ae x 3,ae x 4,ae x 5,ae x 6,ae x 7,dm (out.flatMap (k1 v))]):=by
 have af:=dC (f:=IU n) out (λj (q:fe)=>[I (i:Int),I (gI v),I (j:Int),br vs,ae x 1,ae x 2,ae x 3,ae x 4,ae x 5,ae x 6,ae x 7,dm out,dm q]) (λr q=>(.inl [I (i:Int),br vs,ae x 1,ae x 2,ae x 3,ae x 4,ae x 5,ae x 6,ae x 7,dm (q++r.flatMap (k1 v))]:List D⊕(List D⊕(List D⊕(List D⊕D))))) (λj q=>q.length<=64*j) ?_ ?_ n 0 [] (by simp) (by omega) (xaj _);.exact af
 .intro q bM;simp only[IU,go_sem,uD,yF ((out.length:Int)<out.length),k2,List.flatMap_nil,xav]
 intro j s q aC aB bM;have ct:=yT ((j:Int)<(out.length:Int));have e6:=azt x vs n aS aN i j v lv bQ out s aC (mc s (xad aC)) Fb q (by omega);have ei:(k1 v s).length<=64:=by have:=bQ.2.1;simp only[k1,xaY,xbK];omega
 left;refine⟨q++k1 v s,?_,by simp[List.flatMap_cons],by simp;omega⟩;simp only[IU,go_sem,uD,ct,k2,e6,cm (bt:=false) (i:=j) (by omega)]
def azx(v:V)(s:List Int):(k1 v s).length=v.span.toNat:=by simp[k1]
def O6(v:V):∀out:fe,(out.flatMap (k1 v)).length=out.length*v.span.toNat
 |[]=>by simp|s::r=>by rw[List.flatMap_cons,xaQ,O6 v r,azx,xan,Nat.succ_mul,Nat.add_comm]
def V0:∀(l:List V),(∀v∈l,mT v)->1<=gY l
 |[],_=>xaT 1
 |v::r,h=>by
  have J:=(h v (by simp)).1;have aa:=V0 r λw hw=>h w (by simp[hw]);have:1<=v.span.toNat:=by omega
  rw[gY];exact Nat.mul_le_mul this aa
def O7:∀(l:List V)(out:fe),(jq l out).length=out.length*gY l
 |[],out=>by simp[jq,gY]|v::r,out=>by rw[jq,O7 r,O6,gY,Nat.mul_assoc]
theorem agG{v:V}{s t:List Int}(h:t∈k1 v s):t.length=s.length+1:=by simp only[k1,xaO]at h;obtain⟨j,_,rfl⟩:=h;simp
def azy(ad:dV 8 x=true)(EG:ae x 0=br vs)(VB:D.agg [br vs,ae x 1,ae x 2,ae x 3,ae x 4,ae x 5,ae x 6,ae x 7]=x)(aS:lQ vs)(aN:100000<n)(al:vs.length<=100)(bQ:∀v∈vs,mT v)(aU:gY vs<=4096)(gB:stM vs=((gY vs:Int),true)):TF n [x,I 4096]=some (dm (jq vs [[]])):=by
 have cK:=azs ad EG n aS al (by omega);rw[gB]at cK;have wG:decide (((gY vs:Nat):Int)>4096)=false:=xaD (by omega);have af:=dC (f:=IV n) vs (λi (q:fe)=>[I (i:Int),br vs,ae x 1,ae x 2,ae x 3,ae x 4,ae x 5,ae x 6,ae x 7,dm q]) (λr q=>(.inl [dm (jq r q)]:List D⊕D)) (λi q=>q.length*gY (vs.drop i)<=4096/\∀s∈q,s.length=i) ?_ ?_ n 0 [[]] ⟨by simpa using aU,by simp⟩ (by omega) (xaj _)
 .have b1:(I ((0:Nat):Int))=I 0:=rfl;have aL:D.aV 1 [[D.aV 1 ([]:List (List D))]]=dm [[]]:=rfl;have e4:bZ (D.aV 1 ([]:List (List D)))=true:=rfl;rw[b1,xam]at af;simp only[TF,abQ,go_sem,ad,EG,VB,cK,wG,e4,aL,af,k2,Bool.or_self]
 .intro q bM;simp only[IV,go_sem,eY,yF ((vs.length:Int)<vs.length),k2,jq]
 rintro i v q lv af ⟨J,aa⟩;have V1:=bQ v (xad lv);have ay:vs.drop i=v::vs.drop (i+1):=by obtain⟨bY,rfl⟩:=xaa.1 lv;exact xaU bY
 have V2:=V0 (vs.drop i) λw hw=>bQ w (xbn hw);have BW:q.length<=4096:=xbF (Nat.le_mul_of_pos_right _ V2) J;have lP:=azw x vs n aS aN i v lv V1 q (λs aC=>by rw[aa s aC];omega) (by omega);have ct:=yT ((i:Int)<(vs.length:Int));have a2:bN false 1 2 v.cells=some (I v.lo):=rfl;have aK:bN false 1 1 v.cells=some (aI v.bool):=rfl;have aL:D.aV 1 ([]:List (List D))=dm []:=rfl;left;refine⟨q.flatMap (k1 v),?_,rfl,?_,?_⟩
 .cases aj:v.bool with
  |true=>
   have gU:gI v=0:=by simp[gI,aj]
   rw[gU]at lP;simp only[IV,go_sem,eY,ct,hj lv,a2,aK,aj,aL,k2,lP,cm (bt:=false) (i:=i) (by omega)]
  |false=>
   have gU:gI v=v.lo:=by simp[gI,aj]
   rw[gU]at lP;simp only[IV,go_sem,eY,ct,hj lv,a2,aK,aj,aL,k2,lP,cm (bt:=false) (i:=i) (by omega)]
 .rw[O6];rw[ay,gY]at J;rw[Nat.mul_assoc];exact J
 intro t aP;obtain⟨s,aC,V3⟩:=List.mem_flatMap.1 aP;rw[agG V3,aa s aC]
end
def azz{l:List V}{s:List Int}(h:hq l s){v:V}{x:Int}(ad:if v.bool then x=0\/x=1 else v.lo<=x/\x<=v.af):hq (l++[v]) (s++[x]):=by
 refine⟨by simp[h.1],λi w y hw aE=>?_⟩;rcases Nat.lt_trichotomy i l.length with af|af|af
 .rw[xap af]at hw;rw[xap (by rw[h.1];exact af)]at aE;exact h.2 i w y hw aE
 .subst af;rw[xaC (xaT _)]at hw;rw[xaC (by rw[h.1];exact xaT _)]at aE;simp[h.1]at hw aE;subst hw;subst aE;exact ad
 rw[xaR (by simp;omega)]at hw;cases hw
def azA{v:V}{j:Nat}(aB:j<v.span.toNat)(bQ:mT v):if v.bool then(gI v+(j:Int)=0\/gI v+(j:Int)=1)else v.lo<=gI v+(j:Int)/\gI v+(j:Int)<=v.af:=by
 have g2:=bQ.2.1;unfold V.span at aB g2;unfold gI;cases aj:v.bool with
 |true=>rw[aj]at aB g2;simp only[xaF]at aB⊢;omega
 |false=>
  rw[aj]at aB g2;simp only[xar,xaH]at aB g2⊢;split at aB;.simp at aB
  split at aB;.omega
  rename_i J aa;rw[xae J,xae aa]at g2;omega
def agH:∀(r pre:List V)(out:fe),(∀v∈r,mT v)->(∀s∈out,hq pre s)->∀s∈jq r out,hq (pre++r) s
 |[],pre,out,_,h,s,aC=>by rw[xav];exact h s aC
 |v::r,pre,out,bQ,h,s,aC=>by
  rw[jq]at aC;have:=agH r (pre++[v]) (out.flatMap (k1 v)) (λw hw=>bQ w (by simp[hw])) (λt aP=>?_) s aC
  .rw[xaK]at this;exact this
  obtain⟨q,bM,agI⟩:=List.mem_flatMap.1 aP;simp only[k1,xaO,xbZ]at agI;obtain⟨j,aB,rfl⟩:=agI;exact azz (h q bM) (azA aB (bQ v (by simp)))
def azB{l:List V}(bQ:∀v∈l,mT v):∀s∈jq l [[]],hq l s:=by have:=agH l [] [[]] bQ (λs aC=>by simp at aC;subst aC;exact⟨rfl,λi v x aS=>by simp at aS⟩);simpa using this
def azC{l:List V}(h:(kM l).2=0):∀i v,l[i]?=some v->Ci (l.take i) v=0:=by intro i v aS;have bY:=(xaa.1 aS).1;unfold kM at h;cases bk:(List.range l.length).find? (λi=>jz l i !=0)with|none=>have:=List.find?_eq_none.1 bk i (by simp;exact bY);unfold jz at this;rw[aS]at this;simpa using this|some j=>rw[bk]at h;have:=List.find?_some bk;simp only at h;rw[h]at this;cases this
def agJ{l:List V}(h:(kM l).2=0):∀v∈l,mT v:=by
 intro v aS;obtain⟨i,af⟩:=xaG.1 aS;have au:=azC h i v af;unfold Ci at au;split at au
 .cases au
 split at au;.cases au
 split at au;.cases au
 split at au;.cases au
 rename_i J aa ax bh;unfold mT gI V.span;cases aj:v.bool with
 |true=>simp
 |false=>
  rw[aj]at bh;simp only[xce,xbv,xbh,xaz,not_or,u9]at bh;obtain⟨⟨g1,g2,g3⟩,g4⟩:=bh;have fJ:v.af<=255:=by
   by_cases ai:v.af>v.lo;.rw[xac ai]at g2;omega
   rw[xae ai]at g2;omega
  have hV:-255<=v.lo:=by
   by_cases ai:v.af<v.lo;.omega
   rw[xae ai]at g3;omega
  rw[wrap64 _ (by omega) (by omega)]at g4;simp only[xar,xaH,xae g1,xac (show v.af-v.lo<1073741824 by omega)];omega
def qn(s:List Int):D:=if s=[]then da else cJ s
def iL(l:fe):D:= .aV 1 (l.map λs=>[qn s])
def O8(l:fe):(ba (iL l)).length=l.length:=by simp[iL]
def azD{l:fe}{j:Nat}{s:List Int}(h:l[j]?=some s):(ba (iL l))[j]?=some [qn s]:=by simp[iL,h]
def azE{s:List Int}{x:Int}:qn (s++[x])=cJ (s++[x]):=by unfold qn;rw[xae (by simp)]
def azF(l:fe)(s:List Int)(x:Int):D.aV 1 (ba (iL l)++[[cJ (s++[x])]])=iL (l++[s++[x]]):=by rw[<-azE];simp[iL]
theorem yo(l:fe):D.aV 1 (ba (iL l))=iL l:=rfl
def azG(n:Nat)(s:List Int)(aC:s.length<=1000000):Iq n [qn s]=some [cJ s]:=by
 unfold qn;by_cases h:s=[];.rw[xac h];subst h;rfl
 rw[xae h];have J:Lb .eql (cJ s) (D.val (.slice none 0 0))=some (aI false):=by cases s with|nil=>exact absurd rfl h|cons a r=>rfl
 have aa:cZ (([]:List (List D)).length+(s.map λ(x:Int)=>[I x]).length) 8=true:=by
  have e:([]:List (List D)).length+(s.map λ(x:Int)=>[I x]).length=s.length:=by simp
  rw[e];exact fV (by omega) (by omega)
 have ax:(decide (True\/(s.map λ(x:Int)=>[I x])=[])&&decide (0<1))=true:=by simp
 have oN:((1:Nat)=1)=True:=eq_self 1;have bh:D.aV 1 (([]:List (List D))++s.map λ(x:Int)=>[I x])=cJ s:=rfl;simp only[Iq,go_sem,J,agF,oN,aa,ax,bh]
section
variable(vs:List V)(n:Nat)
def azH(aN:100000<n)(v:V)(bQ:mT v)(a b c d:D)(k:Nat)(s:List Int)(mc:s.length<=200)(nx out:fe)(nX:nx.length<=400000):bL (Ir n) n [I (gI v),qn s,a,b,c,d,I (k:Int),I v.span,I 0,ae v.d 0,ae v.d 1,ae v.d 2,ae v.d 3,iL nx,iL out]=some (.inl [I (gI v),a,b,c,d,I (k:Int),ae v.d 0,ae v.d 1,ae v.d 2,ae v.d 3,iL (nx++k1 v s),iL out]):=by
 obtain⟨g1,g2,g3,g4⟩:=bQ;have azu:v.span=(v.span.toNat:Int):=by omega
 have ha:=azG n s (by omega);have af:=dC (f:=Ir n) (List.range v.span.toNat) (λj (q:fe)=>[I (gI v),qn s,a,b,c,d,I (k:Int),I v.span,I (j:Int),ae v.d 0,ae v.d 1,ae v.d 2,ae v.d 3,iL q,iL out]) (λr q=>(.inl [I (gI v),a,b,c,d,I (k:Int),ae v.d 0,ae v.d 1,ae v.d 2,ae v.d 3,iL (q++r.map λ(j:Nat)=>s++[gI v+(j:Int)]),iL out]:List D⊕(List D⊕(List D⊕(List D⊕(List D⊕(List D⊕(List D⊕D)))))))) (λj q=>q.length<=400000+j) ?_ ?_ n 0 nx (by omega) (by simp;omega) (xaj _)
 .exact af
 .intro q bM;have b5:decide (((List.range v.span.toNat).length:Int)<v.span)=false:=xaD (by rw[xbK];omega);simp only[Ir,go_sem,b5,yo,xbc,xav]
 intro j cI q aH aB bM;rw[xbK]at aB;have VZ:cI=j:=by have:=(xaa.1 aH).2;simpa using this.symm
 subst VZ;have b5:decide ((cI:Int)<v.span)=true:=xaq (by omega);have fT:bB false .add (I (gI v)) (I (cI:Int))=some (I (gI v+(cI:Int))):=e5 (by omega) (by omega);have eG:cZ (s.length+1) 8=true:=fV (by omega) (by omega);have hF:cZ (q.length+1) 24=true:=fV (by omega) (by omega);have b1:∀x:D,bb [x] 0=x:=λ_=>rfl;have a7:(ba (cJ s)).length=s.length:=by simp[cJ]
 have aL:D.aV 1 (ba (cJ s)++[[I (gI v+(cI:Int))]])=cJ (s++[gI v+(cI:Int)]):=by simp[cJ]
 left;refine⟨q++[s++[gI v+(cI:Int)]],?_,by simp,by simp;omega⟩;simp only[Ir,go_sem,b5,ha,fT,b1,a7,xan,xaA,eG,aL,EH,O8,hF,cm (bt:=false) (i:=cI) (by omega),azF,yo]
def azI(aN:100000<n)(v:V)(J:nd v.lo)(aa:nd v.af)(bQ:mT v)(a b c:D)(out:fe)(mc:∀s∈out,s.length<=200)(Fb:out.length<=5000):bL (Is n) n [I (gI v),a,b,c,I out.length,I 0,ae v.d 0,ae v.d 1,ae v.d 2,ae v.d 3,iL [],iL out]=some (.inl [a,b,c,iL (out.flatMap (k1 v))]):=by
 have gq:=Vk n v J aa;have af:=dC (f:=Is n) out (λj (q:fe)=>[I (gI v),a,b,c,I out.length,I (j:Int),ae v.d 0,ae v.d 1,ae v.d 2,ae v.d 3,iL q,iL out]) (λr q=>(.inl [a,b,c,iL (q++r.flatMap (k1 v))]:List D⊕(List D⊕(List D⊕(List D⊕D))))) (λj q=>q.length<=64*j) ?_ ?_ n 0 [] (by simp) (by omega) (xaj _)
 .exact af
 .intro q bM;simp only[Is,go_sem,yF ((out.length:Int)<out.length),yo,List.flatMap_nil,xav]
 intro j s q aC aB bM;have ct:=yT ((j:Int)<(out.length:Int));have dR:cL out.length (I (j:Int))=some j:=by rw[jZ,xac aB]
 have lP:=azH n aN v bQ a b c (I out.length) j s (mc s (xad aC)) q out (by omega);have gf:bN false 1 0 [qn s]=some (qn s):=rfl;have ei:(k1 v s).length<=64:=by have:=bQ.2.1;simp only[k1,xaY,xbK];omega
 left;refine⟨q++k1 v s,?_,by simp[List.flatMap_cons],by simp;omega⟩;simp only[Is,go_sem,ct,O8,dR,azD aC,gf,V.Oj,gq,yo,lP,cm (bt:=false) (i:=j) (by omega)]
def azJ(aS:lQ vs)(aN:100000<n)(al:vs.length<=100)(bQ:∀v∈vs,mT v)(aU:gY vs<=4096):MX n [br vs]=some (iL (jq vs [[]])):=by
 have af:=dC (f:=It n) vs (λi (q:fe)=>[br vs,I vs.length,I (i:Int),iL q]) (λr q=>(.inl [iL (jq r q)]:List D⊕D)) (λi q=>q.length*gY (vs.drop i)<=4096/\∀s∈q,s.length=i) ?_ ?_ n 0 [[]] ⟨by simpa using aU,by simp⟩ (by omega) (xaj _);.have b1:(I ((0:Nat):Int))=I 0:=rfl;have aL:D.aV 1 [[(D.val (.slice none 0 0))]]=iL [[]]:=rfl;rw[b1,xam]at af;simp only[MX,abF,go_sem,eY,aL,af,yo]
 .intro q bM;simp only[It,go_sem,yF ((vs.length:Int)<vs.length),yo,jq]
 rintro i v q lv af ⟨J,aa⟩;have gA:=xad lv;have V1:=bQ v gA;obtain⟨i1,i2,_⟩:=aS.2 v gA;have ay:vs.drop i=v::vs.drop (i+1):=by obtain⟨bY,rfl⟩:=xaa.1 lv;exact xaU bY
 have V2:=V0 (vs.drop i) λw hw=>bQ w (xbn hw);have BW:q.length<=4096:=xbF (Nat.le_mul_of_pos_right _ V2) J;have oM:=azI n aN v i1 i2 V1 (br vs) (I vs.length) (I (i:Int)) q (λs aC=>by rw[aa s aC];omega) (by omega);have ct:=yT ((i:Int)<(vs.length:Int));have aL:D.aV 1 ([]:List (List D))=iL []:=rfl;have c1:ae v.d 1=aI v.bool:=rfl;have c2:ae v.d 2=I v.lo:=rfl;left;refine⟨q.flatMap (k1 v),?_,rfl,?_,?_⟩
 .cases aj:v.bool with
  |true=>
   have gU:gI v=0:=by simp[gI,aj]
   rw[gU,c1,aj]at oM;simp only[It,go_sem,ct,hj lv,V.a4,V.g4,c1,aj,aL,yo,O8,oM,cm (bt:=false) (i:=i) (by omega)]
  |false=>
   have gU:gI v=v.lo:=by simp[gI,aj]
   rw[gU,c1,c2,aj]at oM;simp only[It,go_sem,ct,hj lv,V.a4,V.g4,c1,c2,aj,aL,yo,O8,oM,cm (bt:=false) (i:=i) (by omega)]
 .rw[O6];rw[ay,gY]at J;rw[Nat.mul_assoc];exact J
 intro t aP;obtain⟨s,aC,V3⟩:=List.mem_flatMap.1 aP;rw[agG V3,aa s aC]
def agK(s:List Int):Dm (qn s)=cJ s:=by
 unfold qn;by_cases h:s=[];.rw[xac h];subst h;rfl
 rw[xae h];rfl
def azK(aS:lQ vs)(aN:100000<n)(al:vs.length<=100)(bQ:∀v∈vs,mT v)(aU:gY vs<=4096):Dn n [br vs]=some (dm (jq vs [[]])):=by
 have h:Iu (iL (jq vs [[]]))=some (dm (jq vs [[]])):=by
  unfold Iu iL;have J:((jq vs [[]]).map λs=>[qn s]).all (λe=>(e.map Dm).all D.one)=true:=by rw[xax];intro e he;obtain⟨s,_,rfl⟩:=xaO.1 he;simp only[xau,xbc,agK,xbj,List.all_nil,xbu];rfl
  simp only[J,xaF,dm,List.map_map]
  congr 2
  refine List.map_congr_left λs _=>?_;simp[agK]
 simp only[Dn,azJ vs n aS aN al bQ aU,h]
end
def cd(l:List Nat):D:= .aV 1 (l.map λ(k:Nat)=>[I (k:Int)])
def dn(l:er):D:= .aV 1 (l.map λs=>[cd s])
def gx(l:List (List Bool)):D:= .aV 1 (l.map λs=>[cR s])
def hP(p:List Int->Bool):Nat->fe->List Nat
 |_,[]=>[]|i,s::r=>if p s=true then i::hP p (i+1) r else hP p (i+1) r
noncomputable def eU(m:ar):fe:=(jq m.vars [[]]).filter (k0 m)
noncomputable def qo(m:ar)(s:List Int):List Nat:=hP (nC m s) 0 (eU m)
noncomputable def wx(m:ar):List Nat:=hP (uB m) 0 (eU m)
noncomputable def sJ(m:ar):D:= .agg [dm (eU m),dn ((eU m).map (qo m)),cd (wx m),gx ((eU m).map (lR m))]
def pT(l:List Nat):(ba (cd l)).length=l.length:=by simp[cd]
def J1(l:er):(ba (dn l)).length=l.length:=by simp[dn]
def O9(l:List (List Bool)):(ba (gx l)).length=l.length:=by simp[gx]
def sK(l:List Bool):(ba (cR l)).length=l.length:=by simp[cR]
theorem fm(l:List Nat):D.aV 1 (ba (cd l))=cd l:=rfl
theorem rb(l:er):D.aV 1 (ba (dn l))=dn l:=rfl
theorem yp(l:List (List Bool)):D.aV 1 (ba (gx l))=gx l:=rfl
theorem iM(l:List Bool):D.aV 1 (ba (cR l))=cR l:=rfl
def yq(l:List Nat)(k:Nat):D.aV 1 (ba (cd l)++[[I (k:Int)]])=cd (l++[k]):=by simp[cd]
def J2(l:er)(k:List Nat):D.aV 1 (ba (dn l)++[[cd k]])=dn (l++[k]):=by simp[dn]
def Pa(l:List (List Bool))(k:List Bool):D.aV 1 (ba (gx l)++[[cR k]])=gx (l++[k]):=by simp[gx]
def azL(l:List Bool)(k:Bool):D.aV 1 (ba (cR l)++[[aI k]])=cR (l++[k]):=by simp[cR]
theorem Pb(l:List Nat):bZ (cd l)=true:=rfl
theorem Pc(l:List Bool):bZ (cR l)=true:=rfl
def uE{l:fe}{j:Nat}{s:List Int}(h:l[j]?=some s):bX 1 (dm l) (I (j:Int))=some [cJ s]:=by obtain⟨bY,rfl⟩:=xaa.1 h;simp[dm,bY]
def o3(l:fe):fA (dm l)=some (I l.length):=by simp[dm]
def agL{p:List Int->Bool}:∀(l:fe)(i:Nat),∀k∈hP p i l,i<=k/\k<i+l.length/\∃s,l[k-i]?=some s/\p s=true
 |[],i,k,h=>by simp[hP]at h
 |s::r,i,k,h=>by
  unfold hP at h;have rc:k∈hP p (i+1) r->i<=k/\k<i+(s::r).length/\∃s',(s::r)[k-i]?=some s'/\p s'=true:=by intro h;obtain⟨J,aa,s',ax,bh⟩:=agL r (i+1) k h;refine⟨by omega,by simp;omega,s',?_,bh⟩;rw[show k-i=(k-(i+1))+1 by omega];simpa using ax
  split at h
  .rename_i aU;rcases xal.1 h with rfl|h
   .exact⟨by omega,by simp,s,by simp,aU⟩
   exact rc h
  exact rc h
section
variable{m:ar}(h:yk m)(n:Nat)(aN:13306000000<n)
include h aN
theorem azM(A:fe)(dr:∀s∈A,hq m.vars s)(al:A.length<=5000):bL (Dq n) n [dm A,I A.length,I 0,da,da,da,br m.vars,da,az (m.bU.map (cr m.aA)),az (m.bW.map (cr m.aA)),aY (m.next.map (gv m.aA)),az (m.trans.map (cr m.aA)),az (m.bO.map (cr m.aA)),b2 (m.bP.map (iK m.aA)),dm []]=some (.inl [da,da,da,br m.vars,da,az (m.bU.map (cr m.aA)),az (m.bW.map (cr m.aA)),aY (m.next.map (gv m.aA)),az (m.trans.map (cr m.aA)),az (m.bO.map (cr m.aA)),b2 (m.bP.map (iK m.aA)),dm (A.filter (k0 m))]):=by
 have aj:=h.mS.b.2.1;have af:=dC (f:=Dq n) A (λi (p:fe)=>[dm A,I A.length,I (i:Int),da,da,da,br m.vars,da,az (m.bU.map (cr m.aA)),az (m.bW.map (cr m.aA)),aY (m.next.map (gv m.aA)),az (m.trans.map (cr m.aA)),az (m.bO.map (cr m.aA)),b2 (m.bP.map (iK m.aA)),dm p]) (λr p=>(.inl [da,da,da,br m.vars,da,az (m.bU.map (cr m.aA)),az (m.bW.map (cr m.aA)),aY (m.next.map (gv m.aA)),az (m.trans.map (cr m.aA)),az (m.bO.map (cr m.aA)),b2 (m.bP.map (iK m.aA)),dm (p++r.filter (k0 m))]:List D⊕D)) (λi p=>p.length<=i) ?_ ?_ n 0 [] (by simp) (by omega) (xaj _)
 .exact af
 .intro p _;simp only[Dq,go_sem,yF ((A.length:Int)<A.length),List.filter_nil,xav,k2]
 intro i s p aC af aU;have av:=dr s (xad aC);have ey:=VW h.kC h.gG av (nx:=false) (nn:=[]) (by simp) (λ_=>rfl) (bn:=true) n aN (L:=m.bW) h.sF aj;rw[Ee]at ey;have gB:k0 m s=m.bW.all λt=>ie m.vars (dU m.aA t).1 s []:=by unfold k0;rw[VM.2 av,xbv]
 rw[<-gB]at ey;have ct:=yT ((i:Int)<(A.length:Int));have eI:cZ (p.length+1) 24=true:=fV (by omega) (by omega);left;cases ai:k0 m s with|true=>rw[ai]at ey;refine⟨p++[s],?_,by rw[List.filter_cons,ai];simp,by simp;omega⟩;simp only[Dq,go_sem,b6.agg,b6.bf,b6.c1,b6.c2,b6.b4,b6.cT,b6.dp,b6.dq,b6.dE,b6.eta,ct,uE aC,fN,ey,EH,uD,xan,xaA,eI,VY,k2,cm (bt:=false) (i:=i) (by omega)]|false=>rw[ai]at ey;refine⟨p,?_,by rw[List.filter_cons,ai];simp,by omega⟩;simp only[Dq,go_sem,b6.agg,b6.bf,b6.c1,b6.c2,b6.b4,b6.cT,b6.dp,b6.dq,b6.dE,b6.eta,ct,uE aC,fN,ey,k2,cm (bt:=false) (i:=i) (by omega)]
theorem agM{s:List Int}(aC:hq m.vars s)(a b c d e f:D)(he:∀x,x=c\/x=d\/x=e\/x=f->D.aV 1 (ba x)=x):bL (IJ n) n [cJ s,a,b,az (m.bO.map (cr m.aA)),I m.bO.length,I 0,br m.vars,da,az (m.bU.map (cr m.aA)),az (m.bW.map (cr m.aA)),aY (m.next.map (gv m.aA)),az (m.trans.map (cr m.aA)),az (m.bO.map (cr m.aA)),b2 (m.bP.map (iK m.aA)),cR [],c,d,e,f]=some (.inl [cJ s,a,b,br m.vars,da,az (m.bU.map (cr m.aA)),az (m.bW.map (cr m.aA)),aY (m.next.map (gv m.aA)),az (m.trans.map (cr m.aA)),az (m.bO.map (cr m.aA)),b2 (m.bP.map (iK m.aA)),cR (lR m s),c,d,e,f]):=by
 have aj:=h.mS.b.2.2.2.2.1;have ai:=he c (.inl rfl);have ay:=he d (.inr (.inl rfl));have EI:=he e (.inr (.inr (.inl rfl)));have bk:=he f (.inr (.inr (.inr rfl)))
 have af:=dC (f:=IJ n) m.bO (λi (p:List Bool)=>[cJ s,a,b,az (m.bO.map (cr m.aA)),I m.bO.length,I (i:Int),br m.vars,da,az (m.bU.map (cr m.aA)),az (m.bW.map (cr m.aA)),aY (m.next.map (gv m.aA)),az (m.trans.map (cr m.aA)),az (m.bO.map (cr m.aA)),b2 (m.bP.map (iK m.aA)),cR p,c,d,e,f]) (λr p=>(.inl [cJ s,a,b,br m.vars,da,az (m.bU.map (cr m.aA)),az (m.bW.map (cr m.aA)),aY (m.next.map (gv m.aA)),az (m.trans.map (cr m.aA)),az (m.bO.map (cr m.aA)),b2 (m.bP.map (iK m.aA)),cR (p++r.map λt=>ie m.vars (dU m.aA t).1 s []),c,d,e,f]:List D⊕(List D⊕(List D⊕(List D⊕D))))) (λi p=>p.length=i) ?_ ?_ n 0 [] rfl (by omega) (xaj _);.exact af
 .intro p _;simp only[IJ,go_sem,yF ((m.bO.length:Int)<m.bO.length),iM,xbc,xav,ai,ay,EI,bk]
 intro i t p aP af aU;have ad:(m.bO.map (cr m.aA))[i]?=some (cr m.aA t):=by rw[xah,aP];rfl
 have cK:=agB h.kC h.gG aC (nx:=false) (nn:=[]) (by simp) (λ_=>rfl) (bn:=true) n aN (h.f t (xad aP));rw[Ee]at cK;have ct:=yT ((i:Int)<(m.bO.length:Int));have eI:cZ (p.length+1) 1=true:=fV (by omega) (by omega);left;refine⟨p++[ie m.vars (dU m.aA t).1 s []],?_,by simp,by simp[aU]⟩;simp only[IJ,go_sem,b6.agg,b6.bf,b6.c1,b6.c2,b6.b4,b6.cT,b6.dp,b6.dq,b6.dE,b6.eta,ct,VL ad,T.ui,T.pI,cK,sK,xan,xaA,eI,azL,ai,ay,EI,bk,cm (bt:=false) (i:=i) (by omega)]
theorem agN(S:fe)(cK:∀s∈S,k0 m s=true)(al:S.length<=5000){s:List Int}(aC:k0 m s=true)(a b c d e:D)(he:∀x,x=c\/x=d\/x=e->D.aV 1 (ba x)=x):bL (Dr n) n [cJ s,kc (pS m s),aI true,a,b,I S.length,I 0,br m.vars,da,az (m.bU.map (cr m.aA)),az (m.bW.map (cr m.aA)),aY (m.next.map (gv m.aA)),az (m.trans.map (cr m.aA)),az (m.bO.map (cr m.aA)),b2 (m.bP.map (iK m.aA)),cd [],dm S,c,d,e]=some (.inl [a,b,br m.vars,da,az (m.bU.map (cr m.aA)),az (m.bW.map (cr m.aA)),aY (m.next.map (gv m.aA)),az (m.trans.map (cr m.aA)),az (m.bO.map (cr m.aA)),b2 (m.bP.map (iK m.aA)),cd (hP (nC m s) 0 S),dm S,c,d,e]):=by
 have ai:=he c (.inl rfl);have ay:=he d (.inr (.inl rfl));have EI:=he e (.inr (.inr rfl))
 have aj:=h.mS.b.2.2.2.1;have af:=dC (f:=Dr n) S (λi (p:Nat×List Nat)=>[cJ s,kc (pS m s),aI true,a,b,I S.length,I (i:Int),br m.vars,da,az (m.bU.map (cr m.aA)),az (m.bW.map (cr m.aA)),aY (m.next.map (gv m.aA)),az (m.trans.map (cr m.aA)),az (m.bO.map (cr m.aA)),b2 (m.bP.map (iK m.aA)),cd p.2,dm S,c,d,e]) (λr p=>(.inl [a,b,br m.vars,da,az (m.bU.map (cr m.aA)),az (m.bW.map (cr m.aA)),aY (m.next.map (gv m.aA)),az (m.trans.map (cr m.aA)),az (m.bO.map (cr m.aA)),b2 (m.bP.map (iK m.aA)),cd (p.2++hP (nC m s) p.1 r),dm S,c,d,e]:List D⊕(List D⊕(List D⊕(List D⊕D))))) (λi p=>p.1=i/\p.2.length<=i) ?_ ?_ n 0 (0,[]) (by simp) (by omega) (xaj _)
 .exact af
 .intro p _;simp only[Dr,go_sem,yF ((S.length:Int)<S.length),fm,k2,ai,ay,EI,hP,xav]
 rintro i t ⟨q,p⟩ aP af ⟨rfl,aU⟩;have gB:=cK t (xad aP);have av:=wu gB;have ey:=VW h.kC h.gG (wu aC) (nx:=true) (nn:=t) (λ_=>av) (by simp) (bn:=false) n aN (L:=m.trans) h.t aj;rw[aeF]at ey;have cn:=azr h n aN (s:=s) av;have gq:nC m s t=(m.next.all (pQ m s t)&&m.trans.all λx=>ie m.vars (dU m.aA x).1 s t):=by unfold nC;rw[aC,gB,xbv,xbv]
 have ct:=yT ((q:Int)<(S.length:Int));have dR:cL S.length (I (q:Int))=some q:=by rw[jZ,xac af]
 have eI:cZ (p.length+1) 8=true:=fV (by have:=aU;simp only at this;omega) (by have:=aU;simp only at this;omega);have k4:∀x,(aI x).flat=true:=λ_=>rfl;left;cases ad:nC m s t with|true=>rw[gq]at ad;refine⟨(q+1,p++[q]),?_,by rw[hP,xac (by rw[gq];exact ad)];simp,rfl,by simp only at aU⊢;simp;omega⟩;simp only[Dr,go_sem,b6.agg,b6.bf,b6.c1,b6.c2,b6.b4,b6.cT,b6.dp,b6.dq,b6.dE,b6.eta,ct,uD,dR,J0 aP,fN,EH,cn,k4,By,yh,ey,ad,Bool.not_not,pT,xan,xaA,eI,yq,fm,k2,ai,ay,EI,cm (bt:=false) (i:=q) (by omega)]|false=>rw[gq]at ad;refine⟨(q+1,p),?_,by rw[hP,xae (by rw[gq,ad];simp)],rfl,by simp only at aU⊢;omega⟩;simp only[Dr,go_sem,b6.agg,b6.bf,b6.c1,b6.c2,b6.b4,b6.cT,b6.dp,b6.dq,b6.dE,b6.eta,ct,uD,dR,J0 aP,fN,EH,cn,k4,By,yh,ey,ad,Bool.not_not,fm,k2,ai,ay,EI,cm (bt:=false) (i:=q) (by omega)]
theorem azN(S:fe)(cK:∀s∈S,k0 m s=true)(al:S.length<=5000):bL (Ds n) n [I S.length,I 0,br m.vars,da,az (m.bU.map (cr m.aA)),az (m.bW.map (cr m.aA)),aY (m.next.map (gv m.aA)),az (m.trans.map (cr m.aA)),az (m.bO.map (cr m.aA)),b2 (m.bP.map (iK m.aA)),dm S,dn [],cd [],gx []]=some (.inl [dm S,dn (S.map λs=>hP (nC m s) 0 S),cd (hP (uB m) 0 S),gx (S.map (lR m))]):=by
 have af:=dC (f:=Ds n) S (λi (p:Nat×er×List Nat×List (List Bool))=>[I S.length,I (i:Int),br m.vars,da,az (m.bU.map (cr m.aA)),az (m.bW.map (cr m.aA)),aY (m.next.map (gv m.aA)),az (m.trans.map (cr m.aA)),az (m.bO.map (cr m.aA)),b2 (m.bP.map (iK m.aA)),dm S,dn p.2.1,cd p.2.2.1,gx p.2.2.2]) (λr p=>(.inl [dm S,dn (p.2.1++r.map λs=>hP (nC m s) 0 S),cd (p.2.2.1++hP (uB m) p.1 r),gx (p.2.2.2++r.map (lR m))]:List D⊕D)) (λi p=>p.1=i/\p.2.1.length=i/\p.2.2.1.length<=i/\p.2.2.2.length=i) ?_ ?_ n 0 (0,[],[],[]) (by simp) (by omega) (xaj _);.exact af
 .intro p _;simp only[Ds,go_sem,yF ((S.length:Int)<S.length),rb,fm,yp,k2,hP,xbc,xav]
 rintro i s ⟨q,nx,e7,e8⟩ aC af ⟨rfl,J,aa,ax⟩;simp only at J aa ax;have gB:=cK s (xad aC);have av:=wu gB;have ey:=VW h.kC h.gG av (nx:=false) (nn:=[]) (by simp) (λ_=>rfl) (bn:=true) n aN (L:=m.bU) h.i h.mS.b.1;rw[Ee]at ey;have cX:uB m s=m.bU.all λt=>ie m.vars (dU m.aA t).1 s []:=by unfold uB;rw[gB,xbv]
 rw[<-cX]at ey;have ct:=yT ((q:Int)<(S.length:Int));have dR:cL S.length (I (q:Int))=some q:=by rw[jZ,xac af]
 have eM:cZ (e7.length+1) 8=true:=fV (by omega) (by omega);have eG:cZ (e8.length+1) 24=true:=fV (by omega) (by omega);have hF:cZ (nx.length+1) 24=true:=fV (by omega) (by omega);have bJ:fA (az (m.bO.map (cr m.aA)))=some (I m.bO.length):=by rw[iu,xaY]
 have l3:=azq h n aN av;have aL:D.aV 1 ([]:List (List D))=cR []:=rfl;have aC0:∀x,(aI x).flat=true:=λ_=>rfl;left;cases ad:uB m s with
 |true=>rw[ad]at ey;have V4:=agM h n aN av (I S.length) (I (q:Int)) (dm S) (dn nx) (cd (e7++[q])) (gx e8) (by rintro x (rfl|rfl|rfl|rfl)<;>rfl);have J3:=agN h n aN S cK al gB (I S.length) (I (q:Int)) (dn nx) (cd (e7++[q])) (gx (e8++[lR m s])) (by rintro x (rfl|rfl|rfl)<;>rfl);have a7:cR []=cd []:=rfl;rw[<-a7]at J3;refine⟨(q+1,nx++[hP (nC m s) 0 S],e7++[q],e8++[lR m s]),?_,by rw[hP,xac ad];simp,rfl,by simp[J],by simp only;simp;omega,by simp[ax]⟩;simp only[Ds,go_sem,b6.agg,b6.bf,b6.c1,b6.c2,b6.b4,b6.cT,b6.dp,b6.dq,b6.dE,b6.eta,ct,uD,dR,J0 aC,fN,ey,pT,xan,xaA,eM,yq,fm,rb,yp,k2,bJ,aL,V4,iM,Pc,O9,eG,Pa,l3,J3,Pb,J1,hF,J2,cm (bt:=false) (i:=q) (by omega)]
 |false=>rw[ad]at ey;have V4:=agM h n aN av (I S.length) (I (q:Int)) (dm S) (dn nx) (cd e7) (gx e8) (by rintro x (rfl|rfl|rfl|rfl)<;>rfl);have J3:=agN h n aN S cK al gB (I S.length) (I (q:Int)) (dn nx) (cd e7) (gx (e8++[lR m s])) (by rintro x (rfl|rfl|rfl)<;>rfl);have a7:cR []=cd []:=rfl;rw[<-a7]at J3;refine⟨(q+1,nx++[hP (nC m s) 0 S],e7,e8++[lR m s]),?_,by rw[hP,xae (by rw[ad];simp)];simp,rfl,by simp[J],by simp only;omega,by simp[ax]⟩;simp only[Ds,go_sem,b6.agg,b6.bf,b6.c1,b6.c2,b6.b4,b6.cT,b6.dp,b6.dq,b6.dE,b6.eta,ct,uD,dR,J0 aC,fN,ey,fm,rb,yp,k2,bJ,aL,V4,iM,Pc,O9,xan,xaA,eG,Pa,l3,J3,Pb,J1,hF,J2,cm (bt:=false) (i:=q) (by omega)]
theorem azO(bQ:∀v∈m.vars,mT v)(aU:gY m.vars<=4096)(gB:stM m.vars=((gY m.vars:Int),true)){q:D}(bM:dV 2 q=true)(ai:oD n [m.d]=some (.a6 [q,I 0])):AP n [m.d]=some (.a6 [sJ m,I 0]):=by
 have dr:=azK m.vars n h.kC (by omega) h.gG bQ aU;have cK:=axA n m h.kC h.gG (by omega);rw[gB]at cK;have fQ:=ayw h.mS n aN;have bJ:(jq m.vars [[]]).length<=4096:=by rw[O7];simpa using aU
 have Vd:=azM h n aN (jq m.vars [[]]) (azB bQ) (by omega);have mc:(eU m).length<=4096:=xbF (List.length_filter_le _ _) bJ;have oL:=azN h n aN (eU m) (λs aC=>(xcc.1 aC).2) (by omega);have wG:decide (((gY m.vars:Nat):Int)>4096)=false:=xaD (by omega);have aL:D.aV 1 ([]:List (List D))=dm []:=rfl;have a7:dm []=dn []:=rfl;have bV:dm []=cd []:=rfl;have cG:dm []=gx []:=rfl;have nX:ng da=true:=rfl;have aH:dV 2 (.agg [I 0,I 0])=true:=rfl;have azP:(jq m.vars [[]]).filter (k0 m)=eU m:=rfl;rw[<-a7,<-cG,<-bV]at oL;simp only[AP,Tw,go_sem,ar.agg,ar.bf,ar.c1,ar.c2,ar.b4,ar.cT,ar.dp,ar.dq,ar.dE,ar.eta,ai,bM,cK,wG,fQ,b6.agg,b6.bf,b6.c1,b6.c2,b6.b4,b6.cT,b6.dp,b6.dq,b6.dE,b6.eta,aH,dr,o3,aL,Vd,azP,nX,uD,k2,oL,rb,fm,yp,Bool.or_self];rfl
theorem azQ(bQ:∀v∈m.vars,mT v)(aU:gY m.vars<=4096)(gB:stM m.vars=((gY m.vars:Int),true)){q:D}(bM:dV 2 q=true)(ai:oD n [m.d]=some (.a6 [q,I 0])):sl n [m.d]=some (.a6 [sJ m,I 0]):=by have e:sl n [m.d]=AP n [m.d]:=rfl;rw[e];exact azO h n aN bQ aU gB bM ai
end
def sL{l:List Nat}{j k:Nat}(h:l[j]?=some k):bX 1 (cd l) (I (j:Int))=some [I (k:Int)]:=by obtain⟨bY,rfl⟩:=xaa.1 h;simp[cd,bY]
def yr(l:List Nat):fA (cd l)=some (I l.length):=by simp[cd]
def Pd{l:er}{j:Nat}{k:List Nat}(h:l[j]?=some k):bX 1 (dn l) (I (j:Int))=some [cd k]:=by obtain⟨bY,rfl⟩:=xaa.1 h;simp[dn,bY]
theorem azR{m:ar}:JU m (kb m):=⟨gH,da,m.bP.map (uA m.aA),agb,.inl rfl,rfl⟩
structure EJ(m:ar):Prop where
 sM:yk m
 g:∀v∈m.vars,mT v
 p:gY m.vars<=4096
 s:stM m.vars=((gY m.vars:Int),true)
def EJ.len{m:ar}(h:EJ m):(eU m).length<=4096:=xbF (List.length_filter_le _ _) (by rw[O7];simpa using h.p)
theorem azS{m:ar}{x:D}(ad:JU m x):ae x 0=br m.vars:=by obtain⟨φ,hn,sp,_,_,rfl⟩:=ad;rfl
section
variable{m:ar}(h:EJ m)(n:Nat)(aN:13306000000<n)
include h aN
theorem azT{x:D}(ad:uC m x):TS n [x]=some (dm (eU m)):=by
 obtain⟨y,aE,bk⟩:=OT h.sM n aN ad;have dF:dV 8 x=true:=yl ad;have ra:dV 8 y=true:=yl (.inr aE);have od:=o2 (m:=m) (.inr aE);have agO:=azS aE;have agP:=od;rw[agO]at agP;have dr:=azy y m.vars n ra agO agP h.sM.kC (by omega) h.sM.gG h.g h.p h.s;have zq:(jq m.vars [[]]).length<=4096:=by rw[O7];simpa using h.p
 have af:=dC (f:=IY n) (jq m.vars [[]]) (λi (p:fe)=>[dm (jq m.vars [[]]),I (i:Int),ae y 0,ae y 1,ae y 2,ae y 3,ae y 4,ae y 5,ae y 6,ae y 7,dm p]) (λr p=>(.inl [dm (p++r.filter (k0 m))]:List D⊕D)) (λi p=>p.length<=i) ?_ ?_ n 0 [] (by simp) (by omega) (xaj _);.have b1:(I ((0:Nat):Int))=I 0:=rfl;have aL:D.aV 1 ([]:List (List D))=dm []:=rfl;rw[b1,xam,xaM]at af;simp only[TS,abU,go_sem,dF,o2 ad,bk,ra,od,dr,aL,af,k2];rfl
 .intro p _;simp only[IY,go_sem,o3,yF (((jq m.vars [[]]).length:Int)<(jq m.vars [[]]).length),k2,List.filter_nil,xav]
 intro i s p aC af aU;have cK:=OU h.sM n aN aE s;have ct:=yT ((i:Int)<((jq m.vars [[]]).length:Int));have eI:cZ (p.length+1) 24=true:=fV (by omega) (by omega);left;cases ai:k0 m s with|true=>rw[ai]at cK;refine⟨p++[s],?_,by rw[List.filter_cons,ai];simp,by simp;omega⟩;simp only[IY,go_sem,o3,ct,uE aC,fN,od,cK,EH,uD,xan,xaA,eI,VY,k2,cm (bt:=false) (i:=i) (by omega)]|false=>rw[ai]at cK;refine⟨p,?_,by rw[List.filter_cons,ai];simp,by omega⟩;simp only[IY,go_sem,o3,ct,uE aC,fN,od,cK,k2,cm (bt:=false) (i:=i) (by omega)]
end
def agQ(l:fe):Prop:=l.Pairwise λs t=>hd s t<0
def agQ.lt{l:fe}(h:agQ l){i j:Nat}{s t:List Int}(af:l[i]?=some s)(aB:l[j]?=some t)(kj:i<j):hd s t<0:=by obtain⟨J,rfl⟩:=xaa.1 af;obtain⟨aa,rfl⟩:=xaa.1 aB;exact List.pairwise_iff_getElem.1 h i j J aa kj
def n9(mj:Int):List V->Int->Bool
 |[],_=>true|v::r,a=>if a*v.span>mj then false else n9 mj r (a*v.span)
def agR(n:Nat)(aN:200<n)(vs:List V)(aS:lQ vs)(al:vs.length<=100)(bQ:∀v∈vs,mT v)(mj:Int)(azU:1<=mj)(hm:mj<=4096):z6 n [br vs,I mj]=some (aI (n9 mj vs 1)):=by
 have af:=dC (f:=Ho n) vs (λi (a:Int)=>[br vs,I mj,I a,I (i:Int)]) (λr a=>(if n9 mj r a=true then .inl []else .inr (aI false):List D⊕D)) (λi a=>1<=a/\a<=mj) ?_ ?_ n 0 1 ⟨by omega,azU⟩ (by omega) (xaj _);.have b1:(I ((0:Nat):Int))=I 0:=rfl;rw[b1,xam]at af;cases bk:n9 mj vs 1 with|true=>rw[bk,xac rfl]at af;simp only[z6,SV,go_sem,af]|false=>rw[bk,xae (by simp)]at af;simp only[z6,SV,go_sem,af]
 .intro a _;simp only[Ho,go_sem,eY,yF ((vs.length:Int)<vs.length),n9,xaF]
 rintro i v a hI af ⟨azV,aC1⟩;obtain⟨g1,g2,_,_⟩:=bQ v (xad hI);obtain⟨i1,i2,_⟩:=aS.2 v (xad hI);have gq:=Ej n v i1 i2;have Lw:1<=a*v.span:=by have:=xcg azV g1 (by omega) (by omega);simpa using this
 have xf:a*v.span<=4096*64:=xcg (by omega) g2 (by omega) (by omega);have hmul:bB false .mul (I a) (I v.span)=some (I (a*v.span)):=xo (by omega) (by omega);have bY:=yT ((i:Int)<(vs.length:Int));by_cases ai:a*v.span>mj
 .right;rw[n9,xac ai,xae (by simp)];simp only[Ho,go_sem,eY,bY,hj hI,V.a4,gq,hmul,xaq ai]
 left;refine⟨a*v.span,?_,by rw[n9,xae ai],by omega,by omega⟩;simp only[Ho,go_sem,eY,bY,hj hI,V.a4,gq,hmul,xaD ai,cm (bt:=false) (i:=i) (by omega)]
def agS{mj:Int}:∀{vs:List V}{a:Int},(∀v∈vs,1<=v.span)->n9 mj vs a=true->a<=mj->a*(gY vs:Nat)<=mj
 |[],a,_,_,h=>by rw[gY];simpa using h
 |v::r,a,bQ,bk,h=>by
  rw[n9]at bk;split at bk;.cases bk
  rename_i ai;have:=agS (λw hw=>bQ w (by simp[hw])) bk (by omega);have aS:=bQ v (by simp);rw[gY];have e:v.span=(v.span.toNat:Int):=by omega
  rw[Int.natCast_mul,<-e,<-Int.mul_assoc];exact this
def agT{mj N:Int}(cf:mj<=N):∀{vs:List V}{a:Int},n9 mj vs a=true->n9 N vs a=true
 |[],a,_=>rfl
 |v::r,a,bk=>by
  rw[n9]at bk⊢;split at bk;.cases bk
  rename_i ai;rw[xae (by omega)];exact agT cf bk
def agU:∀(l:List V)(a:Int),1<=a->(∀v∈l,1<=v.span)->a*(gY l:Nat)<=1073741824->mi l a=a*(gY l:Nat)
 |[],a,_,_,_=>by simp[mi,gY]
 |v::r,a,J,aa,ax=>by
  have aS:=aa v (by simp);have aC:v.span=(v.span.toNat:Int):=by omega
  have aU:(1:Int)<=(gY r:Nat):=by
   have:∀l:List V,(∀v∈l,1<=v.span)->(1:Int)<=(gY l:Nat):=by
    intro l
    induction l with
    |nil=>intro _;simp[gY]
    |cons w q ih=>intro hw;have J:=hw w (by simp);have aa:=ih λx ad=>hw x (by simp[ad]);rw[gY,Int.natCast_mul];have:=xcg (show(1:Int)<=(w.span.toNat:Int) by omega) aa (by omega) (by omega);simpa using this
   exact this r λw hw=>aa w (by simp[hw])
  have ij:1<=a*v.span:=by have:=xcg J aS (by omega) (by omega);simpa using this
  have iA:a*v.span*(gY r:Nat)<=1073741824:=by rw[gY,Int.natCast_mul,<-aC,<-Int.mul_assoc]at ax;exact ax
  have hle:a*v.span<=1073741824:=by have:=xcg (Int.le_refl (a*v.span)) aU (by omega) (by omega);omega
  have Vt:a<=1073741824:=by have:=xcg (Int.le_refl a) aS (by omega) (by omega);omega
  have hm:max v.span 1=v.span:=by omega
  rw[mi,xac Vt,hm,agU r _ ij (λw hw=>aa w (by simp[hw])) iA,gY,Int.natCast_mul,<-aC,Int.mul_assoc]
def azW{l:List V}(bQ:∀v∈l,mT v)(h:gY l<=4096):stM l=((gY l:Int),true):=by
 have aN:oP l=false:=by
  unfold oP;rw[Bool.eq_false_iff,ne_eq,xbC];rintro⟨v,aS,bG⟩;have:=(bQ v aS).1;have:v.span=0:=by simpa using bG
  omega
 have e:=agU l 1 (by omega) (λv aS=>(bQ v aS).1) (by omega);rw[Int.one_mul]at e;unfold stM;rw[aN,e,xae (by simp),xae (by omega)]
def azX(l:List Nat):cd l=cJ (l.map λ(k:Nat)=>(k:Int)):=by simp[cd,cJ]
def re(l:List Bool):fA (cR l)=some (I l.length):=by simp[cR]
def wy{l:List Bool}{j:Nat}{b:Bool}(h:l[j]?=some b):bX 1 (cR l) (I (j:Int))=some [aI b]:=by obtain⟨bY,rfl⟩:=xaa.1 h;simp[cR,bY]
section
variable{m:ar}(h:EJ m)(n:Nat)(aN:18446744073709551616<n)
include h aN
theorem azY{x:D}(ad:uC m x)(i:Nat){s:List Int}(aC:(eU m)[i]?=some s)(uF uG uH uI A B C:D)(he:∀x,x=A\/x=B\/x=C->D.aV 1 (ba x)=x):bL (DJ n) n [I (i:Int),I 0,ae x 0,ae x 1,ae x 2,ae x 3,ae x 4,ae x 5,ae x 6,ae x 7,uF,uG,uH,uI,dm (eU m),cd [],A,B,C]=some (.inl [I (i:Int),ae x 0,ae x 1,ae x 2,ae x 3,ae x 4,ae x 5,ae x 6,ae x 7,uF,uG,uH,uI,dm (eU m),cd (hP (nC m s) 0 (eU m)),A,B,C]):=by
 have dr:=he A (.inl rfl);have e3:=he B (.inr (.inl rfl));have cn:=he C (.inr (.inr rfl))
 have al:=h.len;have af:=dC (f:=DJ n) (eU m) (λk (p:Nat×List Nat)=>[I (i:Int),I (k:Int),ae x 0,ae x 1,ae x 2,ae x 3,ae x 4,ae x 5,ae x 6,ae x 7,uF,uG,uH,uI,dm (eU m),cd p.2,A,B,C]) (λr p=>(.inl [I (i:Int),ae x 0,ae x 1,ae x 2,ae x 3,ae x 4,ae x 5,ae x 6,ae x 7,uF,uG,uH,uI,dm (eU m),cd (p.2++hP (nC m s) p.1 r),A,B,C]:List D⊕(List D⊕(List D⊕(List D⊕D))))) (λk p=>p.1=k/\p.2.length<=k) ?_ ?_ n 0 (0,[]) ⟨rfl,by simp⟩ (by omega) (xaj _)
 .exact af
 .intro p _;simp only[DJ,go_sem,o3,yF (((eU m).length:Int)<(eU m).length),fm,dr,e3,cn,hP,xav]
 rintro k t ⟨q,p⟩ aP ah ⟨rfl,aU⟩;have cK:=ayX h.sM n (by omega) ad s t;have ct:=yT ((q:Int)<((eU m).length:Int));have eI:cZ (p.length+1) 8=true:=fV (by have:=aU;simp only at this;omega) (by have:=aU;simp only at this;omega);have aT:bZ (I (q:Int))=true:=rfl;left;cases ai:nC m s t with|true=>rw[ai]at cK;refine⟨(q+1,p++[q]),?_,by rw[hP,xac ai];simp,rfl,by have:=aU;simp only at this⊢;simp;omega⟩;simp only[DJ,go_sem,o3,ct,uE aC,uE aP,fN,o2 ad,cK,aT,pT,xan,xaA,xay,eI,yq,fm,dr,e3,cn,cm (bt:=false) (i:=q) (by omega)]|false=>rw[ai]at cK;refine⟨(q+1,p),?_,by rw[hP,xae (by rw[ai];simp)],rfl,by have:=aU;simp only at this⊢;omega⟩;simp only[DJ,go_sem,o3,ct,uE aC,uE aP,fN,o2 ad,cK,fm,dr,e3,cn,cm (bt:=false) (i:=q) (by omega)]
theorem azZ{x:D}(ad:uC m x)(uF uG uH uI:D):bL (DK n) n [I 0,ae x 0,ae x 1,ae x 2,ae x 3,ae x 4,ae x 5,ae x 6,ae x 7,uF,uG,uH,uI,dm (eU m),dn [],cd [],gx []]=some (.inl [uF,uG,uH,uI,dm (eU m),dn ((eU m).map (qo m)),cd (wx m),gx ((eU m).map (lR m))]):=by
 have al:=h.len;have af:=dC (f:=DK n) (eU m) (λi (p:Nat×er×List Nat×List (List Bool))=>[I (i:Int),ae x 0,ae x 1,ae x 2,ae x 3,ae x 4,ae x 5,ae x 6,ae x 7,uF,uG,uH,uI,dm (eU m),dn p.2.1,cd p.2.2.1,gx p.2.2.2]) (λr p=>(.inl [uF,uG,uH,uI,dm (eU m),dn (p.2.1++r.map (qo m)),cd (p.2.2.1++hP (uB m) p.1 r),gx (p.2.2.2++r.map (lR m))]:List D⊕D)) (λi p=>p.1=i/\p.2.1.length=i/\p.2.2.1.length<=i/\p.2.2.2.length=i) ?_ ?_ n 0 (0,[],[],[]) ⟨rfl,rfl,by simp,rfl⟩ (by omega) (xaj _)
 .exact af
 .intro p _;simp only[DK,go_sem,o3,yF (((eU m).length:Int)<(eU m).length),rb,fm,yp,hP,xbc,xav]
 rintro i s ⟨q,nx,e7,e8⟩ aC af ⟨rfl,J,aa,ax⟩;simp only at J aa ax;have gB:=(xcc.1 (xad aC)).2;have fK:=ayV h.sM n (by omega) ad s;have fQ:=ayY h.sM n (by omega) ad (wu gB);have ct:=yT ((q:Int)<((eU m).length:Int));have eM:cZ (e7.length+1) 8=true:=fV (by omega) (by omega);have eG:cZ (e8.length+1) 24=true:=fV (by omega) (by omega);have hF:cZ (nx.length+1) 24=true:=fV (by omega) (by omega);have mN:=azY h n aN ad q aC uF uG uH uI (dn nx) (cd e7) (gx e8) (by rintro x (rfl|rfl|rfl)<;>rfl);have aL:D.aV 1 ([]:List (List D))=cd []:=rfl;have aT:bZ (I (q:Int))=true:=rfl;left;cases ai:uB m s with|true=>rw[ai]at fK;refine⟨(q+1,nx++[qo m s],e7++[q],e8++[lR m s]),?_,by rw[hP,xac ai];simp,rfl,by simp[J],by simp only;simp;omega,by simp[ax]⟩;simp only[DK,go_sem,o3,ct,aL,rb,fm,yp,mN,Pb,J1,xan,xaA,xay,hF,uE aC,fN,o2 ad,fK,aT,pT,eM,J2,yq,fQ,Pc,O9,eG,Pa,qo,cm (bt:=false) (i:=q) (by omega)]|false=>rw[ai]at fK;refine⟨(q+1,nx++[qo m s],e7,e8++[lR m s]),?_,by rw[hP,xae (by rw[ai];simp)];simp,rfl,by simp[J],by simp only;omega,by simp[ax]⟩;simp only[DK,go_sem,o3,ct,aL,rb,fm,yp,mN,Pb,J1,xan,xaA,xay,hF,uE aC,fN,o2 ad,fK,J2,yq,fQ,Pc,O9,eG,Pa,qo,cm (bt:=false) (i:=q) (by omega)]
end
theorem V5{w:Bool}{p:Option D}:dL kl w p=some kl:=rfl
theorem EK(q:Int×(Int×Int)):bx 1 (ec q)=some (I q.2.2):=rfl
theorem EL(q:Int×(Int×Int)):bx 0 (ec q)=some (.agg [I q.1,I q.2.1]):=rfl
theorem BB(a b:Int):dV 2 (.agg [I a,I b])=true:=rfl
def agV{a:Int}(h:a=0):(a !=0)=false:=by simp[h]
def Pe{a:Int}(h:¬a=0):(a !=0)=true:=by simp[h]
def az0{a:Int}(h:a=0):(a==0)=true:=by simp[h]
def agW{a:Int}(h:¬a=0):(a==0)=false:=by simp[h]
theorem agX{m:ar}:dV 8 (kb m)=true/\D.agg [ae (kb m) 0,ae (kb m) 1,ae (kb m) 2,ae (kb m) 3,ae (kb m) 4,ae (kb m) 5,ae (kb m) 6,ae (kb m) 7]=kb m:=⟨rfl,rfl⟩
theorem kF.bf{m:ar}:ae (sJ m) 0=dm (eU m):=rfl
theorem kF.c1{m:ar}:ae (sJ m) 1=dn ((eU m).map (qo m)):=rfl
theorem kF.c2{m:ar}:ae (sJ m) 2=cd (wx m):=rfl
theorem kF.b4{m:ar}:ae (sJ m) 3=gx ((eU m).map (lR m)):=rfl
theorem kF.agg{m:ar}:dV 4 (sJ m)=true:=rfl
theorem kF.eta{m:ar}:D.agg [dm (eU m),dn ((eU m).map (qo m)),cd (wx m),gx ((eU m).map (lR m))]=sJ m:=rfl
def EM:D:= .agg [da,da,da,da]
theorem az1:dV 4 EM=true:=rfl
section
variable{m:ar}(hw:yd m)(h:EE m)(n:Nat)(aN:18446744073709551616<n)
include hw h aN
theorem az2(bG:¬(jo m).2.2=0):sl n [m.d]=some (.a6 [EM,I (jo m).2.2])/\Nn n [m.d]=some (.a6 [EM,I (jo m).2.2]):=by
 obtain⟨J,aa⟩:=VU hw h aN;have cp:=Pe bG;constructor
 .have e:sl n [m.d]=AP n [m.d]:=rfl;rw[e];simp only[AP,Tw,go_sem,ar.agg,ar.bf,ar.c1,ar.c2,ar.b4,ar.cT,ar.dp,ar.dq,ar.dE,ar.eta,J,EL,EK,BB,cp,EM]
 simp only[Nn,TV,go_sem,ar.agg,ar.bf,ar.c1,ar.c2,ar.b4,ar.cT,ar.dp,ar.dq,ar.dE,ar.eta,aa,EL,EK,BB,cp,EM]
theorem agY(bG:(jo m).2.2=0)(bk:n9 64 m.vars 1=true):EJ m/\gY m.vars<=64:=by
 have bQ:=agJ (VT bG).2.1;have aU:=agS (λv aS=>(bQ v aS).1) bk (by omega);have tw:gY m.vars<=64:=by omega
 exact⟨⟨agp hw h aN bG,bQ,by omega,azW bQ (by omega)⟩,tw⟩
theorem az3(bG:(jo m).2.2=0)(bk:n9 64 m.vars 1=true):sl n [m.d]=some (.a6 [sJ m,I 0])/\Nn n [m.d]=some (.a6 [sJ m,I 0]):=by
 obtain⟨G,aU⟩:=agY hw h n aN bG bk;obtain⟨J,aa⟩:=VU hw h aN;have az4:oD n [m.d]=some (.a6 [.agg [I (jo m).1,I (jo m).2.1],I 0]):=by rw[J];unfold ec;rw[bG]
 refine⟨azQ G.sM n (by omega) G.g G.p G.s (BB _ _) az4,?_⟩;have fQ:=af2 G.sM.mS n (by omega);have ad:uC m (kb m):= .inr azR;have cK:=azT G n (by omega) ad;have oM:=azZ G n aN ad da da da da;have l3:=agR n (by omega) m.vars G.sM.kC (by have:=G.sM.gG;omega) G.g 4096 (by omega) (by omega);rw[agT (by omega) bk]at l3;have aL:D.aV 1 ([]:List (List D))=dn []:=rfl;have a7:dn []=cd []:=rfl;have bV:dn []=gx []:=rfl;rw[<-a7,<-bV]at oM;have aT:bZ (dm (eU m))=true:=rfl;have a2:∀a b,dV 2 (.agg [I a,I b])=true:=λ_ _=>rfl;simp only[Nn,TV,go_sem,ar.agg,ar.bf,ar.c1,ar.c2,ar.b4,ar.cT,ar.dp,ar.dq,ar.dE,ar.eta,aa,EL,EK,BB,agV bG,l3,fQ,(agX (m:=m)).1,(agX (m:=m)).2,cK,aT,aL,oM,rb,fm,yp];rfl
end
def agZ(p:List Int->Bool):∀(l:fe)(i:Nat),(hP p i l).length<=l.length
 |[],i=>xaT _
 |s::r,i=>by
  have:=agZ p r (i+1);unfold hP;split;.simp;omega
  simp;omega
structure ag0(m:ar):Prop where
 t:∀t∈ym m,t.bA<=660000
 s:∀s∈m.bP,s.f.bA<=660000
def az5{m:ar}(hw:yd m)(al:VO m)(aC:ag0 m)(n:Nat)(aN:18446744073709551616<n):∃b:Bool,vB n [m.d,I 64]=some (aI b)/\(b=true->EE m/\((jo m).2.2=0->n9 64 m.vars 1=true)):=by
 obtain⟨mu,k5,JV,VP,VQ,VR,VS,azc⟩:=al;by_cases J:m.vars.length>12;.have d1:=yT ((m.vars.length:Int)>12);exact⟨false,by simp-implicitDefEqProofs only[vB,C6,go_sem,ar.agg,ar.bf,ar.c1,ar.c2,ar.b4,ar.cT,ar.dp,ar.dq,ar.dE,ar.eta,eY,d1,JR,yh],by simp⟩
 have d1:=yF ((m.vars.length:Int)>12);have aK:bB false .add (I (m.aA.length:Int)) (I (m.bU.length:Int))=some (I ((m.aA.length:Int)+m.bU.length)):=e5 (by omega) (by omega);have a2:bB false .add (I ((m.aA.length:Int)+m.bU.length)) (I (m.bW.length:Int))=some (I ((m.aA.length:Int)+m.bU.length+m.bW.length)):=e5 (by omega) (by omega);have a3:bB false .add (I ((m.aA.length:Int)+m.bU.length+m.bW.length)) (I (m.next.length:Int))=some (I ((m.aA.length:Int)+m.bU.length+m.bW.length+m.next.length)):=e5 (by omega) (by omega);have a4:bB false .add (I ((m.aA.length:Int)+m.bU.length+m.bW.length+m.next.length)) (I (m.trans.length:Int))=some (I ((m.aA.length:Int)+m.bU.length+m.bW.length+m.next.length+m.trans.length)):=e5 (by omega) (by omega);have a5:bB false .add (I ((m.aA.length:Int)+m.bU.length+m.bW.length+m.next.length+m.trans.length)) (I (m.bO.length:Int))=some (I ((m.aA.length:Int)+m.bU.length+m.bW.length+m.next.length+m.trans.length+m.bO.length)):=e5 (by omega) (by omega);have jB:bB false .add (I ((m.aA.length:Int)+m.bU.length+m.bW.length+m.next.length+m.trans.length+m.bO.length)) (I (m.bP.length:Int))=some (I ((m.aA.length:Int)+m.bU.length+m.bW.length+m.next.length+m.trans.length+m.bO.length+m.bP.length)):=e5 (by omega) (by omega);by_cases aa:(m.aA.length:Int)+m.bU.length+m.bW.length+m.next.length+m.trans.length+m.bO.length+m.bP.length>40
 .have d2:=xaq aa;exact⟨false,by simp-implicitDefEqProofs only[vB,C6,go_sem,ar.agg,ar.bf,ar.c1,ar.c2,ar.b4,ar.cT,ar.dp,ar.dq,ar.dE,ar.eta,eY,eJ,iu,jd,d1,aK,a2,a3,a4,a5,jB,d2,JS,JT],by simp⟩
 have d2:=xaD aa;have cK:EE m:=⟨by unfold agj;omega,aC.t,aC.s⟩;have cn:=(VU hw cK aN).2;have bK:ae (.agg [I (jo m).1,I (jo m).2.1]) 1=I (jo m).2.1:=rfl;by_cases bG:(jo m).2.2=0
 .have bQ:=agJ (VT bG).2.1;have V:=agp hw cK aN bG;have bk:=agR n (by omega) m.vars V.kC (by omega) bQ 64 (by omega) (by omega);refine⟨n9 64 m.vars 1,?_,λaj=>⟨cK,λ_=>aj⟩⟩;simp-implicitDefEqProofs only[vB,C6,go_sem,ar.agg,ar.bf,ar.c1,ar.c2,ar.b4,ar.cT,ar.dp,ar.dq,ar.dE,ar.eta,eY,eJ,iu,jd,d1,aK,a2,a3,a4,a5,jB,d2,JS,By,OR,JR,V5,JT,yh,cn,EL,EK,BB,agV bG,az0 bG,bk]
 by_cases x9:(jo m).2.1<64;.have d3:=xaq x9;refine⟨true,?_,λ_=>⟨cK,λh=>absurd h bG⟩⟩;simp-implicitDefEqProofs only[vB,C6,go_sem,ar.agg,ar.bf,ar.c1,ar.c2,ar.b4,ar.cT,ar.dp,ar.dq,ar.dE,ar.eta,eY,eJ,iu,jd,d1,aK,a2,a3,a4,a5,jB,d2,JS,By,OR,JR,V5,JT,yh,cn,EL,EK,BB,Pe bG,agW bG,bK,d3]
 have d3:=xaD x9;refine⟨false,?_,by simp⟩;simp-implicitDefEqProofs only[vB,C6,go_sem,ar.agg,ar.bf,ar.c1,ar.c2,ar.b4,ar.cT,ar.dp,ar.dq,ar.dE,ar.eta,eY,eJ,iu,jd,d1,aK,a2,a3,a4,a5,jB,d2,JS,By,OR,JR,V5,JT,yh,cn,EL,EK,BB,Pe bG,agW bG,bK,d3]
end Go.Am
